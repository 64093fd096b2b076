/- Functions of the program as plain functions, each with the proof that its call answers so. Written by a program of this place (myprint.py over the kit's print). No condition beyond what each statement says. -/
import Derived.Test.YtjkbmdbecplgiaaPr0
import Derived.Test.YtjkbmdbecplgiaaPr2
import Derived.Test.YtjkbmdbecplgiaaPr5
namespace Go.Proofs.Ytjkbmdbecplgiaa.Pr
open Go.RowKit Go.Proofs.YtjkbmdbecplgiaaW.PrintWords Go.Proofs.YtjkbmdbecplgiaaW.PrintLast Go.Proofs.YtjkbmdbecplgiaaW.PrintMore
attribute [local go_sem] max2_int min2_int max_two min_two max_three min_three max_four min_four   -- for this text's walks alone
set_option linter.unusedVariables false
set_option linter.unusedSimpArgs false

/-! ### spec_LeftReduced: function 42 -/
theorem q12_1 {P : Prop} (h : P := by repeat (first | exact (Kd.C_below HR1.out HB.out) | (with_reducible refine Kd.C_alloc ?_ _) | (with_reducible refine Kd.C_drewN ?_ _) | (with_reducible refine Kd.C_drew ?_))) : P := h
theorem q12_2 {P : Prop} (h : P := by repeat (first | (with_reducible first | exact HB.out | apply below_alloc | apply pw_below_drewN | apply below_drew1 | refine below_set ?_ GE461.out) | exact HB.out)) : P := h
theorem q12_3 {P : Prop} (h : P := by repeat (first | (with_reducible first | exact HB.out | apply below_alloc | apply pw_below_drewN | apply below_drew1) | exact HB.out)) : P := h
theorem q12_4 {P : Prop} (h : P := by (with_reducible repeat (first | refine blk_drewN ?_ _ | refine blk_drew ?_ | refine blk_alloc ?_ _)); exact BK461.out) : P := h
theorem q12_5 {P : Prop} (h : P := by (with_reducible repeat (first | apply Kd.R_alloc | apply Kd.R_drewN | apply Kd.R_drew)); exact HO458.out) : P := h
theorem q12_6 {P : Prop} (h : P := by (with_reducible repeat (first | apply Kd.R_alloc | apply Kd.R_drewN | apply Kd.R_drew)); exact HO_6.out) : P := h
theorem q12_7 {P : Prop} (h : P := by first | rfl | (simp; done) | (simp [*]; done)) : P := h
mutual
def spec_LeftReduced.l0 : Nat → Int → List (S25) → List (S25) → Int → Option ((List (S25)) × Bool)
 | 0, _, _, _, _ => none
 | k + 1, x0, x1, x6, x7 => if x7 < (x1.length : Int) then (if 0 ≤ x7 then (spec_LeftReduced.l1 k x0 x1 x6 x7 0 ((rd_T25 x1 x7).f0) ((rd_T25 x1 x7).f1)) else (none)) else (some (x6, true))
def spec_LeftReduced.l1 : Nat → Int → List (S25) → List (S25) → Int → Int → Int → Int → Option ((List (S25)) × Bool)
 | 0, _, _, _, _, _, _, _ => none
 | k + 1, x0, x1, x6, x7, x9, x462000, x462001 => if x9 < x0 then (if 0 ≤ (IntKind.u64.wrap (x9)) then (if (wrap64 (x462000 - (Go.bits .and .i64 x462000 (shl .i64 1 (IntKind.u64.wrap (x9)))))) = x462000 then (spec_LeftReduced.l1 k x0 x1 x6 x7 (wrap64 (x9 + 1)) x462000 x462001) else ((spec_l9Closed.f k x1 (wrap64 (x462000 - (Go.bits .and .i64 x462000 (shl .i64 1 (IntKind.u64.wrap (x9))))))).bind fun t462 => (if (Go.bits .and .i64 t462 x462001) = x462001 then (spec_LeftReduced.l1 k x0 x1 x6 x7 (wrap64 (x9 + 1)) (wrap64 (x462000 - (Go.bits .and .i64 x462000 (shl .i64 1 (IntKind.u64.wrap (x9)))))) x462001) else (spec_LeftReduced.l1 k x0 x1 x6 x7 (wrap64 (x9 + 1)) x462000 x462001)))) else (none)) else (if x6.length < 8796093022208 then (spec_LeftReduced.l0 k x0 x1 (x6 ++ [(⟨x462000, x462001⟩ : S25)]) (wrap64 (x7 + 1))) else (none))
end
def spec_LeftReduced.f (k : Nat) (a0 : Int) (l1 : List (S25)) : Option ((List (S25)) × Bool) := (some (([] : List (S25)) : List (S25))).bind fun y456 => ((spec_AreRules.f k a0 l1).bind fun t459 => (if t459 = true then (spec_LeftReduced.l0 k a0 l1 y456 0) else (some (y456, false))))
theorem spec_LeftReduced.mono_l : ∀ k, (∀ y0 y1 y2 y3, LeO (spec_LeftReduced.l0 k y0 y1 y2 y3) (spec_LeftReduced.l0 (k + 1) y0 y1 y2 y3)) ∧ (∀ y0 y1 y2 y3 y4 y5 y6, LeO (spec_LeftReduced.l1 k y0 y1 y2 y3 y4 y5 y6) (spec_LeftReduced.l1 (k + 1) y0 y1 y2 y3 y4 y5 y6))
 | 0 => ⟨fun _ _ _ _ r h => by simp [spec_LeftReduced.l0] at h, fun _ _ _ _ _ _ _ r h => by simp [spec_LeftReduced.l1] at h⟩
 | k + 1 => by
  obtain ⟨ih0, ih1⟩ := spec_LeftReduced.mono_l k
  refine ⟨?_, ?_⟩
  ·
   intro y0 y1 y2 y3
   unfold spec_LeftReduced.l0
   repeat' first
   | (with_reducible exact ih0 _ _ _ _)
   | (with_reducible exact ih1 _ _ _ _ _ _ _)
   | (with_reducible exact spec_AreRules.mono _ _ _)
   | (with_reducible exact spec_l9Closed.mono _ _ _)
   | (with_reducible exact LeO.refl _)
   | (with_reducible exact LeO.none _)
   | (with_reducible refine LeO.ite ?_ ?_)
   | (with_reducible refine LeO.bind ?_ (fun _ => ?_))
   | exact ih0 _ _ _ _
   | exact ih1 _ _ _ _ _ _ _
   | exact spec_AreRules.mono _ _ _
   | exact spec_l9Closed.mono _ _ _
   | exact LeO.none _
   | refine LeO.ite ?_ ?_
   | refine LeO.bind ?_ (fun _ => ?_)
  ·
   intro y0 y1 y2 y3 y4 y5 y6
   unfold spec_LeftReduced.l1
   repeat' first
   | (with_reducible exact ih0 _ _ _ _)
   | (with_reducible exact ih1 _ _ _ _ _ _ _)
   | (with_reducible exact spec_AreRules.mono _ _ _)
   | (with_reducible exact spec_l9Closed.mono _ _ _)
   | (with_reducible exact LeO.refl _)
   | (with_reducible exact LeO.none _)
   | (with_reducible refine LeO.ite ?_ ?_)
   | (with_reducible refine LeO.bind ?_ (fun _ => ?_))
   | exact ih0 _ _ _ _
   | exact ih1 _ _ _ _ _ _ _
   | exact spec_AreRules.mono _ _ _
   | exact spec_l9Closed.mono _ _ _
   | exact LeO.none _
   | refine LeO.ite ?_ ?_
   | refine LeO.bind ?_ (fun _ => ?_)
theorem spec_LeftReduced.mono : ∀ a0 a1 k, LeO (spec_LeftReduced.f k a0 a1) (spec_LeftReduced.f (k + 1) a0 a1) := by
 intro a0 a1 k
 obtain ⟨ih0, ih1⟩ := spec_LeftReduced.mono_l k
 unfold spec_LeftReduced.f
 repeat' first
   | (with_reducible exact ih0 _ _ _ _)
   | (with_reducible exact ih1 _ _ _ _ _ _ _)
   | (with_reducible exact spec_AreRules.mono _ _ _)
   | (with_reducible exact spec_l9Closed.mono _ _ _)
   | (with_reducible exact LeO.refl _)
   | (with_reducible exact LeO.none _)
   | (with_reducible refine LeO.ite ?_ ?_)
   | (with_reducible refine LeO.bind ?_ (fun _ => ?_))
   | exact ih0 _ _ _ _
   | exact ih1 _ _ _ _ _ _ _
   | exact spec_AreRules.mono _ _ _
   | exact spec_l9Closed.mono _ _ _
   | exact LeO.none _
   | refine LeO.ite ?_ ?_
   | refine LeO.bind ?_ (fun _ => ?_)
set_option maxHeartbeats 8000000 in
set_option maxRecDepth 100000 in
theorem spec_LeftReduced.calls (k : Nat) (a0 : Int) (A1 : Option Addr) (c1 : Nat) (l1 : List (S25)) (r1 : List (S25)) (r2 : Bool) (w : World) (hr1 : Kd.C k25 w A1 l1.length l1) (hc1 : l1.length ≤ c1) (h : spec_LeftReduced.f k a0 l1 = some (r1, r2)) :
  Calls Try.prog 42 #[.int .i64 a0, .slice A1 l1.length c1] w fun e w' => ∃ v0_ : Value, e = .returned (.tuple #[v0_, .bool r2]) ∧ Kd.R k25 25 w' w.heap.size (fun _ => True) v0_ r1 ∧ Below w.heap.size w w' := by
 have hu25 := Try.underlying25
 have HR1 := Aside0.mk hr1
 have HC1 := Aside0.mk hc1
 clear hr1 hc1
 have HB := Aside0.mk (Below.refl w.heap.size w)
 have H : ((some (([] : List (S25)) : List (S25))).bind fun y456 => ((spec_AreRules.f k a0 l1).bind fun t459 => (if t459 = true then (spec_LeftReduced.l0 k a0 l1 y456 0) else (some (y456, false))))) = some (r1, r2) := h
 clear h
 obtain ⟨y456, hy456⟩ : ∃ y_ : List (S25), y_ = (([] : List (S25))) := ⟨_, rfl⟩
 replace H : ((spec_AreRules.f k a0 l1).bind fun t459 => (if t459 = true then (spec_LeftReduced.l0 k a0 l1 y456 0) else (some (y456, false)))) = some (r1, r2) := by first | (rw [hy456]; with_reducible exact H) | (have H2_ := (Option.bind_some _ _).symm.trans H; rw [hy456]; with_reducible exact H2_) | (have H2_ := (Option.bind_some _ _).symm.trans H; with_reducible exact H2_) | with_reducible exact H | (rw [hy456]; exact H) | exact H
 have Ny456 := Aside0.mk hy456
 clear hy456
 replace H := Option.bind_eq_some_iff.mp H
 obtain ⟨t459, A30, H⟩ := H
 replace H : (if t459 = true then (spec_LeftReduced.l0 k a0 l1 y456 0) else (some (y456, false))) = some (r1, r2) := H
 have A3 := Aside0.mk A30
 clear A30
 by_cases c4 : t459 = true
 ·
  subst c4
  have H1 : (spec_LeftReduced.l0 k a0 l1 y456 0) = some (r1, r2) := by rw [if_pos rfl] at H; exact H
  clear H
  have H := H1
  clear H1
  have H' := Aside0.mk H
  clear H
  go_enter Try.func42, Try.ntmps42
  go_wp2_with (first | ((with_reducible refine gate_dst (N := 11) rfl ?_); refine Kd.R_lit k25 _ 25 ?hg (N := 11) ?hd (xs := ([] : List (S25))) (inner := []) (ok := fun _ => True) (okp := fun _ => True) ?hr ?hp (fun _ hk => hk) trivial (Below.refl _ _) (Nat.le_refl _) (by simp) ?_; (case hd => rfl); (case hg => rfl); (case hr => first | (go_simp; done) | (go_simp; rfl)); (case hp => exact (Reps.none _ _)); intro v457 w5 ho6 hb hg_ hnew_; clear hg_ hnew_; (first | rw [← Ny456.out] at ho6 | (simp only [Int.reduceToNat] at ho6; rw [← Ny456.out] at ho6)); have n0_ := Aside0.mk (Kd.R_lower ho6 (below_size q12_3)); have n1_ := Aside0.mk (below_step q12_3 hb); clear HB; have HO458 := n0_; have HB := n1_; clear n0_ n1_; clear hb ho6) | (go_at_call 19; (with_reducible refine (spec_AreRules.calls k a0 _ _ l1 true _ ?side1 ?side2 A3.out).mono ?_); (case side1 => exact q12_1); (case side2 => exact HC1.out); rintro e w7 ⟨rfl, hb⟩; have n0_ := Aside0.mk (Kd.R_below q12_5 hb); have n1_ := Aside0.mk (below_step q12_3 hb); clear HO458; clear HB; have HO458 := n0_; have HB := n1_; clear n0_ n1_; (try clear hb); (try clear hb2); (try clear hk); (try clear hi)))
  repeat (go_quiet (first | ((with_reducible refine gate_dst (N := 11) rfl ?_); refine Kd.R_lit k25 _ 25 ?hg (N := 11) ?hd (xs := ([] : List (S25))) (inner := []) (ok := fun _ => True) (okp := fun _ => True) ?hr ?hp (fun _ hk => hk) trivial (Below.refl _ _) (Nat.le_refl _) (by simp) ?_; (case hd => rfl); (case hg => rfl); (case hr => first | (go_simp; done) | (go_simp; rfl)); (case hp => exact (Reps.none _ _)); intro v457 w5 ho6 hb hg_ hnew_; clear hg_ hnew_; (first | rw [← Ny456.out] at ho6 | (simp only [Int.reduceToNat] at ho6; rw [← Ny456.out] at ho6)); have n0_ := Aside0.mk (Kd.R_lower ho6 (below_size q12_3)); have n1_ := Aside0.mk (below_step q12_3 hb); clear HB; have HO458 := n0_; have HB := n1_; clear n0_ n1_; clear hb ho6) | (go_at_call 19; (with_reducible refine (spec_AreRules.calls k a0 _ _ l1 true _ ?side1 ?side2 A3.out).mono ?_); (case side1 => exact q12_1); (case side2 => exact HC1.out); rintro e w7 ⟨rfl, hb⟩; have n0_ := Aside0.mk (Kd.R_below q12_5 hb); have n1_ := Aside0.mk (below_step q12_3 hb); clear HO458; clear HB; have HO458 := n0_; have HB := n1_; clear n0_ n1_; (try clear hb); (try clear hb2); (try clear hk); (try clear hi))); try go_wp2_with (first | ((with_reducible refine gate_dst (N := 11) rfl ?_); refine Kd.R_lit k25 _ 25 ?hg (N := 11) ?hd (xs := ([] : List (S25))) (inner := []) (ok := fun _ => True) (okp := fun _ => True) ?hr ?hp (fun _ hk => hk) trivial (Below.refl _ _) (Nat.le_refl _) (by simp) ?_; (case hd => rfl); (case hg => rfl); (case hr => first | (go_simp; done) | (go_simp; rfl)); (case hp => exact (Reps.none _ _)); intro v457 w5 ho6 hb hg_ hnew_; clear hg_ hnew_; (first | rw [← Ny456.out] at ho6 | (simp only [Int.reduceToNat] at ho6; rw [← Ny456.out] at ho6)); have n0_ := Aside0.mk (Kd.R_lower ho6 (below_size q12_3)); have n1_ := Aside0.mk (below_step q12_3 hb); clear HB; have HO458 := n0_; have HB := n1_; clear n0_ n1_; clear hb ho6) | (go_at_call 19; (with_reducible refine (spec_AreRules.calls k a0 _ _ l1 true _ ?side1 ?side2 A3.out).mono ?_); (case side1 => exact q12_1); (case side2 => exact HC1.out); rintro e w7 ⟨rfl, hb⟩; have n0_ := Aside0.mk (Kd.R_below q12_5 hb); have n1_ := Aside0.mk (below_step q12_3 hb); clear HO458; clear HB; have HO458 := n0_; have HB := n1_; clear n0_ n1_; (try clear hb); (try clear hb2); (try clear hk); (try clear hi))))
  go_loopg [6, 7] k (fun kq v6 v7 w' => ∃ (x6_1 : List (S25)) (x7_1 : Int), v7 = .int .i64 x7_1 ∧ Aside0 (spec_LeftReduced.l0 kq a0 l1 x6_1 x7_1 = some (r1, r2)) ∧ Aside0 (kq ≤ k) ∧ Aside0 (Kd.R k25 25 w' w.heap.size (fun _ => True) v6 x6_1) ∧ Aside0 (Below w.heap.size w w'))
  case atStart => exact ⟨(y456), (0), q12_7, H', ⟨Nat.le_refl _⟩, ⟨by (with_reducible repeat (first | apply Kd.R_alloc | apply Kd.R_drewN | apply Kd.R_drew)); exact HO458.out⟩, ⟨by repeat (first | (with_reducible first | exact HB.out | apply below_alloc | apply pw_below_drewN | apply below_drew1) | exact HB.out)⟩⟩
  case round =>
   clear H'
   try clear c1
   try clear p2
   try clear c4
   obtain ⟨x6_1, x7_1, rfl, HA, HK1, HO_6, HB⟩ := hrel
   cases gk with
   | zero => exact absurd HA.out (by simp [spec_LeftReduced.l0])
   | succ k1 =>
    have H := HA.out
    clear HA
    simp only [spec_LeftReduced.l0] at H
    by_cases c8 : x7_1 < (l1.length : Int)
    ·
     rw [if_pos c8] at H
     have c8b0 : decide (x7_1 < (l1.length : Int)) = true := decide_eq_true c8
     clear c8
     by_cases c9 : 0 ≤ x7_1
     ·
      rw [if_pos c9] at H
      have c9b0 : decide (0 ≤ x7_1) = true := decide_eq_true c9
      clear c9
      have H' := Aside0.mk H
      clear H
      have p460 : 0 ≤ (x7_1 : Int) := of_decide_eq_true (by first | (with_reducible assumption) | assumption)
      have q460 : x7_1 < (l1.length : Int) := of_decide_eq_true (by first | (with_reducible assumption) | assumption)
      obtain ⟨ad460, e460, hx460_0, hx460_1⟩ := at_T25 HR1.out x7_1 p460 q460
      cases e460
      replace hx460_0 := (HB.out.cell (World.block_lt_of_cell? w _ hx460_0)).trans hx460_0
      replace hx460_1 := (HB.out.cell (World.block_lt_of_cell? w _ hx460_1)).trans hx460_1
      replace p460 := eq_true p460
      replace q460 := eq_true q460
      go_wp2_with (first | ((with_reducible refine gate_dst (N := 8) rfl ?_); refine box_event ?hg (N := 8) ?hd (cs := #[.int .i64 0, .int .i64 0]) (t := 25) ?hr ?_; (case hd => rfl); (case hg => rfl); (case hr => first | (go_simp; done) | (go_simp; rfl)); intro gb461 hg w10 hbox hb; have n0_ := Aside0.mk (Kd.R_below (Kd.R_elderB q12_6 gb461 (Nat.le_of_eq hg.symm)) hb); have n1_ := Aside0.mk (below_step q12_3 hb); have n2_ := Aside0.mk (hbox); have n3_ := Aside0.mk ((by rw [hg]; exact (below_size q12_3) : w.heap.size ≤ gb461)); have n4_ := Aside0.mk ((by rw [hg]; exact (below_size q12_3) : w.heap.size ≤ gb461)); clear HO_6; clear HB; have HO_6 := n0_; have HB := n1_; have BK461 := n2_; have GW461 := n3_; have GE461 := n4_; clear n0_ n1_ n2_ n3_ n4_; clear hb hbox hg; have hcz11_0 : w10.cell? ⟨gb461, 0, none⟩ = some (.int .i64 0) := (blk_cell BK461.out 0).trans rfl; have hcz11_1 : w10.cell? ⟨gb461, 1, none⟩ = some (.int .i64 0) := (blk_cell BK461.out 1).trans rfl; have hfz11_0 := blk_frozen BK461.out 0; have hfz11_1 := blk_frozen BK461.out 1))
      repeat (go_quiet (first | ((with_reducible refine gate_dst (N := 8) rfl ?_); refine box_event ?hg (N := 8) ?hd (cs := #[.int .i64 0, .int .i64 0]) (t := 25) ?hr ?_; (case hd => rfl); (case hg => rfl); (case hr => first | (go_simp; done) | (go_simp; rfl)); intro gb461 hg w10 hbox hb; have n0_ := Aside0.mk (Kd.R_below (Kd.R_elderB q12_6 gb461 (Nat.le_of_eq hg.symm)) hb); have n1_ := Aside0.mk (below_step q12_3 hb); have n2_ := Aside0.mk (hbox); have n3_ := Aside0.mk ((by rw [hg]; exact (below_size q12_3) : w.heap.size ≤ gb461)); have n4_ := Aside0.mk ((by rw [hg]; exact (below_size q12_3) : w.heap.size ≤ gb461)); clear HO_6; clear HB; have HO_6 := n0_; have HB := n1_; have BK461 := n2_; have GW461 := n3_; have GE461 := n4_; clear n0_ n1_ n2_ n3_ n4_; clear hb hbox hg; have hcz11_0 : w10.cell? ⟨gb461, 0, none⟩ = some (.int .i64 0) := (blk_cell BK461.out 0).trans rfl; have hcz11_1 : w10.cell? ⟨gb461, 1, none⟩ = some (.int .i64 0) := (blk_cell BK461.out 1).trans rfl; have hfz11_0 := blk_frozen BK461.out 0; have hfz11_1 := blk_frozen BK461.out 1)); try go_wp2_with (first | ((with_reducible refine gate_dst (N := 8) rfl ?_); refine box_event ?hg (N := 8) ?hd (cs := #[.int .i64 0, .int .i64 0]) (t := 25) ?hr ?_; (case hd => rfl); (case hg => rfl); (case hr => first | (go_simp; done) | (go_simp; rfl)); intro gb461 hg w10 hbox hb; have n0_ := Aside0.mk (Kd.R_below (Kd.R_elderB q12_6 gb461 (Nat.le_of_eq hg.symm)) hb); have n1_ := Aside0.mk (below_step q12_3 hb); have n2_ := Aside0.mk (hbox); have n3_ := Aside0.mk ((by rw [hg]; exact (below_size q12_3) : w.heap.size ≤ gb461)); have n4_ := Aside0.mk ((by rw [hg]; exact (below_size q12_3) : w.heap.size ≤ gb461)); clear HO_6; clear HB; have HO_6 := n0_; have HB := n1_; have BK461 := n2_; have GW461 := n3_; have GE461 := n4_; clear n0_ n1_ n2_ n3_ n4_; clear hb hbox hg; have hcz11_0 : w10.cell? ⟨gb461, 0, none⟩ = some (.int .i64 0) := (blk_cell BK461.out 0).trans rfl; have hcz11_1 : w10.cell? ⟨gb461, 1, none⟩ = some (.int .i64 0) := (blk_cell BK461.out 1).trans rfl; have hfz11_0 := blk_frozen BK461.out 0; have hfz11_1 := blk_frozen BK461.out 1)))
      go_loopg [9] k1 (fun kq v9 w' => ∃ (x9_2 : Int) (x462000_2 : Int), v9 = .int .i64 x9_2 ∧ Aside0 (spec_LeftReduced.l1 kq a0 l1 x6_1 x7_1 x9_2 x462000_2 ((rd_T25 l1 x7_1).f1) = some (r1, r2)) ∧ Aside0 (kq ≤ k1) ∧ Aside0 (Kd.R k25 25 w' w.heap.size (fun k_ => k_ ≠ gb461) u6 x6_1) ∧ Aside0 (w'.heap[gb461]? = some (.cells #[.int .i64 x462000_2, .int .i64 ((rd_T25 l1 x7_1).f1)] 25 (0, 0))) ∧ Aside0 (Below w.heap.size w w'))
      case atStart => exact ⟨(0), ((rd_T25 l1 x7_1).f0), q12_7, H', ⟨Nat.le_refl _⟩, ⟨by (with_reducible repeat (first | apply Kd.R_alloc | apply Kd.R_drewN | apply Kd.R_drew)); exact Kd.R_mono (Kd.R_far (p := ⟨gb461, 1, none⟩) (Kd.R_far (p := ⟨gb461, 0, none⟩) (Kd.R_mono HO_6.out (fun k_ hk => (⟨hk, hk.2⟩ : _ ∧ k_ ≠ gb461))) (fun _ hk => hk.2) (.int .i64 ((rd_T25 l1 x7_1).f0))) (fun _ hk => hk.2) (.int .i64 ((rd_T25 l1 x7_1).f1))) (fun _ hk => hk.1.2)⟩, ⟨by (with_reducible repeat (first | refine blk_drewN ?_ _ | refine blk_drew ?_ | refine blk_alloc ?_ _)); refine blk_put (cs := #[.int .i64 ((rd_T25 l1 x7_1).f0), .int .i64 0]) ?_ 1 _ rfl; (with_reducible repeat (first | refine blk_drewN ?_ _ | refine blk_drew ?_ | refine blk_alloc ?_ _)); refine blk_put (cs := #[.int .i64 0, .int .i64 0]) ?_ 0 _ rfl; (with_reducible repeat (first | refine blk_drewN ?_ _ | refine blk_drew ?_ | refine blk_alloc ?_ _)); exact BK461.out⟩, ⟨by repeat (first | (with_reducible first | exact HB.out | apply below_alloc | apply pw_below_drewN | apply below_drew1 | refine below_set ?_ GE461.out) | exact HB.out)⟩⟩
      case round =>
       clear H'
       try clear c1
       try clear p2
       try clear c4
       try clear p4
       try clear q4
       try clear hx4
       try clear c8
       try clear c8b0
       try clear c9
       try clear c9b0
       try clear hcz11_0
       try clear hcz11_1
       try clear hfz11_0
       try clear hfz11_1
       try clear hx460_0
       try clear hx460_1
       try clear p2
       try clear p460
       try clear q460
       obtain ⟨x9_2, x462000_2, rfl, HA, HK2, HO_6, BK461, HB⟩ := hrel
       cases gk with
       | zero => exact absurd HA.out (by simp [spec_LeftReduced.l1])
       | succ k2 =>
        have H := HA.out
        clear HA
        simp only [spec_LeftReduced.l1] at H
        by_cases c12 : x9_2 < a0
        ·
         rw [if_pos c12] at H
         have c12b0 : decide (x9_2 < a0) = true := decide_eq_true c12
         clear c12
         obtain ⟨ji13, hji13⟩ : ∃ j_ : Int, (IntKind.u64.wrap (x9_2)) = j_ := ⟨_, rfl⟩
         replace H : (if 0 ≤ (ji13) then (if (wrap64 (x462000_2 - (Go.bits .and .i64 x462000_2 (shl .i64 1 (ji13))))) = x462000_2 then (spec_LeftReduced.l1 k2 a0 l1 x6_1 x7_1 (wrap64 (x9_2 + 1)) x462000_2 ((rd_T25 l1 x7_1).f1)) else ((spec_l9Closed.f k2 l1 (wrap64 (x462000_2 - (Go.bits .and .i64 x462000_2 (shl .i64 1 (ji13)))))).bind fun t462 => (if (Go.bits .and .i64 t462 ((rd_T25 l1 x7_1).f1)) = ((rd_T25 l1 x7_1).f1) then (spec_LeftReduced.l1 k2 a0 l1 x6_1 x7_1 (wrap64 (x9_2 + 1)) (wrap64 (x462000_2 - (Go.bits .and .i64 x462000_2 (shl .i64 1 (ji13))))) ((rd_T25 l1 x7_1).f1)) else (spec_LeftReduced.l1 k2 a0 l1 x6_1 x7_1 (wrap64 (x9_2 + 1)) x462000_2 ((rd_T25 l1 x7_1).f1))))) else (none)) = some (r1, r2) := by first | (rw [hji13] at H; exact H) | (simp only [hji13] at H ⊢; exact H)
         by_cases c14 : 0 ≤ (ji13)
         ·
          rw [if_pos c14] at H
          have c14b0 := eq_true c14
          have c14b1 : decide (0 ≤ (ji13)) = true := decide_eq_true c14
          clear c14
          obtain ⟨ji15, hji15⟩ : ∃ j_ : Int, (shl .i64 1 (ji13)) = j_ := ⟨_, rfl⟩
          replace H : (if (wrap64 (x462000_2 - (Go.bits .and .i64 x462000_2 (ji15)))) = x462000_2 then (spec_LeftReduced.l1 k2 a0 l1 x6_1 x7_1 (wrap64 (x9_2 + 1)) x462000_2 ((rd_T25 l1 x7_1).f1)) else ((spec_l9Closed.f k2 l1 (wrap64 (x462000_2 - (Go.bits .and .i64 x462000_2 (ji15))))).bind fun t462 => (if (Go.bits .and .i64 t462 ((rd_T25 l1 x7_1).f1)) = ((rd_T25 l1 x7_1).f1) then (spec_LeftReduced.l1 k2 a0 l1 x6_1 x7_1 (wrap64 (x9_2 + 1)) (wrap64 (x462000_2 - (Go.bits .and .i64 x462000_2 (ji15)))) ((rd_T25 l1 x7_1).f1)) else (spec_LeftReduced.l1 k2 a0 l1 x6_1 x7_1 (wrap64 (x9_2 + 1)) x462000_2 ((rd_T25 l1 x7_1).f1))))) = some (r1, r2) := by first | (rw [hji15] at H; exact H) | (simp only [hji15] at H ⊢; exact H)
          have hji15_ : (IntKind.i64.wrap (1 * 2 ^ min (ji13).toNat 64)) = ji15 := hji15
          have hji15z : (ji13) ≤ 64 → (IntKind.i64.wrap (1 * 2 ^ (ji13).toNat)) = ji15 := shl_small hji15
          have hji15u : (IntKind.i64.wrap (2 ^ min (ji13).toNat 64)) = ji15 := by have h_ := hji15_; rw [Int.one_mul] at h_; exact h_
          have hji15v : (ji13) ≤ 64 → (IntKind.i64.wrap (2 ^ (ji13).toNat)) = ji15 := fun hle_ => by have h_ := hji15z hle_; rw [Int.one_mul] at h_; exact h_
          have hji15y : (wrap64 (1 * 2 ^ min (ji13).toNat 64)) = ji15 := (i64_w _).symm.trans hji15_
          have hji15x : (ji13) ≤ 64 → (wrap64 (1 * 2 ^ (ji13).toNat)) = ji15 := fun h_ => (i64_w _).symm.trans (hji15z h_)
          by_cases c16 : (wrap64 (x462000_2 - (Go.bits .and .i64 x462000_2 (ji15)))) = x462000_2
          ·
           rw [if_pos c16] at H
           have c16b0 : ((wrap64 (x462000_2 - (Go.bits .and .i64 x462000_2 (ji15)))) == x462000_2) = true := beq_iff_eq.mpr c16
           have c16b1 : ((wrap64 (x462000_2 - (Go.bits .and .i64 x462000_2 (ji15)))) != x462000_2) = false := bne_eq_false_iff_eq.mpr c16
           clear c16
           have H' := Aside0.mk H
           clear H
           have hcz17_0 : wr.cell? ⟨gb461, 0, none⟩ = some (.int .i64 x462000_2) := (blk_cell BK461.out 0).trans rfl
           have hcz17_1 : wr.cell? ⟨gb461, 1, none⟩ = some (.int .i64 ((rd_T25 l1 x7_1).f1)) := (blk_cell BK461.out 1).trans rfl
           have hfz17_0 := blk_frozen BK461.out 0
           have hfz17_1 := blk_frozen BK461.out 1
           go_wp2
           repeat (go_quiet (fail); try go_wp2)
           go_roundg k2
           case measure => have := HK1.out; have := HK2.out; omega
           case rel => exact ⟨(wrap64 (x9_2 + 1)), (x462000_2), q12_7, H', ⟨by have := HK1.out; have := HK2.out; omega⟩, ⟨by (with_reducible repeat (first | apply Kd.R_alloc | apply Kd.R_drewN | apply Kd.R_drew)); exact HO_6.out⟩, ⟨by (with_reducible repeat (first | refine blk_drewN ?_ _ | refine blk_drew ?_ | refine blk_alloc ?_ _)); exact BK461.out⟩, ⟨by repeat (first | (with_reducible first | exact HB.out | apply below_alloc | apply pw_below_drewN | apply below_drew1 | refine below_set ?_ GE461.out) | exact HB.out)⟩⟩
          ·
           rw [if_neg c16] at H
           have c16b0 : ((wrap64 (x462000_2 - (Go.bits .and .i64 x462000_2 (ji15)))) == x462000_2) = false := beq_eq_false_iff_ne.mpr c16
           have c16b1 : ((wrap64 (x462000_2 - (Go.bits .and .i64 x462000_2 (ji15)))) != x462000_2) = true := bne_iff_ne.mpr c16
           replace H := Option.bind_eq_some_iff.mp H
           obtain ⟨t462, A180, H⟩ := H
           replace H : (if (Go.bits .and .i64 t462 ((rd_T25 l1 x7_1).f1)) = ((rd_T25 l1 x7_1).f1) then (spec_LeftReduced.l1 k2 a0 l1 x6_1 x7_1 (wrap64 (x9_2 + 1)) (wrap64 (x462000_2 - (Go.bits .and .i64 x462000_2 (ji15)))) ((rd_T25 l1 x7_1).f1)) else (spec_LeftReduced.l1 k2 a0 l1 x6_1 x7_1 (wrap64 (x9_2 + 1)) x462000_2 ((rd_T25 l1 x7_1).f1))) = some (r1, r2) := H
           have A18 := Aside0.mk A180
           clear A180
           by_cases c19 : (Go.bits .and .i64 t462 ((rd_T25 l1 x7_1).f1)) = ((rd_T25 l1 x7_1).f1)
           ·
            rw [if_pos c19] at H
            have c19b0 : ((Go.bits .and .i64 t462 ((rd_T25 l1 x7_1).f1)) == ((rd_T25 l1 x7_1).f1)) = true := beq_iff_eq.mpr c19
            have c19b1 : ((Go.bits .and .i64 t462 ((rd_T25 l1 x7_1).f1)) != ((rd_T25 l1 x7_1).f1)) = false := bne_eq_false_iff_eq.mpr c19
            clear c19
            have H' := Aside0.mk H
            clear H
            have hcz20_0 : wr.cell? ⟨gb461, 0, none⟩ = some (.int .i64 x462000_2) := (blk_cell BK461.out 0).trans rfl
            have hcz20_1 : wr.cell? ⟨gb461, 1, none⟩ = some (.int .i64 ((rd_T25 l1 x7_1).f1)) := (blk_cell BK461.out 1).trans rfl
            have hfz20_0 := blk_frozen BK461.out 0
            have hfz20_1 := blk_frozen BK461.out 1
            go_wp2_with (first | (go_at_call 63; (with_reducible refine (spec_l9Closed.calls k2 _ _ l1 (wrap64 (x462000_2 - (Go.bits .and .i64 x462000_2 (ji15)))) t462 _ ?side1 ?side2 A18.out).mono ?_); (case side1 => exact q12_1); (case side2 => exact HC1.out); rintro e w' ⟨rfl, ⟨nd, rfl⟩⟩; (try first | exact ⟨rfl, _, World.drewN_drewN _ _ _⟩ | exact ⟨rfl, _, Eq.trans (World.drewN_drewN _ _ _) (congrArg (World.drewN _) (Nat.add_assoc _ _ _))⟩)))
            repeat (go_quiet (first | (go_at_call 63; (with_reducible refine (spec_l9Closed.calls k2 _ _ l1 (wrap64 (x462000_2 - (Go.bits .and .i64 x462000_2 (ji15)))) t462 _ ?side1 ?side2 A18.out).mono ?_); (case side1 => exact q12_1); (case side2 => exact HC1.out); rintro e w' ⟨rfl, ⟨nd, rfl⟩⟩; (try first | exact ⟨rfl, _, World.drewN_drewN _ _ _⟩ | exact ⟨rfl, _, Eq.trans (World.drewN_drewN _ _ _) (congrArg (World.drewN _) (Nat.add_assoc _ _ _))⟩))); try go_wp2_with (first | (go_at_call 63; (with_reducible refine (spec_l9Closed.calls k2 _ _ l1 (wrap64 (x462000_2 - (Go.bits .and .i64 x462000_2 (ji15)))) t462 _ ?side1 ?side2 A18.out).mono ?_); (case side1 => exact q12_1); (case side2 => exact HC1.out); rintro e w' ⟨rfl, ⟨nd, rfl⟩⟩; (try first | exact ⟨rfl, _, World.drewN_drewN _ _ _⟩ | exact ⟨rfl, _, Eq.trans (World.drewN_drewN _ _ _) (congrArg (World.drewN _) (Nat.add_assoc _ _ _))⟩))))
            go_roundg k2
            case measure => have := HK1.out; have := HK2.out; omega
            case rel => exact ⟨(wrap64 (x9_2 + 1)), (wrap64 (x462000_2 - (Go.bits .and .i64 x462000_2 (ji15)))), q12_7, H', ⟨by have := HK1.out; have := HK2.out; omega⟩, ⟨by (with_reducible repeat (first | apply Kd.R_alloc | apply Kd.R_drewN | apply Kd.R_drew)); exact Kd.R_mono (Kd.R_far (p := ⟨gb461, 0, none⟩) (Kd.R_mono HO_6.out (fun k_ hk => (⟨hk, hk⟩ : _ ∧ k_ ≠ gb461))) (fun _ hk => hk.2) (.int .i64 (wrap64 (x462000_2 - (Go.bits .and .i64 x462000_2 (ji15)))))) (fun _ hk => hk.1)⟩, ⟨by (with_reducible repeat (first | refine blk_drewN ?_ _ | refine blk_drew ?_ | refine blk_alloc ?_ _)); refine blk_put (cs := #[.int .i64 x462000_2, .int .i64 ((rd_T25 l1 x7_1).f1)]) ?_ 0 _ rfl; (with_reducible repeat (first | refine blk_drewN ?_ _ | refine blk_drew ?_ | refine blk_alloc ?_ _)); exact BK461.out⟩, ⟨by repeat (first | (with_reducible first | exact HB.out | apply below_alloc | apply pw_below_drewN | apply below_drew1 | refine below_set ?_ GE461.out) | exact HB.out)⟩⟩
           ·
            rw [if_neg c19] at H
            have c19b0 : ((Go.bits .and .i64 t462 ((rd_T25 l1 x7_1).f1)) == ((rd_T25 l1 x7_1).f1)) = false := beq_eq_false_iff_ne.mpr c19
            have c19b1 : ((Go.bits .and .i64 t462 ((rd_T25 l1 x7_1).f1)) != ((rd_T25 l1 x7_1).f1)) = true := bne_iff_ne.mpr c19
            have H' := Aside0.mk H
            clear H
            have hcz21_0 : wr.cell? ⟨gb461, 0, none⟩ = some (.int .i64 x462000_2) := (blk_cell BK461.out 0).trans rfl
            have hcz21_1 : wr.cell? ⟨gb461, 1, none⟩ = some (.int .i64 ((rd_T25 l1 x7_1).f1)) := (blk_cell BK461.out 1).trans rfl
            have hfz21_0 := blk_frozen BK461.out 0
            have hfz21_1 := blk_frozen BK461.out 1
            go_wp2_with (first | (go_at_call 63; (with_reducible refine (spec_l9Closed.calls k2 _ _ l1 (wrap64 (x462000_2 - (Go.bits .and .i64 x462000_2 (ji15)))) t462 _ ?side1 ?side2 A18.out).mono ?_); (case side1 => exact q12_1); (case side2 => exact HC1.out); rintro e w' ⟨rfl, ⟨nd, rfl⟩⟩; (try first | exact ⟨rfl, _, World.drewN_drewN _ _ _⟩ | exact ⟨rfl, _, Eq.trans (World.drewN_drewN _ _ _) (congrArg (World.drewN _) (Nat.add_assoc _ _ _))⟩)))
            repeat (go_quiet (first | (go_at_call 63; (with_reducible refine (spec_l9Closed.calls k2 _ _ l1 (wrap64 (x462000_2 - (Go.bits .and .i64 x462000_2 (ji15)))) t462 _ ?side1 ?side2 A18.out).mono ?_); (case side1 => exact q12_1); (case side2 => exact HC1.out); rintro e w' ⟨rfl, ⟨nd, rfl⟩⟩; (try first | exact ⟨rfl, _, World.drewN_drewN _ _ _⟩ | exact ⟨rfl, _, Eq.trans (World.drewN_drewN _ _ _) (congrArg (World.drewN _) (Nat.add_assoc _ _ _))⟩))); try go_wp2_with (first | (go_at_call 63; (with_reducible refine (spec_l9Closed.calls k2 _ _ l1 (wrap64 (x462000_2 - (Go.bits .and .i64 x462000_2 (ji15)))) t462 _ ?side1 ?side2 A18.out).mono ?_); (case side1 => exact q12_1); (case side2 => exact HC1.out); rintro e w' ⟨rfl, ⟨nd, rfl⟩⟩; (try first | exact ⟨rfl, _, World.drewN_drewN _ _ _⟩ | exact ⟨rfl, _, Eq.trans (World.drewN_drewN _ _ _) (congrArg (World.drewN _) (Nat.add_assoc _ _ _))⟩))))
            go_roundg k2
            case measure => have := HK1.out; have := HK2.out; omega
            case rel => exact ⟨(wrap64 (x9_2 + 1)), (x462000_2), q12_7, H', ⟨by have := HK1.out; have := HK2.out; omega⟩, ⟨by (with_reducible repeat (first | apply Kd.R_alloc | apply Kd.R_drewN | apply Kd.R_drew)); exact HO_6.out⟩, ⟨by (with_reducible repeat (first | refine blk_drewN ?_ _ | refine blk_drew ?_ | refine blk_alloc ?_ _)); exact BK461.out⟩, ⟨by repeat (first | (with_reducible first | exact HB.out | apply below_alloc | apply pw_below_drewN | apply below_drew1 | refine below_set ?_ GE461.out) | exact HB.out)⟩⟩
         ·
          rw [if_neg c14] at H
          exact absurd H (by simp)
        ·
         rw [if_neg c12] at H
         have c12b0 : decide (x9_2 < a0) = false := decide_eq_false c12
         clear c12
         by_cases c22 : x6_1.length < 8796093022208
         ·
          rw [if_pos c22] at H
          have LMc22 := Aside0.mk c22
          clear c22
          obtain ⟨y463, hy463⟩ : ∃ y_ : List (S25), y_ = (x6_1 ++ [(⟨x462000_2, ((rd_T25 l1 x7_1).f1)⟩ : S25)]) := ⟨_, rfl⟩
          replace H : (spec_LeftReduced.l0 k2 a0 l1 y463 (wrap64 (x7_1 + 1))) = some (r1, r2) := by first | (rw [hy463]; with_reducible exact H) | (have H2_ := (Option.bind_some _ _).symm.trans H; rw [hy463]; with_reducible exact H2_) | (have H2_ := (Option.bind_some _ _).symm.trans H; with_reducible exact H2_) | with_reducible exact H | (rw [hy463]; exact H) | exact H
          have Ny463 := Aside0.mk hy463
          clear hy463
          have H' := Aside0.mk H
          clear H
          have hcz23_0 : wr.cell? ⟨gb461, 0, none⟩ = some (.int .i64 x462000_2) := (blk_cell BK461.out 0).trans rfl
          have hcz23_1 : wr.cell? ⟨gb461, 1, none⟩ = some (.int .i64 ((rd_T25 l1 x7_1).f1)) := (blk_cell BK461.out 1).trans rfl
          have hfz23_0 := blk_frozen BK461.out 0
          have hfz23_1 := blk_frozen BK461.out 1
          go_wp2_with (first | ((with_reducible refine gate_builtin (b := .append) (xs := #[.tmp 58, .tmp 60]) rfl ?_); at_builtin; refine Kd.R_append k25 (w0 := w) w.heap.size rfl (.tmp 58) (.tmp 60) 31 25 (.agg #[(.int .i64 0), (.int .i64 0)]) 16 rfl Try.underlying31 info25 rfl (by decide) (by omega) u6 x6_1 (⟨x462000_2, ((rd_T25 l1 x7_1).f1)⟩ : S25) [.int .i64 x462000_2, .int .i64 ((rd_T25 l1 x7_1).f1)] (fun k_ => k_ ≠ gb461) (fun _ => False) rfl rfl ?aP (fun _ hk => hk.elim) ?aF ?aO ?aB ?aS ?aL ?_; (case aP => exact k25_mkM _ _ _ (⟨x462000_2, ((rd_T25 l1 x7_1).f1)⟩ : S25)); (case aB => exact q12_2); (case aF => exact (fun k_ hk => Kd.freshB (g := gb461) (o := .cells #[.int .i64 x462000_2, .int .i64 ((rd_T25 l1 x7_1).f1)] 25 (0, 0)) q12_4 k_ hk)); (case aO => exact q12_6); (case aS => exact (below_size q12_2)); (case aL => have := LMc22.out; omega); intro v464 w24 ho hb hg hat; rw [← Ny463.out] at ho; have n0_ := Aside0.mk (blk_grown (g := gb461) (o := .cells #[.int .i64 x462000_2, .int .i64 ((rd_T25 l1 x7_1).f1)] 25 (0, 0)) q12_4 hg (Kd.R_away HO_6.out (fun _ hk => hk))); have n1_ := Aside0.mk (hb); have n2_ := Aside0.mk (ho); clear BK461; clear HB; clear HO_6; have BK461 := n0_; have HB := n1_; have HO465 := n2_; clear n0_ n1_ n2_; clear ho hb hg hat))
          repeat (go_quiet (first | ((with_reducible refine gate_builtin (b := .append) (xs := #[.tmp 58, .tmp 60]) rfl ?_); at_builtin; refine Kd.R_append k25 (w0 := w) w.heap.size rfl (.tmp 58) (.tmp 60) 31 25 (.agg #[(.int .i64 0), (.int .i64 0)]) 16 rfl Try.underlying31 info25 rfl (by decide) (by omega) u6 x6_1 (⟨x462000_2, ((rd_T25 l1 x7_1).f1)⟩ : S25) [.int .i64 x462000_2, .int .i64 ((rd_T25 l1 x7_1).f1)] (fun k_ => k_ ≠ gb461) (fun _ => False) rfl rfl ?aP (fun _ hk => hk.elim) ?aF ?aO ?aB ?aS ?aL ?_; (case aP => exact k25_mkM _ _ _ (⟨x462000_2, ((rd_T25 l1 x7_1).f1)⟩ : S25)); (case aB => exact q12_2); (case aF => exact (fun k_ hk => Kd.freshB (g := gb461) (o := .cells #[.int .i64 x462000_2, .int .i64 ((rd_T25 l1 x7_1).f1)] 25 (0, 0)) q12_4 k_ hk)); (case aO => exact q12_6); (case aS => exact (below_size q12_2)); (case aL => have := LMc22.out; omega); intro v464 w24 ho hb hg hat; rw [← Ny463.out] at ho; have n0_ := Aside0.mk (blk_grown (g := gb461) (o := .cells #[.int .i64 x462000_2, .int .i64 ((rd_T25 l1 x7_1).f1)] 25 (0, 0)) q12_4 hg (Kd.R_away HO_6.out (fun _ hk => hk))); have n1_ := Aside0.mk (hb); have n2_ := Aside0.mk (ho); clear BK461; clear HB; clear HO_6; have BK461 := n0_; have HB := n1_; have HO465 := n2_; clear n0_ n1_ n2_; clear ho hb hg hat)); try go_wp2_with (first | ((with_reducible refine gate_builtin (b := .append) (xs := #[.tmp 58, .tmp 60]) rfl ?_); at_builtin; refine Kd.R_append k25 (w0 := w) w.heap.size rfl (.tmp 58) (.tmp 60) 31 25 (.agg #[(.int .i64 0), (.int .i64 0)]) 16 rfl Try.underlying31 info25 rfl (by decide) (by omega) u6 x6_1 (⟨x462000_2, ((rd_T25 l1 x7_1).f1)⟩ : S25) [.int .i64 x462000_2, .int .i64 ((rd_T25 l1 x7_1).f1)] (fun k_ => k_ ≠ gb461) (fun _ => False) rfl rfl ?aP (fun _ hk => hk.elim) ?aF ?aO ?aB ?aS ?aL ?_; (case aP => exact k25_mkM _ _ _ (⟨x462000_2, ((rd_T25 l1 x7_1).f1)⟩ : S25)); (case aB => exact q12_2); (case aF => exact (fun k_ hk => Kd.freshB (g := gb461) (o := .cells #[.int .i64 x462000_2, .int .i64 ((rd_T25 l1 x7_1).f1)] 25 (0, 0)) q12_4 k_ hk)); (case aO => exact q12_6); (case aS => exact (below_size q12_2)); (case aL => have := LMc22.out; omega); intro v464 w24 ho hb hg hat; rw [← Ny463.out] at ho; have n0_ := Aside0.mk (blk_grown (g := gb461) (o := .cells #[.int .i64 x462000_2, .int .i64 ((rd_T25 l1 x7_1).f1)] 25 (0, 0)) q12_4 hg (Kd.R_away HO_6.out (fun _ hk => hk))); have n1_ := Aside0.mk (hb); have n2_ := Aside0.mk (ho); clear BK461; clear HB; clear HO_6; have BK461 := n0_; have HB := n1_; have HO465 := n2_; clear n0_ n1_ n2_; clear ho hb hg hat)))
          go_roundg k2
          case measure => have := HK1.out; have := HK2.out; omega
          case rel => exact ⟨(y463), (wrap64 (x7_1 + 1)), q12_7, H', ⟨by have := HK1.out; have := HK2.out; omega⟩, ⟨by (with_reducible repeat (first | apply Kd.R_alloc | apply Kd.R_drewN | apply Kd.R_drew)); exact Kd.R_mono HO465.out (fun _ hk => trivial)⟩, ⟨by repeat (first | (with_reducible first | exact HB.out | apply below_alloc | apply pw_below_drewN | apply below_drew1 | refine below_set ?_ GE461.out) | exact HB.out)⟩⟩
         ·
          rw [if_neg c22] at H
          exact absurd H (by simp)
     ·
      rw [if_neg c9] at H
      exact absurd H (by simp)
    ·
     rw [if_neg c8] at H
     have c8b0 : decide (x7_1 < (l1.length : Int)) = false := decide_eq_false c8
     clear c8
     simp only [Option.some.injEq, Prod.mk.injEq] at H
     obtain ⟨rfl, rfl⟩ := H
     go_wp2
     repeat (go_quiet (fail); try go_wp2)
     go_ret2
     exact ⟨_, by first | rfl | (simp [errW_none, errW_some] <;> rfl) | (simp [*, errW_none, errW_some] <;> rfl), by (with_reducible repeat (first | apply Kd.R_alloc | apply Kd.R_drewN | apply Kd.R_drew)); exact HO_6.out, by repeat (first | (with_reducible first | exact HB.out | apply below_alloc | apply pw_below_drewN | apply below_drew1) | exact HB.out)⟩
 ·
  replace c4 := Bool.eq_false_iff.mpr c4
  subst c4
  have H1 : (some (y456, false)) = some (r1, r2) := by rw [if_neg (show ¬ (false = true) by decide)] at H; exact H
  clear H
  have H := H1
  clear H1
  simp only [Option.some.injEq, Prod.mk.injEq] at H
  obtain ⟨rfl, rfl⟩ := H
  go_enter Try.func42, Try.ntmps42
  go_wp2_with (first | ((with_reducible refine gate_dst (N := 11) rfl ?_); refine Kd.R_lit k25 _ 25 ?hg (N := 11) ?hd (xs := ([] : List (S25))) (inner := []) (ok := fun _ => True) (okp := fun _ => True) ?hr ?hp (fun _ hk => hk) trivial (Below.refl _ _) (Nat.le_refl _) (by simp) ?_; (case hd => rfl); (case hg => rfl); (case hr => first | (go_simp; done) | (go_simp; rfl)); (case hp => exact (Reps.none _ _)); intro v457 w25 ho26 hb hg_ hnew_; clear hg_ hnew_; (first | rw [← Ny456.out] at ho26 | (simp only [Int.reduceToNat] at ho26; rw [← Ny456.out] at ho26)); have n0_ := Aside0.mk (Kd.R_lower ho26 (below_size q12_3)); have n1_ := Aside0.mk (below_step q12_3 hb); clear HB; have HO458 := n0_; have HB := n1_; clear n0_ n1_; clear hb ho26) | (go_at_call 19; (with_reducible refine (spec_AreRules.calls k a0 _ _ l1 false _ ?side1 ?side2 A3.out).mono ?_); (case side1 => exact q12_1); (case side2 => exact HC1.out); rintro e w27 ⟨rfl, hb⟩; have n0_ := Aside0.mk (Kd.R_below q12_5 hb); have n1_ := Aside0.mk (below_step q12_3 hb); clear HO458; clear HB; have HO458 := n0_; have HB := n1_; clear n0_ n1_; (try clear hb); (try clear hb2); (try clear hk); (try clear hi)))
  repeat (go_quiet (first | ((with_reducible refine gate_dst (N := 11) rfl ?_); refine Kd.R_lit k25 _ 25 ?hg (N := 11) ?hd (xs := ([] : List (S25))) (inner := []) (ok := fun _ => True) (okp := fun _ => True) ?hr ?hp (fun _ hk => hk) trivial (Below.refl _ _) (Nat.le_refl _) (by simp) ?_; (case hd => rfl); (case hg => rfl); (case hr => first | (go_simp; done) | (go_simp; rfl)); (case hp => exact (Reps.none _ _)); intro v457 w25 ho26 hb hg_ hnew_; clear hg_ hnew_; (first | rw [← Ny456.out] at ho26 | (simp only [Int.reduceToNat] at ho26; rw [← Ny456.out] at ho26)); have n0_ := Aside0.mk (Kd.R_lower ho26 (below_size q12_3)); have n1_ := Aside0.mk (below_step q12_3 hb); clear HB; have HO458 := n0_; have HB := n1_; clear n0_ n1_; clear hb ho26) | (go_at_call 19; (with_reducible refine (spec_AreRules.calls k a0 _ _ l1 false _ ?side1 ?side2 A3.out).mono ?_); (case side1 => exact q12_1); (case side2 => exact HC1.out); rintro e w27 ⟨rfl, hb⟩; have n0_ := Aside0.mk (Kd.R_below q12_5 hb); have n1_ := Aside0.mk (below_step q12_3 hb); clear HO458; clear HB; have HO458 := n0_; have HB := n1_; clear n0_ n1_; (try clear hb); (try clear hb2); (try clear hk); (try clear hi))); try go_wp2_with (first | ((with_reducible refine gate_dst (N := 11) rfl ?_); refine Kd.R_lit k25 _ 25 ?hg (N := 11) ?hd (xs := ([] : List (S25))) (inner := []) (ok := fun _ => True) (okp := fun _ => True) ?hr ?hp (fun _ hk => hk) trivial (Below.refl _ _) (Nat.le_refl _) (by simp) ?_; (case hd => rfl); (case hg => rfl); (case hr => first | (go_simp; done) | (go_simp; rfl)); (case hp => exact (Reps.none _ _)); intro v457 w25 ho26 hb hg_ hnew_; clear hg_ hnew_; (first | rw [← Ny456.out] at ho26 | (simp only [Int.reduceToNat] at ho26; rw [← Ny456.out] at ho26)); have n0_ := Aside0.mk (Kd.R_lower ho26 (below_size q12_3)); have n1_ := Aside0.mk (below_step q12_3 hb); clear HB; have HO458 := n0_; have HB := n1_; clear n0_ n1_; clear hb ho26) | (go_at_call 19; (with_reducible refine (spec_AreRules.calls k a0 _ _ l1 false _ ?side1 ?side2 A3.out).mono ?_); (case side1 => exact q12_1); (case side2 => exact HC1.out); rintro e w27 ⟨rfl, hb⟩; have n0_ := Aside0.mk (Kd.R_below q12_5 hb); have n1_ := Aside0.mk (below_step q12_3 hb); clear HO458; clear HB; have HO458 := n0_; have HB := n1_; clear n0_ n1_; (try clear hb); (try clear hb2); (try clear hk); (try clear hi))))
  go_ret2
  exact ⟨_, by first | rfl | (simp [errW_none, errW_some] <;> rfl) | (simp [*, errW_none, errW_some] <;> rfl), by (with_reducible repeat (first | apply Kd.R_alloc | apply Kd.R_drewN | apply Kd.R_drew)); exact HO458.out, by repeat (first | (with_reducible first | exact HB.out | apply below_alloc | apply pw_below_drewN | apply below_drew1) | exact HB.out)⟩

end Go.Proofs.Ytjkbmdbecplgiaa.Pr
