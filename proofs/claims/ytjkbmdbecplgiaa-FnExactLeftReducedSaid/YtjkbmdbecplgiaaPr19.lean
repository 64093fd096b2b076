/- Functions of the program as plain functions, each with the proof that its call answers so. Written by a program of this place (myprint.py over the kit's print). No condition beyond what each statement says. -/
import Derived.Test.YtjkbmdbecplgiaaPr0
import Derived.Test.YtjkbmdbecplgiaaPr4
import Derived.Test.YtjkbmdbecplgiaaPr16
import Derived.Test.YtjkbmdbecplgiaaGAreRules
namespace Go.Proofs.Ytjkbmdbecplgiaa.Pr
open Go.RowKit Go.Proofs.YtjkbmdbecplgiaaW.PrintWords Go.Proofs.YtjkbmdbecplgiaaW.PrintLast Go.Proofs.YtjkbmdbecplgiaaW.PrintMore
attribute [local go_sem] max2_int min2_int max_two min_two max_three min_three max_four min_four   -- for this text's walks alone
set_option linter.unusedVariables false
set_option linter.unusedSimpArgs false

theorem put19_ {P : Prop} (h : P := by simp only [Act.put, List.setIfInBounds_toArray, List.set_cons_zero, List.set_cons_succ, i64_w, i32_w]; rfl) : P := h
/-! ### impl_LeftReduced: function 43 -/
theorem q19_1 {P : Prop} (h : P := by (with_reducible repeat (first | refine blk_drewN ?_ _ | refine blk_drew ?_ | refine blk_alloc ?_ _)); refine blk_put (cs := #[.int .i64 (Go.bits .andNot .i64 x472000_2 (ji20)), .int .i64 0]) ?_ 1 _ rfl; (with_reducible repeat (first | refine blk_drewN ?_ _ | refine blk_drew ?_ | refine blk_alloc ?_ _)); refine blk_put (cs := #[.int .i64 0, .int .i64 0]) ?_ 0 _ rfl; (with_reducible repeat (first | refine blk_drewN ?_ _ | refine blk_drew ?_ | refine blk_alloc ?_ _)); exact BK476.out) : P := h
theorem q19_2 {P : Prop} (h : P := by (with_reducible repeat (first | refine blk_drewN ?_ _ | refine blk_drew ?_ | refine blk_alloc ?_ _)); refine blk_far ?_ NB471_476.out _; (with_reducible repeat (first | refine blk_drewN ?_ _ | refine blk_drew ?_ | refine blk_alloc ?_ _)); refine blk_far ?_ NB471_476.out _; (with_reducible repeat (first | refine blk_drewN ?_ _ | refine blk_drew ?_ | refine blk_alloc ?_ _)); exact BK471.out) : P := h
theorem q19_3 {P : Prop} (h : P := by (with_reducible repeat (first | apply Kd.R_alloc | apply Kd.R_drewN | apply Kd.R_drew)); exact (Kd.R_mono (Kd.R_far (p := ⟨gb476, 1, none⟩) (Kd.R_far (p := ⟨gb476, 0, none⟩) (Kd.R_mono HO_6.out (fun k_ hk => (⟨hk, hk.2⟩ : _ ∧ k_ ≠ gb476))) (fun _ hk => hk.2) (.int .i64 (Go.bits .andNot .i64 x472000_2 (ji20)))) (fun _ hk => hk.2) (.int .i64 x472001_2)) (fun _ h_ => h_.1))) : P := h
theorem q19_4 {P : Prop} (h : P := by (with_reducible repeat (first | apply Kd.R_alloc | apply Kd.R_drewN | apply Kd.R_drew)); exact (Kd.R_mono (Kd.R_far (p := ⟨gb476, 1, none⟩) (Kd.R_far (p := ⟨gb476, 0, none⟩) (Kd.R_types HO_25.out BK476.out (by decide)) (fun _ hk => hk.2) (.int .i64 (Go.bits .andNot .i64 x472000_2 (ji20)))) (fun _ hk => hk.2) (.int .i64 x472001_2)) (fun _ h_ => h_.1))) : P := h
theorem q19_5 {P : Prop} (h : P := by repeat (first | (with_reducible first | exact HB.out | apply below_alloc | apply pw_below_drewN | apply below_drew1 | refine below_set ?_ GE471.out | refine below_set ?_ GE476.out) | exact HB.out)) : P := h
theorem q19_6 {P : Prop} (h : P := by (try simp only [List.map_toArray, List.map_cons, List.map_nil]); first | done | (simp only [hji20]; rfl) | rfl | (simp only [List.length_drop, List.length_take]; rfl)) : P := h
theorem q19_7 {P : Prop} (h : P := by repeat (first | (with_reducible first | exact HB.out | apply below_alloc | apply pw_below_drewN | apply below_drew1 | refine below_set ?_ GE471.out) | exact HB.out)) : P := h
theorem q19_8 {P : Prop} (h : P := by repeat (first | exact HR1.out | (with_reducible refine Kd.C_alloc ?_ _) | (with_reducible refine Kd.C_drewN ?_ _) | (with_reducible refine Kd.C_drew ?_))) : P := h
theorem q19_9 {P : Prop} (h : P := by (try simp only [List.map_toArray, List.map_cons, List.map_nil]); first | done | rfl | (simp only [List.length_drop, List.length_take]; rfl)) : P := h
theorem q19_10 {P : Prop} (h : P := by repeat (first | (with_reducible first | exact HB.out | apply below_alloc | apply pw_below_drewN | apply below_drew1) | exact HB.out)) : P := h
theorem q19_11 {P : Prop} (h : P := by (with_reducible repeat (first | refine blk_drewN ?_ _ | refine blk_drew ?_ | refine blk_alloc ?_ _)); exact BK471.out) : P := h
theorem q19_12 {P : Prop} (h : P := by (with_reducible repeat (first | apply Kd.R_alloc | apply Kd.R_drewN | apply Kd.R_drew)); exact HO_25.out) : P := h
theorem q19_13 {P : Prop} (h : P := by (with_reducible repeat (first | apply Kd.R_alloc | apply Kd.R_drewN | apply Kd.R_drew)); exact HO_6.out) : P := h
theorem q19_14 {P : Prop} (h : P := by first | (with_reducible assumption) | assumption) : P := h
theorem q19_15 {P : Prop} (h : P := by first | rfl | (simp; done) | (simp [*]; done)) : P := h
theorem q19_16 {P : Prop} (h : P := by kernel_rfl) : P := h
mutual
def impl_LeftReduced.l0 : Nat → List (S25) → List (S25) → List (S25) → Int → Int → Option ((List (S25)) × Bool)
 | 0, _, _, _, _, _ => none
 | k + 1, x1, x6, x17, x18, x19 => if x19 < x18 then (if 0 ≤ x19 then (if x19 < (x17.length : Int) then ((impl_ElementsOf.f k ((rd_T25 x17 x19).f0)).bind fun t472 => (impl_LeftReduced.l1 k x1 x6 x17 x18 x19 t472 (t472.length : Int) 0 ((rd_T25 x17 x19).f0) ((rd_T25 x17 x19).f1))) else (none)) else (none)) else (some (x6, true))
def impl_LeftReduced.l1 : Nat → List (S25) → List (S25) → List (S25) → Int → Int → List Int → Int → Int → Int → Int → Option ((List (S25)) × Bool)
 | 0, _, _, _, _, _, _, _, _, _, _ => none
 | k + 1, x1, x6, x17, x18, x19, x25, x26, x27, x472000, x472001 => if x27 < x26 then (if 0 ≤ x27 then (if x27 < (x25.length : Int) then (if 0 ≤ (rd x25 x27) then ((impl_Follows.f k x1 (Go.bits .andNot .i64 x472000 (shl .i64 1 (rd x25 x27))) x472001).bind fun t477 => (if t477 = true then (impl_LeftReduced.l1 k x1 x6 x17 x18 x19 x25 x26 (wrap64 (x27 + 1)) (Go.bits .andNot .i64 x472000 (shl .i64 1 (rd x25 x27))) x472001) else (impl_LeftReduced.l1 k x1 x6 x17 x18 x19 x25 x26 (wrap64 (x27 + 1)) x472000 x472001))) else (none)) else (none)) else (none)) else (if x6.length < 8796093022208 then (impl_LeftReduced.l0 k x1 (x6 ++ [(⟨x472000, x472001⟩ : S25)]) x17 x18 (wrap64 (x19 + 1))) else (none))
end
def impl_LeftReduced.f (k : Nat) (a0 : Int) (l1 : List (S25)) : Option ((List (S25)) × Bool) := (impl_AreRules.f a0 l1).bind fun t466 => (if t466 = true then (impl_LeftReduced.l0 k l1 (([] : List (S25))) l1 (l1.length : Int) 0) else (some (([] : List (S25)), false)))
theorem impl_LeftReduced.mono_l : ∀ k, (∀ y0 y1 y2 y3 y4, LeO (impl_LeftReduced.l0 k y0 y1 y2 y3 y4) (impl_LeftReduced.l0 (k + 1) y0 y1 y2 y3 y4)) ∧ (∀ y0 y1 y2 y3 y4 y5 y6 y7 y8 y9, LeO (impl_LeftReduced.l1 k y0 y1 y2 y3 y4 y5 y6 y7 y8 y9) (impl_LeftReduced.l1 (k + 1) y0 y1 y2 y3 y4 y5 y6 y7 y8 y9))
 | 0 => ⟨fun _ _ _ _ _ r h => by simp [impl_LeftReduced.l0] at h, fun _ _ _ _ _ _ _ _ _ _ r h => by simp [impl_LeftReduced.l1] at h⟩
 | k + 1 => by
  obtain ⟨ih0, ih1⟩ := impl_LeftReduced.mono_l k
  refine ⟨?_, ?_⟩
  ·
   intro y0 y1 y2 y3 y4
   unfold impl_LeftReduced.l0
   repeat' first
   | (with_reducible exact ih0 _ _ _ _ _)
   | (with_reducible exact ih1 _ _ _ _ _ _ _ _ _ _)
   | (with_reducible exact impl_ElementsOf.mono _ _)
   | (with_reducible exact impl_Follows.mono _ _ _ _)
   | (with_reducible exact LeO.refl _)
   | (with_reducible exact LeO.none _)
   | (with_reducible refine LeO.ite ?_ ?_)
   | (with_reducible refine LeO.bind ?_ (fun _ => ?_))
   | exact ih0 _ _ _ _ _
   | exact ih1 _ _ _ _ _ _ _ _ _ _
   | exact impl_ElementsOf.mono _ _
   | exact impl_Follows.mono _ _ _ _
   | exact LeO.none _
   | refine LeO.ite ?_ ?_
   | refine LeO.bind ?_ (fun _ => ?_)
  ·
   intro y0 y1 y2 y3 y4 y5 y6 y7 y8 y9
   unfold impl_LeftReduced.l1
   repeat' first
   | (with_reducible exact ih0 _ _ _ _ _)
   | (with_reducible exact ih1 _ _ _ _ _ _ _ _ _ _)
   | (with_reducible exact impl_ElementsOf.mono _ _)
   | (with_reducible exact impl_Follows.mono _ _ _ _)
   | (with_reducible exact LeO.refl _)
   | (with_reducible exact LeO.none _)
   | (with_reducible refine LeO.ite ?_ ?_)
   | (with_reducible refine LeO.bind ?_ (fun _ => ?_))
   | exact ih0 _ _ _ _ _
   | exact ih1 _ _ _ _ _ _ _ _ _ _
   | exact impl_ElementsOf.mono _ _
   | exact impl_Follows.mono _ _ _ _
   | exact LeO.none _
   | refine LeO.ite ?_ ?_
   | refine LeO.bind ?_ (fun _ => ?_)
theorem impl_LeftReduced.mono : ∀ a0 a1 k, LeO (impl_LeftReduced.f k a0 a1) (impl_LeftReduced.f (k + 1) a0 a1) := by
 intro a0 a1 k
 obtain ⟨ih0, ih1⟩ := impl_LeftReduced.mono_l k
 unfold impl_LeftReduced.f
 repeat' first
   | (with_reducible exact ih0 _ _ _ _ _)
   | (with_reducible exact ih1 _ _ _ _ _ _ _ _ _ _)
   | (with_reducible exact impl_ElementsOf.mono _ _)
   | (with_reducible exact impl_Follows.mono _ _ _ _)
   | (with_reducible exact LeO.refl _)
   | (with_reducible exact LeO.none _)
   | (with_reducible refine LeO.ite ?_ ?_)
   | (with_reducible refine LeO.bind ?_ (fun _ => ?_))
   | exact ih0 _ _ _ _ _
   | exact ih1 _ _ _ _ _ _ _ _ _ _
   | exact impl_ElementsOf.mono _ _
   | exact impl_Follows.mono _ _ _ _
   | exact LeO.none _
   | refine LeO.ite ?_ ?_
   | refine LeO.bind ?_ (fun _ => ?_)
def impl_LeftReduced.T10 : Bool × List (List Nat × List Nat) := (true, [([], []), ([0], [0]), ([], []), ([2], [2]), ([1, 3], [1, 3]), ([], []), ([5], [5]), ([4, 6], [4, 6]), ([], []), ([8, 7, 0, 1, 2, 3, 4, 5, 6, 7, 8], [7, 8])])
def impl_LeftReduced.B10 : List Nat := [0, 1, 0, 4, 15, 0, 32, 127, 0, 511]
theorem impl_LeftReduced.tab10 : rtab .any (opsOf Try.f43 10) = impl_LeftReduced.T10 := q19_16
theorem impl_LeftReduced.bits10 : waitsOk impl_LeftReduced.T10.2 impl_LeftReduced.B10 = true := q19_16
set_option maxHeartbeats 8000000 in
set_option maxRecDepth 100000 in
theorem impl_LeftReduced.calls (k : Nat) (a0 : Int) (A1 : Option Addr) (c1 : Nat) (l1 : List (S25)) (r1 : List (S25)) (r2 : Bool) (w : World) (hr1 : Kd.C k25 w A1 l1.length l1) (hc1 : l1.length ≤ c1) (h : impl_LeftReduced.f k a0 l1 = some (r1, r2)) :
  Calls Try.prog 43 #[.int .i64 a0, .slice A1 l1.length c1] w fun e w' => ∃ v0_ : Value, e = .returned (.tuple #[v0_, .bool r2]) ∧ Kd.R k25 25 w' w.heap.size (fun _ => True) v0_ r1 ∧ Below w.heap.size w w' := by
 have hu25 := Try.underlying25
 have HR1 := Aside0.mk hr1
 have HC1 := Aside0.mk hc1
 clear hr1 hc1
 have HB := Aside0.mk (Below.refl w.heap.size w)
 have H : ((impl_AreRules.f a0 l1).bind fun t466 => (if t466 = true then (impl_LeftReduced.l0 k l1 (([] : List (S25))) l1 (l1.length : Int) 0) else (some (([] : List (S25)), false)))) = some (r1, r2) := h
 clear h
 replace H := Option.bind_eq_some_iff.mp H
 obtain ⟨t466, A30, H⟩ := H
 replace H : (if t466 = true then (impl_LeftReduced.l0 k l1 (([] : List (S25))) l1 (l1.length : Int) 0) else (some (([] : List (S25)), false))) = some (r1, r2) := H
 have A3 := Aside0.mk A30
 clear A30
 by_cases c4 : t466 = true
 ·
  subst c4
  have H1 : (impl_LeftReduced.l0 k l1 (([] : List (S25))) l1 (l1.length : Int) 0) = some (r1, r2) := by rw [if_pos rfl] at H; exact H
  clear H
  have H := H1
  clear H1
  obtain ⟨y467, hy467⟩ : ∃ y_ : List (S25), y_ = (([] : List (S25))) := ⟨_, rfl⟩
  replace H : (impl_LeftReduced.l0 k l1 y467 l1 (l1.length : Int) 0) = some (r1, r2) := by first | (rw [hy467]; with_reducible exact H) | (have H2_ := (Option.bind_some _ _).symm.trans H; rw [hy467]; with_reducible exact H2_) | (have H2_ := (Option.bind_some _ _).symm.trans H; with_reducible exact H2_) | with_reducible exact H | (rw [hy467]; exact H) | exact H
  have Ny467 := Aside0.mk hy467
  clear hy467
  have H' := Aside0.mk H
  clear H
  go_enter Try.func43, Try.ntmps43
  go_wp2_with (first | ((with_reducible refine gate_callee (f := 21) rfl ?_); refine goesL_ (some 14) rfl rfl Try.func21 q19_16 rfl #[.int .i64 a0, .slice A1 l1.length c1] rfl q19_9 ?_; (with_reducible refine (impl_AreRules.calls a0 _ _ l1 true _ ?side1 ?side2 A3.out).mono ?_); (case side1 => exact q19_8); (case side2 => exact HC1.out); rintro e w5 ⟨rfl, hb⟩; refine ⟨_, rfl, ?_⟩; have n0_ := Aside0.mk (below_step q19_10 hb); clear HB; have HB := n0_; clear n0_; (try clear hb); (try clear hb2); (try clear hk); (try clear hi)) | ((with_reducible refine gate_dst (N := 16) rfl ?_); refine Kd.R_lit k25 _ 25 ?hg (N := 16) ?hd (xs := ([] : List (S25))) (inner := []) (ok := fun _ => True) (okp := fun _ => True) ?hr ?hp (fun _ hk => hk) trivial (Below.refl _ _) (Nat.le_refl _) (by simp) ?_; (case hd => rfl); (case hg => rfl); (case hr => first | (go_simp; done) | (go_simp; rfl)); (case hp => exact (Reps.none _ _)); intro v468 w6 ho7 hb hg_ hnew_; clear hg_ hnew_; (first | rw [← Ny467.out] at ho7 | (simp only [Int.reduceToNat] at ho7; rw [← Ny467.out] at ho7)); have n0_ := Aside0.mk (Kd.R_lower ho7 (below_size q19_10)); have n1_ := Aside0.mk (below_step q19_10 hb); clear HB; have HO469 := n0_; have HB := n1_; clear n0_ n1_; clear hb ho7))
  go_loopg [6, 19] k (fun kq v6 v19 w' => ∃ (x6_1 : List (S25)) (x19_1 : Int), v19 = .int .i64 x19_1 ∧ Aside0 (impl_LeftReduced.l0 kq l1 x6_1 l1 (l1.length : Int) x19_1 = some (r1, r2)) ∧ Aside0 (kq ≤ k) ∧ Aside0 (Kd.R k25 25 w' w.heap.size (fun _ => True) v6 x6_1) ∧ Aside0 (Below w.heap.size w w'))
  case atStart => exact ⟨(y467), (0), q19_15, H', ⟨Nat.le_refl _⟩, ⟨by (with_reducible repeat (first | apply Kd.R_alloc | apply Kd.R_drewN | apply Kd.R_drew)); exact HO469.out⟩, ⟨by repeat (first | (with_reducible first | exact HB.out | apply below_alloc | apply pw_below_drewN | apply below_drew1) | exact HB.out)⟩⟩
  case round =>
   clear H'
   try clear c1
   try clear c2
   try clear p2
   try clear c4
   obtain ⟨x6_1, x19_1, rfl, HA, HK1, HO_6, HB⟩ := hrel
   cases gk with
   | zero => exact absurd HA.out (by simp [impl_LeftReduced.l0])
   | succ k1 =>
    have H := HA.out
    clear HA
    simp only [impl_LeftReduced.l0] at H
    by_cases c8 : x19_1 < (l1.length : Int)
    ·
     rw [if_pos c8] at H
     have c8b0 : decide (x19_1 < (l1.length : Int)) = true := decide_eq_true c8
     clear c8
     by_cases c9 : 0 ≤ x19_1
     ·
      rw [if_pos c9] at H
      have c9b0 : decide (0 ≤ x19_1) = true := decide_eq_true c9
      clear c9
      by_cases c10 : x19_1 < (l1.length : Int)
      ·
       rw [if_pos c10] at H
       have c10b0 : decide (x19_1 < (l1.length : Int)) = true := decide_eq_true c10
       clear c10
       replace H := Option.bind_eq_some_iff.mp H
       obtain ⟨t472, A110, H⟩ := H
       replace H : (impl_LeftReduced.l1 k1 l1 x6_1 l1 (l1.length : Int) x19_1 t472 (t472.length : Int) 0 ((rd_T25 l1 x19_1).f0) ((rd_T25 l1 x19_1).f1)) = some (r1, r2) := H
       have A11 := Aside0.mk A110
       clear A110
       have H' := Aside0.mk H
       clear H
       have p470 : 0 ≤ (x19_1 : Int) := of_decide_eq_true q19_14
       have q470 : x19_1 < (l1.length : Int) := of_decide_eq_true q19_14
       obtain ⟨ad470, e470, hx470_0, hx470_1⟩ := at_T25 HR1.out x19_1 p470 q470
       cases e470
       replace hx470_0 := (HB.out.cell (World.block_lt_of_cell? w _ hx470_0)).trans hx470_0
       replace hx470_1 := (HB.out.cell (World.block_lt_of_cell? w _ hx470_1)).trans hx470_1
       replace p470 := eq_true p470
       replace q470 := eq_true q470
       go_wp2_with (first | ((with_reducible refine gate_dst (N := 8) rfl ?_); refine box_event ?hg (N := 8) ?hd (cs := #[.int .i64 0, .int .i64 0]) (t := 25) ?hr ?_; (case hd => rfl); (case hg => rfl); (case hr => first | (go_simp; done) | (go_simp; rfl)); intro gb471 hg w12 hbox hb; have n0_ := Aside0.mk (Kd.R_below (Kd.R_elderB q19_13 gb471 (Nat.le_of_eq hg.symm)) hb); have n1_ := Aside0.mk (below_step q19_10 hb); have n2_ := Aside0.mk (hbox); have n3_ := Aside0.mk ((by rw [hg]; exact (below_size q19_10) : w.heap.size ≤ gb471)); have n4_ := Aside0.mk ((by rw [hg]; exact (below_size q19_10) : w.heap.size ≤ gb471)); clear HO_6; clear HB; have HO_6 := n0_; have HB := n1_; have BK471 := n2_; have GW471 := n3_; have GE471 := n4_; clear n0_ n1_ n2_ n3_ n4_; clear hb hbox hg; have hcz13_0 : w12.cell? ⟨gb471, 0, none⟩ = some (.int .i64 0) := (blk_cell BK471.out 0).trans rfl; have hcz13_1 : w12.cell? ⟨gb471, 1, none⟩ = some (.int .i64 0) := (blk_cell BK471.out 1).trans rfl; have hfz13_0 := blk_frozen BK471.out 0; have hfz13_1 := blk_frozen BK471.out 1) | ((with_reducible refine gate_callee (f := 71) rfl ?_); refine goesL_ (some 25) rfl rfl Try.func71 q19_16 rfl #[.int .i64 ((rd_T25 l1 x19_1).f0)] rfl q19_9 ?_; (with_reducible refine (impl_ElementsOf.calls k1 ((rd_T25 l1 x19_1).f0) t472 _ A11.out).mono ?_); rintro e w14 ⟨v473, rfl, ho0, hb⟩; refine ⟨_, rfl, ?_⟩; have n0_ := Aside0.mk (Kd.R_below (by (with_reducible repeat (first | apply Kd.R_alloc | apply Kd.R_drewN | apply Kd.R_drew)); exact (Kd.R_mono (Kd.R_far (p := ⟨gb471, 1, none⟩) (Kd.R_far (p := ⟨gb471, 0, none⟩) (Kd.R_mono HO_6.out (fun k_ hk => (⟨hk, hk.2⟩ : _ ∧ k_ ≠ gb471))) (fun _ hk => hk.2) (.int .i64 ((rd_T25 l1 x19_1).f0))) (fun _ hk => hk.2) (.int .i64 ((rd_T25 l1 x19_1).f1))) (fun _ h_ => h_.1))) hb); have n1_ := Aside0.mk (Kd.R_lower ho0 (below_size q19_7)); have n2_ := Aside0.mk (blk_below (g := gb471) (o := .cells #[.int .i64 ((rd_T25 l1 x19_1).f0), .int .i64 ((rd_T25 l1 x19_1).f1)] 25 (0, 0)) (by (with_reducible repeat (first | refine blk_drewN ?_ _ | refine blk_drew ?_ | refine blk_alloc ?_ _)); refine blk_put (cs := #[.int .i64 ((rd_T25 l1 x19_1).f0), .int .i64 0]) ?_ 1 _ rfl; (with_reducible repeat (first | refine blk_drewN ?_ _ | refine blk_drew ?_ | refine blk_alloc ?_ _)); refine blk_put (cs := #[.int .i64 0, .int .i64 0]) ?_ 0 _ rfl; (with_reducible repeat (first | refine blk_drewN ?_ _ | refine blk_drew ?_ | refine blk_alloc ?_ _)); exact BK471.out) hb); have n3_ := Aside0.mk (below_step q19_7 hb); clear HO_6; clear BK471; clear HB; have HO_6 := n0_; have HO474 := n1_; have BK471 := n2_; have HB := n3_; clear n0_ n1_ n2_ n3_; (try clear hb); (try clear hb2); (try clear hk); (try clear hi); (try clear ho0); obtain ⟨Ao15, co15, eo15⟩ := Kd.R_slice HO474.out; subst eo15))
       go_loopg [27] k1 (fun kq v27 w' => ∃ (x27_2 : Int) (x472000_2 : Int) (x472001_2 : Int), v27 = .int .i64 x27_2 ∧ Aside0 (impl_LeftReduced.l1 kq l1 x6_1 l1 (l1.length : Int) x19_1 t472 (t472.length : Int) x27_2 x472000_2 x472001_2 = some (r1, r2)) ∧ Aside0 (kq ≤ k1) ∧ Aside0 (Kd.R k25 25 w' w.heap.size (fun k_ => k_ ≠ gb471) u6 x6_1) ∧ Aside0 (Kd.R (Kd.int .i64) 3 w' w.heap.size (fun _ => True) (.slice Ao15 t472.length co15) t472) ∧ Aside0 (w'.heap[gb471]? = some (.cells #[.int .i64 x472000_2, .int .i64 x472001_2] 25 (0, 0))) ∧ Aside0 (Below w.heap.size w w'))
       case atStart => exact ⟨(0), ((rd_T25 l1 x19_1).f0), ((rd_T25 l1 x19_1).f1), q19_15, H', ⟨Nat.le_refl _⟩, ⟨by (with_reducible repeat (first | apply Kd.R_alloc | apply Kd.R_drewN | apply Kd.R_drew)); exact Kd.R_mono HO_6.out (fun _ hk => hk.2)⟩, ⟨by (with_reducible repeat (first | apply Kd.R_alloc | apply Kd.R_drewN | apply Kd.R_drew)); exact HO474.out⟩, ⟨by (with_reducible repeat (first | refine blk_drewN ?_ _ | refine blk_drew ?_ | refine blk_alloc ?_ _)); exact BK471.out⟩, ⟨by repeat (first | (with_reducible first | exact HB.out | apply below_alloc | apply pw_below_drewN | apply below_drew1 | refine below_set ?_ GE471.out) | exact HB.out)⟩⟩
       case round =>
        clear H'
        try clear c1
        try clear c2
        try clear p2
        try clear c4
        try clear p4
        try clear q4
        try clear hx4
        try clear c7
        try clear c8
        try clear c8b0
        try clear c9
        try clear c9b0
        try clear c10
        try clear c10b0
        try clear hcz13_0
        try clear hcz13_1
        try clear hfz13_0
        try clear hfz13_1
        try clear hx470_0
        try clear hx470_1
        try clear p2
        try clear p470
        try clear q470
        obtain ⟨x27_2, x472000_2, x472001_2, rfl, HA, HK2, HO_6, HO_25, BK471, HB⟩ := hrel
        cases gk with
        | zero => exact absurd HA.out (by simp [impl_LeftReduced.l1])
        | succ k2 =>
         have H := HA.out
         clear HA
         simp only [impl_LeftReduced.l1] at H
         by_cases c16 : x27_2 < (t472.length : Int)
         ·
          rw [if_pos c16] at H
          have c16b0 : decide (x27_2 < (t472.length : Int)) = true := decide_eq_true c16
          clear c16
          by_cases c17 : 0 ≤ x27_2
          ·
           rw [if_pos c17] at H
           have c17b0 : decide (0 ≤ x27_2) = true := decide_eq_true c17
           clear c17
           by_cases c18 : x27_2 < (t472.length : Int)
           ·
            rw [if_pos c18] at H
            have c18b0 : decide (x27_2 < (t472.length : Int)) = true := decide_eq_true c18
            clear c18
            by_cases c19 : 0 ≤ (rd t472 x27_2)
            ·
             rw [if_pos c19] at H
             have c19b0 := eq_true c19
             have c19b1 : decide (0 ≤ (rd t472 x27_2)) = true := decide_eq_true c19
             clear c19
             obtain ⟨ji20, hji20⟩ : ∃ j_ : Int, (shl .i64 1 (rd t472 x27_2)) = j_ := ⟨_, rfl⟩
             replace H : ((impl_Follows.f k2 l1 (Go.bits .andNot .i64 x472000_2 (ji20)) x472001_2).bind fun t477 => (if t477 = true then (impl_LeftReduced.l1 k2 l1 x6_1 l1 (l1.length : Int) x19_1 t472 (t472.length : Int) (wrap64 (x27_2 + 1)) (Go.bits .andNot .i64 x472000_2 (ji20)) x472001_2) else (impl_LeftReduced.l1 k2 l1 x6_1 l1 (l1.length : Int) x19_1 t472 (t472.length : Int) (wrap64 (x27_2 + 1)) x472000_2 x472001_2))) = some (r1, r2) := by first | (rw [hji20] at H; exact H) | (simp only [hji20] at H ⊢; exact H)
             have hji20_ : (IntKind.i64.wrap (1 * 2 ^ min (rd t472 x27_2).toNat 64)) = ji20 := hji20
             have hji20z : (rd t472 x27_2) ≤ 64 → (IntKind.i64.wrap (1 * 2 ^ (rd t472 x27_2).toNat)) = ji20 := shl_small hji20
             have hji20u : (IntKind.i64.wrap (2 ^ min (rd t472 x27_2).toNat 64)) = ji20 := by have h_ := hji20_; rw [Int.one_mul] at h_; exact h_
             have hji20v : (rd t472 x27_2) ≤ 64 → (IntKind.i64.wrap (2 ^ (rd t472 x27_2).toNat)) = ji20 := fun hle_ => by have h_ := hji20z hle_; rw [Int.one_mul] at h_; exact h_
             have hji20y : (wrap64 (1 * 2 ^ min (rd t472 x27_2).toNat 64)) = ji20 := (i64_w _).symm.trans hji20_
             have hji20x : (rd t472 x27_2) ≤ 64 → (wrap64 (1 * 2 ^ (rd t472 x27_2).toNat)) = ji20 := fun h_ => (i64_w _).symm.trans (hji20z h_)
             replace H := Option.bind_eq_some_iff.mp H
             obtain ⟨t477, A210, H⟩ := H
             replace H : (if t477 = true then (impl_LeftReduced.l1 k2 l1 x6_1 l1 (l1.length : Int) x19_1 t472 (t472.length : Int) (wrap64 (x27_2 + 1)) (Go.bits .andNot .i64 x472000_2 (ji20)) x472001_2) else (impl_LeftReduced.l1 k2 l1 x6_1 l1 (l1.length : Int) x19_1 t472 (t472.length : Int) (wrap64 (x27_2 + 1)) x472000_2 x472001_2)) = some (r1, r2) := H
             have A21 := Aside0.mk A210
             clear A210
             by_cases c22 : t477 = true
             ·
              subst c22
              have H1 : (impl_LeftReduced.l1 k2 l1 x6_1 l1 (l1.length : Int) x19_1 t472 (t472.length : Int) (wrap64 (x27_2 + 1)) (Go.bits .andNot .i64 x472000_2 (ji20)) x472001_2) = some (r1, r2) := by rw [if_pos rfl] at H; exact H
              clear H
              have H := H1
              clear H1
              have H' := Aside0.mk H
              clear H
              have p475 : 0 ≤ (x27_2 : Int) := of_decide_eq_true q19_14
              have q475 : x27_2 < (t472.length : Int) := of_decide_eq_true q19_14
              obtain ⟨ad475, e475, hx475_0⟩ := Kd.at_int (Kd.R_reads' HO_25.out).2.2 x27_2 p475 q475
              cases e475
              replace p475 := eq_true p475
              replace q475 := eq_true q475
              try go_wp2
              have n0_ := Aside0.mk (Kd.R_drew HO_6.out)
              have n1_ := Aside0.mk (Kd.R_drew HO_25.out)
              have n2_ := Aside0.mk (blk_drew BK471.out)
              have n3_ := Aside0.mk (below_drew1 HB.out)
              clear HO_6
              clear HO_25
              clear BK471
              clear HB
              have HO_6 := n0_
              have HO_25 := n1_
              have BK471 := n2_
              have HB := n3_
              clear n0_ n1_ n2_ n3_
              refine start_ (n := 10) (S := fun w' => w'.cell? ⟨gb471, 0, none⟩ = some (.int .i64 x472000_2) ∧ w'.cell? ⟨gb471, 1, none⟩ = some (.int .i64 x472001_2)) (ds := []) #[false, false, false, false, false, false, false, false, false, false] q19_16 rfl rfl ⟨(blk_cell BK471.out 0).trans rfl, (blk_cell BK471.out 1).trans rfl⟩ (fun hHeld => ?_); refine with_tabW impl_LeftReduced.tab10 impl_LeftReduced.bits10 (fun HT_ HW_ => ?_)
              generalize wr.drew = w23 at HO_6 HO_25 BK471 HB hHeld ⊢
              refine pure_ (i := 0) (N := some 31) (v := ?_) (a' := ?_) #[true, false, false, false, false, false, false, false, false, false] rfl rfl (any_of HT_.out q19_16) (fun _ _ _ h => h) (Or.inl ⟨by rfl, ?_⟩) ?_ ?_
              rotate_left
              ·
               intro w'
               go_simp
               with_reducible rfl
              rotate_left
              ·
               exact put19_
              refine pure_ (i := 2) (N := some 33) (v := ?_) (a' := ?_) #[true, false, true, false, false, false, false, false, false, false] rfl rfl (any_of HT_.out q19_16) (fun _ _ _ h => h) (Or.inl ⟨by rfl, ?_⟩) ?_ ?_
              rotate_left
              ·
               intro w'
               go_simp
               with_reducible rfl
              rotate_left
              ·
               exact put19_
              refine pure_ (i := 3) (N := some 34) (v := ?_) (a' := ?_) #[true, false, true, true, false, false, false, false, false, false] rfl rfl (any_of HT_.out q19_16) (fun _ _ _ h => h) (Or.inl ⟨by rfl, ?_⟩) ?_ ?_
              rotate_left
              ·
               intro w'
               go_simp
               with_reducible rfl
              rotate_left
              ·
               exact put19_
              refine pure_ (i := 5) (N := some 36) (v := ?_) (a' := ?_) #[true, false, true, true, false, true, false, false, false, false] rfl rfl (any_of HT_.out q19_16) (fun _ _ _ h => h) (Or.inl ⟨by rfl, ?_⟩) ?_ ?_
              rotate_left
              ·
               intro w'
               go_simp
               with_reducible rfl
              rotate_left
              ·
               exact put19_
              refine take_ (i := 1) (N := some 32) (v := ?_) (a' := ?_) #[true, true, true, true, false, true, false, false, false, false] rfl rfl (take_ofW HT_.out HW_.out q19_16) (fun _ _ _ h => h) (Or.inl ⟨by rfl, ?_⟩) hHeld ?_ ?_
              rotate_left
              ·
               rintro w' ⟨s0, s1⟩
               go_simp
               with_reducible rfl
              rotate_left
              ·
               exact put19_
              refine pure_ (i := 4) (N := some 35) (v := ?_) (a' := ?_) #[true, true, true, true, true, true, false, false, false, false] rfl rfl (any_of HT_.out q19_16) (fun _ _ _ h => h) (Or.inl ⟨by rfl, ?_⟩) ?_ ?_
              rotate_left
              ·
               intro w'
               go_simp
               with_reducible rfl
              rotate_left
              ·
               exact put19_
              refine take_ (i := 6) (N := some 37) (v := ?_) (a' := ?_) #[true, true, true, true, true, true, true, false, false, false] rfl rfl (take_ofW HT_.out HW_.out q19_16) (fun _ _ _ h => h) (Or.inl ⟨by rfl, ?_⟩) hHeld ?_ ?_
              rotate_left
              ·
               rintro w' ⟨s0, s1⟩
               go_simp
               with_reducible rfl
              rotate_left
              ·
               exact put19_
              refine pure_ (i := 7) (N := some 38) (v := ?_) (a' := ?_) #[true, true, true, true, true, true, true, true, false, false] rfl rfl (any_of HT_.out q19_16) (fun _ _ _ h => h) (Or.inl ⟨by rfl, ?_⟩) ?_ ?_
              rotate_left
              ·
               intro w'
               go_simp
               with_reducible rfl
              rotate_left
              ·
               exact put19_
              refine one_ (i := 8) (N := some 11) #[true, true, true, true, true, true, true, true, true, false] rfl rfl (one_of HT_.out q19_16) (by decide) (fun K hK => ?_)
              refine box_step ?hg (N := 11) ?hd (cs := #[.int .i64 0, .int .i64 0]) (t := 25) ?hr ?_; (case hd => rfl); (case hg => rfl); (case hr => first | (go_simp; done) | (go_simp; rfl))
              intro gb476 hg w24 hbox hb
              have n0_ := Aside0.mk (Kd.R_below (Kd.R_elderB q19_13 gb476 (Nat.le_of_eq hg.symm)) hb)
              have n1_ := Aside0.mk (Kd.R_below q19_12 hb)
              have n2_ := Aside0.mk (blk_below (g := gb471) (o := .cells #[.int .i64 x472000_2, .int .i64 x472001_2] 25 (0, 0)) q19_11 hb)
              have n3_ := Aside0.mk (below_step q19_7 hb)
              have n4_ := Aside0.mk (hbox)
              have n5_ := Aside0.mk ((by rw [hg]; exact (below_size q19_7) : w.heap.size ≤ gb476))
              have n6_ := Aside0.mk ((by rw [hg]; exact (below_size q19_7) : w.heap.size ≤ gb476))
              have n7_ := Aside0.mk ((by rw [hg]; exact Nat.ne_of_lt (blk_lt (g := gb471) (o := .cells #[.int .i64 x472000_2, .int .i64 x472001_2] 25 (0, 0)) q19_11) : gb471 ≠ gb476))
              have n8_ := Aside0.mk ((by rw [hg]; exact Nat.ne_of_gt (blk_lt (g := gb471) (o := .cells #[.int .i64 x472000_2, .int .i64 x472001_2] 25 (0, 0)) q19_11) : gb476 ≠ gb471))
              clear HO_6
              clear HO_25
              clear BK471
              clear HB
              have HO_6 := n0_
              have HO_25 := n1_
              have BK471 := n2_
              have HB := n3_
              have BK476 := n4_
              have GW476 := n5_
              have GE476 := n6_
              have NB471_476 := n7_
              have NB476_471 := n8_
              clear n0_ n1_ n2_ n3_ n4_ n5_ n6_ n7_ n8_
              clear hb hbox hg
              refine hK.out _ _ ⟨(blk_cell BK471.out 0).trans rfl, (blk_cell BK471.out 1).trans rfl⟩ (fun hHeld => ?_)
              clear hK K
              refine norm_ (a' := ?_) ?_ ?_
              rotate_left
              ·
               show Act.put _ (some 11) _ = _
               exact put19_
              refine one_ (i := 9) (N := none) #[true, true, true, true, true, true, true, true, true, true] rfl rfl (one_of HT_.out q19_16) (by decide) (fun K hK => ?_)
              have hs25 : w24.cell? ⟨gb476, 0, none⟩ = some (.int .i64 0) := (blk_cell BK476.out 0).trans rfl
              have hfs25 := blk_frozen BK476.out 0
              have hns25_0 := NB471_476.out
              have hms25_0 := NB476_471.out
              have hs26 : w24.cell? ⟨gb476, 1, none⟩ = some (.int .i64 0) := (blk_cell BK476.out 1).trans rfl
              have hfs26 := blk_frozen BK476.out 1
              have hns26_0 := NB471_476.out
              have hms26_0 := NB476_471.out
              refine skip_ (w1 := ?_) (by rfl) rfl ?_ ?_
              rotate_left
              ·
               go_simp
               rfl
              refine hK.out _ _ ⟨((cell_far (p := ⟨gb476, _, none⟩) NB471_476.out _).trans (((cell_far (p := ⟨gb476, _, none⟩) NB471_476.out _).trans (hHeld.1)))), ((cell_far (p := ⟨gb476, _, none⟩) NB471_476.out _).trans (((cell_far (p := ⟨gb476, _, none⟩) NB471_476.out _).trans (hHeld.2))))⟩ (fun hHeld => ?_)
              clear hK K
              refine done_ (done_of HT_.out q19_16) ?_
              have hnb27 := NB476_471.out
              have hnc27 := NB471_476.out
              have hcz28_0 : w24.cell? ⟨gb476, 0, none⟩ = some (.int .i64 0) := (blk_cell BK476.out 0).trans rfl
              have hcz28_1 : w24.cell? ⟨gb476, 1, none⟩ = some (.int .i64 0) := (blk_cell BK476.out 1).trans rfl
              have hfz28_0 := blk_frozen BK476.out 0
              have hfz28_1 := blk_frozen BK476.out 1
              try go_wp2_with (first | ((with_reducible refine gate_callee (f := 30) rfl ?_); refine goesL_ (some 41) rfl rfl Try.func30 q19_16 rfl #[.slice (some ad470) l1.length c1, .agg #[.int .i64 (Go.bits .andNot .i64 x472000_2 (ji20)), .int .i64 x472001_2]] rfl q19_6 ?_; (with_reducible refine (impl_Follows.calls k2 _ _ l1 (Go.bits .andNot .i64 x472000_2 (ji20)) x472001_2 true _ ?side1 ?side2 A21.out).mono ?_); (case side1 => exact Kd.C_below HR1.out q19_5); (case side2 => exact HC1.out); rintro e w29 ⟨rfl, hb⟩; refine ⟨_, rfl, ?_⟩; have n0_ := Aside0.mk (Kd.R_below q19_3 hb); have n1_ := Aside0.mk (Kd.R_below q19_4 hb); have n2_ := Aside0.mk (blk_below (g := gb471) (o := .cells #[.int .i64 x472000_2, .int .i64 x472001_2] 25 (0, 0)) q19_2 hb); have n3_ := Aside0.mk (blk_below (g := gb476) (o := .cells #[.int .i64 (Go.bits .andNot .i64 x472000_2 (ji20)), .int .i64 x472001_2] 25 (0, 0)) q19_1 hb); have n4_ := Aside0.mk (below_step q19_5 hb); clear HO_6; clear HO_25; clear BK471; clear BK476; clear HB; have HO_6 := n0_; have HO_25 := n1_; have BK471 := n2_; have BK476 := n3_; have HB := n4_; clear n0_ n1_ n2_ n3_ n4_; (try clear hb); (try clear hb2); (try clear hk); (try clear hi); have hcz30_0 : w29.cell? ⟨gb476, 0, none⟩ = some (.int .i64 (Go.bits .andNot .i64 x472000_2 (ji20))) := (blk_cell BK476.out 0).trans rfl; have hcz30_1 : w29.cell? ⟨gb476, 1, none⟩ = some (.int .i64 x472001_2) := (blk_cell BK476.out 1).trans rfl; have hfz30_0 := blk_frozen BK476.out 0; have hfz30_1 := blk_frozen BK476.out 1; have hcz31_0 : w29.cell? ⟨gb471, 0, none⟩ = some (.int .i64 x472000_2) := (blk_cell BK471.out 0).trans rfl; have hcz31_1 : w29.cell? ⟨gb471, 1, none⟩ = some (.int .i64 x472001_2) := (blk_cell BK471.out 1).trans rfl; have hfz31_0 := blk_frozen BK471.out 0; have hfz31_1 := blk_frozen BK471.out 1))
              go_roundg k2
              case measure => have := HK1.out; have := HK2.out; omega
              case rel => exact ⟨(wrap64 (x27_2 + 1)), (Go.bits .andNot .i64 x472000_2 (ji20)), (x472001_2), q19_15, H', ⟨by have := HK1.out; have := HK2.out; omega⟩, ⟨by (with_reducible repeat (first | apply Kd.R_alloc | apply Kd.R_drewN | apply Kd.R_drew)); exact Kd.R_mono (Kd.R_far (p := ⟨gb471, 1, none⟩) (Kd.R_far (p := ⟨gb471, 0, none⟩) (Kd.R_mono HO_6.out (fun k_ hk => (⟨hk, hk.1⟩ : _ ∧ k_ ≠ gb471))) (fun _ hk => hk.2) (.int .i64 (Go.bits .andNot .i64 x472000_2 (ji20)))) (fun _ hk => hk.2) (.int .i64 x472001_2)) (fun _ hk => hk.1.1)⟩, ⟨by (with_reducible repeat (first | apply Kd.R_alloc | apply Kd.R_drewN | apply Kd.R_drew)); exact Kd.R_mono (Kd.R_far (p := ⟨gb471, 1, none⟩) (Kd.R_far (p := ⟨gb471, 0, none⟩) (Kd.R_types HO_25.out BK471.out (by decide)) (fun _ hk => hk.2) (.int .i64 (Go.bits .andNot .i64 x472000_2 (ji20)))) (fun _ hk => hk.2) (.int .i64 x472001_2)) (fun _ hk => trivial)⟩, ⟨by (with_reducible repeat (first | refine blk_drewN ?_ _ | refine blk_drew ?_ | refine blk_alloc ?_ _)); refine blk_put (cs := #[.int .i64 (Go.bits .andNot .i64 x472000_2 (ji20)), .int .i64 x472001_2]) ?_ 1 _ rfl; (with_reducible repeat (first | refine blk_drewN ?_ _ | refine blk_drew ?_ | refine blk_alloc ?_ _)); refine blk_put (cs := #[.int .i64 x472000_2, .int .i64 x472001_2]) ?_ 0 _ rfl; (with_reducible repeat (first | refine blk_drewN ?_ _ | refine blk_drew ?_ | refine blk_alloc ?_ _)); exact BK471.out⟩, ⟨by repeat (first | (with_reducible first | exact HB.out | apply below_alloc | apply pw_below_drewN | apply below_drew1 | refine below_set ?_ GE471.out | refine below_set ?_ GE476.out) | exact HB.out)⟩⟩
             ·
              replace c22 := Bool.eq_false_iff.mpr c22
              subst c22
              have H1 : (impl_LeftReduced.l1 k2 l1 x6_1 l1 (l1.length : Int) x19_1 t472 (t472.length : Int) (wrap64 (x27_2 + 1)) x472000_2 x472001_2) = some (r1, r2) := by rw [if_neg (show ¬ (false = true) by decide)] at H; exact H
              clear H
              have H := H1
              clear H1
              have H' := Aside0.mk H
              clear H
              have p475 : 0 ≤ (x27_2 : Int) := of_decide_eq_true q19_14
              have q475 : x27_2 < (t472.length : Int) := of_decide_eq_true q19_14
              obtain ⟨ad475, e475, hx475_0⟩ := Kd.at_int (Kd.R_reads' HO_25.out).2.2 x27_2 p475 q475
              cases e475
              replace p475 := eq_true p475
              replace q475 := eq_true q475
              try go_wp2
              have n0_ := Aside0.mk (Kd.R_drew HO_6.out)
              have n1_ := Aside0.mk (Kd.R_drew HO_25.out)
              have n2_ := Aside0.mk (blk_drew BK471.out)
              have n3_ := Aside0.mk (below_drew1 HB.out)
              clear HO_6
              clear HO_25
              clear BK471
              clear HB
              have HO_6 := n0_
              have HO_25 := n1_
              have BK471 := n2_
              have HB := n3_
              clear n0_ n1_ n2_ n3_
              refine start_ (n := 10) (S := fun w' => w'.cell? ⟨gb471, 0, none⟩ = some (.int .i64 x472000_2) ∧ w'.cell? ⟨gb471, 1, none⟩ = some (.int .i64 x472001_2)) (ds := []) #[false, false, false, false, false, false, false, false, false, false] q19_16 rfl rfl ⟨(blk_cell BK471.out 0).trans rfl, (blk_cell BK471.out 1).trans rfl⟩ (fun hHeld => ?_); refine with_tabW impl_LeftReduced.tab10 impl_LeftReduced.bits10 (fun HT_ HW_ => ?_)
              generalize wr.drew = w32 at HO_6 HO_25 BK471 HB hHeld ⊢
              refine pure_ (i := 0) (N := some 31) (v := ?_) (a' := ?_) #[true, false, false, false, false, false, false, false, false, false] rfl rfl (any_of HT_.out q19_16) (fun _ _ _ h => h) (Or.inl ⟨by rfl, ?_⟩) ?_ ?_
              rotate_left
              ·
               intro w'
               go_simp
               with_reducible rfl
              rotate_left
              ·
               exact put19_
              refine pure_ (i := 2) (N := some 33) (v := ?_) (a' := ?_) #[true, false, true, false, false, false, false, false, false, false] rfl rfl (any_of HT_.out q19_16) (fun _ _ _ h => h) (Or.inl ⟨by rfl, ?_⟩) ?_ ?_
              rotate_left
              ·
               intro w'
               go_simp
               with_reducible rfl
              rotate_left
              ·
               exact put19_
              refine pure_ (i := 3) (N := some 34) (v := ?_) (a' := ?_) #[true, false, true, true, false, false, false, false, false, false] rfl rfl (any_of HT_.out q19_16) (fun _ _ _ h => h) (Or.inl ⟨by rfl, ?_⟩) ?_ ?_
              rotate_left
              ·
               intro w'
               go_simp
               with_reducible rfl
              rotate_left
              ·
               exact put19_
              refine pure_ (i := 5) (N := some 36) (v := ?_) (a' := ?_) #[true, false, true, true, false, true, false, false, false, false] rfl rfl (any_of HT_.out q19_16) (fun _ _ _ h => h) (Or.inl ⟨by rfl, ?_⟩) ?_ ?_
              rotate_left
              ·
               intro w'
               go_simp
               with_reducible rfl
              rotate_left
              ·
               exact put19_
              refine take_ (i := 1) (N := some 32) (v := ?_) (a' := ?_) #[true, true, true, true, false, true, false, false, false, false] rfl rfl (take_ofW HT_.out HW_.out q19_16) (fun _ _ _ h => h) (Or.inl ⟨by rfl, ?_⟩) hHeld ?_ ?_
              rotate_left
              ·
               rintro w' ⟨s0, s1⟩
               go_simp
               with_reducible rfl
              rotate_left
              ·
               exact put19_
              refine pure_ (i := 4) (N := some 35) (v := ?_) (a' := ?_) #[true, true, true, true, true, true, false, false, false, false] rfl rfl (any_of HT_.out q19_16) (fun _ _ _ h => h) (Or.inl ⟨by rfl, ?_⟩) ?_ ?_
              rotate_left
              ·
               intro w'
               go_simp
               with_reducible rfl
              rotate_left
              ·
               exact put19_
              refine take_ (i := 6) (N := some 37) (v := ?_) (a' := ?_) #[true, true, true, true, true, true, true, false, false, false] rfl rfl (take_ofW HT_.out HW_.out q19_16) (fun _ _ _ h => h) (Or.inl ⟨by rfl, ?_⟩) hHeld ?_ ?_
              rotate_left
              ·
               rintro w' ⟨s0, s1⟩
               go_simp
               with_reducible rfl
              rotate_left
              ·
               exact put19_
              refine pure_ (i := 7) (N := some 38) (v := ?_) (a' := ?_) #[true, true, true, true, true, true, true, true, false, false] rfl rfl (any_of HT_.out q19_16) (fun _ _ _ h => h) (Or.inl ⟨by rfl, ?_⟩) ?_ ?_
              rotate_left
              ·
               intro w'
               go_simp
               with_reducible rfl
              rotate_left
              ·
               exact put19_
              refine one_ (i := 8) (N := some 11) #[true, true, true, true, true, true, true, true, true, false] rfl rfl (one_of HT_.out q19_16) (by decide) (fun K hK => ?_)
              refine box_step ?hg (N := 11) ?hd (cs := #[.int .i64 0, .int .i64 0]) (t := 25) ?hr ?_; (case hd => rfl); (case hg => rfl); (case hr => first | (go_simp; done) | (go_simp; rfl))
              intro gb476 hg w33 hbox hb
              have n0_ := Aside0.mk (Kd.R_below (Kd.R_elderB q19_13 gb476 (Nat.le_of_eq hg.symm)) hb)
              have n1_ := Aside0.mk (Kd.R_below q19_12 hb)
              have n2_ := Aside0.mk (blk_below (g := gb471) (o := .cells #[.int .i64 x472000_2, .int .i64 x472001_2] 25 (0, 0)) q19_11 hb)
              have n3_ := Aside0.mk (below_step q19_7 hb)
              have n4_ := Aside0.mk (hbox)
              have n5_ := Aside0.mk ((by rw [hg]; exact (below_size q19_7) : w.heap.size ≤ gb476))
              have n6_ := Aside0.mk ((by rw [hg]; exact (below_size q19_7) : w.heap.size ≤ gb476))
              have n7_ := Aside0.mk ((by rw [hg]; exact Nat.ne_of_lt (blk_lt (g := gb471) (o := .cells #[.int .i64 x472000_2, .int .i64 x472001_2] 25 (0, 0)) q19_11) : gb471 ≠ gb476))
              have n8_ := Aside0.mk ((by rw [hg]; exact Nat.ne_of_gt (blk_lt (g := gb471) (o := .cells #[.int .i64 x472000_2, .int .i64 x472001_2] 25 (0, 0)) q19_11) : gb476 ≠ gb471))
              clear HO_6
              clear HO_25
              clear BK471
              clear HB
              have HO_6 := n0_
              have HO_25 := n1_
              have BK471 := n2_
              have HB := n3_
              have BK476 := n4_
              have GW476 := n5_
              have GE476 := n6_
              have NB471_476 := n7_
              have NB476_471 := n8_
              clear n0_ n1_ n2_ n3_ n4_ n5_ n6_ n7_ n8_
              clear hb hbox hg
              refine hK.out _ _ ⟨(blk_cell BK471.out 0).trans rfl, (blk_cell BK471.out 1).trans rfl⟩ (fun hHeld => ?_)
              clear hK K
              refine norm_ (a' := ?_) ?_ ?_
              rotate_left
              ·
               show Act.put _ (some 11) _ = _
               exact put19_
              refine one_ (i := 9) (N := none) #[true, true, true, true, true, true, true, true, true, true] rfl rfl (one_of HT_.out q19_16) (by decide) (fun K hK => ?_)
              have hs34 : w33.cell? ⟨gb476, 0, none⟩ = some (.int .i64 0) := (blk_cell BK476.out 0).trans rfl
              have hfs34 := blk_frozen BK476.out 0
              have hns34_0 := NB471_476.out
              have hms34_0 := NB476_471.out
              have hs35 : w33.cell? ⟨gb476, 1, none⟩ = some (.int .i64 0) := (blk_cell BK476.out 1).trans rfl
              have hfs35 := blk_frozen BK476.out 1
              have hns35_0 := NB471_476.out
              have hms35_0 := NB476_471.out
              refine skip_ (w1 := ?_) (by rfl) rfl ?_ ?_
              rotate_left
              ·
               go_simp
               rfl
              refine hK.out _ _ ⟨((cell_far (p := ⟨gb476, _, none⟩) NB471_476.out _).trans (((cell_far (p := ⟨gb476, _, none⟩) NB471_476.out _).trans (hHeld.1)))), ((cell_far (p := ⟨gb476, _, none⟩) NB471_476.out _).trans (((cell_far (p := ⟨gb476, _, none⟩) NB471_476.out _).trans (hHeld.2))))⟩ (fun hHeld => ?_)
              clear hK K
              refine done_ (done_of HT_.out q19_16) ?_
              have hnb36 := NB476_471.out
              have hnc36 := NB471_476.out
              have hcz37_0 : w33.cell? ⟨gb476, 0, none⟩ = some (.int .i64 0) := (blk_cell BK476.out 0).trans rfl
              have hcz37_1 : w33.cell? ⟨gb476, 1, none⟩ = some (.int .i64 0) := (blk_cell BK476.out 1).trans rfl
              have hfz37_0 := blk_frozen BK476.out 0
              have hfz37_1 := blk_frozen BK476.out 1
              try go_wp2_with (first | ((with_reducible refine gate_callee (f := 30) rfl ?_); refine goesL_ (some 41) rfl rfl Try.func30 q19_16 rfl #[.slice (some ad470) l1.length c1, .agg #[.int .i64 (Go.bits .andNot .i64 x472000_2 (ji20)), .int .i64 x472001_2]] rfl q19_6 ?_; (with_reducible refine (impl_Follows.calls k2 _ _ l1 (Go.bits .andNot .i64 x472000_2 (ji20)) x472001_2 false _ ?side1 ?side2 A21.out).mono ?_); (case side1 => exact Kd.C_below HR1.out q19_5); (case side2 => exact HC1.out); rintro e w38 ⟨rfl, hb⟩; refine ⟨_, rfl, ?_⟩; have n0_ := Aside0.mk (Kd.R_below q19_3 hb); have n1_ := Aside0.mk (Kd.R_below q19_4 hb); have n2_ := Aside0.mk (blk_below (g := gb471) (o := .cells #[.int .i64 x472000_2, .int .i64 x472001_2] 25 (0, 0)) q19_2 hb); have n3_ := Aside0.mk (blk_below (g := gb476) (o := .cells #[.int .i64 (Go.bits .andNot .i64 x472000_2 (ji20)), .int .i64 x472001_2] 25 (0, 0)) q19_1 hb); have n4_ := Aside0.mk (below_step q19_5 hb); clear HO_6; clear HO_25; clear BK471; clear BK476; clear HB; have HO_6 := n0_; have HO_25 := n1_; have BK471 := n2_; have BK476 := n3_; have HB := n4_; clear n0_ n1_ n2_ n3_ n4_; (try clear hb); (try clear hb2); (try clear hk); (try clear hi)))
              go_roundg k2
              case measure => have := HK1.out; have := HK2.out; omega
              case rel => exact ⟨(wrap64 (x27_2 + 1)), (x472000_2), (x472001_2), q19_15, H', ⟨by have := HK1.out; have := HK2.out; omega⟩, ⟨by (with_reducible repeat (first | apply Kd.R_alloc | apply Kd.R_drewN | apply Kd.R_drew)); exact Kd.R_mono HO_6.out (fun _ hk => hk.1)⟩, ⟨by (with_reducible repeat (first | apply Kd.R_alloc | apply Kd.R_drewN | apply Kd.R_drew)); exact HO_25.out⟩, ⟨by (with_reducible repeat (first | refine blk_drewN ?_ _ | refine blk_drew ?_ | refine blk_alloc ?_ _)); exact BK471.out⟩, ⟨by repeat (first | (with_reducible first | exact HB.out | apply below_alloc | apply pw_below_drewN | apply below_drew1 | refine below_set ?_ GE471.out | refine below_set ?_ GE476.out) | exact HB.out)⟩⟩
            ·
             rw [if_neg c19] at H
             exact absurd H (by simp)
           ·
            rw [if_neg c18] at H
            exact absurd H (by simp)
          ·
           rw [if_neg c17] at H
           exact absurd H (by simp)
         ·
          rw [if_neg c16] at H
          have c16b0 : decide (x27_2 < (t472.length : Int)) = false := decide_eq_false c16
          clear c16
          by_cases c39 : x6_1.length < 8796093022208
          ·
           rw [if_pos c39] at H
           have LMc39 := Aside0.mk c39
           clear c39
           obtain ⟨y478, hy478⟩ : ∃ y_ : List (S25), y_ = (x6_1 ++ [(⟨x472000_2, x472001_2⟩ : S25)]) := ⟨_, rfl⟩
           replace H : (impl_LeftReduced.l0 k2 l1 y478 l1 (l1.length : Int) (wrap64 (x19_1 + 1))) = some (r1, r2) := by first | (rw [hy478]; with_reducible exact H) | (have H2_ := (Option.bind_some _ _).symm.trans H; rw [hy478]; with_reducible exact H2_) | (have H2_ := (Option.bind_some _ _).symm.trans H; with_reducible exact H2_) | with_reducible exact H | (rw [hy478]; exact H) | exact H
           have Ny478 := Aside0.mk hy478
           clear hy478
           have H' := Aside0.mk H
           clear H
           have hcz40_0 : wr.cell? ⟨gb471, 0, none⟩ = some (.int .i64 x472000_2) := (blk_cell BK471.out 0).trans rfl
           have hcz40_1 : wr.cell? ⟨gb471, 1, none⟩ = some (.int .i64 x472001_2) := (blk_cell BK471.out 1).trans rfl
           have hfz40_0 := blk_frozen BK471.out 0
           have hfz40_1 := blk_frozen BK471.out 1
           go_wp2_with (first | ((with_reducible refine gate_builtin (b := .append) (xs := #[.tmp 44, .tmp 46]) rfl ?_); at_builtin; refine Kd.R_append k25 (w0 := w) w.heap.size rfl (.tmp 44) (.tmp 46) 31 25 (.agg #[(.int .i64 0), (.int .i64 0)]) 16 rfl Try.underlying31 info25 rfl (by decide) (by omega) u6 x6_1 (⟨x472000_2, x472001_2⟩ : S25) [.int .i64 x472000_2, .int .i64 x472001_2] (fun k_ => k_ ≠ gb471) (fun _ => False) rfl rfl ?aP (fun _ hk => hk.elim) ?aF ?aO ?aB ?aS ?aL ?_; (case aP => exact k25_mkM _ _ _ (⟨x472000_2, x472001_2⟩ : S25)); (case aB => exact q19_7); (case aF => exact (fun k_ hk => Kd.freshB (g := gb471) (o := .cells #[.int .i64 x472000_2, .int .i64 x472001_2] 25 (0, 0)) q19_11 k_ hk)); (case aO => exact q19_13); (case aS => exact (below_size q19_7)); (case aL => have := LMc39.out; omega); intro v479 w41 ho hb hg hat; rw [← Ny478.out] at ho; have n0_ := Aside0.mk (Kd.R_over' q19_12 (Kd.R_typed q19_13) (by decide) hg); have n1_ := Aside0.mk (blk_grown (g := gb471) (o := .cells #[.int .i64 x472000_2, .int .i64 x472001_2] 25 (0, 0)) q19_11 hg (Kd.R_away HO_6.out (fun _ hk => hk))); have n2_ := Aside0.mk (hb); have n3_ := Aside0.mk (ho); clear HO_25; clear BK471; clear HB; clear HO_6; have HO_25 := n0_; have BK471 := n1_; have HB := n2_; have HO480 := n3_; clear n0_ n1_ n2_ n3_; clear ho hb hg hat))
           go_roundg k2
           case measure => have := HK1.out; have := HK2.out; omega
           case rel => exact ⟨(y478), (wrap64 (x19_1 + 1)), q19_15, H', ⟨by have := HK1.out; have := HK2.out; omega⟩, ⟨by (with_reducible repeat (first | apply Kd.R_alloc | apply Kd.R_drewN | apply Kd.R_drew)); exact Kd.R_mono HO480.out (fun _ hk => trivial)⟩, ⟨by repeat (first | (with_reducible first | exact HB.out | apply below_alloc | apply pw_below_drewN | apply below_drew1 | refine below_set ?_ GE471.out) | exact HB.out)⟩⟩
          ·
           rw [if_neg c39] at H
           exact absurd H (by simp)
      ·
       rw [if_neg c10] at H
       exact absurd H (by simp)
     ·
      rw [if_neg c9] at H
      exact absurd H (by simp)
    ·
     rw [if_neg c8] at H
     have c8b0 : decide (x19_1 < (l1.length : Int)) = false := decide_eq_false c8
     clear c8
     simp only [Option.some.injEq, Prod.mk.injEq] at H
     obtain ⟨rfl, rfl⟩ := H
     go_wp2
     go_ret2
     exact ⟨_, by first | rfl | (simp [errW_none, errW_some] <;> rfl) | (simp [*, errW_none, errW_some] <;> rfl), by (with_reducible repeat (first | apply Kd.R_alloc | apply Kd.R_drewN | apply Kd.R_drew)); exact HO_6.out, by repeat (first | (with_reducible first | exact HB.out | apply below_alloc | apply pw_below_drewN | apply below_drew1) | exact HB.out)⟩
 ·
  replace c4 := Bool.eq_false_iff.mpr c4
  subst c4
  have H1 : (some (([] : List (S25)), false)) = some (r1, r2) := by rw [if_neg (show ¬ (false = true) by decide)] at H; exact H
  clear H
  have H := H1
  clear H1
  simp only [Option.some.injEq, Prod.mk.injEq] at H
  obtain ⟨rfl, rfl⟩ := H
  go_enter Try.func43, Try.ntmps43
  go_wp2_with (first | ((with_reducible refine gate_callee (f := 21) rfl ?_); refine goesL_ (some 14) rfl rfl Try.func21 q19_16 rfl #[.int .i64 a0, .slice A1 l1.length c1] rfl q19_9 ?_; (with_reducible refine (impl_AreRules.calls a0 _ _ l1 false _ ?side1 ?side2 A3.out).mono ?_); (case side1 => exact q19_8); (case side2 => exact HC1.out); rintro e w42 ⟨rfl, hb⟩; refine ⟨_, rfl, ?_⟩; have n0_ := Aside0.mk (below_step q19_10 hb); clear HB; have HB := n0_; clear n0_; (try clear hb); (try clear hb2); (try clear hk); (try clear hi)))
  go_ret2
  exact ⟨_, by first | rfl | (simp [errW_none, errW_some] <;> rfl) | (simp [*, errW_none, errW_some] <;> rfl), by first | exact Kd.R_nil _ _ _ _ _ | exact Kd.N_nil _ _ _ _ _ | exact Kd.V_nil _ _ _ _ _ | exact Kd.Q_nil _ _ _ _ _ | exact Kd.S_nil _ _ _ _ _, by repeat (first | (with_reducible first | exact HB.out | apply below_alloc | apply pw_below_drewN | apply below_drew1) | exact HB.out)⟩

end Go.Proofs.Ytjkbmdbecplgiaa.Pr
