/- Functions of the program as plain functions, each with the proof that its call answers so. Written by a program of this place (myprint.py over the kit's print). No condition beyond what each statement says. -/
import Derived.Test.YtemhlblajnlogaaPr0
import Derived.Test.YtemhlblajnlogaaPr1
import Derived.Test.YtemhlblajnlogaaPr3
import Derived.Test.YtemhlblajnlogaaPr8
import Derived.Test.YtemhlblajnlogaaPr23
namespace Go.Proofs.Ytemhlblajnlogaa.Pr
open Go.RowKit Go.Proofs.YtemhlblajnlogaaW.PrintWords Go.Proofs.YtemhlblajnlogaaW.PrintLast Go.Proofs.YtemhlblajnlogaaW.PrintMore
attribute [local go_sem] max2_int min2_int max_two min_two max_three min_three max_four min_four   -- for this text's walks alone
set_option linter.unusedVariables false
set_option linter.unusedSimpArgs false

theorem put32_ {P : Prop} (h : P := by simp only [Act.put, List.setIfInBounds_toArray, List.set_cons_zero, List.set_cons_succ, i64_w, i32_w]; rfl) : P := h
/-! ### laws_FnExactHoldsIn: function 9 -/
theorem q32_1 {P : Prop} (h : P := by repeat (first | (with_reducible first | exact HB.out | apply below_alloc | apply pw_below_drewN | apply below_drew1 | refine below_set ?_ GE386.out | refine below_set ?_ GE387.out | refine below_set ?_ GE400.out) | exact HB.out)) : P := h
theorem q32_2 {P : Prop} (h : P := by repeat (first | (with_reducible first | exact HB.out | apply below_alloc | apply pw_below_drewN | apply below_drew1 | refine below_set ?_ GE386.out | refine below_set ?_ GE387.out) | exact HB.out)) : P := h
theorem q32_3 {P : Prop} (h : P := by repeat (first | exact (Kd.C_below HR0_1.out HB.out) | (with_reducible refine Kd.C_alloc ?_ _) | (with_reducible refine Kd.C_drewN ?_ _) | (with_reducible refine Kd.C_drew ?_))) : P := h
theorem q32_4 {P : Prop} (h : P := by repeat (first | exact (Kd.R_reads' HO392.out).2.2 | (with_reducible refine Kd.C_alloc ?_ _) | (with_reducible refine Kd.C_drewN ?_ _) | (with_reducible refine Kd.C_drew ?_))) : P := h
theorem q32_5 {P : Prop} (h : P := by repeat (first | exact (Kd.R_reads' HO399.out).2.2 | (with_reducible refine Kd.C_alloc ?_ _) | (with_reducible refine Kd.C_drewN ?_ _) | (with_reducible refine Kd.C_drew ?_))) : P := h
theorem q32_6 {P : Prop} (h : P := by repeat (first | exact (Kd.R_reads' HO407.out).2.2 | (with_reducible refine Kd.C_alloc ?_ _) | (with_reducible refine Kd.C_drewN ?_ _) | (with_reducible refine Kd.C_drew ?_))) : P := h
theorem q32_7 {P : Prop} (h : P := by repeat (first | (with_reducible first | exact HB.out | apply below_alloc | apply pw_below_drewN | apply below_drew1 | refine below_set ?_ GE386.out) | exact HB.out)) : P := h
theorem q32_8 {P : Prop} (h : P := by (try simp only [List.map_toArray, List.map_cons, List.map_nil]); first | done | rfl | (simp only [List.length_drop, List.length_take]; rfl)) : P := h
theorem q32_9 {P : Prop} (h : P := by repeat (first | (with_reducible first | exact HB.out | apply below_alloc | apply pw_below_drewN | apply below_drew1) | exact HB.out)) : P := h
theorem q32_10 {P : Prop} (h : P := by (with_reducible repeat (first | refine blk_drewN ?_ _ | refine blk_drew ?_ | refine blk_alloc ?_ _)); exact BK386.out) : P := h
theorem q32_11 {P : Prop} (h : P := by (with_reducible repeat (first | refine blk_drewN ?_ _ | refine blk_drew ?_ | refine blk_alloc ?_ _)); exact BK387.out) : P := h
theorem q32_12 {P : Prop} (h : P := by (with_reducible repeat (first | refine blk_drewN ?_ _ | refine blk_drew ?_ | refine blk_alloc ?_ _)); exact BK400.out) : P := h
theorem q32_13 {P : Prop} (h : P := by (with_reducible repeat (first | apply Kd.R_alloc | apply Kd.R_drewN | apply Kd.R_drew)); exact HO392.out) : P := h
theorem q32_14 {P : Prop} (h : P := by (with_reducible repeat (first | apply Kd.R_alloc | apply Kd.R_drewN | apply Kd.R_drew)); exact HO399.out) : P := h
theorem q32_15 {P : Prop} (h : P := by kernel_rfl) : P := h
theorem q32_16 {P : Prop} (h : P := by decide) : P := h
def laws_FnExactHoldsIn.f (k : Nat) (a0_0 : Int) (l0_1 : List Int) (a1_0 : Int) (a1_1 : Int) : Option (Bool) := (laws_szContext.f a0_0 l0_1 1048576).bind fun t388 => (if t388 < 0 then (some true) else ((laws_toContext.f k a0_0 l0_1).bind fun bt389 => ((laws_toRule.f a1_0 a1_1).bind fun bt393 => ((spec_HoldsIn.f k bt389.1 bt389.2 bt393.1 bt393.2).bind fun t395 => ((laws_toContext.f k a0_0 l0_1).bind fun bt396 => ((laws_toRule.f a1_0 a1_1).bind fun bt401 => ((impl_HoldsIn.f k bt396.1 bt396.2 bt401.1 bt401.2).bind fun t403 => (if (t403 != t395) = true then (some false) else ((laws_toContext.f k a0_0 l0_1).bind fun bt404 => ((laws_eqContext.f k bt396.1 bt396.2 bt404.1 bt404.2).bind fun t408 => (if t408 = true then (some true) else (some false))))))))))))
theorem laws_FnExactHoldsIn.mono : ∀ a0 a1 a2 a3 k, LeO (laws_FnExactHoldsIn.f k a0 a1 a2 a3) (laws_FnExactHoldsIn.f (k + 1) a0 a1 a2 a3) := by
 intro a0 a1 a2 a3 k
 unfold laws_FnExactHoldsIn.f
 repeat' first
   | (with_reducible exact impl_HoldsIn.mono _ _ _ _ _)
   | (with_reducible exact laws_eqContext.mono _ _ _ _ _)
   | (with_reducible exact laws_toContext.mono _ _ _)
   | (with_reducible exact spec_HoldsIn.mono _ _ _ _ _)
   | (with_reducible exact LeO.refl _)
   | (with_reducible exact LeO.none _)
   | (with_reducible refine LeO.ite ?_ ?_)
   | (with_reducible refine LeO.bind ?_ (fun _ => ?_))
   | exact impl_HoldsIn.mono _ _ _ _ _
   | exact laws_eqContext.mono _ _ _ _ _
   | exact laws_toContext.mono _ _ _
   | exact spec_HoldsIn.mono _ _ _ _ _
   | exact LeO.none _
   | refine LeO.ite ?_ ?_
   | refine LeO.bind ?_ (fun _ => ?_)
set_option maxHeartbeats 8000000 in
set_option maxRecDepth 100000 in
theorem laws_FnExactHoldsIn.calls (k : Nat) (a0_0 : Int) (A0_1 : Option Addr) (c0_1 : Nat) (l0_1 : List Int) (a1_0 : Int) (a1_1 : Int) (r : Bool) (w : World) (hr0_1 : Kd.C (Kd.int .i64) w A0_1 l0_1.length l0_1) (hc0_1 : l0_1.length ≤ c0_1) (h : laws_FnExactHoldsIn.f k a0_0 l0_1 a1_0 a1_1 = some r) :
  Calls Try.prog 9 #[.agg #[.int .i64 a0_0, .slice A0_1 l0_1.length c0_1], .agg #[.int .i64 a1_0, .int .i64 a1_1]] w fun e w' => e = .returned (.bool r) ∧ Below w.heap.size w w' := by
 have hu24 := Try.underlying24
 have hu33 := Try.underlying33
 have hu27 := Try.underlying27
 have HR0_1 := Aside0.mk hr0_1
 have HC0_1 := Aside0.mk hc0_1
 clear hr0_1 hc0_1
 have HB := Aside0.mk (Below.refl w.heap.size w)
 have H : ((laws_szContext.f a0_0 l0_1 1048576).bind fun t388 => (if t388 < 0 then (some true) else ((laws_toContext.f k a0_0 l0_1).bind fun bt389 => ((laws_toRule.f a1_0 a1_1).bind fun bt393 => ((spec_HoldsIn.f k bt389.1 bt389.2 bt393.1 bt393.2).bind fun t395 => ((laws_toContext.f k a0_0 l0_1).bind fun bt396 => ((laws_toRule.f a1_0 a1_1).bind fun bt401 => ((impl_HoldsIn.f k bt396.1 bt396.2 bt401.1 bt401.2).bind fun t403 => (if (t403 != t395) = true then (some false) else ((laws_toContext.f k a0_0 l0_1).bind fun bt404 => ((laws_eqContext.f k bt396.1 bt396.2 bt404.1 bt404.2).bind fun t408 => (if t408 = true then (some true) else (some false))))))))))))) = some r := h
 clear h
 replace H := Option.bind_eq_some_iff.mp H
 obtain ⟨t388, A30, H⟩ := H
 replace H : (if t388 < 0 then (some true) else ((laws_toContext.f k a0_0 l0_1).bind fun bt389 => ((laws_toRule.f a1_0 a1_1).bind fun bt393 => ((spec_HoldsIn.f k bt389.1 bt389.2 bt393.1 bt393.2).bind fun t395 => ((laws_toContext.f k a0_0 l0_1).bind fun bt396 => ((laws_toRule.f a1_0 a1_1).bind fun bt401 => ((impl_HoldsIn.f k bt396.1 bt396.2 bt401.1 bt401.2).bind fun t403 => (if (t403 != t395) = true then (some false) else ((laws_toContext.f k a0_0 l0_1).bind fun bt404 => ((laws_eqContext.f k bt396.1 bt396.2 bt404.1 bt404.2).bind fun t408 => (if t408 = true then (some true) else (some false)))))))))))) = some r := H
 have A3 := Aside0.mk A30
 clear A30
 by_cases c4 : t388 < 0
 ·
  rw [if_pos c4] at H
  have c4b0 : decide (t388 < 0) = true := decide_eq_true c4
  clear c4
  obtain rfl := Option.some.inj H
  go_enter Try.func9, Try.ntmps9
  go_wp2_with (first | ((with_reducible refine gate_dst (N := 2) rfl ?_); refine box_event ?hg (N := 2) ?hd (cs := #[.int .i64 a0_0, .slice A0_1 l0_1.length c0_1]) (t := 24) ?hr ?_; (case hd => rfl); (case hg => rfl); (case hr => first | (go_simp; done) | (go_simp; rfl)); intro gb386 hg w5 hbox hb; have n0_ := Aside0.mk (below_step q32_9 hb); have n1_ := Aside0.mk (hbox); have n2_ := Aside0.mk ((by rw [hg]; exact (below_size q32_9) : w.heap.size ≤ gb386)); have n3_ := Aside0.mk ((by rw [hg]; exact (below_size q32_9) : w.heap.size ≤ gb386)); clear HB; have HB := n0_; have BK386 := n1_; have GW386 := n2_; have GE386 := n3_; clear n0_ n1_ n2_ n3_; clear hb hbox hg) | ((with_reducible refine gate_dst (N := 3) rfl ?_); refine box_event ?hg (N := 3) ?hd (cs := #[.int .i64 a1_0, .int .i64 a1_1]) (t := 33) ?hr ?_; (case hd => rfl); (case hg => rfl); (case hr => first | (go_simp; done) | (go_simp; rfl)); intro gb387 hg w6 hbox hb; have n0_ := Aside0.mk (blk_below (g := gb386) (o := .cells #[.int .i64 a0_0, .slice A0_1 l0_1.length c0_1] 24 (0, 0)) q32_10 hb); have n1_ := Aside0.mk (below_step q32_7 hb); have n2_ := Aside0.mk (hbox); have n3_ := Aside0.mk ((by rw [hg]; exact (below_size q32_7) : w.heap.size ≤ gb387)); have n4_ := Aside0.mk ((by rw [hg]; exact (below_size q32_7) : w.heap.size ≤ gb387)); have n5_ := Aside0.mk ((by rw [hg]; exact Nat.ne_of_lt (blk_lt (g := gb386) (o := .cells #[.int .i64 a0_0, .slice A0_1 l0_1.length c0_1] 24 (0, 0)) q32_10) : gb386 ≠ gb387)); have n6_ := Aside0.mk ((by rw [hg]; exact Nat.ne_of_gt (blk_lt (g := gb386) (o := .cells #[.int .i64 a0_0, .slice A0_1 l0_1.length c0_1] 24 (0, 0)) q32_10) : gb387 ≠ gb386)); clear BK386; clear HB; have BK386 := n0_; have HB := n1_; have BK387 := n2_; have GW387 := n3_; have GE387 := n4_; have NB386_387 := n5_; have NB387_386 := n6_; clear n0_ n1_ n2_ n3_ n4_ n5_ n6_; clear hb hbox hg; have hnb7 := NB386_387.out; have hnc7 := NB387_386.out; have hcz8_0 : w6.cell? ⟨gb386, 0, none⟩ = some (.int .i64 a0_0) := (blk_cell BK386.out 0).trans rfl; have hcz8_1 : w6.cell? ⟨gb386, 1, none⟩ = some (.slice A0_1 l0_1.length c0_1) := (blk_cell BK386.out 1).trans rfl; have hfz8_0 := blk_frozen BK386.out 0; have hfz8_1 := blk_frozen BK386.out 1) | ((with_reducible refine gate_callee (f := 15) rfl ?_); refine goesL_ (some 11) rfl rfl Try.func15 q32_15 rfl #[.agg #[.int .i64 a0_0, .slice A0_1 l0_1.length c0_1], .int .i64 1048576] rfl q32_8 ?_; (with_reducible refine (laws_szContext.calls a0_0 _ _ l0_1 1048576 t388 _ ?side1 ?side2 A3.out).mono ?_); (case side1 => exact q32_3); (case side2 => exact HC0_1.out); rintro e w9 ⟨rfl, hb⟩; refine ⟨_, rfl, ?_⟩; have n0_ := Aside0.mk (blk_below (g := gb386) (o := .cells #[.int .i64 a0_0, .slice A0_1 l0_1.length c0_1] 24 (0, 0)) q32_10 hb); have n1_ := Aside0.mk (blk_below (g := gb387) (o := .cells #[.int .i64 a1_0, .int .i64 a1_1] 33 (0, 0)) q32_11 hb); have n2_ := Aside0.mk (below_step q32_2 hb); clear BK386; clear BK387; clear HB; have BK386 := n0_; have BK387 := n1_; have HB := n2_; clear n0_ n1_ n2_; (try clear hb); (try clear hb2); (try clear hk); (try clear hi)))
  go_ret
  exact ⟨by first | rfl | (simp [errW_none, errW_some] <;> rfl) | (simp [*, errW_none, errW_some] <;> rfl), by repeat (first | (with_reducible first | exact HB.out | apply below_alloc | apply pw_below_drewN | apply below_drew1 | refine below_set ?_ GE386.out | refine below_set ?_ GE387.out) | exact HB.out)⟩
 ·
  rw [if_neg c4] at H
  have c4b0 : decide (t388 < 0) = false := decide_eq_false c4
  clear c4
  replace H := Option.bind_eq_some_iff.mp H
  obtain ⟨⟨t389, t390⟩, A100, H⟩ := H
  replace H : ((laws_toRule.f a1_0 a1_1).bind fun bt393 => ((spec_HoldsIn.f k t389 t390 bt393.1 bt393.2).bind fun t395 => ((laws_toContext.f k a0_0 l0_1).bind fun bt396 => ((laws_toRule.f a1_0 a1_1).bind fun bt401 => ((impl_HoldsIn.f k bt396.1 bt396.2 bt401.1 bt401.2).bind fun t403 => (if (t403 != t395) = true then (some false) else ((laws_toContext.f k a0_0 l0_1).bind fun bt404 => ((laws_eqContext.f k bt396.1 bt396.2 bt404.1 bt404.2).bind fun t408 => (if t408 = true then (some true) else (some false)))))))))) = some r := H
  have A10 := Aside0.mk A100
  clear A100
  replace H := Option.bind_eq_some_iff.mp H
  obtain ⟨⟨t393, t394⟩, A110, H⟩ := H
  replace H : ((spec_HoldsIn.f k t389 t390 t393 t394).bind fun t395 => ((laws_toContext.f k a0_0 l0_1).bind fun bt396 => ((laws_toRule.f a1_0 a1_1).bind fun bt401 => ((impl_HoldsIn.f k bt396.1 bt396.2 bt401.1 bt401.2).bind fun t403 => (if (t403 != t395) = true then (some false) else ((laws_toContext.f k a0_0 l0_1).bind fun bt404 => ((laws_eqContext.f k bt396.1 bt396.2 bt404.1 bt404.2).bind fun t408 => (if t408 = true then (some true) else (some false))))))))) = some r := H
  have A11 := Aside0.mk A110
  clear A110
  replace H := Option.bind_eq_some_iff.mp H
  obtain ⟨t395, A120, H⟩ := H
  replace H : ((laws_toContext.f k a0_0 l0_1).bind fun bt396 => ((laws_toRule.f a1_0 a1_1).bind fun bt401 => ((impl_HoldsIn.f k bt396.1 bt396.2 bt401.1 bt401.2).bind fun t403 => (if (t403 != t395) = true then (some false) else ((laws_toContext.f k a0_0 l0_1).bind fun bt404 => ((laws_eqContext.f k bt396.1 bt396.2 bt404.1 bt404.2).bind fun t408 => (if t408 = true then (some true) else (some false)))))))) = some r := H
  have A12 := Aside0.mk A120
  clear A120
  replace H := Option.bind_eq_some_iff.mp H
  obtain ⟨⟨t396, t397⟩, A130, H⟩ := H
  replace H : ((laws_toRule.f a1_0 a1_1).bind fun bt401 => ((impl_HoldsIn.f k t396 t397 bt401.1 bt401.2).bind fun t403 => (if (t403 != t395) = true then (some false) else ((laws_toContext.f k a0_0 l0_1).bind fun bt404 => ((laws_eqContext.f k t396 t397 bt404.1 bt404.2).bind fun t408 => (if t408 = true then (some true) else (some false))))))) = some r := H
  have A13 := Aside0.mk A130
  clear A130
  replace H := Option.bind_eq_some_iff.mp H
  obtain ⟨⟨t401, t402⟩, A140, H⟩ := H
  replace H : ((impl_HoldsIn.f k t396 t397 t401 t402).bind fun t403 => (if (t403 != t395) = true then (some false) else ((laws_toContext.f k a0_0 l0_1).bind fun bt404 => ((laws_eqContext.f k t396 t397 bt404.1 bt404.2).bind fun t408 => (if t408 = true then (some true) else (some false)))))) = some r := H
  have A14 := Aside0.mk A140
  clear A140
  replace H := Option.bind_eq_some_iff.mp H
  obtain ⟨t403, A150, H⟩ := H
  replace H : (if (t403 != t395) = true then (some false) else ((laws_toContext.f k a0_0 l0_1).bind fun bt404 => ((laws_eqContext.f k t396 t397 bt404.1 bt404.2).bind fun t408 => (if t408 = true then (some true) else (some false))))) = some r := H
  have A15 := Aside0.mk A150
  clear A150
  by_cases c16 : (t403 != t395) = true
  ·
   rw [if_pos c16] at H
   have c16b0 : (t403 != t395) = true := c16
   (try (have c16b1 : decide (t403 = t395) = false := by simpa using c16))
   (try (have c16b2 : (t403 == t395) = false := by simpa using c16))
   (try (have c16b3 : ¬ (t403 = t395) := by simpa using c16))
   clear c16
   obtain rfl := Option.some.inj H
   go_enter Try.func9, Try.ntmps9
   try go_wp2_with (first | ((with_reducible refine gate_dst (N := 2) rfl ?_); refine box_event ?hg (N := 2) ?hd (cs := #[.int .i64 a0_0, .slice A0_1 l0_1.length c0_1]) (t := 24) ?hr ?_; (case hd => rfl); (case hg => rfl); (case hr => first | (go_simp; done) | (go_simp; rfl)); intro gb386 hg w17 hbox hb; have n0_ := Aside0.mk (below_step q32_9 hb); have n1_ := Aside0.mk (hbox); have n2_ := Aside0.mk ((by rw [hg]; exact (below_size q32_9) : w.heap.size ≤ gb386)); have n3_ := Aside0.mk ((by rw [hg]; exact (below_size q32_9) : w.heap.size ≤ gb386)); clear HB; have HB := n0_; have BK386 := n1_; have GW386 := n2_; have GE386 := n3_; clear n0_ n1_ n2_ n3_; clear hb hbox hg) | ((with_reducible refine gate_dst (N := 3) rfl ?_); refine box_event ?hg (N := 3) ?hd (cs := #[.int .i64 a1_0, .int .i64 a1_1]) (t := 33) ?hr ?_; (case hd => rfl); (case hg => rfl); (case hr => first | (go_simp; done) | (go_simp; rfl)); intro gb387 hg w18 hbox hb; have n0_ := Aside0.mk (blk_below (g := gb386) (o := .cells #[.int .i64 a0_0, .slice A0_1 l0_1.length c0_1] 24 (0, 0)) q32_10 hb); have n1_ := Aside0.mk (below_step q32_7 hb); have n2_ := Aside0.mk (hbox); have n3_ := Aside0.mk ((by rw [hg]; exact (below_size q32_7) : w.heap.size ≤ gb387)); have n4_ := Aside0.mk ((by rw [hg]; exact (below_size q32_7) : w.heap.size ≤ gb387)); have n5_ := Aside0.mk ((by rw [hg]; exact Nat.ne_of_lt (blk_lt (g := gb386) (o := .cells #[.int .i64 a0_0, .slice A0_1 l0_1.length c0_1] 24 (0, 0)) q32_10) : gb386 ≠ gb387)); have n6_ := Aside0.mk ((by rw [hg]; exact Nat.ne_of_gt (blk_lt (g := gb386) (o := .cells #[.int .i64 a0_0, .slice A0_1 l0_1.length c0_1] 24 (0, 0)) q32_10) : gb387 ≠ gb386)); clear BK386; clear HB; have BK386 := n0_; have HB := n1_; have BK387 := n2_; have GW387 := n3_; have GE387 := n4_; have NB386_387 := n5_; have NB387_386 := n6_; clear n0_ n1_ n2_ n3_ n4_ n5_ n6_; clear hb hbox hg; have hnb19 := NB386_387.out; have hnc19 := NB387_386.out; have hcz20_0 : w18.cell? ⟨gb386, 0, none⟩ = some (.int .i64 a0_0) := (blk_cell BK386.out 0).trans rfl; have hcz20_1 : w18.cell? ⟨gb386, 1, none⟩ = some (.slice A0_1 l0_1.length c0_1) := (blk_cell BK386.out 1).trans rfl; have hfz20_0 := blk_frozen BK386.out 0; have hfz20_1 := blk_frozen BK386.out 1) | ((with_reducible refine gate_callee (f := 15) rfl ?_); refine goesL_ (some 11) rfl rfl Try.func15 q32_15 rfl #[.agg #[.int .i64 a0_0, .slice A0_1 l0_1.length c0_1], .int .i64 1048576] rfl q32_8 ?_; (with_reducible refine (laws_szContext.calls a0_0 _ _ l0_1 1048576 t388 _ ?side1 ?side2 A3.out).mono ?_); (case side1 => exact q32_3); (case side2 => exact HC0_1.out); rintro e w21 ⟨rfl, hb⟩; refine ⟨_, rfl, ?_⟩; have n0_ := Aside0.mk (blk_below (g := gb386) (o := .cells #[.int .i64 a0_0, .slice A0_1 l0_1.length c0_1] 24 (0, 0)) q32_10 hb); have n1_ := Aside0.mk (blk_below (g := gb387) (o := .cells #[.int .i64 a1_0, .int .i64 a1_1] 33 (0, 0)) q32_11 hb); have n2_ := Aside0.mk (below_step q32_2 hb); clear BK386; clear BK387; clear HB; have BK386 := n0_; have BK387 := n1_; have HB := n2_; clear n0_ n1_ n2_; (try clear hb); (try clear hb2); (try clear hk); (try clear hi)))
   have n0_ := Aside0.mk (blk_drew BK386.out)
   have n1_ := Aside0.mk (blk_drew BK387.out)
   have n2_ := Aside0.mk (below_drew1 HB.out)
   clear BK386
   clear BK387
   clear HB
   have BK386 := n0_
   have BK387 := n1_
   have HB := n2_
   clear n0_ n1_ n2_
   refine start_ (n := 6) (S := fun w' => w'.cell? ⟨gb386, 0, none⟩ = some (.int .i64 a0_0) ∧ w'.cell? ⟨gb386, 1, none⟩ = some (.slice A0_1 l0_1.length c0_1) ∧ w'.cell? ⟨gb387, 0, none⟩ = some (.int .i64 a1_0) ∧ w'.cell? ⟨gb387, 1, none⟩ = some (.int .i64 a1_1)) (ds := []) #[false, false, false, false, false, false] q32_15 rfl rfl ⟨(blk_cell BK386.out 0).trans rfl, (blk_cell BK386.out 1).trans rfl, (blk_cell BK387.out 0).trans rfl, (blk_cell BK387.out 1).trans rfl⟩ (fun hHeld => ?_)
   generalize w21.drew = w22 at BK386 BK387 HB hHeld ⊢
   refine take_ (i := 0) (N := some 14) (v := ?_) (a' := ?_) #[true, false, false, false, false, false] rfl rfl q32_15 (fun _ _ _ h => h) (Or.inl ⟨by rfl, ?_⟩) hHeld ?_ ?_
   rotate_left
   ·
    rintro w' ⟨s0, s1, s2, s3⟩
    go_simp
    with_reducible rfl
   rotate_left
   ·
    exact put32_
   refine take_ (i := 2) (N := some 16) (v := ?_) (a' := ?_) #[true, false, true, false, false, false] rfl rfl q32_15 (fun _ _ _ h => h) (Or.inl ⟨by rfl, ?_⟩) hHeld ?_ ?_
   rotate_left
   ·
    rintro w' ⟨s0, s1, s2, s3⟩
    go_simp
    with_reducible rfl
   rotate_left
   ·
    exact put32_
   refine one_ (i := 1) (N := some 15) #[true, true, true, false, false, false] rfl rfl q32_15 q32_16 (fun K hK => ?_)
   refine goes_ Try.func17 q32_15 rfl #[.agg #[.int .i64 a0_0, .slice A0_1 l0_1.length c0_1]] (by rfl) rfl rfl q32_8 ?_
   with_reducible refine (laws_toContext.calls k a0_0 _ _ l0_1 t389 t390 _ ?side1 ?side2 A10.out).mono ?_
   (case side1 => exact q32_3)
   (case side2 => exact HC0_1.out)
   rintro e w23 ⟨v391, rfl, ho0, hb⟩
   refine ⟨_, rfl, ?_⟩
   have n0_ := Aside0.mk (Kd.R_lower ho0 (below_size q32_2))
   have n1_ := Aside0.mk (blk_below (g := gb386) (o := .cells #[.int .i64 a0_0, .slice A0_1 l0_1.length c0_1] 24 (0, 0)) q32_10 hb)
   have n2_ := Aside0.mk (blk_below (g := gb387) (o := .cells #[.int .i64 a1_0, .int .i64 a1_1] 33 (0, 0)) q32_11 hb)
   have n3_ := Aside0.mk (below_step q32_2 hb)
   clear BK386
   clear BK387
   clear HB
   have HO392 := n0_
   have BK386 := n1_
   have BK387 := n2_
   have HB := n3_
   clear n0_ n1_ n2_ n3_
   (try clear hb)
   (try clear hb2)
   (try clear hk)
   (try clear hi)
   (try clear ho0)
   refine hK.out _ _ ⟨(blk_cell BK386.out 0).trans rfl, (blk_cell BK386.out 1).trans rfl, (blk_cell BK387.out 0).trans rfl, (blk_cell BK387.out 1).trans rfl⟩ (fun hHeld => ?_)
   clear hK K
   refine norm_ (a' := ?_) ?_ ?_
   rotate_left
   ·
    show Act.put _ (some 15) _ = _
    exact put32_
   refine one_ (i := 3) (N := some 17) #[true, true, true, true, false, false] rfl rfl q32_15 q32_16 (fun K hK => ?_)
   refine goes_ Try.func31 q32_15 rfl #[.agg #[.int .i64 a1_0, .int .i64 a1_1]] (by rfl) rfl rfl q32_8 ?_
   with_reducible refine (laws_toRule.calls a1_0 a1_1 t393 t394 _ A11.out).mono ?_
   rintro e w24 ⟨rfl, hb⟩
   refine ⟨_, rfl, ?_⟩
   have n0_ := Aside0.mk (Kd.R_below q32_13 hb)
   have n1_ := Aside0.mk (blk_below (g := gb386) (o := .cells #[.int .i64 a0_0, .slice A0_1 l0_1.length c0_1] 24 (0, 0)) q32_10 hb)
   have n2_ := Aside0.mk (blk_below (g := gb387) (o := .cells #[.int .i64 a1_0, .int .i64 a1_1] 33 (0, 0)) q32_11 hb)
   have n3_ := Aside0.mk (below_step q32_2 hb)
   clear HO392
   clear BK386
   clear BK387
   clear HB
   have HO392 := n0_
   have BK386 := n1_
   have BK387 := n2_
   have HB := n3_
   clear n0_ n1_ n2_ n3_
   (try clear hb)
   (try clear hb2)
   (try clear hk)
   (try clear hi)
   obtain ⟨Ao25, co25, eo25⟩ := Kd.R_slice HO392.out
   (first | subst eo25 | (injection eo25 with f1_ f2_ f3_; have f4_ := f1_.symm; have f5_ := f3_.symm; clear f1_ f2_ f3_; subst f4_; subst f5_))
   refine hK.out _ _ ⟨(blk_cell BK386.out 0).trans rfl, (blk_cell BK386.out 1).trans rfl, (blk_cell BK387.out 0).trans rfl, (blk_cell BK387.out 1).trans rfl⟩ (fun hHeld => ?_)
   clear hK K
   refine norm_ (a' := ?_) ?_ ?_
   rotate_left
   ·
    show Act.put _ (some 17) _ = _
    exact put32_
   refine one_ (i := 4) (N := some 18) #[true, true, true, true, true, false] rfl rfl q32_15 q32_16 (fun K hK => ?_)
   refine goes_ Try.func30 q32_15 rfl #[.agg #[.int .i64 t389, .slice Ao25 t390.length co25], .agg #[.int .i64 t393, .int .i64 t394]] (by rfl) rfl rfl q32_8 ?_
   with_reducible refine (spec_HoldsIn.calls k t389 _ _ t390 t393 t394 t395 _ ?side1 ?side2 A12.out).mono ?_
   (case side1 => exact q32_4)
   (case side2 => exact (Kd.R_reads' HO392.out).2.1)
   rintro e w26 ⟨rfl, hb⟩
   refine ⟨_, rfl, ?_⟩
   have n0_ := Aside0.mk (Kd.R_below q32_13 hb)
   have n1_ := Aside0.mk (blk_below (g := gb386) (o := .cells #[.int .i64 a0_0, .slice A0_1 l0_1.length c0_1] 24 (0, 0)) q32_10 hb)
   have n2_ := Aside0.mk (blk_below (g := gb387) (o := .cells #[.int .i64 a1_0, .int .i64 a1_1] 33 (0, 0)) q32_11 hb)
   have n3_ := Aside0.mk (below_step q32_2 hb)
   clear HO392
   clear BK386
   clear BK387
   clear HB
   have HO392 := n0_
   have BK386 := n1_
   have BK387 := n2_
   have HB := n3_
   clear n0_ n1_ n2_ n3_
   (try clear hb)
   (try clear hb2)
   (try clear hk)
   (try clear hi)
   refine hK.out _ _ ⟨(blk_cell BK386.out 0).trans rfl, (blk_cell BK386.out 1).trans rfl, (blk_cell BK387.out 0).trans rfl, (blk_cell BK387.out 1).trans rfl⟩ (fun hHeld => ?_)
   clear hK K
   refine norm_ (a' := ?_) ?_ ?_
   rotate_left
   ·
    show Act.put _ (some 18) _ = _
    exact put32_
   refine pure_ (i := 5) (N := some 6) (v := ?_) (a' := ?_) #[true, true, true, true, true, true] rfl rfl q32_15 (fun _ _ _ h => h) (Or.inl ⟨by rfl, ?_⟩) ?_ ?_
   rotate_left
   ·
    intro w'
    go_simp
    with_reducible rfl
   rotate_left
   ·
    exact put32_
   refine done_ q32_15 ?_
   have hcz27_0 : w26.cell? ⟨gb386, 0, none⟩ = some (.int .i64 a0_0) := (blk_cell BK386.out 0).trans rfl
   have hcz27_1 : w26.cell? ⟨gb386, 1, none⟩ = some (.slice A0_1 l0_1.length c0_1) := (blk_cell BK386.out 1).trans rfl
   have hfz27_0 := blk_frozen BK386.out 0
   have hfz27_1 := blk_frozen BK386.out 1
   try go_wp2_with (first | ((with_reducible refine gate_callee (f := 17) rfl ?_); refine goesL_ (some 20) rfl rfl Try.func17 q32_15 rfl #[.agg #[.int .i64 a0_0, .slice A0_1 l0_1.length c0_1]] rfl q32_8 ?_; (with_reducible refine (laws_toContext.calls k a0_0 _ _ l0_1 t396 t397 _ ?side1 ?side2 A13.out).mono ?_); (case side1 => exact q32_3); (case side2 => exact HC0_1.out); rintro e w28 ⟨v398, rfl, ho0, hb⟩; refine ⟨_, rfl, ?_⟩; have n0_ := Aside0.mk (Kd.R_elder' q32_13 (Kd.R_base ho0) hb); have n1_ := Aside0.mk (Kd.R_lower (Kd.R_new' ho0 (Kd.R_lt q32_13)) (below_size q32_2)); have n2_ := Aside0.mk (blk_below (g := gb386) (o := .cells #[.int .i64 a0_0, .slice A0_1 l0_1.length c0_1] 24 (0, 0)) q32_10 hb); have n3_ := Aside0.mk (blk_below (g := gb387) (o := .cells #[.int .i64 a1_0, .int .i64 a1_1] 33 (0, 0)) q32_11 hb); have n4_ := Aside0.mk (below_step q32_2 hb); clear HO392; clear BK386; clear BK387; clear HB; have HO392 := n0_; have HO399 := n1_; have BK386 := n2_; have BK387 := n3_; have HB := n4_; clear n0_ n1_ n2_ n3_ n4_; (try clear hb); (try clear hb2); (try clear hk); (try clear hi); (try clear ho0)) | ((with_reducible refine gate_dst (N := 7) rfl ?_); refine box_event ?hg (N := 7) ?hd (cs := #[.int .i64 0, .slice none 0 0]) (t := 27) ?hr ?_; (case hd => rfl); (case hg => rfl); (case hr => first | (go_simp; done) | (go_simp; rfl)); intro gb400 hg w29 hbox hb; have n0_ := Aside0.mk (Kd.R_below q32_13 hb); have n1_ := Aside0.mk (Kd.R_below q32_14 hb); have n2_ := Aside0.mk (blk_below (g := gb386) (o := .cells #[.int .i64 a0_0, .slice A0_1 l0_1.length c0_1] 24 (0, 0)) q32_10 hb); have n3_ := Aside0.mk (blk_below (g := gb387) (o := .cells #[.int .i64 a1_0, .int .i64 a1_1] 33 (0, 0)) q32_11 hb); have n4_ := Aside0.mk (below_step q32_2 hb); have n5_ := Aside0.mk (hbox); have n6_ := Aside0.mk ((by rw [hg]; exact (below_size q32_2) : w.heap.size ≤ gb400)); have n7_ := Aside0.mk ((by rw [hg]; exact (below_size q32_2) : w.heap.size ≤ gb400)); have n8_ := Aside0.mk ((by rw [hg]; exact Nat.ne_of_lt (blk_lt (g := gb386) (o := .cells #[.int .i64 a0_0, .slice A0_1 l0_1.length c0_1] 24 (0, 0)) q32_10) : gb386 ≠ gb400)); have n9_ := Aside0.mk ((by rw [hg]; exact Nat.ne_of_gt (blk_lt (g := gb386) (o := .cells #[.int .i64 a0_0, .slice A0_1 l0_1.length c0_1] 24 (0, 0)) q32_10) : gb400 ≠ gb386)); have n10_ := Aside0.mk ((by rw [hg]; exact Nat.ne_of_lt (blk_lt (g := gb387) (o := .cells #[.int .i64 a1_0, .int .i64 a1_1] 33 (0, 0)) q32_11) : gb387 ≠ gb400)); have n11_ := Aside0.mk ((by rw [hg]; exact Nat.ne_of_gt (blk_lt (g := gb387) (o := .cells #[.int .i64 a1_0, .int .i64 a1_1] 33 (0, 0)) q32_11) : gb400 ≠ gb387)); clear HO392; clear HO399; clear BK386; clear BK387; clear HB; have HO392 := n0_; have HO399 := n1_; have BK386 := n2_; have BK387 := n3_; have HB := n4_; have BK400 := n5_; have GW400 := n6_; have GE400 := n7_; have NB386_400 := n8_; have NB400_386 := n9_; have NB387_400 := n10_; have NB400_387 := n11_; clear n0_ n1_ n2_ n3_ n4_ n5_ n6_ n7_ n8_ n9_ n10_ n11_; clear hb hbox hg; have hnb30 := NB400_386.out; have hnc30 := NB386_400.out; have hnb31 := NB400_387.out; have hnc31 := NB387_400.out; have hcz32_0 : w29.cell? ⟨gb400, 0, none⟩ = some (.int .i64 0) := (blk_cell BK400.out 0).trans rfl; have hcz32_1 : w29.cell? ⟨gb400, 1, none⟩ = some (.slice none 0 0) := (blk_cell BK400.out 1).trans rfl; have hfz32_0 := blk_frozen BK400.out 0; have hfz32_1 := blk_frozen BK400.out 1; obtain ⟨Ao33, co33, eo33⟩ := Kd.R_slice HO399.out; subst eo33))
   have n0_ : Aside0 (Kd.R (Kd.int .i64) 3 ((w29.setCell ⟨gb400, 0, none⟩ (.int .i64 t396)).setCell ⟨gb400, 1, none⟩ (.slice Ao33 t397.length co33)) w.heap.size (fun k_ => some k_ ≠ (.slice Ao33 t397.length co33 : Value).ownBlock) (.slice Ao25 t390.length co25) t390) := ⟨by (with_reducible repeat (first | apply Kd.R_alloc | apply Kd.R_drewN | apply Kd.R_drew)); exact Kd.R_mono (Kd.R_far (p := ⟨gb400, 1, none⟩) (Kd.R_far (p := ⟨gb400, 0, none⟩) (Kd.R_types HO392.out BK400.out q32_16) (fun _ hk => hk.2) (.int .i64 t396)) (fun _ hk => hk.2) (.slice Ao33 t397.length co33)) (fun _ hk => hk.1.2)⟩
   have n1_ : Aside0 (Kd.R (Kd.int .i64) 3 ((w29.setCell ⟨gb400, 0, none⟩ (.int .i64 t396)).setCell ⟨gb400, 1, none⟩ (.slice Ao33 t397.length co33)) w.heap.size (fun k_ => some k_ ≠ (.slice Ao25 t390.length co25 : Value).ownBlock) (.slice Ao33 t397.length co33) t397) := ⟨by (with_reducible repeat (first | apply Kd.R_alloc | apply Kd.R_drewN | apply Kd.R_drew)); exact Kd.R_mono (Kd.R_far (p := ⟨gb400, 1, none⟩) (Kd.R_far (p := ⟨gb400, 0, none⟩) (Kd.R_types HO399.out BK400.out q32_16) (fun _ hk => hk.2) (.int .i64 t396)) (fun _ hk => hk.2) (.slice Ao33 t397.length co33)) (fun _ hk => hk.1.2)⟩
   have n2_ : Aside0 (((w29.setCell ⟨gb400, 0, none⟩ (.int .i64 t396)).setCell ⟨gb400, 1, none⟩ (.slice Ao33 t397.length co33)).heap[gb386]? = some (.cells #[.int .i64 a0_0, .slice A0_1 l0_1.length c0_1] 24 (0, 0))) := ⟨by (with_reducible repeat (first | refine blk_drewN ?_ _ | refine blk_drew ?_ | refine blk_alloc ?_ _)); refine blk_far ?_ NB386_400.out _; (with_reducible repeat (first | refine blk_drewN ?_ _ | refine blk_drew ?_ | refine blk_alloc ?_ _)); refine blk_far ?_ NB386_400.out _; (with_reducible repeat (first | refine blk_drewN ?_ _ | refine blk_drew ?_ | refine blk_alloc ?_ _)); exact BK386.out⟩
   have n3_ : Aside0 (((w29.setCell ⟨gb400, 0, none⟩ (.int .i64 t396)).setCell ⟨gb400, 1, none⟩ (.slice Ao33 t397.length co33)).heap[gb387]? = some (.cells #[.int .i64 a1_0, .int .i64 a1_1] 33 (0, 0))) := ⟨by (with_reducible repeat (first | refine blk_drewN ?_ _ | refine blk_drew ?_ | refine blk_alloc ?_ _)); refine blk_far ?_ NB387_400.out _; (with_reducible repeat (first | refine blk_drewN ?_ _ | refine blk_drew ?_ | refine blk_alloc ?_ _)); refine blk_far ?_ NB387_400.out _; (with_reducible repeat (first | refine blk_drewN ?_ _ | refine blk_drew ?_ | refine blk_alloc ?_ _)); exact BK387.out⟩
   have n4_ : Aside0 (((w29.setCell ⟨gb400, 0, none⟩ (.int .i64 t396)).setCell ⟨gb400, 1, none⟩ (.slice Ao33 t397.length co33)).heap[gb400]? = some (.cells #[.int .i64 t396, .slice Ao33 t397.length co33] 27 (0, 0))) := ⟨by (with_reducible repeat (first | refine blk_drewN ?_ _ | refine blk_drew ?_ | refine blk_alloc ?_ _)); refine blk_put (cs := #[.int .i64 t396, .slice none 0 0]) ?_ 1 _ rfl; (with_reducible repeat (first | refine blk_drewN ?_ _ | refine blk_drew ?_ | refine blk_alloc ?_ _)); refine blk_put (cs := #[.int .i64 0, .slice none 0 0]) ?_ 0 _ rfl; (with_reducible repeat (first | refine blk_drewN ?_ _ | refine blk_drew ?_ | refine blk_alloc ?_ _)); exact BK400.out⟩
   have n5_ : Aside0 (Below w.heap.size w ((w29.setCell ⟨gb400, 0, none⟩ (.int .i64 t396)).setCell ⟨gb400, 1, none⟩ (.slice Ao33 t397.length co33))) := ⟨by repeat (first | (with_reducible first | exact HB.out | apply below_alloc | apply pw_below_drewN | apply below_drew1 | refine below_set ?_ GE386.out | refine below_set ?_ GE387.out | refine below_set ?_ GE400.out) | exact HB.out)⟩
   (try clear HO392)
   (try clear HO399)
   (try clear BK386)
   (try clear BK387)
   (try clear BK400)
   (try clear HB)
   generalize ((w29.setCell ⟨gb400, 0, none⟩ (.int .i64 t396)).setCell ⟨gb400, 1, none⟩ (.slice Ao33 t397.length co33)) = w34 at n0_ n1_ n2_ n3_ n4_ n5_ ⊢
   have HO392 := n0_
   have HO399 := n1_
   have BK386 := n2_
   have BK387 := n3_
   have BK400 := n4_
   have HB := n5_
   clear n0_ n1_ n2_ n3_ n4_ n5_
   have n0_ := Aside0.mk (Kd.R_drew HO392.out)
   have n1_ := Aside0.mk (Kd.R_drew HO399.out)
   have n2_ := Aside0.mk (blk_drew BK386.out)
   have n3_ := Aside0.mk (blk_drew BK387.out)
   have n4_ := Aside0.mk (blk_drew BK400.out)
   have n5_ := Aside0.mk (below_drew1 HB.out)
   clear HO392
   clear HO399
   clear BK386
   clear BK387
   clear BK400
   clear HB
   have HO392 := n0_
   have HO399 := n1_
   have BK386 := n2_
   have BK387 := n3_
   have BK400 := n4_
   have HB := n5_
   clear n0_ n1_ n2_ n3_ n4_ n5_
   refine start_ (n := 5) (S := fun w' => w'.cell? ⟨gb400, 0, none⟩ = some (.int .i64 t396) ∧ w'.cell? ⟨gb400, 1, none⟩ = some (.slice Ao33 t397.length co33) ∧ w'.cell? ⟨gb387, 0, none⟩ = some (.int .i64 a1_0) ∧ w'.cell? ⟨gb387, 1, none⟩ = some (.int .i64 a1_1)) (ds := []) #[false, false, false, false, false] q32_15 rfl rfl ⟨(blk_cell BK400.out 0).trans rfl, (blk_cell BK400.out 1).trans rfl, (blk_cell BK387.out 0).trans rfl, (blk_cell BK387.out 1).trans rfl⟩ (fun hHeld => ?_)
   generalize w34.drew = w35 at HO392 HO399 BK386 BK387 BK400 HB hHeld ⊢
   refine take_ (i := 0) (N := some 21) (v := ?_) (a' := ?_) #[true, false, false, false, false] rfl rfl q32_15 (fun _ _ _ h => h) (Or.inl ⟨by rfl, ?_⟩) hHeld ?_ ?_
   rotate_left
   ·
    rintro w' ⟨s0, s1, s2, s3⟩
    go_simp
    with_reducible rfl
   rotate_left
   ·
    exact put32_
   refine take_ (i := 1) (N := some 22) (v := ?_) (a' := ?_) #[true, true, false, false, false] rfl rfl q32_15 (fun _ _ _ h => h) (Or.inl ⟨by rfl, ?_⟩) hHeld ?_ ?_
   rotate_left
   ·
    rintro w' ⟨s0, s1, s2, s3⟩
    go_simp
    with_reducible rfl
   rotate_left
   ·
    exact put32_
   refine one_ (i := 2) (N := some 23) #[true, true, true, false, false] rfl rfl q32_15 q32_16 (fun K hK => ?_)
   refine goes_ Try.func31 q32_15 rfl #[.agg #[.int .i64 a1_0, .int .i64 a1_1]] (by rfl) rfl rfl q32_8 ?_
   with_reducible refine (laws_toRule.calls a1_0 a1_1 t401 t402 _ A14.out).mono ?_
   rintro e w36 ⟨rfl, hb⟩
   refine ⟨_, rfl, ?_⟩
   have n0_ := Aside0.mk (Kd.R_below q32_13 hb)
   have n1_ := Aside0.mk (Kd.R_below q32_14 hb)
   have n2_ := Aside0.mk (blk_below (g := gb386) (o := .cells #[.int .i64 a0_0, .slice A0_1 l0_1.length c0_1] 24 (0, 0)) q32_10 hb)
   have n3_ := Aside0.mk (blk_below (g := gb387) (o := .cells #[.int .i64 a1_0, .int .i64 a1_1] 33 (0, 0)) q32_11 hb)
   have n4_ := Aside0.mk (blk_below (g := gb400) (o := .cells #[.int .i64 t396, .slice Ao33 t397.length co33] 27 (0, 0)) q32_12 hb)
   have n5_ := Aside0.mk (below_step q32_1 hb)
   clear HO392
   clear HO399
   clear BK386
   clear BK387
   clear BK400
   clear HB
   have HO392 := n0_
   have HO399 := n1_
   have BK386 := n2_
   have BK387 := n3_
   have BK400 := n4_
   have HB := n5_
   clear n0_ n1_ n2_ n3_ n4_ n5_
   (try clear hb)
   (try clear hb2)
   (try clear hk)
   (try clear hi)
   refine hK.out _ _ ⟨(blk_cell BK400.out 0).trans rfl, (blk_cell BK400.out 1).trans rfl, (blk_cell BK387.out 0).trans rfl, (blk_cell BK387.out 1).trans rfl⟩ (fun hHeld => ?_)
   clear hK K
   refine norm_ (a' := ?_) ?_ ?_
   rotate_left
   ·
    show Act.put _ (some 23) _ = _
    exact put32_
   refine one_ (i := 3) (N := some 24) #[true, true, true, true, false] rfl rfl q32_15 q32_16 (fun K hK => ?_)
   refine goes_ Try.func32 q32_15 rfl #[.agg #[.int .i64 t396, .slice Ao33 t397.length co33], .agg #[.int .i64 t401, .int .i64 t402]] (by rfl) rfl rfl q32_8 ?_
   with_reducible refine (impl_HoldsIn.calls k t396 _ _ t397 t401 t402 t403 _ ?side1 ?side2 A15.out).mono ?_
   (case side1 => exact q32_5)
   (case side2 => exact (Kd.R_reads' HO399.out).2.1)
   rintro e w37 ⟨rfl, hb⟩
   refine ⟨_, rfl, ?_⟩
   have n0_ := Aside0.mk (Kd.R_below q32_13 hb)
   have n1_ := Aside0.mk (Kd.R_below q32_14 hb)
   have n2_ := Aside0.mk (blk_below (g := gb386) (o := .cells #[.int .i64 a0_0, .slice A0_1 l0_1.length c0_1] 24 (0, 0)) q32_10 hb)
   have n3_ := Aside0.mk (blk_below (g := gb387) (o := .cells #[.int .i64 a1_0, .int .i64 a1_1] 33 (0, 0)) q32_11 hb)
   have n4_ := Aside0.mk (blk_below (g := gb400) (o := .cells #[.int .i64 t396, .slice Ao33 t397.length co33] 27 (0, 0)) q32_12 hb)
   have n5_ := Aside0.mk (below_step q32_1 hb)
   clear HO392
   clear HO399
   clear BK386
   clear BK387
   clear BK400
   clear HB
   have HO392 := n0_
   have HO399 := n1_
   have BK386 := n2_
   have BK387 := n3_
   have BK400 := n4_
   have HB := n5_
   clear n0_ n1_ n2_ n3_ n4_ n5_
   (try clear hb)
   (try clear hb2)
   (try clear hk)
   (try clear hi)
   refine hK.out _ _ ⟨(blk_cell BK400.out 0).trans rfl, (blk_cell BK400.out 1).trans rfl, (blk_cell BK387.out 0).trans rfl, (blk_cell BK387.out 1).trans rfl⟩ (fun hHeld => ?_)
   clear hK K
   refine norm_ (a' := ?_) ?_ ?_
   rotate_left
   ·
    show Act.put _ (some 24) _ = _
    exact put32_
   refine pure_ (i := 4) (N := some 8) (v := ?_) (a' := ?_) #[true, true, true, true, true] rfl rfl q32_15 (fun _ _ _ h => h) (Or.inl ⟨by rfl, ?_⟩) ?_ ?_
   rotate_left
   ·
    intro w'
    go_simp
    with_reducible rfl
   rotate_left
   ·
    exact put32_
   refine done_ q32_15 ?_
   try go_wp2
   go_ret
   exact ⟨by first | rfl | (simp [errW_none, errW_some] <;> rfl) | (simp [*, errW_none, errW_some] <;> rfl), by repeat (first | (with_reducible first | exact HB.out | apply below_alloc | apply pw_below_drewN | apply below_drew1 | refine below_set ?_ GE386.out | refine below_set ?_ GE387.out | refine below_set ?_ GE400.out) | exact HB.out)⟩
  ·
   rw [if_neg c16] at H
   have c16b0 : (t403 != t395) = false := by simpa using c16
   (try (have c16b1 : decide (t403 = t395) = true := by simpa using c16))
   (try (have c16b2 : (t403 == t395) = true := by simpa using c16))
   clear c16
   replace H := Option.bind_eq_some_iff.mp H
   obtain ⟨⟨t404, t405⟩, A380, H⟩ := H
   replace H : ((laws_eqContext.f k t396 t397 t404 t405).bind fun t408 => (if t408 = true then (some true) else (some false))) = some r := H
   have A38 := Aside0.mk A380
   clear A380
   replace H := Option.bind_eq_some_iff.mp H
   obtain ⟨t408, A390, H⟩ := H
   replace H : (if t408 = true then (some true) else (some false)) = some r := H
   have A39 := Aside0.mk A390
   clear A390
   by_cases c40 : t408 = true
   ·
    subst c40
    have H1 : (some true) = some r := by rw [if_pos rfl] at H; exact H
    clear H
    have H := H1
    clear H1
    obtain rfl := Option.some.inj H
    go_enter Try.func9, Try.ntmps9
    try go_wp2_with (first | ((with_reducible refine gate_dst (N := 2) rfl ?_); refine box_event ?hg (N := 2) ?hd (cs := #[.int .i64 a0_0, .slice A0_1 l0_1.length c0_1]) (t := 24) ?hr ?_; (case hd => rfl); (case hg => rfl); (case hr => first | (go_simp; done) | (go_simp; rfl)); intro gb386 hg w41 hbox hb; have n0_ := Aside0.mk (below_step q32_9 hb); have n1_ := Aside0.mk (hbox); have n2_ := Aside0.mk ((by rw [hg]; exact (below_size q32_9) : w.heap.size ≤ gb386)); have n3_ := Aside0.mk ((by rw [hg]; exact (below_size q32_9) : w.heap.size ≤ gb386)); clear HB; have HB := n0_; have BK386 := n1_; have GW386 := n2_; have GE386 := n3_; clear n0_ n1_ n2_ n3_; clear hb hbox hg) | ((with_reducible refine gate_dst (N := 3) rfl ?_); refine box_event ?hg (N := 3) ?hd (cs := #[.int .i64 a1_0, .int .i64 a1_1]) (t := 33) ?hr ?_; (case hd => rfl); (case hg => rfl); (case hr => first | (go_simp; done) | (go_simp; rfl)); intro gb387 hg w42 hbox hb; have n0_ := Aside0.mk (blk_below (g := gb386) (o := .cells #[.int .i64 a0_0, .slice A0_1 l0_1.length c0_1] 24 (0, 0)) q32_10 hb); have n1_ := Aside0.mk (below_step q32_7 hb); have n2_ := Aside0.mk (hbox); have n3_ := Aside0.mk ((by rw [hg]; exact (below_size q32_7) : w.heap.size ≤ gb387)); have n4_ := Aside0.mk ((by rw [hg]; exact (below_size q32_7) : w.heap.size ≤ gb387)); have n5_ := Aside0.mk ((by rw [hg]; exact Nat.ne_of_lt (blk_lt (g := gb386) (o := .cells #[.int .i64 a0_0, .slice A0_1 l0_1.length c0_1] 24 (0, 0)) q32_10) : gb386 ≠ gb387)); have n6_ := Aside0.mk ((by rw [hg]; exact Nat.ne_of_gt (blk_lt (g := gb386) (o := .cells #[.int .i64 a0_0, .slice A0_1 l0_1.length c0_1] 24 (0, 0)) q32_10) : gb387 ≠ gb386)); clear BK386; clear HB; have BK386 := n0_; have HB := n1_; have BK387 := n2_; have GW387 := n3_; have GE387 := n4_; have NB386_387 := n5_; have NB387_386 := n6_; clear n0_ n1_ n2_ n3_ n4_ n5_ n6_; clear hb hbox hg; have hnb43 := NB386_387.out; have hnc43 := NB387_386.out; have hcz44_0 : w42.cell? ⟨gb386, 0, none⟩ = some (.int .i64 a0_0) := (blk_cell BK386.out 0).trans rfl; have hcz44_1 : w42.cell? ⟨gb386, 1, none⟩ = some (.slice A0_1 l0_1.length c0_1) := (blk_cell BK386.out 1).trans rfl; have hfz44_0 := blk_frozen BK386.out 0; have hfz44_1 := blk_frozen BK386.out 1) | ((with_reducible refine gate_callee (f := 15) rfl ?_); refine goesL_ (some 11) rfl rfl Try.func15 q32_15 rfl #[.agg #[.int .i64 a0_0, .slice A0_1 l0_1.length c0_1], .int .i64 1048576] rfl q32_8 ?_; (with_reducible refine (laws_szContext.calls a0_0 _ _ l0_1 1048576 t388 _ ?side1 ?side2 A3.out).mono ?_); (case side1 => exact q32_3); (case side2 => exact HC0_1.out); rintro e w45 ⟨rfl, hb⟩; refine ⟨_, rfl, ?_⟩; have n0_ := Aside0.mk (blk_below (g := gb386) (o := .cells #[.int .i64 a0_0, .slice A0_1 l0_1.length c0_1] 24 (0, 0)) q32_10 hb); have n1_ := Aside0.mk (blk_below (g := gb387) (o := .cells #[.int .i64 a1_0, .int .i64 a1_1] 33 (0, 0)) q32_11 hb); have n2_ := Aside0.mk (below_step q32_2 hb); clear BK386; clear BK387; clear HB; have BK386 := n0_; have BK387 := n1_; have HB := n2_; clear n0_ n1_ n2_; (try clear hb); (try clear hb2); (try clear hk); (try clear hi)))
    have n0_ := Aside0.mk (blk_drew BK386.out)
    have n1_ := Aside0.mk (blk_drew BK387.out)
    have n2_ := Aside0.mk (below_drew1 HB.out)
    clear BK386
    clear BK387
    clear HB
    have BK386 := n0_
    have BK387 := n1_
    have HB := n2_
    clear n0_ n1_ n2_
    refine start_ (n := 6) (S := fun w' => w'.cell? ⟨gb386, 0, none⟩ = some (.int .i64 a0_0) ∧ w'.cell? ⟨gb386, 1, none⟩ = some (.slice A0_1 l0_1.length c0_1) ∧ w'.cell? ⟨gb387, 0, none⟩ = some (.int .i64 a1_0) ∧ w'.cell? ⟨gb387, 1, none⟩ = some (.int .i64 a1_1)) (ds := []) #[false, false, false, false, false, false] q32_15 rfl rfl ⟨(blk_cell BK386.out 0).trans rfl, (blk_cell BK386.out 1).trans rfl, (blk_cell BK387.out 0).trans rfl, (blk_cell BK387.out 1).trans rfl⟩ (fun hHeld => ?_)
    generalize w45.drew = w46 at BK386 BK387 HB hHeld ⊢
    refine take_ (i := 0) (N := some 14) (v := ?_) (a' := ?_) #[true, false, false, false, false, false] rfl rfl q32_15 (fun _ _ _ h => h) (Or.inl ⟨by rfl, ?_⟩) hHeld ?_ ?_
    rotate_left
    ·
     rintro w' ⟨s0, s1, s2, s3⟩
     go_simp
     with_reducible rfl
    rotate_left
    ·
     exact put32_
    refine take_ (i := 2) (N := some 16) (v := ?_) (a' := ?_) #[true, false, true, false, false, false] rfl rfl q32_15 (fun _ _ _ h => h) (Or.inl ⟨by rfl, ?_⟩) hHeld ?_ ?_
    rotate_left
    ·
     rintro w' ⟨s0, s1, s2, s3⟩
     go_simp
     with_reducible rfl
    rotate_left
    ·
     exact put32_
    refine one_ (i := 1) (N := some 15) #[true, true, true, false, false, false] rfl rfl q32_15 q32_16 (fun K hK => ?_)
    refine goes_ Try.func17 q32_15 rfl #[.agg #[.int .i64 a0_0, .slice A0_1 l0_1.length c0_1]] (by rfl) rfl rfl q32_8 ?_
    with_reducible refine (laws_toContext.calls k a0_0 _ _ l0_1 t389 t390 _ ?side1 ?side2 A10.out).mono ?_
    (case side1 => exact q32_3)
    (case side2 => exact HC0_1.out)
    rintro e w47 ⟨v391, rfl, ho0, hb⟩
    refine ⟨_, rfl, ?_⟩
    have n0_ := Aside0.mk (Kd.R_lower ho0 (below_size q32_2))
    have n1_ := Aside0.mk (blk_below (g := gb386) (o := .cells #[.int .i64 a0_0, .slice A0_1 l0_1.length c0_1] 24 (0, 0)) q32_10 hb)
    have n2_ := Aside0.mk (blk_below (g := gb387) (o := .cells #[.int .i64 a1_0, .int .i64 a1_1] 33 (0, 0)) q32_11 hb)
    have n3_ := Aside0.mk (below_step q32_2 hb)
    clear BK386
    clear BK387
    clear HB
    have HO392 := n0_
    have BK386 := n1_
    have BK387 := n2_
    have HB := n3_
    clear n0_ n1_ n2_ n3_
    (try clear hb)
    (try clear hb2)
    (try clear hk)
    (try clear hi)
    (try clear ho0)
    refine hK.out _ _ ⟨(blk_cell BK386.out 0).trans rfl, (blk_cell BK386.out 1).trans rfl, (blk_cell BK387.out 0).trans rfl, (blk_cell BK387.out 1).trans rfl⟩ (fun hHeld => ?_)
    clear hK K
    refine norm_ (a' := ?_) ?_ ?_
    rotate_left
    ·
     show Act.put _ (some 15) _ = _
     exact put32_
    refine one_ (i := 3) (N := some 17) #[true, true, true, true, false, false] rfl rfl q32_15 q32_16 (fun K hK => ?_)
    refine goes_ Try.func31 q32_15 rfl #[.agg #[.int .i64 a1_0, .int .i64 a1_1]] (by rfl) rfl rfl q32_8 ?_
    with_reducible refine (laws_toRule.calls a1_0 a1_1 t393 t394 _ A11.out).mono ?_
    rintro e w48 ⟨rfl, hb⟩
    refine ⟨_, rfl, ?_⟩
    have n0_ := Aside0.mk (Kd.R_below q32_13 hb)
    have n1_ := Aside0.mk (blk_below (g := gb386) (o := .cells #[.int .i64 a0_0, .slice A0_1 l0_1.length c0_1] 24 (0, 0)) q32_10 hb)
    have n2_ := Aside0.mk (blk_below (g := gb387) (o := .cells #[.int .i64 a1_0, .int .i64 a1_1] 33 (0, 0)) q32_11 hb)
    have n3_ := Aside0.mk (below_step q32_2 hb)
    clear HO392
    clear BK386
    clear BK387
    clear HB
    have HO392 := n0_
    have BK386 := n1_
    have BK387 := n2_
    have HB := n3_
    clear n0_ n1_ n2_ n3_
    (try clear hb)
    (try clear hb2)
    (try clear hk)
    (try clear hi)
    obtain ⟨Ao49, co49, eo49⟩ := Kd.R_slice HO392.out
    (first | subst eo49 | (injection eo49 with f1_ f2_ f3_; have f4_ := f1_.symm; have f5_ := f3_.symm; clear f1_ f2_ f3_; subst f4_; subst f5_))
    refine hK.out _ _ ⟨(blk_cell BK386.out 0).trans rfl, (blk_cell BK386.out 1).trans rfl, (blk_cell BK387.out 0).trans rfl, (blk_cell BK387.out 1).trans rfl⟩ (fun hHeld => ?_)
    clear hK K
    refine norm_ (a' := ?_) ?_ ?_
    rotate_left
    ·
     show Act.put _ (some 17) _ = _
     exact put32_
    refine one_ (i := 4) (N := some 18) #[true, true, true, true, true, false] rfl rfl q32_15 q32_16 (fun K hK => ?_)
    refine goes_ Try.func30 q32_15 rfl #[.agg #[.int .i64 t389, .slice Ao49 t390.length co49], .agg #[.int .i64 t393, .int .i64 t394]] (by rfl) rfl rfl q32_8 ?_
    with_reducible refine (spec_HoldsIn.calls k t389 _ _ t390 t393 t394 t395 _ ?side1 ?side2 A12.out).mono ?_
    (case side1 => exact q32_4)
    (case side2 => exact (Kd.R_reads' HO392.out).2.1)
    rintro e w50 ⟨rfl, hb⟩
    refine ⟨_, rfl, ?_⟩
    have n0_ := Aside0.mk (Kd.R_below q32_13 hb)
    have n1_ := Aside0.mk (blk_below (g := gb386) (o := .cells #[.int .i64 a0_0, .slice A0_1 l0_1.length c0_1] 24 (0, 0)) q32_10 hb)
    have n2_ := Aside0.mk (blk_below (g := gb387) (o := .cells #[.int .i64 a1_0, .int .i64 a1_1] 33 (0, 0)) q32_11 hb)
    have n3_ := Aside0.mk (below_step q32_2 hb)
    clear HO392
    clear BK386
    clear BK387
    clear HB
    have HO392 := n0_
    have BK386 := n1_
    have BK387 := n2_
    have HB := n3_
    clear n0_ n1_ n2_ n3_
    (try clear hb)
    (try clear hb2)
    (try clear hk)
    (try clear hi)
    refine hK.out _ _ ⟨(blk_cell BK386.out 0).trans rfl, (blk_cell BK386.out 1).trans rfl, (blk_cell BK387.out 0).trans rfl, (blk_cell BK387.out 1).trans rfl⟩ (fun hHeld => ?_)
    clear hK K
    refine norm_ (a' := ?_) ?_ ?_
    rotate_left
    ·
     show Act.put _ (some 18) _ = _
     exact put32_
    refine pure_ (i := 5) (N := some 6) (v := ?_) (a' := ?_) #[true, true, true, true, true, true] rfl rfl q32_15 (fun _ _ _ h => h) (Or.inl ⟨by rfl, ?_⟩) ?_ ?_
    rotate_left
    ·
     intro w'
     go_simp
     with_reducible rfl
    rotate_left
    ·
     exact put32_
    refine done_ q32_15 ?_
    have hcz51_0 : w50.cell? ⟨gb386, 0, none⟩ = some (.int .i64 a0_0) := (blk_cell BK386.out 0).trans rfl
    have hcz51_1 : w50.cell? ⟨gb386, 1, none⟩ = some (.slice A0_1 l0_1.length c0_1) := (blk_cell BK386.out 1).trans rfl
    have hfz51_0 := blk_frozen BK386.out 0
    have hfz51_1 := blk_frozen BK386.out 1
    try go_wp2_with (first | ((with_reducible refine gate_callee (f := 17) rfl ?_); refine goesL_ (some 20) rfl rfl Try.func17 q32_15 rfl #[.agg #[.int .i64 a0_0, .slice A0_1 l0_1.length c0_1]] rfl q32_8 ?_; (with_reducible refine (laws_toContext.calls k a0_0 _ _ l0_1 t396 t397 _ ?side1 ?side2 A13.out).mono ?_); (case side1 => exact q32_3); (case side2 => exact HC0_1.out); rintro e w52 ⟨v398, rfl, ho0, hb⟩; refine ⟨_, rfl, ?_⟩; have n0_ := Aside0.mk (Kd.R_elder' q32_13 (Kd.R_base ho0) hb); have n1_ := Aside0.mk (Kd.R_lower (Kd.R_new' ho0 (Kd.R_lt q32_13)) (below_size q32_2)); have n2_ := Aside0.mk (blk_below (g := gb386) (o := .cells #[.int .i64 a0_0, .slice A0_1 l0_1.length c0_1] 24 (0, 0)) q32_10 hb); have n3_ := Aside0.mk (blk_below (g := gb387) (o := .cells #[.int .i64 a1_0, .int .i64 a1_1] 33 (0, 0)) q32_11 hb); have n4_ := Aside0.mk (below_step q32_2 hb); clear HO392; clear BK386; clear BK387; clear HB; have HO392 := n0_; have HO399 := n1_; have BK386 := n2_; have BK387 := n3_; have HB := n4_; clear n0_ n1_ n2_ n3_ n4_; (try clear hb); (try clear hb2); (try clear hk); (try clear hi); (try clear ho0)) | ((with_reducible refine gate_dst (N := 7) rfl ?_); refine box_event ?hg (N := 7) ?hd (cs := #[.int .i64 0, .slice none 0 0]) (t := 27) ?hr ?_; (case hd => rfl); (case hg => rfl); (case hr => first | (go_simp; done) | (go_simp; rfl)); intro gb400 hg w53 hbox hb; have n0_ := Aside0.mk (Kd.R_below q32_13 hb); have n1_ := Aside0.mk (Kd.R_below q32_14 hb); have n2_ := Aside0.mk (blk_below (g := gb386) (o := .cells #[.int .i64 a0_0, .slice A0_1 l0_1.length c0_1] 24 (0, 0)) q32_10 hb); have n3_ := Aside0.mk (blk_below (g := gb387) (o := .cells #[.int .i64 a1_0, .int .i64 a1_1] 33 (0, 0)) q32_11 hb); have n4_ := Aside0.mk (below_step q32_2 hb); have n5_ := Aside0.mk (hbox); have n6_ := Aside0.mk ((by rw [hg]; exact (below_size q32_2) : w.heap.size ≤ gb400)); have n7_ := Aside0.mk ((by rw [hg]; exact (below_size q32_2) : w.heap.size ≤ gb400)); have n8_ := Aside0.mk ((by rw [hg]; exact Nat.ne_of_lt (blk_lt (g := gb386) (o := .cells #[.int .i64 a0_0, .slice A0_1 l0_1.length c0_1] 24 (0, 0)) q32_10) : gb386 ≠ gb400)); have n9_ := Aside0.mk ((by rw [hg]; exact Nat.ne_of_gt (blk_lt (g := gb386) (o := .cells #[.int .i64 a0_0, .slice A0_1 l0_1.length c0_1] 24 (0, 0)) q32_10) : gb400 ≠ gb386)); have n10_ := Aside0.mk ((by rw [hg]; exact Nat.ne_of_lt (blk_lt (g := gb387) (o := .cells #[.int .i64 a1_0, .int .i64 a1_1] 33 (0, 0)) q32_11) : gb387 ≠ gb400)); have n11_ := Aside0.mk ((by rw [hg]; exact Nat.ne_of_gt (blk_lt (g := gb387) (o := .cells #[.int .i64 a1_0, .int .i64 a1_1] 33 (0, 0)) q32_11) : gb400 ≠ gb387)); clear HO392; clear HO399; clear BK386; clear BK387; clear HB; have HO392 := n0_; have HO399 := n1_; have BK386 := n2_; have BK387 := n3_; have HB := n4_; have BK400 := n5_; have GW400 := n6_; have GE400 := n7_; have NB386_400 := n8_; have NB400_386 := n9_; have NB387_400 := n10_; have NB400_387 := n11_; clear n0_ n1_ n2_ n3_ n4_ n5_ n6_ n7_ n8_ n9_ n10_ n11_; clear hb hbox hg; have hnb54 := NB400_386.out; have hnc54 := NB386_400.out; have hnb55 := NB400_387.out; have hnc55 := NB387_400.out; have hcz56_0 : w53.cell? ⟨gb400, 0, none⟩ = some (.int .i64 0) := (blk_cell BK400.out 0).trans rfl; have hcz56_1 : w53.cell? ⟨gb400, 1, none⟩ = some (.slice none 0 0) := (blk_cell BK400.out 1).trans rfl; have hfz56_0 := blk_frozen BK400.out 0; have hfz56_1 := blk_frozen BK400.out 1; obtain ⟨Ao57, co57, eo57⟩ := Kd.R_slice HO399.out; subst eo57))
    have n0_ : Aside0 (Kd.R (Kd.int .i64) 3 ((w53.setCell ⟨gb400, 0, none⟩ (.int .i64 t396)).setCell ⟨gb400, 1, none⟩ (.slice Ao57 t397.length co57)) w.heap.size (fun k_ => some k_ ≠ (.slice Ao57 t397.length co57 : Value).ownBlock) (.slice Ao49 t390.length co49) t390) := ⟨by (with_reducible repeat (first | apply Kd.R_alloc | apply Kd.R_drewN | apply Kd.R_drew)); exact Kd.R_mono (Kd.R_far (p := ⟨gb400, 1, none⟩) (Kd.R_far (p := ⟨gb400, 0, none⟩) (Kd.R_types HO392.out BK400.out q32_16) (fun _ hk => hk.2) (.int .i64 t396)) (fun _ hk => hk.2) (.slice Ao57 t397.length co57)) (fun _ hk => hk.1.2)⟩
    have n1_ : Aside0 (Kd.R (Kd.int .i64) 3 ((w53.setCell ⟨gb400, 0, none⟩ (.int .i64 t396)).setCell ⟨gb400, 1, none⟩ (.slice Ao57 t397.length co57)) w.heap.size (fun k_ => some k_ ≠ (.slice Ao49 t390.length co49 : Value).ownBlock) (.slice Ao57 t397.length co57) t397) := ⟨by (with_reducible repeat (first | apply Kd.R_alloc | apply Kd.R_drewN | apply Kd.R_drew)); exact Kd.R_mono (Kd.R_far (p := ⟨gb400, 1, none⟩) (Kd.R_far (p := ⟨gb400, 0, none⟩) (Kd.R_types HO399.out BK400.out q32_16) (fun _ hk => hk.2) (.int .i64 t396)) (fun _ hk => hk.2) (.slice Ao57 t397.length co57)) (fun _ hk => hk.1.2)⟩
    have n2_ : Aside0 (((w53.setCell ⟨gb400, 0, none⟩ (.int .i64 t396)).setCell ⟨gb400, 1, none⟩ (.slice Ao57 t397.length co57)).heap[gb386]? = some (.cells #[.int .i64 a0_0, .slice A0_1 l0_1.length c0_1] 24 (0, 0))) := ⟨by (with_reducible repeat (first | refine blk_drewN ?_ _ | refine blk_drew ?_ | refine blk_alloc ?_ _)); refine blk_far ?_ NB386_400.out _; (with_reducible repeat (first | refine blk_drewN ?_ _ | refine blk_drew ?_ | refine blk_alloc ?_ _)); refine blk_far ?_ NB386_400.out _; (with_reducible repeat (first | refine blk_drewN ?_ _ | refine blk_drew ?_ | refine blk_alloc ?_ _)); exact BK386.out⟩
    have n3_ : Aside0 (((w53.setCell ⟨gb400, 0, none⟩ (.int .i64 t396)).setCell ⟨gb400, 1, none⟩ (.slice Ao57 t397.length co57)).heap[gb387]? = some (.cells #[.int .i64 a1_0, .int .i64 a1_1] 33 (0, 0))) := ⟨by (with_reducible repeat (first | refine blk_drewN ?_ _ | refine blk_drew ?_ | refine blk_alloc ?_ _)); refine blk_far ?_ NB387_400.out _; (with_reducible repeat (first | refine blk_drewN ?_ _ | refine blk_drew ?_ | refine blk_alloc ?_ _)); refine blk_far ?_ NB387_400.out _; (with_reducible repeat (first | refine blk_drewN ?_ _ | refine blk_drew ?_ | refine blk_alloc ?_ _)); exact BK387.out⟩
    have n4_ : Aside0 (((w53.setCell ⟨gb400, 0, none⟩ (.int .i64 t396)).setCell ⟨gb400, 1, none⟩ (.slice Ao57 t397.length co57)).heap[gb400]? = some (.cells #[.int .i64 t396, .slice Ao57 t397.length co57] 27 (0, 0))) := ⟨by (with_reducible repeat (first | refine blk_drewN ?_ _ | refine blk_drew ?_ | refine blk_alloc ?_ _)); refine blk_put (cs := #[.int .i64 t396, .slice none 0 0]) ?_ 1 _ rfl; (with_reducible repeat (first | refine blk_drewN ?_ _ | refine blk_drew ?_ | refine blk_alloc ?_ _)); refine blk_put (cs := #[.int .i64 0, .slice none 0 0]) ?_ 0 _ rfl; (with_reducible repeat (first | refine blk_drewN ?_ _ | refine blk_drew ?_ | refine blk_alloc ?_ _)); exact BK400.out⟩
    have n5_ : Aside0 (Below w.heap.size w ((w53.setCell ⟨gb400, 0, none⟩ (.int .i64 t396)).setCell ⟨gb400, 1, none⟩ (.slice Ao57 t397.length co57))) := ⟨by repeat (first | (with_reducible first | exact HB.out | apply below_alloc | apply pw_below_drewN | apply below_drew1 | refine below_set ?_ GE386.out | refine below_set ?_ GE387.out | refine below_set ?_ GE400.out) | exact HB.out)⟩
    (try clear HO392)
    (try clear HO399)
    (try clear BK386)
    (try clear BK387)
    (try clear BK400)
    (try clear HB)
    generalize ((w53.setCell ⟨gb400, 0, none⟩ (.int .i64 t396)).setCell ⟨gb400, 1, none⟩ (.slice Ao57 t397.length co57)) = w58 at n0_ n1_ n2_ n3_ n4_ n5_ ⊢
    have HO392 := n0_
    have HO399 := n1_
    have BK386 := n2_
    have BK387 := n3_
    have BK400 := n4_
    have HB := n5_
    clear n0_ n1_ n2_ n3_ n4_ n5_
    have n0_ := Aside0.mk (Kd.R_drew HO392.out)
    have n1_ := Aside0.mk (Kd.R_drew HO399.out)
    have n2_ := Aside0.mk (blk_drew BK386.out)
    have n3_ := Aside0.mk (blk_drew BK387.out)
    have n4_ := Aside0.mk (blk_drew BK400.out)
    have n5_ := Aside0.mk (below_drew1 HB.out)
    clear HO392
    clear HO399
    clear BK386
    clear BK387
    clear BK400
    clear HB
    have HO392 := n0_
    have HO399 := n1_
    have BK386 := n2_
    have BK387 := n3_
    have BK400 := n4_
    have HB := n5_
    clear n0_ n1_ n2_ n3_ n4_ n5_
    refine start_ (n := 5) (S := fun w' => w'.cell? ⟨gb400, 0, none⟩ = some (.int .i64 t396) ∧ w'.cell? ⟨gb400, 1, none⟩ = some (.slice Ao57 t397.length co57) ∧ w'.cell? ⟨gb387, 0, none⟩ = some (.int .i64 a1_0) ∧ w'.cell? ⟨gb387, 1, none⟩ = some (.int .i64 a1_1)) (ds := []) #[false, false, false, false, false] q32_15 rfl rfl ⟨(blk_cell BK400.out 0).trans rfl, (blk_cell BK400.out 1).trans rfl, (blk_cell BK387.out 0).trans rfl, (blk_cell BK387.out 1).trans rfl⟩ (fun hHeld => ?_)
    generalize w58.drew = w59 at HO392 HO399 BK386 BK387 BK400 HB hHeld ⊢
    refine take_ (i := 0) (N := some 21) (v := ?_) (a' := ?_) #[true, false, false, false, false] rfl rfl q32_15 (fun _ _ _ h => h) (Or.inl ⟨by rfl, ?_⟩) hHeld ?_ ?_
    rotate_left
    ·
     rintro w' ⟨s0, s1, s2, s3⟩
     go_simp
     with_reducible rfl
    rotate_left
    ·
     exact put32_
    refine take_ (i := 1) (N := some 22) (v := ?_) (a' := ?_) #[true, true, false, false, false] rfl rfl q32_15 (fun _ _ _ h => h) (Or.inl ⟨by rfl, ?_⟩) hHeld ?_ ?_
    rotate_left
    ·
     rintro w' ⟨s0, s1, s2, s3⟩
     go_simp
     with_reducible rfl
    rotate_left
    ·
     exact put32_
    refine one_ (i := 2) (N := some 23) #[true, true, true, false, false] rfl rfl q32_15 q32_16 (fun K hK => ?_)
    refine goes_ Try.func31 q32_15 rfl #[.agg #[.int .i64 a1_0, .int .i64 a1_1]] (by rfl) rfl rfl q32_8 ?_
    with_reducible refine (laws_toRule.calls a1_0 a1_1 t401 t402 _ A14.out).mono ?_
    rintro e w60 ⟨rfl, hb⟩
    refine ⟨_, rfl, ?_⟩
    have n0_ := Aside0.mk (Kd.R_below q32_13 hb)
    have n1_ := Aside0.mk (Kd.R_below q32_14 hb)
    have n2_ := Aside0.mk (blk_below (g := gb386) (o := .cells #[.int .i64 a0_0, .slice A0_1 l0_1.length c0_1] 24 (0, 0)) q32_10 hb)
    have n3_ := Aside0.mk (blk_below (g := gb387) (o := .cells #[.int .i64 a1_0, .int .i64 a1_1] 33 (0, 0)) q32_11 hb)
    have n4_ := Aside0.mk (blk_below (g := gb400) (o := .cells #[.int .i64 t396, .slice Ao57 t397.length co57] 27 (0, 0)) q32_12 hb)
    have n5_ := Aside0.mk (below_step q32_1 hb)
    clear HO392
    clear HO399
    clear BK386
    clear BK387
    clear BK400
    clear HB
    have HO392 := n0_
    have HO399 := n1_
    have BK386 := n2_
    have BK387 := n3_
    have BK400 := n4_
    have HB := n5_
    clear n0_ n1_ n2_ n3_ n4_ n5_
    (try clear hb)
    (try clear hb2)
    (try clear hk)
    (try clear hi)
    refine hK.out _ _ ⟨(blk_cell BK400.out 0).trans rfl, (blk_cell BK400.out 1).trans rfl, (blk_cell BK387.out 0).trans rfl, (blk_cell BK387.out 1).trans rfl⟩ (fun hHeld => ?_)
    clear hK K
    refine norm_ (a' := ?_) ?_ ?_
    rotate_left
    ·
     show Act.put _ (some 23) _ = _
     exact put32_
    refine one_ (i := 3) (N := some 24) #[true, true, true, true, false] rfl rfl q32_15 q32_16 (fun K hK => ?_)
    refine goes_ Try.func32 q32_15 rfl #[.agg #[.int .i64 t396, .slice Ao57 t397.length co57], .agg #[.int .i64 t401, .int .i64 t402]] (by rfl) rfl rfl q32_8 ?_
    with_reducible refine (impl_HoldsIn.calls k t396 _ _ t397 t401 t402 t403 _ ?side1 ?side2 A15.out).mono ?_
    (case side1 => exact q32_5)
    (case side2 => exact (Kd.R_reads' HO399.out).2.1)
    rintro e w61 ⟨rfl, hb⟩
    refine ⟨_, rfl, ?_⟩
    have n0_ := Aside0.mk (Kd.R_below q32_13 hb)
    have n1_ := Aside0.mk (Kd.R_below q32_14 hb)
    have n2_ := Aside0.mk (blk_below (g := gb386) (o := .cells #[.int .i64 a0_0, .slice A0_1 l0_1.length c0_1] 24 (0, 0)) q32_10 hb)
    have n3_ := Aside0.mk (blk_below (g := gb387) (o := .cells #[.int .i64 a1_0, .int .i64 a1_1] 33 (0, 0)) q32_11 hb)
    have n4_ := Aside0.mk (blk_below (g := gb400) (o := .cells #[.int .i64 t396, .slice Ao57 t397.length co57] 27 (0, 0)) q32_12 hb)
    have n5_ := Aside0.mk (below_step q32_1 hb)
    clear HO392
    clear HO399
    clear BK386
    clear BK387
    clear BK400
    clear HB
    have HO392 := n0_
    have HO399 := n1_
    have BK386 := n2_
    have BK387 := n3_
    have BK400 := n4_
    have HB := n5_
    clear n0_ n1_ n2_ n3_ n4_ n5_
    (try clear hb)
    (try clear hb2)
    (try clear hk)
    (try clear hi)
    refine hK.out _ _ ⟨(blk_cell BK400.out 0).trans rfl, (blk_cell BK400.out 1).trans rfl, (blk_cell BK387.out 0).trans rfl, (blk_cell BK387.out 1).trans rfl⟩ (fun hHeld => ?_)
    clear hK K
    refine norm_ (a' := ?_) ?_ ?_
    rotate_left
    ·
     show Act.put _ (some 24) _ = _
     exact put32_
    refine pure_ (i := 4) (N := some 8) (v := ?_) (a' := ?_) #[true, true, true, true, true] rfl rfl q32_15 (fun _ _ _ h => h) (Or.inl ⟨by rfl, ?_⟩) ?_ ?_
    rotate_left
    ·
     intro w'
     go_simp
     with_reducible rfl
    rotate_left
    ·
     exact put32_
    refine done_ q32_15 ?_
    try go_wp2
    have n0_ := Aside0.mk (Kd.R_drew HO392.out)
    have n1_ := Aside0.mk (Kd.R_drew HO399.out)
    have n2_ := Aside0.mk (blk_drew BK386.out)
    have n3_ := Aside0.mk (blk_drew BK387.out)
    have n4_ := Aside0.mk (blk_drew BK400.out)
    have n5_ := Aside0.mk (below_drew1 HB.out)
    clear HO392
    clear HO399
    clear BK386
    clear BK387
    clear BK400
    clear HB
    have HO392 := n0_
    have HO399 := n1_
    have BK386 := n2_
    have BK387 := n3_
    have BK400 := n4_
    have HB := n5_
    clear n0_ n1_ n2_ n3_ n4_ n5_
    refine start_ (n := 5) (S := fun w' => w'.cell? ⟨gb400, 0, none⟩ = some (.int .i64 t396) ∧ w'.cell? ⟨gb400, 1, none⟩ = some (.slice Ao57 t397.length co57) ∧ w'.cell? ⟨gb386, 0, none⟩ = some (.int .i64 a0_0) ∧ w'.cell? ⟨gb386, 1, none⟩ = some (.slice A0_1 l0_1.length c0_1)) (ds := []) #[false, false, false, false, false] q32_15 rfl rfl ⟨(blk_cell BK400.out 0).trans rfl, (blk_cell BK400.out 1).trans rfl, (blk_cell BK386.out 0).trans rfl, (blk_cell BK386.out 1).trans rfl⟩ (fun hHeld => ?_)
    generalize w61.drew = w62 at HO392 HO399 BK386 BK387 BK400 HB hHeld ⊢
    refine take_ (i := 0) (N := some 28) (v := ?_) (a' := ?_) #[true, false, false, false, false] rfl rfl q32_15 (fun _ _ _ h => h) (Or.inl ⟨by rfl, ?_⟩) hHeld ?_ ?_
    rotate_left
    ·
     rintro w' ⟨s0, s1, s2, s3⟩
     go_simp
     with_reducible rfl
    rotate_left
    ·
     exact put32_
    refine take_ (i := 1) (N := some 29) (v := ?_) (a' := ?_) #[true, true, false, false, false] rfl rfl q32_15 (fun _ _ _ h => h) (Or.inl ⟨by rfl, ?_⟩) hHeld ?_ ?_
    rotate_left
    ·
     rintro w' ⟨s0, s1, s2, s3⟩
     go_simp
     with_reducible rfl
    rotate_left
    ·
     exact put32_
    refine one_ (i := 2) (N := some 30) #[true, true, true, false, false] rfl rfl q32_15 q32_16 (fun K hK => ?_)
    refine goes_ Try.func17 q32_15 rfl #[.agg #[.int .i64 a0_0, .slice A0_1 l0_1.length c0_1]] (by rfl) rfl rfl q32_8 ?_
    with_reducible refine (laws_toContext.calls k a0_0 _ _ l0_1 t404 t405 _ ?side1 ?side2 A38.out).mono ?_
    (case side1 => exact q32_3)
    (case side2 => exact HC0_1.out)
    rintro e w63 ⟨v406, rfl, ho0, hb⟩
    refine ⟨_, rfl, ?_⟩
    have n0_ := Aside0.mk (Kd.R_elder' q32_13 (Kd.R_base ho0) hb)
    have n1_ := Aside0.mk (Kd.R_elder' q32_14 (Kd.R_base ho0) hb)
    have n2_ := Aside0.mk (Kd.R_lower (Kd.R_new' (Kd.R_new' ho0 (Kd.R_lt q32_13)) (Kd.R_lt q32_14)) (below_size q32_1))
    have n3_ := Aside0.mk (blk_below (g := gb386) (o := .cells #[.int .i64 a0_0, .slice A0_1 l0_1.length c0_1] 24 (0, 0)) q32_10 hb)
    have n4_ := Aside0.mk (blk_below (g := gb387) (o := .cells #[.int .i64 a1_0, .int .i64 a1_1] 33 (0, 0)) q32_11 hb)
    have n5_ := Aside0.mk (blk_below (g := gb400) (o := .cells #[.int .i64 t396, .slice Ao57 t397.length co57] 27 (0, 0)) q32_12 hb)
    have n6_ := Aside0.mk (below_step q32_1 hb)
    clear HO392
    clear HO399
    clear BK386
    clear BK387
    clear BK400
    clear HB
    have HO392 := n0_
    have HO399 := n1_
    have HO407 := n2_
    have BK386 := n3_
    have BK387 := n4_
    have BK400 := n5_
    have HB := n6_
    clear n0_ n1_ n2_ n3_ n4_ n5_ n6_
    (try clear hb)
    (try clear hb2)
    (try clear hk)
    (try clear hi)
    (try clear ho0)
    obtain ⟨Ao64, co64, eo64⟩ := Kd.R_slice HO407.out
    (first | subst eo64 | (injection eo64 with f1_ f2_ f3_; have f4_ := f1_.symm; have f5_ := f3_.symm; clear f1_ f2_ f3_; subst f4_; subst f5_))
    refine hK.out _ _ ⟨(blk_cell BK400.out 0).trans rfl, (blk_cell BK400.out 1).trans rfl, (blk_cell BK386.out 0).trans rfl, (blk_cell BK386.out 1).trans rfl⟩ (fun hHeld => ?_)
    clear hK K
    refine norm_ (a' := ?_) ?_ ?_
    rotate_left
    ·
     show Act.put _ (some 30) _ = _
     exact put32_
    refine one_ (i := 3) (N := some 31) #[true, true, true, true, false] rfl rfl q32_15 q32_16 (fun K hK => ?_)
    refine goes_ Try.func19 q32_15 rfl #[.agg #[.int .i64 t396, .slice Ao57 t397.length co57], .agg #[.int .i64 t404, .slice Ao64 t405.length co64]] (by rfl) rfl rfl q32_8 ?_
    with_reducible refine (laws_eqContext.calls k t396 _ _ t397 t404 _ _ t405 true _ ?side1 ?side2 ?side3 ?side4 A39.out).mono ?_
    (case side1 => exact q32_5)
    (case side2 => exact (Kd.R_reads' HO399.out).2.1)
    (case side3 => exact q32_6)
    (case side4 => exact (Kd.R_reads' HO407.out).2.1)
    rintro e w65 ⟨rfl, hb⟩
    refine ⟨_, rfl, ?_⟩
    have n0_ := Aside0.mk (Kd.R_below q32_13 hb)
    have n1_ := Aside0.mk (Kd.R_below q32_14 hb)
    have n2_ := Aside0.mk (Kd.R_below (by (with_reducible repeat (first | apply Kd.R_alloc | apply Kd.R_drewN | apply Kd.R_drew)); exact HO407.out) hb)
    have n3_ := Aside0.mk (blk_below (g := gb386) (o := .cells #[.int .i64 a0_0, .slice A0_1 l0_1.length c0_1] 24 (0, 0)) q32_10 hb)
    have n4_ := Aside0.mk (blk_below (g := gb387) (o := .cells #[.int .i64 a1_0, .int .i64 a1_1] 33 (0, 0)) q32_11 hb)
    have n5_ := Aside0.mk (blk_below (g := gb400) (o := .cells #[.int .i64 t396, .slice Ao57 t397.length co57] 27 (0, 0)) q32_12 hb)
    have n6_ := Aside0.mk (below_step q32_1 hb)
    clear HO392
    clear HO399
    clear HO407
    clear BK386
    clear BK387
    clear BK400
    clear HB
    have HO392 := n0_
    have HO399 := n1_
    have HO407 := n2_
    have BK386 := n3_
    have BK387 := n4_
    have BK400 := n5_
    have HB := n6_
    clear n0_ n1_ n2_ n3_ n4_ n5_ n6_
    (try clear hb)
    (try clear hb2)
    (try clear hk)
    (try clear hi)
    refine hK.out _ _ ⟨(blk_cell BK400.out 0).trans rfl, (blk_cell BK400.out 1).trans rfl, (blk_cell BK386.out 0).trans rfl, (blk_cell BK386.out 1).trans rfl⟩ (fun hHeld => ?_)
    clear hK K
    refine norm_ (a' := ?_) ?_ ?_
    rotate_left
    ·
     show Act.put _ (some 31) _ = _
     exact put32_
    refine pure_ (i := 4) (N := some 32) (v := ?_) (a' := ?_) #[true, true, true, true, true] rfl rfl q32_15 (fun _ _ _ h => h) (Or.inl ⟨by rfl, ?_⟩) ?_ ?_
    rotate_left
    ·
     intro w'
     go_simp
     with_reducible rfl
    rotate_left
    ·
     exact put32_
    refine done_ q32_15 ?_
    try go_wp2
    go_ret
    exact ⟨by first | rfl | (simp [errW_none, errW_some] <;> rfl) | (simp [*, errW_none, errW_some] <;> rfl), by repeat (first | (with_reducible first | exact HB.out | apply below_alloc | apply pw_below_drewN | apply below_drew1 | refine below_set ?_ GE386.out | refine below_set ?_ GE387.out | refine below_set ?_ GE400.out) | exact HB.out)⟩
   ·
    replace c40 := Bool.eq_false_iff.mpr c40
    subst c40
    have H1 : (some false) = some r := by rw [if_neg (show ¬ (false = true) by decide)] at H; exact H
    clear H
    have H := H1
    clear H1
    obtain rfl := Option.some.inj H
    go_enter Try.func9, Try.ntmps9
    try go_wp2_with (first | ((with_reducible refine gate_dst (N := 2) rfl ?_); refine box_event ?hg (N := 2) ?hd (cs := #[.int .i64 a0_0, .slice A0_1 l0_1.length c0_1]) (t := 24) ?hr ?_; (case hd => rfl); (case hg => rfl); (case hr => first | (go_simp; done) | (go_simp; rfl)); intro gb386 hg w66 hbox hb; have n0_ := Aside0.mk (below_step q32_9 hb); have n1_ := Aside0.mk (hbox); have n2_ := Aside0.mk ((by rw [hg]; exact (below_size q32_9) : w.heap.size ≤ gb386)); have n3_ := Aside0.mk ((by rw [hg]; exact (below_size q32_9) : w.heap.size ≤ gb386)); clear HB; have HB := n0_; have BK386 := n1_; have GW386 := n2_; have GE386 := n3_; clear n0_ n1_ n2_ n3_; clear hb hbox hg) | ((with_reducible refine gate_dst (N := 3) rfl ?_); refine box_event ?hg (N := 3) ?hd (cs := #[.int .i64 a1_0, .int .i64 a1_1]) (t := 33) ?hr ?_; (case hd => rfl); (case hg => rfl); (case hr => first | (go_simp; done) | (go_simp; rfl)); intro gb387 hg w67 hbox hb; have n0_ := Aside0.mk (blk_below (g := gb386) (o := .cells #[.int .i64 a0_0, .slice A0_1 l0_1.length c0_1] 24 (0, 0)) q32_10 hb); have n1_ := Aside0.mk (below_step q32_7 hb); have n2_ := Aside0.mk (hbox); have n3_ := Aside0.mk ((by rw [hg]; exact (below_size q32_7) : w.heap.size ≤ gb387)); have n4_ := Aside0.mk ((by rw [hg]; exact (below_size q32_7) : w.heap.size ≤ gb387)); have n5_ := Aside0.mk ((by rw [hg]; exact Nat.ne_of_lt (blk_lt (g := gb386) (o := .cells #[.int .i64 a0_0, .slice A0_1 l0_1.length c0_1] 24 (0, 0)) q32_10) : gb386 ≠ gb387)); have n6_ := Aside0.mk ((by rw [hg]; exact Nat.ne_of_gt (blk_lt (g := gb386) (o := .cells #[.int .i64 a0_0, .slice A0_1 l0_1.length c0_1] 24 (0, 0)) q32_10) : gb387 ≠ gb386)); clear BK386; clear HB; have BK386 := n0_; have HB := n1_; have BK387 := n2_; have GW387 := n3_; have GE387 := n4_; have NB386_387 := n5_; have NB387_386 := n6_; clear n0_ n1_ n2_ n3_ n4_ n5_ n6_; clear hb hbox hg; have hnb68 := NB386_387.out; have hnc68 := NB387_386.out; have hcz69_0 : w67.cell? ⟨gb386, 0, none⟩ = some (.int .i64 a0_0) := (blk_cell BK386.out 0).trans rfl; have hcz69_1 : w67.cell? ⟨gb386, 1, none⟩ = some (.slice A0_1 l0_1.length c0_1) := (blk_cell BK386.out 1).trans rfl; have hfz69_0 := blk_frozen BK386.out 0; have hfz69_1 := blk_frozen BK386.out 1) | ((with_reducible refine gate_callee (f := 15) rfl ?_); refine goesL_ (some 11) rfl rfl Try.func15 q32_15 rfl #[.agg #[.int .i64 a0_0, .slice A0_1 l0_1.length c0_1], .int .i64 1048576] rfl q32_8 ?_; (with_reducible refine (laws_szContext.calls a0_0 _ _ l0_1 1048576 t388 _ ?side1 ?side2 A3.out).mono ?_); (case side1 => exact q32_3); (case side2 => exact HC0_1.out); rintro e w70 ⟨rfl, hb⟩; refine ⟨_, rfl, ?_⟩; have n0_ := Aside0.mk (blk_below (g := gb386) (o := .cells #[.int .i64 a0_0, .slice A0_1 l0_1.length c0_1] 24 (0, 0)) q32_10 hb); have n1_ := Aside0.mk (blk_below (g := gb387) (o := .cells #[.int .i64 a1_0, .int .i64 a1_1] 33 (0, 0)) q32_11 hb); have n2_ := Aside0.mk (below_step q32_2 hb); clear BK386; clear BK387; clear HB; have BK386 := n0_; have BK387 := n1_; have HB := n2_; clear n0_ n1_ n2_; (try clear hb); (try clear hb2); (try clear hk); (try clear hi)))
    have n0_ := Aside0.mk (blk_drew BK386.out)
    have n1_ := Aside0.mk (blk_drew BK387.out)
    have n2_ := Aside0.mk (below_drew1 HB.out)
    clear BK386
    clear BK387
    clear HB
    have BK386 := n0_
    have BK387 := n1_
    have HB := n2_
    clear n0_ n1_ n2_
    refine start_ (n := 6) (S := fun w' => w'.cell? ⟨gb386, 0, none⟩ = some (.int .i64 a0_0) ∧ w'.cell? ⟨gb386, 1, none⟩ = some (.slice A0_1 l0_1.length c0_1) ∧ w'.cell? ⟨gb387, 0, none⟩ = some (.int .i64 a1_0) ∧ w'.cell? ⟨gb387, 1, none⟩ = some (.int .i64 a1_1)) (ds := []) #[false, false, false, false, false, false] q32_15 rfl rfl ⟨(blk_cell BK386.out 0).trans rfl, (blk_cell BK386.out 1).trans rfl, (blk_cell BK387.out 0).trans rfl, (blk_cell BK387.out 1).trans rfl⟩ (fun hHeld => ?_)
    generalize w70.drew = w71 at BK386 BK387 HB hHeld ⊢
    refine take_ (i := 0) (N := some 14) (v := ?_) (a' := ?_) #[true, false, false, false, false, false] rfl rfl q32_15 (fun _ _ _ h => h) (Or.inl ⟨by rfl, ?_⟩) hHeld ?_ ?_
    rotate_left
    ·
     rintro w' ⟨s0, s1, s2, s3⟩
     go_simp
     with_reducible rfl
    rotate_left
    ·
     exact put32_
    refine take_ (i := 2) (N := some 16) (v := ?_) (a' := ?_) #[true, false, true, false, false, false] rfl rfl q32_15 (fun _ _ _ h => h) (Or.inl ⟨by rfl, ?_⟩) hHeld ?_ ?_
    rotate_left
    ·
     rintro w' ⟨s0, s1, s2, s3⟩
     go_simp
     with_reducible rfl
    rotate_left
    ·
     exact put32_
    refine one_ (i := 1) (N := some 15) #[true, true, true, false, false, false] rfl rfl q32_15 q32_16 (fun K hK => ?_)
    refine goes_ Try.func17 q32_15 rfl #[.agg #[.int .i64 a0_0, .slice A0_1 l0_1.length c0_1]] (by rfl) rfl rfl q32_8 ?_
    with_reducible refine (laws_toContext.calls k a0_0 _ _ l0_1 t389 t390 _ ?side1 ?side2 A10.out).mono ?_
    (case side1 => exact q32_3)
    (case side2 => exact HC0_1.out)
    rintro e w72 ⟨v391, rfl, ho0, hb⟩
    refine ⟨_, rfl, ?_⟩
    have n0_ := Aside0.mk (Kd.R_lower ho0 (below_size q32_2))
    have n1_ := Aside0.mk (blk_below (g := gb386) (o := .cells #[.int .i64 a0_0, .slice A0_1 l0_1.length c0_1] 24 (0, 0)) q32_10 hb)
    have n2_ := Aside0.mk (blk_below (g := gb387) (o := .cells #[.int .i64 a1_0, .int .i64 a1_1] 33 (0, 0)) q32_11 hb)
    have n3_ := Aside0.mk (below_step q32_2 hb)
    clear BK386
    clear BK387
    clear HB
    have HO392 := n0_
    have BK386 := n1_
    have BK387 := n2_
    have HB := n3_
    clear n0_ n1_ n2_ n3_
    (try clear hb)
    (try clear hb2)
    (try clear hk)
    (try clear hi)
    (try clear ho0)
    refine hK.out _ _ ⟨(blk_cell BK386.out 0).trans rfl, (blk_cell BK386.out 1).trans rfl, (blk_cell BK387.out 0).trans rfl, (blk_cell BK387.out 1).trans rfl⟩ (fun hHeld => ?_)
    clear hK K
    refine norm_ (a' := ?_) ?_ ?_
    rotate_left
    ·
     show Act.put _ (some 15) _ = _
     exact put32_
    refine one_ (i := 3) (N := some 17) #[true, true, true, true, false, false] rfl rfl q32_15 q32_16 (fun K hK => ?_)
    refine goes_ Try.func31 q32_15 rfl #[.agg #[.int .i64 a1_0, .int .i64 a1_1]] (by rfl) rfl rfl q32_8 ?_
    with_reducible refine (laws_toRule.calls a1_0 a1_1 t393 t394 _ A11.out).mono ?_
    rintro e w73 ⟨rfl, hb⟩
    refine ⟨_, rfl, ?_⟩
    have n0_ := Aside0.mk (Kd.R_below q32_13 hb)
    have n1_ := Aside0.mk (blk_below (g := gb386) (o := .cells #[.int .i64 a0_0, .slice A0_1 l0_1.length c0_1] 24 (0, 0)) q32_10 hb)
    have n2_ := Aside0.mk (blk_below (g := gb387) (o := .cells #[.int .i64 a1_0, .int .i64 a1_1] 33 (0, 0)) q32_11 hb)
    have n3_ := Aside0.mk (below_step q32_2 hb)
    clear HO392
    clear BK386
    clear BK387
    clear HB
    have HO392 := n0_
    have BK386 := n1_
    have BK387 := n2_
    have HB := n3_
    clear n0_ n1_ n2_ n3_
    (try clear hb)
    (try clear hb2)
    (try clear hk)
    (try clear hi)
    obtain ⟨Ao74, co74, eo74⟩ := Kd.R_slice HO392.out
    (first | subst eo74 | (injection eo74 with f1_ f2_ f3_; have f4_ := f1_.symm; have f5_ := f3_.symm; clear f1_ f2_ f3_; subst f4_; subst f5_))
    refine hK.out _ _ ⟨(blk_cell BK386.out 0).trans rfl, (blk_cell BK386.out 1).trans rfl, (blk_cell BK387.out 0).trans rfl, (blk_cell BK387.out 1).trans rfl⟩ (fun hHeld => ?_)
    clear hK K
    refine norm_ (a' := ?_) ?_ ?_
    rotate_left
    ·
     show Act.put _ (some 17) _ = _
     exact put32_
    refine one_ (i := 4) (N := some 18) #[true, true, true, true, true, false] rfl rfl q32_15 q32_16 (fun K hK => ?_)
    refine goes_ Try.func30 q32_15 rfl #[.agg #[.int .i64 t389, .slice Ao74 t390.length co74], .agg #[.int .i64 t393, .int .i64 t394]] (by rfl) rfl rfl q32_8 ?_
    with_reducible refine (spec_HoldsIn.calls k t389 _ _ t390 t393 t394 t395 _ ?side1 ?side2 A12.out).mono ?_
    (case side1 => exact q32_4)
    (case side2 => exact (Kd.R_reads' HO392.out).2.1)
    rintro e w75 ⟨rfl, hb⟩
    refine ⟨_, rfl, ?_⟩
    have n0_ := Aside0.mk (Kd.R_below q32_13 hb)
    have n1_ := Aside0.mk (blk_below (g := gb386) (o := .cells #[.int .i64 a0_0, .slice A0_1 l0_1.length c0_1] 24 (0, 0)) q32_10 hb)
    have n2_ := Aside0.mk (blk_below (g := gb387) (o := .cells #[.int .i64 a1_0, .int .i64 a1_1] 33 (0, 0)) q32_11 hb)
    have n3_ := Aside0.mk (below_step q32_2 hb)
    clear HO392
    clear BK386
    clear BK387
    clear HB
    have HO392 := n0_
    have BK386 := n1_
    have BK387 := n2_
    have HB := n3_
    clear n0_ n1_ n2_ n3_
    (try clear hb)
    (try clear hb2)
    (try clear hk)
    (try clear hi)
    refine hK.out _ _ ⟨(blk_cell BK386.out 0).trans rfl, (blk_cell BK386.out 1).trans rfl, (blk_cell BK387.out 0).trans rfl, (blk_cell BK387.out 1).trans rfl⟩ (fun hHeld => ?_)
    clear hK K
    refine norm_ (a' := ?_) ?_ ?_
    rotate_left
    ·
     show Act.put _ (some 18) _ = _
     exact put32_
    refine pure_ (i := 5) (N := some 6) (v := ?_) (a' := ?_) #[true, true, true, true, true, true] rfl rfl q32_15 (fun _ _ _ h => h) (Or.inl ⟨by rfl, ?_⟩) ?_ ?_
    rotate_left
    ·
     intro w'
     go_simp
     with_reducible rfl
    rotate_left
    ·
     exact put32_
    refine done_ q32_15 ?_
    have hcz76_0 : w75.cell? ⟨gb386, 0, none⟩ = some (.int .i64 a0_0) := (blk_cell BK386.out 0).trans rfl
    have hcz76_1 : w75.cell? ⟨gb386, 1, none⟩ = some (.slice A0_1 l0_1.length c0_1) := (blk_cell BK386.out 1).trans rfl
    have hfz76_0 := blk_frozen BK386.out 0
    have hfz76_1 := blk_frozen BK386.out 1
    try go_wp2_with (first | ((with_reducible refine gate_callee (f := 17) rfl ?_); refine goesL_ (some 20) rfl rfl Try.func17 q32_15 rfl #[.agg #[.int .i64 a0_0, .slice A0_1 l0_1.length c0_1]] rfl q32_8 ?_; (with_reducible refine (laws_toContext.calls k a0_0 _ _ l0_1 t396 t397 _ ?side1 ?side2 A13.out).mono ?_); (case side1 => exact q32_3); (case side2 => exact HC0_1.out); rintro e w77 ⟨v398, rfl, ho0, hb⟩; refine ⟨_, rfl, ?_⟩; have n0_ := Aside0.mk (Kd.R_elder' q32_13 (Kd.R_base ho0) hb); have n1_ := Aside0.mk (Kd.R_lower (Kd.R_new' ho0 (Kd.R_lt q32_13)) (below_size q32_2)); have n2_ := Aside0.mk (blk_below (g := gb386) (o := .cells #[.int .i64 a0_0, .slice A0_1 l0_1.length c0_1] 24 (0, 0)) q32_10 hb); have n3_ := Aside0.mk (blk_below (g := gb387) (o := .cells #[.int .i64 a1_0, .int .i64 a1_1] 33 (0, 0)) q32_11 hb); have n4_ := Aside0.mk (below_step q32_2 hb); clear HO392; clear BK386; clear BK387; clear HB; have HO392 := n0_; have HO399 := n1_; have BK386 := n2_; have BK387 := n3_; have HB := n4_; clear n0_ n1_ n2_ n3_ n4_; (try clear hb); (try clear hb2); (try clear hk); (try clear hi); (try clear ho0)) | ((with_reducible refine gate_dst (N := 7) rfl ?_); refine box_event ?hg (N := 7) ?hd (cs := #[.int .i64 0, .slice none 0 0]) (t := 27) ?hr ?_; (case hd => rfl); (case hg => rfl); (case hr => first | (go_simp; done) | (go_simp; rfl)); intro gb400 hg w78 hbox hb; have n0_ := Aside0.mk (Kd.R_below q32_13 hb); have n1_ := Aside0.mk (Kd.R_below q32_14 hb); have n2_ := Aside0.mk (blk_below (g := gb386) (o := .cells #[.int .i64 a0_0, .slice A0_1 l0_1.length c0_1] 24 (0, 0)) q32_10 hb); have n3_ := Aside0.mk (blk_below (g := gb387) (o := .cells #[.int .i64 a1_0, .int .i64 a1_1] 33 (0, 0)) q32_11 hb); have n4_ := Aside0.mk (below_step q32_2 hb); have n5_ := Aside0.mk (hbox); have n6_ := Aside0.mk ((by rw [hg]; exact (below_size q32_2) : w.heap.size ≤ gb400)); have n7_ := Aside0.mk ((by rw [hg]; exact (below_size q32_2) : w.heap.size ≤ gb400)); have n8_ := Aside0.mk ((by rw [hg]; exact Nat.ne_of_lt (blk_lt (g := gb386) (o := .cells #[.int .i64 a0_0, .slice A0_1 l0_1.length c0_1] 24 (0, 0)) q32_10) : gb386 ≠ gb400)); have n9_ := Aside0.mk ((by rw [hg]; exact Nat.ne_of_gt (blk_lt (g := gb386) (o := .cells #[.int .i64 a0_0, .slice A0_1 l0_1.length c0_1] 24 (0, 0)) q32_10) : gb400 ≠ gb386)); have n10_ := Aside0.mk ((by rw [hg]; exact Nat.ne_of_lt (blk_lt (g := gb387) (o := .cells #[.int .i64 a1_0, .int .i64 a1_1] 33 (0, 0)) q32_11) : gb387 ≠ gb400)); have n11_ := Aside0.mk ((by rw [hg]; exact Nat.ne_of_gt (blk_lt (g := gb387) (o := .cells #[.int .i64 a1_0, .int .i64 a1_1] 33 (0, 0)) q32_11) : gb400 ≠ gb387)); clear HO392; clear HO399; clear BK386; clear BK387; clear HB; have HO392 := n0_; have HO399 := n1_; have BK386 := n2_; have BK387 := n3_; have HB := n4_; have BK400 := n5_; have GW400 := n6_; have GE400 := n7_; have NB386_400 := n8_; have NB400_386 := n9_; have NB387_400 := n10_; have NB400_387 := n11_; clear n0_ n1_ n2_ n3_ n4_ n5_ n6_ n7_ n8_ n9_ n10_ n11_; clear hb hbox hg; have hnb79 := NB400_386.out; have hnc79 := NB386_400.out; have hnb80 := NB400_387.out; have hnc80 := NB387_400.out; have hcz81_0 : w78.cell? ⟨gb400, 0, none⟩ = some (.int .i64 0) := (blk_cell BK400.out 0).trans rfl; have hcz81_1 : w78.cell? ⟨gb400, 1, none⟩ = some (.slice none 0 0) := (blk_cell BK400.out 1).trans rfl; have hfz81_0 := blk_frozen BK400.out 0; have hfz81_1 := blk_frozen BK400.out 1; obtain ⟨Ao82, co82, eo82⟩ := Kd.R_slice HO399.out; subst eo82))
    have n0_ : Aside0 (Kd.R (Kd.int .i64) 3 ((w78.setCell ⟨gb400, 0, none⟩ (.int .i64 t396)).setCell ⟨gb400, 1, none⟩ (.slice Ao82 t397.length co82)) w.heap.size (fun k_ => some k_ ≠ (.slice Ao82 t397.length co82 : Value).ownBlock) (.slice Ao74 t390.length co74) t390) := ⟨by (with_reducible repeat (first | apply Kd.R_alloc | apply Kd.R_drewN | apply Kd.R_drew)); exact Kd.R_mono (Kd.R_far (p := ⟨gb400, 1, none⟩) (Kd.R_far (p := ⟨gb400, 0, none⟩) (Kd.R_types HO392.out BK400.out q32_16) (fun _ hk => hk.2) (.int .i64 t396)) (fun _ hk => hk.2) (.slice Ao82 t397.length co82)) (fun _ hk => hk.1.2)⟩
    have n1_ : Aside0 (Kd.R (Kd.int .i64) 3 ((w78.setCell ⟨gb400, 0, none⟩ (.int .i64 t396)).setCell ⟨gb400, 1, none⟩ (.slice Ao82 t397.length co82)) w.heap.size (fun k_ => some k_ ≠ (.slice Ao74 t390.length co74 : Value).ownBlock) (.slice Ao82 t397.length co82) t397) := ⟨by (with_reducible repeat (first | apply Kd.R_alloc | apply Kd.R_drewN | apply Kd.R_drew)); exact Kd.R_mono (Kd.R_far (p := ⟨gb400, 1, none⟩) (Kd.R_far (p := ⟨gb400, 0, none⟩) (Kd.R_types HO399.out BK400.out q32_16) (fun _ hk => hk.2) (.int .i64 t396)) (fun _ hk => hk.2) (.slice Ao82 t397.length co82)) (fun _ hk => hk.1.2)⟩
    have n2_ : Aside0 (((w78.setCell ⟨gb400, 0, none⟩ (.int .i64 t396)).setCell ⟨gb400, 1, none⟩ (.slice Ao82 t397.length co82)).heap[gb386]? = some (.cells #[.int .i64 a0_0, .slice A0_1 l0_1.length c0_1] 24 (0, 0))) := ⟨by (with_reducible repeat (first | refine blk_drewN ?_ _ | refine blk_drew ?_ | refine blk_alloc ?_ _)); refine blk_far ?_ NB386_400.out _; (with_reducible repeat (first | refine blk_drewN ?_ _ | refine blk_drew ?_ | refine blk_alloc ?_ _)); refine blk_far ?_ NB386_400.out _; (with_reducible repeat (first | refine blk_drewN ?_ _ | refine blk_drew ?_ | refine blk_alloc ?_ _)); exact BK386.out⟩
    have n3_ : Aside0 (((w78.setCell ⟨gb400, 0, none⟩ (.int .i64 t396)).setCell ⟨gb400, 1, none⟩ (.slice Ao82 t397.length co82)).heap[gb387]? = some (.cells #[.int .i64 a1_0, .int .i64 a1_1] 33 (0, 0))) := ⟨by (with_reducible repeat (first | refine blk_drewN ?_ _ | refine blk_drew ?_ | refine blk_alloc ?_ _)); refine blk_far ?_ NB387_400.out _; (with_reducible repeat (first | refine blk_drewN ?_ _ | refine blk_drew ?_ | refine blk_alloc ?_ _)); refine blk_far ?_ NB387_400.out _; (with_reducible repeat (first | refine blk_drewN ?_ _ | refine blk_drew ?_ | refine blk_alloc ?_ _)); exact BK387.out⟩
    have n4_ : Aside0 (((w78.setCell ⟨gb400, 0, none⟩ (.int .i64 t396)).setCell ⟨gb400, 1, none⟩ (.slice Ao82 t397.length co82)).heap[gb400]? = some (.cells #[.int .i64 t396, .slice Ao82 t397.length co82] 27 (0, 0))) := ⟨by (with_reducible repeat (first | refine blk_drewN ?_ _ | refine blk_drew ?_ | refine blk_alloc ?_ _)); refine blk_put (cs := #[.int .i64 t396, .slice none 0 0]) ?_ 1 _ rfl; (with_reducible repeat (first | refine blk_drewN ?_ _ | refine blk_drew ?_ | refine blk_alloc ?_ _)); refine blk_put (cs := #[.int .i64 0, .slice none 0 0]) ?_ 0 _ rfl; (with_reducible repeat (first | refine blk_drewN ?_ _ | refine blk_drew ?_ | refine blk_alloc ?_ _)); exact BK400.out⟩
    have n5_ : Aside0 (Below w.heap.size w ((w78.setCell ⟨gb400, 0, none⟩ (.int .i64 t396)).setCell ⟨gb400, 1, none⟩ (.slice Ao82 t397.length co82))) := ⟨by repeat (first | (with_reducible first | exact HB.out | apply below_alloc | apply pw_below_drewN | apply below_drew1 | refine below_set ?_ GE386.out | refine below_set ?_ GE387.out | refine below_set ?_ GE400.out) | exact HB.out)⟩
    (try clear HO392)
    (try clear HO399)
    (try clear BK386)
    (try clear BK387)
    (try clear BK400)
    (try clear HB)
    generalize ((w78.setCell ⟨gb400, 0, none⟩ (.int .i64 t396)).setCell ⟨gb400, 1, none⟩ (.slice Ao82 t397.length co82)) = w83 at n0_ n1_ n2_ n3_ n4_ n5_ ⊢
    have HO392 := n0_
    have HO399 := n1_
    have BK386 := n2_
    have BK387 := n3_
    have BK400 := n4_
    have HB := n5_
    clear n0_ n1_ n2_ n3_ n4_ n5_
    have n0_ := Aside0.mk (Kd.R_drew HO392.out)
    have n1_ := Aside0.mk (Kd.R_drew HO399.out)
    have n2_ := Aside0.mk (blk_drew BK386.out)
    have n3_ := Aside0.mk (blk_drew BK387.out)
    have n4_ := Aside0.mk (blk_drew BK400.out)
    have n5_ := Aside0.mk (below_drew1 HB.out)
    clear HO392
    clear HO399
    clear BK386
    clear BK387
    clear BK400
    clear HB
    have HO392 := n0_
    have HO399 := n1_
    have BK386 := n2_
    have BK387 := n3_
    have BK400 := n4_
    have HB := n5_
    clear n0_ n1_ n2_ n3_ n4_ n5_
    refine start_ (n := 5) (S := fun w' => w'.cell? ⟨gb400, 0, none⟩ = some (.int .i64 t396) ∧ w'.cell? ⟨gb400, 1, none⟩ = some (.slice Ao82 t397.length co82) ∧ w'.cell? ⟨gb387, 0, none⟩ = some (.int .i64 a1_0) ∧ w'.cell? ⟨gb387, 1, none⟩ = some (.int .i64 a1_1)) (ds := []) #[false, false, false, false, false] q32_15 rfl rfl ⟨(blk_cell BK400.out 0).trans rfl, (blk_cell BK400.out 1).trans rfl, (blk_cell BK387.out 0).trans rfl, (blk_cell BK387.out 1).trans rfl⟩ (fun hHeld => ?_)
    generalize w83.drew = w84 at HO392 HO399 BK386 BK387 BK400 HB hHeld ⊢
    refine take_ (i := 0) (N := some 21) (v := ?_) (a' := ?_) #[true, false, false, false, false] rfl rfl q32_15 (fun _ _ _ h => h) (Or.inl ⟨by rfl, ?_⟩) hHeld ?_ ?_
    rotate_left
    ·
     rintro w' ⟨s0, s1, s2, s3⟩
     go_simp
     with_reducible rfl
    rotate_left
    ·
     exact put32_
    refine take_ (i := 1) (N := some 22) (v := ?_) (a' := ?_) #[true, true, false, false, false] rfl rfl q32_15 (fun _ _ _ h => h) (Or.inl ⟨by rfl, ?_⟩) hHeld ?_ ?_
    rotate_left
    ·
     rintro w' ⟨s0, s1, s2, s3⟩
     go_simp
     with_reducible rfl
    rotate_left
    ·
     exact put32_
    refine one_ (i := 2) (N := some 23) #[true, true, true, false, false] rfl rfl q32_15 q32_16 (fun K hK => ?_)
    refine goes_ Try.func31 q32_15 rfl #[.agg #[.int .i64 a1_0, .int .i64 a1_1]] (by rfl) rfl rfl q32_8 ?_
    with_reducible refine (laws_toRule.calls a1_0 a1_1 t401 t402 _ A14.out).mono ?_
    rintro e w85 ⟨rfl, hb⟩
    refine ⟨_, rfl, ?_⟩
    have n0_ := Aside0.mk (Kd.R_below q32_13 hb)
    have n1_ := Aside0.mk (Kd.R_below q32_14 hb)
    have n2_ := Aside0.mk (blk_below (g := gb386) (o := .cells #[.int .i64 a0_0, .slice A0_1 l0_1.length c0_1] 24 (0, 0)) q32_10 hb)
    have n3_ := Aside0.mk (blk_below (g := gb387) (o := .cells #[.int .i64 a1_0, .int .i64 a1_1] 33 (0, 0)) q32_11 hb)
    have n4_ := Aside0.mk (blk_below (g := gb400) (o := .cells #[.int .i64 t396, .slice Ao82 t397.length co82] 27 (0, 0)) q32_12 hb)
    have n5_ := Aside0.mk (below_step q32_1 hb)
    clear HO392
    clear HO399
    clear BK386
    clear BK387
    clear BK400
    clear HB
    have HO392 := n0_
    have HO399 := n1_
    have BK386 := n2_
    have BK387 := n3_
    have BK400 := n4_
    have HB := n5_
    clear n0_ n1_ n2_ n3_ n4_ n5_
    (try clear hb)
    (try clear hb2)
    (try clear hk)
    (try clear hi)
    refine hK.out _ _ ⟨(blk_cell BK400.out 0).trans rfl, (blk_cell BK400.out 1).trans rfl, (blk_cell BK387.out 0).trans rfl, (blk_cell BK387.out 1).trans rfl⟩ (fun hHeld => ?_)
    clear hK K
    refine norm_ (a' := ?_) ?_ ?_
    rotate_left
    ·
     show Act.put _ (some 23) _ = _
     exact put32_
    refine one_ (i := 3) (N := some 24) #[true, true, true, true, false] rfl rfl q32_15 q32_16 (fun K hK => ?_)
    refine goes_ Try.func32 q32_15 rfl #[.agg #[.int .i64 t396, .slice Ao82 t397.length co82], .agg #[.int .i64 t401, .int .i64 t402]] (by rfl) rfl rfl q32_8 ?_
    with_reducible refine (impl_HoldsIn.calls k t396 _ _ t397 t401 t402 t403 _ ?side1 ?side2 A15.out).mono ?_
    (case side1 => exact q32_5)
    (case side2 => exact (Kd.R_reads' HO399.out).2.1)
    rintro e w86 ⟨rfl, hb⟩
    refine ⟨_, rfl, ?_⟩
    have n0_ := Aside0.mk (Kd.R_below q32_13 hb)
    have n1_ := Aside0.mk (Kd.R_below q32_14 hb)
    have n2_ := Aside0.mk (blk_below (g := gb386) (o := .cells #[.int .i64 a0_0, .slice A0_1 l0_1.length c0_1] 24 (0, 0)) q32_10 hb)
    have n3_ := Aside0.mk (blk_below (g := gb387) (o := .cells #[.int .i64 a1_0, .int .i64 a1_1] 33 (0, 0)) q32_11 hb)
    have n4_ := Aside0.mk (blk_below (g := gb400) (o := .cells #[.int .i64 t396, .slice Ao82 t397.length co82] 27 (0, 0)) q32_12 hb)
    have n5_ := Aside0.mk (below_step q32_1 hb)
    clear HO392
    clear HO399
    clear BK386
    clear BK387
    clear BK400
    clear HB
    have HO392 := n0_
    have HO399 := n1_
    have BK386 := n2_
    have BK387 := n3_
    have BK400 := n4_
    have HB := n5_
    clear n0_ n1_ n2_ n3_ n4_ n5_
    (try clear hb)
    (try clear hb2)
    (try clear hk)
    (try clear hi)
    refine hK.out _ _ ⟨(blk_cell BK400.out 0).trans rfl, (blk_cell BK400.out 1).trans rfl, (blk_cell BK387.out 0).trans rfl, (blk_cell BK387.out 1).trans rfl⟩ (fun hHeld => ?_)
    clear hK K
    refine norm_ (a' := ?_) ?_ ?_
    rotate_left
    ·
     show Act.put _ (some 24) _ = _
     exact put32_
    refine pure_ (i := 4) (N := some 8) (v := ?_) (a' := ?_) #[true, true, true, true, true] rfl rfl q32_15 (fun _ _ _ h => h) (Or.inl ⟨by rfl, ?_⟩) ?_ ?_
    rotate_left
    ·
     intro w'
     go_simp
     with_reducible rfl
    rotate_left
    ·
     exact put32_
    refine done_ q32_15 ?_
    try go_wp2
    have n0_ := Aside0.mk (Kd.R_drew HO392.out)
    have n1_ := Aside0.mk (Kd.R_drew HO399.out)
    have n2_ := Aside0.mk (blk_drew BK386.out)
    have n3_ := Aside0.mk (blk_drew BK387.out)
    have n4_ := Aside0.mk (blk_drew BK400.out)
    have n5_ := Aside0.mk (below_drew1 HB.out)
    clear HO392
    clear HO399
    clear BK386
    clear BK387
    clear BK400
    clear HB
    have HO392 := n0_
    have HO399 := n1_
    have BK386 := n2_
    have BK387 := n3_
    have BK400 := n4_
    have HB := n5_
    clear n0_ n1_ n2_ n3_ n4_ n5_
    refine start_ (n := 5) (S := fun w' => w'.cell? ⟨gb400, 0, none⟩ = some (.int .i64 t396) ∧ w'.cell? ⟨gb400, 1, none⟩ = some (.slice Ao82 t397.length co82) ∧ w'.cell? ⟨gb386, 0, none⟩ = some (.int .i64 a0_0) ∧ w'.cell? ⟨gb386, 1, none⟩ = some (.slice A0_1 l0_1.length c0_1)) (ds := []) #[false, false, false, false, false] q32_15 rfl rfl ⟨(blk_cell BK400.out 0).trans rfl, (blk_cell BK400.out 1).trans rfl, (blk_cell BK386.out 0).trans rfl, (blk_cell BK386.out 1).trans rfl⟩ (fun hHeld => ?_)
    generalize w86.drew = w87 at HO392 HO399 BK386 BK387 BK400 HB hHeld ⊢
    refine take_ (i := 0) (N := some 28) (v := ?_) (a' := ?_) #[true, false, false, false, false] rfl rfl q32_15 (fun _ _ _ h => h) (Or.inl ⟨by rfl, ?_⟩) hHeld ?_ ?_
    rotate_left
    ·
     rintro w' ⟨s0, s1, s2, s3⟩
     go_simp
     with_reducible rfl
    rotate_left
    ·
     exact put32_
    refine take_ (i := 1) (N := some 29) (v := ?_) (a' := ?_) #[true, true, false, false, false] rfl rfl q32_15 (fun _ _ _ h => h) (Or.inl ⟨by rfl, ?_⟩) hHeld ?_ ?_
    rotate_left
    ·
     rintro w' ⟨s0, s1, s2, s3⟩
     go_simp
     with_reducible rfl
    rotate_left
    ·
     exact put32_
    refine one_ (i := 2) (N := some 30) #[true, true, true, false, false] rfl rfl q32_15 q32_16 (fun K hK => ?_)
    refine goes_ Try.func17 q32_15 rfl #[.agg #[.int .i64 a0_0, .slice A0_1 l0_1.length c0_1]] (by rfl) rfl rfl q32_8 ?_
    with_reducible refine (laws_toContext.calls k a0_0 _ _ l0_1 t404 t405 _ ?side1 ?side2 A38.out).mono ?_
    (case side1 => exact q32_3)
    (case side2 => exact HC0_1.out)
    rintro e w88 ⟨v406, rfl, ho0, hb⟩
    refine ⟨_, rfl, ?_⟩
    have n0_ := Aside0.mk (Kd.R_elder' q32_13 (Kd.R_base ho0) hb)
    have n1_ := Aside0.mk (Kd.R_elder' q32_14 (Kd.R_base ho0) hb)
    have n2_ := Aside0.mk (Kd.R_lower (Kd.R_new' (Kd.R_new' ho0 (Kd.R_lt q32_13)) (Kd.R_lt q32_14)) (below_size q32_1))
    have n3_ := Aside0.mk (blk_below (g := gb386) (o := .cells #[.int .i64 a0_0, .slice A0_1 l0_1.length c0_1] 24 (0, 0)) q32_10 hb)
    have n4_ := Aside0.mk (blk_below (g := gb387) (o := .cells #[.int .i64 a1_0, .int .i64 a1_1] 33 (0, 0)) q32_11 hb)
    have n5_ := Aside0.mk (blk_below (g := gb400) (o := .cells #[.int .i64 t396, .slice Ao82 t397.length co82] 27 (0, 0)) q32_12 hb)
    have n6_ := Aside0.mk (below_step q32_1 hb)
    clear HO392
    clear HO399
    clear BK386
    clear BK387
    clear BK400
    clear HB
    have HO392 := n0_
    have HO399 := n1_
    have HO407 := n2_
    have BK386 := n3_
    have BK387 := n4_
    have BK400 := n5_
    have HB := n6_
    clear n0_ n1_ n2_ n3_ n4_ n5_ n6_
    (try clear hb)
    (try clear hb2)
    (try clear hk)
    (try clear hi)
    (try clear ho0)
    obtain ⟨Ao89, co89, eo89⟩ := Kd.R_slice HO407.out
    (first | subst eo89 | (injection eo89 with f1_ f2_ f3_; have f4_ := f1_.symm; have f5_ := f3_.symm; clear f1_ f2_ f3_; subst f4_; subst f5_))
    refine hK.out _ _ ⟨(blk_cell BK400.out 0).trans rfl, (blk_cell BK400.out 1).trans rfl, (blk_cell BK386.out 0).trans rfl, (blk_cell BK386.out 1).trans rfl⟩ (fun hHeld => ?_)
    clear hK K
    refine norm_ (a' := ?_) ?_ ?_
    rotate_left
    ·
     show Act.put _ (some 30) _ = _
     exact put32_
    refine one_ (i := 3) (N := some 31) #[true, true, true, true, false] rfl rfl q32_15 q32_16 (fun K hK => ?_)
    refine goes_ Try.func19 q32_15 rfl #[.agg #[.int .i64 t396, .slice Ao82 t397.length co82], .agg #[.int .i64 t404, .slice Ao89 t405.length co89]] (by rfl) rfl rfl q32_8 ?_
    with_reducible refine (laws_eqContext.calls k t396 _ _ t397 t404 _ _ t405 false _ ?side1 ?side2 ?side3 ?side4 A39.out).mono ?_
    (case side1 => exact q32_5)
    (case side2 => exact (Kd.R_reads' HO399.out).2.1)
    (case side3 => exact q32_6)
    (case side4 => exact (Kd.R_reads' HO407.out).2.1)
    rintro e w90 ⟨rfl, hb⟩
    refine ⟨_, rfl, ?_⟩
    have n0_ := Aside0.mk (Kd.R_below q32_13 hb)
    have n1_ := Aside0.mk (Kd.R_below q32_14 hb)
    have n2_ := Aside0.mk (Kd.R_below (by (with_reducible repeat (first | apply Kd.R_alloc | apply Kd.R_drewN | apply Kd.R_drew)); exact HO407.out) hb)
    have n3_ := Aside0.mk (blk_below (g := gb386) (o := .cells #[.int .i64 a0_0, .slice A0_1 l0_1.length c0_1] 24 (0, 0)) q32_10 hb)
    have n4_ := Aside0.mk (blk_below (g := gb387) (o := .cells #[.int .i64 a1_0, .int .i64 a1_1] 33 (0, 0)) q32_11 hb)
    have n5_ := Aside0.mk (blk_below (g := gb400) (o := .cells #[.int .i64 t396, .slice Ao82 t397.length co82] 27 (0, 0)) q32_12 hb)
    have n6_ := Aside0.mk (below_step q32_1 hb)
    clear HO392
    clear HO399
    clear HO407
    clear BK386
    clear BK387
    clear BK400
    clear HB
    have HO392 := n0_
    have HO399 := n1_
    have HO407 := n2_
    have BK386 := n3_
    have BK387 := n4_
    have BK400 := n5_
    have HB := n6_
    clear n0_ n1_ n2_ n3_ n4_ n5_ n6_
    (try clear hb)
    (try clear hb2)
    (try clear hk)
    (try clear hi)
    refine hK.out _ _ ⟨(blk_cell BK400.out 0).trans rfl, (blk_cell BK400.out 1).trans rfl, (blk_cell BK386.out 0).trans rfl, (blk_cell BK386.out 1).trans rfl⟩ (fun hHeld => ?_)
    clear hK K
    refine norm_ (a' := ?_) ?_ ?_
    rotate_left
    ·
     show Act.put _ (some 31) _ = _
     exact put32_
    refine pure_ (i := 4) (N := some 32) (v := ?_) (a' := ?_) #[true, true, true, true, true] rfl rfl q32_15 (fun _ _ _ h => h) (Or.inl ⟨by rfl, ?_⟩) ?_ ?_
    rotate_left
    ·
     intro w'
     go_simp
     with_reducible rfl
    rotate_left
    ·
     exact put32_
    refine done_ q32_15 ?_
    try go_wp2
    go_ret
    exact ⟨by first | rfl | (simp [errW_none, errW_some] <;> rfl) | (simp [*, errW_none, errW_some] <;> rfl), by repeat (first | (with_reducible first | exact HB.out | apply below_alloc | apply pw_below_drewN | apply below_drew1 | refine below_set ?_ GE386.out | refine below_set ?_ GE387.out | refine below_set ?_ GE400.out) | exact HB.out)⟩

end Go.Proofs.Ytemhlblajnlogaa.Pr
