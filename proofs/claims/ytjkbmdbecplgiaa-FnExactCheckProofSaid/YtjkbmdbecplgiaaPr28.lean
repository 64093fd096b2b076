/- Functions of the program as plain functions, each with the proof that its call answers so. Written by a program of this place (myprint.py over the kit's print). No condition beyond what each statement says. -/
import Derived.Test.YtjkbmdbecplgiaaPr0
import Derived.Test.YtjkbmdbecplgiaaPr1
import Derived.Test.YtjkbmdbecplgiaaPr2
import Derived.Test.YtjkbmdbecplgiaaPr3
import Derived.Test.YtjkbmdbecplgiaaPr7
import Derived.Test.YtjkbmdbecplgiaaPr8
import Derived.Test.YtjkbmdbecplgiaaPr9
import Derived.Test.YtjkbmdbecplgiaaPr10
import Derived.Test.YtjkbmdbecplgiaaPr17
namespace Go.Proofs.Ytjkbmdbecplgiaa.Pr
open Go.RowKit Go.Proofs.YtjkbmdbecplgiaaW.PrintWords Go.Proofs.YtjkbmdbecplgiaaW.PrintLast Go.Proofs.YtjkbmdbecplgiaaW.PrintMore
attribute [local go_sem] max2_int min2_int max_two min_two max_three min_three max_four min_four   -- for this text's walks alone
set_option linter.unusedVariables false
set_option linter.unusedSimpArgs false

theorem put28_ {P : Prop} (h : P := by simp only [Act.put, List.setIfInBounds_toArray, List.set_cons_zero, List.set_cons_succ, i64_w, i32_w]; rfl) : P := h
/-! ### laws_FnExactCheckProof: function 10 -/
theorem q28_1 {P : Prop} (h : P := by repeat (first | exact (Kd.C_below HR2.out (by repeat (first | (with_reducible first | exact HB.out | apply below_alloc | apply pw_below_drewN | apply below_drew1 | refine below_set ?_ GE364.out) | exact HB.out))) | (with_reducible refine Kd.C_alloc ?_ _) | (with_reducible refine Kd.C_drewN ?_ _) | (with_reducible refine Kd.C_drew ?_))) : P := h
theorem q28_2 {P : Prop} (h : P := by repeat (first | exact (Kd.C_below HR0.out HB.out) | (with_reducible refine Kd.C_alloc ?_ _) | (with_reducible refine Kd.C_drewN ?_ _) | (with_reducible refine Kd.C_drew ?_))) : P := h
theorem q28_3 {P : Prop} (h : P := by repeat (first | exact (Kd.C_below HR2.out HB.out) | (with_reducible refine Kd.C_alloc ?_ _) | (with_reducible refine Kd.C_drewN ?_ _) | (with_reducible refine Kd.C_drew ?_))) : P := h
theorem q28_4 {P : Prop} (h : P := by repeat (first | exact (Kd.R_reads' HO369.out).2.2 | (with_reducible refine Kd.C_alloc ?_ _) | (with_reducible refine Kd.C_drewN ?_ _) | (with_reducible refine Kd.C_drew ?_))) : P := h
theorem q28_5 {P : Prop} (h : P := by repeat (first | exact (Kd.R_reads' HO374.out).2.2 | (with_reducible refine Kd.C_alloc ?_ _) | (with_reducible refine Kd.C_drewN ?_ _) | (with_reducible refine Kd.C_drew ?_))) : P := h
theorem q28_6 {P : Prop} (h : P := by repeat (first | exact (Kd.R_reads' HO378.out).2.2 | (with_reducible refine Kd.C_alloc ?_ _) | (with_reducible refine Kd.C_drewN ?_ _) | (with_reducible refine Kd.C_drew ?_))) : P := h
theorem q28_7 {P : Prop} (h : P := by repeat (first | exact (Kd.R_reads' HO381.out).2.2 | (with_reducible refine Kd.C_alloc ?_ _) | (with_reducible refine Kd.C_drewN ?_ _) | (with_reducible refine Kd.C_drew ?_))) : P := h
theorem q28_8 {P : Prop} (h : P := by repeat (first | exact (Kd.R_reads' HO387.out).2.2 | (with_reducible refine Kd.C_alloc ?_ _) | (with_reducible refine Kd.C_drewN ?_ _) | (with_reducible refine Kd.C_drew ?_))) : P := h
theorem q28_9 {P : Prop} (h : P := by repeat (first | exact (Kd.R_reads' HO391.out).2.2 | (with_reducible refine Kd.C_alloc ?_ _) | (with_reducible refine Kd.C_drewN ?_ _) | (with_reducible refine Kd.C_drew ?_))) : P := h
theorem q28_10 {P : Prop} (h : P := by repeat (first | (with_reducible first | exact HB.out | apply below_alloc | apply pw_below_drewN | apply below_drew1 | refine below_set ?_ GE364.out) | exact HB.out)) : P := h
theorem q28_11 {P : Prop} (h : P := by (try simp only [List.map_toArray, List.map_cons, List.map_nil]); first | done | rfl | (simp only [List.length_drop, List.length_take]; rfl)) : P := h
theorem q28_12 {P : Prop} (h : P := by repeat (first | (with_reducible first | exact HB.out | apply below_alloc | apply pw_below_drewN | apply below_drew1) | exact HB.out)) : P := h
theorem q28_13 {P : Prop} (h : P := by (with_reducible repeat (first | refine blk_drewN ?_ _ | refine blk_drew ?_ | refine blk_alloc ?_ _)); exact BK364.out) : P := h
theorem q28_14 {P : Prop} (h : P := by (with_reducible repeat (first | apply Kd.R_alloc | apply Kd.R_drewN | apply Kd.R_drew)); exact HO369.out) : P := h
theorem q28_15 {P : Prop} (h : P := by (with_reducible repeat (first | apply Kd.R_alloc | apply Kd.R_drewN | apply Kd.R_drew)); exact HO374.out) : P := h
theorem q28_16 {P : Prop} (h : P := by (with_reducible repeat (first | apply Kd.R_alloc | apply Kd.R_drewN | apply Kd.R_drew)); exact HO378.out) : P := h
theorem q28_17 {P : Prop} (h : P := by (with_reducible repeat (first | apply Kd.R_alloc | apply Kd.R_drewN | apply Kd.R_drew)); exact HO381.out) : P := h
theorem q28_18 {P : Prop} (h : P := by (with_reducible repeat (first | apply Kd.R_alloc | apply Kd.R_drewN | apply Kd.R_drew)); exact HO387.out) : P := h
theorem q28_19 {P : Prop} (h : P := by kernel_rfl) : P := h
def laws_FnExactCheckProof.f (k : Nat) (l0 : List (S23)) (a1_0 : Int) (a1_1 : Int) (l2 : List (S66)) : Option (Bool) := (laws_szRuleS.f l0 1048576).bind fun t365 => (if t365 < 0 then (some true) else ((laws_szStepS.f l2 t365).bind fun t366 => (if t366 < 0 then (some true) else ((laws_toRuleS.f k l0).bind fun t367 => ((laws_toRule.f a1_0 a1_1).bind fun bt370 => ((laws_toStepS.f k l2).bind fun t372 => ((spec_CheckProof.f k t367 bt370.1 bt370.2 t372).bind fun t375 => ((laws_toRuleS.f k l0).bind fun t376 => ((laws_toStepS.f k l2).bind fun t379 => ((laws_toRule.f a1_0 a1_1).bind fun bt382 => ((impl_CheckProof.f k t376 bt382.1 bt382.2 t379).bind fun t384 => (if (t384 != t375) = true then (some false) else ((laws_toRuleS.f k l0).bind fun t385 => ((laws_eqRuleS.f k t376 t385).bind fun t388 => (if t388 = true then ((laws_toStepS.f k l2).bind fun t389 => ((laws_eqStepS.f k t379 t389).bind fun t392 => (if t392 = true then (some true) else (some false)))) else (some false))))))))))))))))
theorem laws_FnExactCheckProof.mono : ∀ a0 a1 a2 a3 k, LeO (laws_FnExactCheckProof.f k a0 a1 a2 a3) (laws_FnExactCheckProof.f (k + 1) a0 a1 a2 a3) := by
 intro a0 a1 a2 a3 k
 unfold laws_FnExactCheckProof.f
 repeat' first
   | (with_reducible exact impl_CheckProof.mono _ _ _ _ _)
   | (with_reducible exact laws_eqRuleS.mono _ _ _)
   | (with_reducible exact laws_eqStepS.mono _ _ _)
   | (with_reducible exact laws_toRuleS.mono _ _)
   | (with_reducible exact laws_toStepS.mono _ _)
   | (with_reducible exact spec_CheckProof.mono _ _ _ _ _)
   | (with_reducible exact LeO.refl _)
   | (with_reducible exact LeO.none _)
   | (with_reducible refine LeO.ite ?_ ?_)
   | (with_reducible refine LeO.bind ?_ (fun _ => ?_))
   | exact impl_CheckProof.mono _ _ _ _ _
   | exact laws_eqRuleS.mono _ _ _
   | exact laws_eqStepS.mono _ _ _
   | exact laws_toRuleS.mono _ _
   | exact laws_toStepS.mono _ _
   | exact spec_CheckProof.mono _ _ _ _ _
   | exact LeO.none _
   | refine LeO.ite ?_ ?_
   | refine LeO.bind ?_ (fun _ => ?_)
def laws_FnExactCheckProof.T8 : Bool × List (List Nat × List Nat) := (true, [([], []), ([0], [0]), ([], []), ([2, 1], [2]), ([], []), ([4, 3], [4]), ([1, 3, 5, 5], [1, 3, 5]), ([6, 6, 0, 1, 2, 3, 4, 5, 6], [6])])
def laws_FnExactCheckProof.B8 : List Nat := [0, 1, 0, 7, 0, 31, 63, 127]
theorem laws_FnExactCheckProof.tab8 : rtab .any (opsOf Try.f10 8) = laws_FnExactCheckProof.T8 := q28_19
theorem laws_FnExactCheckProof.bits8 : waitsOk laws_FnExactCheckProof.T8.2 laws_FnExactCheckProof.B8 = true := q28_19
set_option maxHeartbeats 8000000 in
set_option maxRecDepth 100000 in
theorem laws_FnExactCheckProof.calls (k : Nat) (A0 : Option Addr) (c0 : Nat) (l0 : List (S23)) (a1_0 : Int) (a1_1 : Int) (A2 : Option Addr) (c2 : Nat) (l2 : List (S66)) (r : Bool) (w : World) (hr0 : Kd.C k23 w A0 l0.length l0) (hc0 : l0.length ≤ c0) (hr2 : Kd.C k66 w A2 l2.length l2) (hc2 : l2.length ≤ c2) (h : laws_FnExactCheckProof.f k l0 a1_0 a1_1 l2 = some r) :
  Calls Try.prog 10 #[.slice A0 l0.length c0, .agg #[.int .i64 a1_0, .int .i64 a1_1], .slice A2 l2.length c2] w fun e w' => e = .returned (.bool r) ∧ Below w.heap.size w w' := by
 have hu23 := Try.underlying23
 have HR0 := Aside0.mk hr0
 have HC0 := Aside0.mk hc0
 clear hr0 hc0
 have HR2 := Aside0.mk hr2
 have HC2 := Aside0.mk hc2
 clear hr2 hc2
 have HB := Aside0.mk (Below.refl w.heap.size w)
 have H : ((laws_szRuleS.f l0 1048576).bind fun t365 => (if t365 < 0 then (some true) else ((laws_szStepS.f l2 t365).bind fun t366 => (if t366 < 0 then (some true) else ((laws_toRuleS.f k l0).bind fun t367 => ((laws_toRule.f a1_0 a1_1).bind fun bt370 => ((laws_toStepS.f k l2).bind fun t372 => ((spec_CheckProof.f k t367 bt370.1 bt370.2 t372).bind fun t375 => ((laws_toRuleS.f k l0).bind fun t376 => ((laws_toStepS.f k l2).bind fun t379 => ((laws_toRule.f a1_0 a1_1).bind fun bt382 => ((impl_CheckProof.f k t376 bt382.1 bt382.2 t379).bind fun t384 => (if (t384 != t375) = true then (some false) else ((laws_toRuleS.f k l0).bind fun t385 => ((laws_eqRuleS.f k t376 t385).bind fun t388 => (if t388 = true then ((laws_toStepS.f k l2).bind fun t389 => ((laws_eqStepS.f k t379 t389).bind fun t392 => (if t392 = true then (some true) else (some false)))) else (some false))))))))))))))))) = some r := h
 clear h
 replace H := Option.bind_eq_some_iff.mp H
 obtain ⟨t365, A40, H⟩ := H
 replace H : (if t365 < 0 then (some true) else ((laws_szStepS.f l2 t365).bind fun t366 => (if t366 < 0 then (some true) else ((laws_toRuleS.f k l0).bind fun t367 => ((laws_toRule.f a1_0 a1_1).bind fun bt370 => ((laws_toStepS.f k l2).bind fun t372 => ((spec_CheckProof.f k t367 bt370.1 bt370.2 t372).bind fun t375 => ((laws_toRuleS.f k l0).bind fun t376 => ((laws_toStepS.f k l2).bind fun t379 => ((laws_toRule.f a1_0 a1_1).bind fun bt382 => ((impl_CheckProof.f k t376 bt382.1 bt382.2 t379).bind fun t384 => (if (t384 != t375) = true then (some false) else ((laws_toRuleS.f k l0).bind fun t385 => ((laws_eqRuleS.f k t376 t385).bind fun t388 => (if t388 = true then ((laws_toStepS.f k l2).bind fun t389 => ((laws_eqStepS.f k t379 t389).bind fun t392 => (if t392 = true then (some true) else (some false)))) else (some false)))))))))))))))) = some r := H
 have A4 := Aside0.mk A40
 clear A40
 by_cases c5 : t365 < 0
 ·
  rw [if_pos c5] at H
  have c5b0 : decide (t365 < 0) = true := decide_eq_true c5
  clear c5
  obtain rfl := Option.some.inj H
  go_enter Try.func10, Try.ntmps10
  go_wp2_with (first | ((with_reducible refine gate_dst (N := 4) rfl ?_); refine box_event ?hg (N := 4) ?hd (cs := #[.int .i64 a1_0, .int .i64 a1_1]) (t := 23) ?hr ?_; (case hd => rfl); (case hg => rfl); (case hr => first | (go_simp; done) | (go_simp; rfl)); intro gb364 hg w6 hbox hb; have n0_ := Aside0.mk (below_step q28_12 hb); have n1_ := Aside0.mk (hbox); have n2_ := Aside0.mk ((by rw [hg]; exact (below_size q28_12) : w.heap.size ≤ gb364)); have n3_ := Aside0.mk ((by rw [hg]; exact (below_size q28_12) : w.heap.size ≤ gb364)); clear HB; have HB := n0_; have BK364 := n1_; have GW364 := n2_; have GE364 := n3_; clear n0_ n1_ n2_ n3_; clear hb hbox hg) | ((with_reducible refine gate_callee (f := 18) rfl ?_); refine goesL_ (some 14) rfl rfl Try.func18 q28_19 rfl #[.slice A0 l0.length c0, .int .i64 1048576] rfl q28_11 ?_; (with_reducible refine (laws_szRuleS.calls _ _ l0 1048576 t365 _ ?side1 ?side2 A4.out).mono ?_); (case side1 => exact q28_2); (case side2 => exact HC0.out); rintro e w' ⟨rfl, ⟨nd, rfl⟩⟩; refine ⟨_, rfl, ?_⟩))
  go_ret
  exact ⟨by first | rfl | (simp [errW_none, errW_some] <;> rfl) | (simp [*, errW_none, errW_some] <;> rfl), by repeat (first | (with_reducible first | exact HB.out | apply below_alloc | apply pw_below_drewN | apply below_drew1 | refine below_set ?_ GE364.out) | exact HB.out)⟩
 ·
  rw [if_neg c5] at H
  have c5b0 : decide (t365 < 0) = false := decide_eq_false c5
  clear c5
  replace H := Option.bind_eq_some_iff.mp H
  obtain ⟨t366, A70, H⟩ := H
  replace H : (if t366 < 0 then (some true) else ((laws_toRuleS.f k l0).bind fun t367 => ((laws_toRule.f a1_0 a1_1).bind fun bt370 => ((laws_toStepS.f k l2).bind fun t372 => ((spec_CheckProof.f k t367 bt370.1 bt370.2 t372).bind fun t375 => ((laws_toRuleS.f k l0).bind fun t376 => ((laws_toStepS.f k l2).bind fun t379 => ((laws_toRule.f a1_0 a1_1).bind fun bt382 => ((impl_CheckProof.f k t376 bt382.1 bt382.2 t379).bind fun t384 => (if (t384 != t375) = true then (some false) else ((laws_toRuleS.f k l0).bind fun t385 => ((laws_eqRuleS.f k t376 t385).bind fun t388 => (if t388 = true then ((laws_toStepS.f k l2).bind fun t389 => ((laws_eqStepS.f k t379 t389).bind fun t392 => (if t392 = true then (some true) else (some false)))) else (some false)))))))))))))) = some r := H
  have A7 := Aside0.mk A70
  clear A70
  by_cases c8 : t366 < 0
  ·
   rw [if_pos c8] at H
   have c8b0 : decide (t366 < 0) = true := decide_eq_true c8
   clear c8
   obtain rfl := Option.some.inj H
   go_enter Try.func10, Try.ntmps10
   go_wp2_with (first | ((with_reducible refine gate_dst (N := 4) rfl ?_); refine box_event ?hg (N := 4) ?hd (cs := #[.int .i64 a1_0, .int .i64 a1_1]) (t := 23) ?hr ?_; (case hd => rfl); (case hg => rfl); (case hr => first | (go_simp; done) | (go_simp; rfl)); intro gb364 hg w9 hbox hb; have n0_ := Aside0.mk (below_step q28_12 hb); have n1_ := Aside0.mk (hbox); have n2_ := Aside0.mk ((by rw [hg]; exact (below_size q28_12) : w.heap.size ≤ gb364)); have n3_ := Aside0.mk ((by rw [hg]; exact (below_size q28_12) : w.heap.size ≤ gb364)); clear HB; have HB := n0_; have BK364 := n1_; have GW364 := n2_; have GE364 := n3_; clear n0_ n1_ n2_ n3_; clear hb hbox hg) | ((with_reducible refine gate_callee (f := 18) rfl ?_); refine goesL_ (some 14) rfl rfl Try.func18 q28_19 rfl #[.slice A0 l0.length c0, .int .i64 1048576] rfl q28_11 ?_; (with_reducible refine (laws_szRuleS.calls _ _ l0 1048576 t365 _ ?side1 ?side2 A4.out).mono ?_); (case side1 => exact q28_2); (case side2 => exact HC0.out); rintro e w' ⟨rfl, ⟨nd, rfl⟩⟩; refine ⟨_, rfl, ?_⟩) | ((with_reducible refine gate_callee (f := 33) rfl ?_); refine goesL_ (some 19) rfl rfl Try.func33 q28_19 rfl #[.slice A2 l2.length c2, .int .i64 t365] rfl q28_11 ?_; (with_reducible refine (laws_szStepS.calls _ _ l2 t365 t366 _ ?side1 ?side2 A7.out).mono ?_); (case side1 => exact q28_1); (case side2 => exact HC2.out); rintro e w' ⟨rfl, ⟨nd, rfl⟩⟩; refine ⟨_, rfl, ?_⟩))
   go_ret
   exact ⟨by first | rfl | (simp [errW_none, errW_some] <;> rfl) | (simp [*, errW_none, errW_some] <;> rfl), by repeat (first | (with_reducible first | exact HB.out | apply below_alloc | apply pw_below_drewN | apply below_drew1 | refine below_set ?_ GE364.out) | exact HB.out)⟩
  ·
   rw [if_neg c8] at H
   have c8b0 : decide (t366 < 0) = false := decide_eq_false c8
   clear c8
   replace H := Option.bind_eq_some_iff.mp H
   obtain ⟨t367, A100, H⟩ := H
   replace H : ((laws_toRule.f a1_0 a1_1).bind fun bt370 => ((laws_toStepS.f k l2).bind fun t372 => ((spec_CheckProof.f k t367 bt370.1 bt370.2 t372).bind fun t375 => ((laws_toRuleS.f k l0).bind fun t376 => ((laws_toStepS.f k l2).bind fun t379 => ((laws_toRule.f a1_0 a1_1).bind fun bt382 => ((impl_CheckProof.f k t376 bt382.1 bt382.2 t379).bind fun t384 => (if (t384 != t375) = true then (some false) else ((laws_toRuleS.f k l0).bind fun t385 => ((laws_eqRuleS.f k t376 t385).bind fun t388 => (if t388 = true then ((laws_toStepS.f k l2).bind fun t389 => ((laws_eqStepS.f k t379 t389).bind fun t392 => (if t392 = true then (some true) else (some false)))) else (some false)))))))))))) = some r := H
   have A10 := Aside0.mk A100
   clear A100
   replace H := Option.bind_eq_some_iff.mp H
   obtain ⟨⟨t370, t371⟩, A110, H⟩ := H
   replace H : ((laws_toStepS.f k l2).bind fun t372 => ((spec_CheckProof.f k t367 t370 t371 t372).bind fun t375 => ((laws_toRuleS.f k l0).bind fun t376 => ((laws_toStepS.f k l2).bind fun t379 => ((laws_toRule.f a1_0 a1_1).bind fun bt382 => ((impl_CheckProof.f k t376 bt382.1 bt382.2 t379).bind fun t384 => (if (t384 != t375) = true then (some false) else ((laws_toRuleS.f k l0).bind fun t385 => ((laws_eqRuleS.f k t376 t385).bind fun t388 => (if t388 = true then ((laws_toStepS.f k l2).bind fun t389 => ((laws_eqStepS.f k t379 t389).bind fun t392 => (if t392 = true then (some true) else (some false)))) else (some false))))))))))) = some r := H
   have A11 := Aside0.mk A110
   clear A110
   replace H := Option.bind_eq_some_iff.mp H
   obtain ⟨t372, A120, H⟩ := H
   replace H : ((spec_CheckProof.f k t367 t370 t371 t372).bind fun t375 => ((laws_toRuleS.f k l0).bind fun t376 => ((laws_toStepS.f k l2).bind fun t379 => ((laws_toRule.f a1_0 a1_1).bind fun bt382 => ((impl_CheckProof.f k t376 bt382.1 bt382.2 t379).bind fun t384 => (if (t384 != t375) = true then (some false) else ((laws_toRuleS.f k l0).bind fun t385 => ((laws_eqRuleS.f k t376 t385).bind fun t388 => (if t388 = true then ((laws_toStepS.f k l2).bind fun t389 => ((laws_eqStepS.f k t379 t389).bind fun t392 => (if t392 = true then (some true) else (some false)))) else (some false)))))))))) = some r := H
   have A12 := Aside0.mk A120
   clear A120
   replace H := Option.bind_eq_some_iff.mp H
   obtain ⟨t375, A130, H⟩ := H
   replace H : ((laws_toRuleS.f k l0).bind fun t376 => ((laws_toStepS.f k l2).bind fun t379 => ((laws_toRule.f a1_0 a1_1).bind fun bt382 => ((impl_CheckProof.f k t376 bt382.1 bt382.2 t379).bind fun t384 => (if (t384 != t375) = true then (some false) else ((laws_toRuleS.f k l0).bind fun t385 => ((laws_eqRuleS.f k t376 t385).bind fun t388 => (if t388 = true then ((laws_toStepS.f k l2).bind fun t389 => ((laws_eqStepS.f k t379 t389).bind fun t392 => (if t392 = true then (some true) else (some false)))) else (some false))))))))) = some r := H
   have A13 := Aside0.mk A130
   clear A130
   replace H := Option.bind_eq_some_iff.mp H
   obtain ⟨t376, A140, H⟩ := H
   replace H : ((laws_toStepS.f k l2).bind fun t379 => ((laws_toRule.f a1_0 a1_1).bind fun bt382 => ((impl_CheckProof.f k t376 bt382.1 bt382.2 t379).bind fun t384 => (if (t384 != t375) = true then (some false) else ((laws_toRuleS.f k l0).bind fun t385 => ((laws_eqRuleS.f k t376 t385).bind fun t388 => (if t388 = true then ((laws_toStepS.f k l2).bind fun t389 => ((laws_eqStepS.f k t379 t389).bind fun t392 => (if t392 = true then (some true) else (some false)))) else (some false)))))))) = some r := H
   have A14 := Aside0.mk A140
   clear A140
   replace H := Option.bind_eq_some_iff.mp H
   obtain ⟨t379, A150, H⟩ := H
   replace H : ((laws_toRule.f a1_0 a1_1).bind fun bt382 => ((impl_CheckProof.f k t376 bt382.1 bt382.2 t379).bind fun t384 => (if (t384 != t375) = true then (some false) else ((laws_toRuleS.f k l0).bind fun t385 => ((laws_eqRuleS.f k t376 t385).bind fun t388 => (if t388 = true then ((laws_toStepS.f k l2).bind fun t389 => ((laws_eqStepS.f k t379 t389).bind fun t392 => (if t392 = true then (some true) else (some false)))) else (some false))))))) = some r := H
   have A15 := Aside0.mk A150
   clear A150
   replace H := Option.bind_eq_some_iff.mp H
   obtain ⟨⟨t382, t383⟩, A160, H⟩ := H
   replace H : ((impl_CheckProof.f k t376 t382 t383 t379).bind fun t384 => (if (t384 != t375) = true then (some false) else ((laws_toRuleS.f k l0).bind fun t385 => ((laws_eqRuleS.f k t376 t385).bind fun t388 => (if t388 = true then ((laws_toStepS.f k l2).bind fun t389 => ((laws_eqStepS.f k t379 t389).bind fun t392 => (if t392 = true then (some true) else (some false)))) else (some false)))))) = some r := H
   have A16 := Aside0.mk A160
   clear A160
   replace H := Option.bind_eq_some_iff.mp H
   obtain ⟨t384, A170, H⟩ := H
   replace H : (if (t384 != t375) = true then (some false) else ((laws_toRuleS.f k l0).bind fun t385 => ((laws_eqRuleS.f k t376 t385).bind fun t388 => (if t388 = true then ((laws_toStepS.f k l2).bind fun t389 => ((laws_eqStepS.f k t379 t389).bind fun t392 => (if t392 = true then (some true) else (some false)))) else (some false))))) = some r := H
   have A17 := Aside0.mk A170
   clear A170
   by_cases c18 : (t384 != t375) = true
   ·
    rw [if_pos c18] at H
    have c18b0 : (t384 != t375) = true := c18
    (try (have c18b1 : decide (t384 = t375) = false := by simpa using c18))
    (try (have c18b2 : (t384 == t375) = false := by simpa using c18))
    (try (have c18b3 : ¬ (t384 = t375) := by simpa using c18))
    clear c18
    obtain rfl := Option.some.inj H
    go_enter Try.func10, Try.ntmps10
    try go_wp2_with (first | ((with_reducible refine gate_dst (N := 4) rfl ?_); refine box_event ?hg (N := 4) ?hd (cs := #[.int .i64 a1_0, .int .i64 a1_1]) (t := 23) ?hr ?_; (case hd => rfl); (case hg => rfl); (case hr => first | (go_simp; done) | (go_simp; rfl)); intro gb364 hg w19 hbox hb; have n0_ := Aside0.mk (below_step q28_12 hb); have n1_ := Aside0.mk (hbox); have n2_ := Aside0.mk ((by rw [hg]; exact (below_size q28_12) : w.heap.size ≤ gb364)); have n3_ := Aside0.mk ((by rw [hg]; exact (below_size q28_12) : w.heap.size ≤ gb364)); clear HB; have HB := n0_; have BK364 := n1_; have GW364 := n2_; have GE364 := n3_; clear n0_ n1_ n2_ n3_; clear hb hbox hg) | ((with_reducible refine gate_callee (f := 18) rfl ?_); refine goesL_ (some 14) rfl rfl Try.func18 q28_19 rfl #[.slice A0 l0.length c0, .int .i64 1048576] rfl q28_11 ?_; (with_reducible refine (laws_szRuleS.calls _ _ l0 1048576 t365 _ ?side1 ?side2 A4.out).mono ?_); (case side1 => exact q28_2); (case side2 => exact HC0.out); rintro e w' ⟨rfl, ⟨nd, rfl⟩⟩; refine ⟨_, rfl, ?_⟩) | ((with_reducible refine gate_callee (f := 33) rfl ?_); refine goesL_ (some 19) rfl rfl Try.func33 q28_19 rfl #[.slice A2 l2.length c2, .int .i64 t365] rfl q28_11 ?_; (with_reducible refine (laws_szStepS.calls _ _ l2 t365 t366 _ ?side1 ?side2 A7.out).mono ?_); (case side1 => exact q28_1); (case side2 => exact HC2.out); rintro e w' ⟨rfl, ⟨nd, rfl⟩⟩; refine ⟨_, rfl, ?_⟩))
    (try (rw [drewN_self w19]; generalize hq_ : World.drewN w19 _ = w19; have n0_ : Aside0 (w19.heap[gb364]? = some (.cells #[.int .i64 a1_0, .int .i64 a1_1] 23 (0, 0))) := ⟨by rw [← hq_]; exact q28_13⟩; have n1_ : Aside0 (Below w.heap.size w w19) := ⟨by rw [← hq_]; exact q28_10⟩; clear BK364 HB hq_; have BK364 := n0_; have HB := n1_; clear n0_ n1_))
    have n0_ := Aside0.mk (blk_drew BK364.out)
    have n1_ := Aside0.mk (below_drew1 HB.out)
    clear BK364
    clear HB
    have BK364 := n0_
    have HB := n1_
    clear n0_ n1_
    refine start_ (n := 8) (S := fun w' => w'.cell? ⟨gb364, 0, none⟩ = some (.int .i64 a1_0) ∧ w'.cell? ⟨gb364, 1, none⟩ = some (.int .i64 a1_1)) (ds := []) #[false, false, false, false, false, false, false, false] q28_19 rfl rfl ⟨(blk_cell BK364.out 0).trans rfl, (blk_cell BK364.out 1).trans rfl⟩ (fun hHeld => ?_); refine with_tabW laws_FnExactCheckProof.tab8 laws_FnExactCheckProof.bits8 (fun HT_ HW_ => ?_)
    generalize w19.drew = w20 at BK364 HB hHeld ⊢
    refine pure_ (i := 0) (N := some 22) (v := ?_) (a' := ?_) #[true, false, false, false, false, false, false, false] rfl rfl (any_of HT_.out q28_19) (fun _ _ _ h => h) (Or.inl ⟨by rfl, ?_⟩) ?_ ?_
    rotate_left
    ·
     intro w'
     go_simp
     with_reducible rfl
    rotate_left
    ·
     exact put28_
    refine pure_ (i := 4) (N := some 26) (v := ?_) (a' := ?_) #[true, false, false, false, true, false, false, false] rfl rfl (any_of HT_.out q28_19) (fun _ _ _ h => h) (Or.inl ⟨by rfl, ?_⟩) ?_ ?_
    rotate_left
    ·
     intro w'
     go_simp
     with_reducible rfl
    rotate_left
    ·
     exact put28_
    refine take_ (i := 2) (N := some 24) (v := ?_) (a' := ?_) #[true, false, true, false, true, false, false, false] rfl rfl (take_ofW HT_.out HW_.out q28_19) (fun _ _ _ h => h) (Or.inl ⟨by rfl, ?_⟩) hHeld ?_ ?_
    rotate_left
    ·
     rintro w' ⟨s0, s1⟩
     go_simp
     with_reducible rfl
    rotate_left
    ·
     exact put28_
    refine one_ (i := 1) (N := some 23) #[true, true, true, false, true, false, false, false] rfl rfl (one_of HT_.out q28_19) (by decide) (fun K hK => ?_)
    refine goes_ Try.func20 q28_19 rfl #[.slice A0 l0.length c0] (by rfl) rfl rfl q28_11 ?_
    with_reducible refine (laws_toRuleS.calls k _ _ l0 t367 _ ?side1 ?side2 A10.out).mono ?_
    (case side1 => exact q28_2)
    (case side2 => exact HC0.out)
    rintro e w21 ⟨v368, rfl, ho0, hb⟩
    refine ⟨_, rfl, ?_⟩
    have n0_ := Aside0.mk (Kd.R_lower ho0 (below_size q28_10))
    have n1_ := Aside0.mk (blk_below (g := gb364) (o := .cells #[.int .i64 a1_0, .int .i64 a1_1] 23 (0, 0)) q28_13 hb)
    have n2_ := Aside0.mk (below_step q28_10 hb)
    clear BK364
    clear HB
    have HO369 := n0_
    have BK364 := n1_
    have HB := n2_
    clear n0_ n1_ n2_
    (try clear hb)
    (try clear hb2)
    (try clear hk)
    (try clear hi)
    (try clear ho0)
    refine hK.out _ _ ⟨(blk_cell BK364.out 0).trans rfl, (blk_cell BK364.out 1).trans rfl⟩ (fun hHeld => ?_)
    clear hK K
    refine norm_ (a' := ?_) ?_ ?_
    rotate_left
    ·
     show Act.put _ (some 23) _ = _
     exact put28_
    refine one_ (i := 3) (N := some 25) #[true, true, true, true, true, false, false, false] rfl rfl (one_of HT_.out q28_19) (by decide) (fun K hK => ?_)
    refine goes_ Try.func16 q28_19 rfl #[.agg #[.int .i64 a1_0, .int .i64 a1_1]] (by rfl) rfl rfl q28_11 ?_
    with_reducible refine (laws_toRule.calls a1_0 a1_1 t370 t371 _ A11.out).mono ?_
    rintro e w22 ⟨rfl, hb⟩
    refine ⟨_, rfl, ?_⟩
    have n0_ := Aside0.mk (Kd.R_below q28_14 hb)
    have n1_ := Aside0.mk (blk_below (g := gb364) (o := .cells #[.int .i64 a1_0, .int .i64 a1_1] 23 (0, 0)) q28_13 hb)
    have n2_ := Aside0.mk (below_step q28_10 hb)
    clear HO369
    clear BK364
    clear HB
    have HO369 := n0_
    have BK364 := n1_
    have HB := n2_
    clear n0_ n1_ n2_
    (try clear hb)
    (try clear hb2)
    (try clear hk)
    (try clear hi)
    refine hK.out _ _ ⟨(blk_cell BK364.out 0).trans rfl, (blk_cell BK364.out 1).trans rfl⟩ (fun hHeld => ?_)
    clear hK K
    refine norm_ (a' := ?_) ?_ ?_
    rotate_left
    ·
     show Act.put _ (some 25) _ = _
     exact put28_
    refine one_ (i := 5) (N := some 27) #[true, true, true, true, true, true, false, false] rfl rfl (one_of HT_.out q28_19) (by decide) (fun K hK => ?_)
    refine goes_ Try.func35 q28_19 rfl #[.slice A2 l2.length c2] (by rfl) rfl rfl q28_11 ?_
    with_reducible refine (laws_toStepS.calls k _ _ l2 t372 _ ?side1 ?side2 A12.out).mono ?_
    (case side1 => exact q28_3)
    (case side2 => exact HC2.out)
    rintro e w23 ⟨v373, rfl, ho0, hb⟩
    refine ⟨_, rfl, ?_⟩
    have n0_ := Aside0.mk (Kd.R_below q28_14 hb)
    have n1_ := Aside0.mk (Kd.R_lower ho0 (below_size q28_10))
    have n2_ := Aside0.mk (blk_below (g := gb364) (o := .cells #[.int .i64 a1_0, .int .i64 a1_1] 23 (0, 0)) q28_13 hb)
    have n3_ := Aside0.mk (below_step q28_10 hb)
    clear HO369
    clear BK364
    clear HB
    have HO369 := n0_
    have HO374 := n1_
    have BK364 := n2_
    have HB := n3_
    clear n0_ n1_ n2_ n3_
    (try clear hb)
    (try clear hb2)
    (try clear hk)
    (try clear hi)
    (try clear ho0)
    obtain ⟨Ao24, co24, eo24⟩ := Kd.R_slice HO369.out
    (first | subst eo24 | (injection eo24 with f1_ f2_ f3_; have f4_ := f1_.symm; have f5_ := f3_.symm; clear f1_ f2_ f3_; subst f4_; subst f5_))
    obtain ⟨Ao25, co25, eo25⟩ := Kd.R_slice HO374.out
    (first | subst eo25 | (injection eo25 with f1_ f2_ f3_; have f4_ := f1_.symm; have f5_ := f3_.symm; clear f1_ f2_ f3_; subst f4_; subst f5_))
    refine hK.out _ _ ⟨(blk_cell BK364.out 0).trans rfl, (blk_cell BK364.out 1).trans rfl⟩ (fun hHeld => ?_)
    clear hK K
    refine norm_ (a' := ?_) ?_ ?_
    rotate_left
    ·
     show Act.put _ (some 27) _ = _
     exact put28_
    refine one_ (i := 6) (N := some 28) #[true, true, true, true, true, true, true, false] rfl rfl (one_of HT_.out q28_19) (by decide) (fun K hK => ?_)
    refine goes_ Try.func34 q28_19 rfl #[.slice Ao24 t367.length co24, .agg #[.int .i64 t370, .int .i64 t371], .slice Ao25 t372.length co25] (by rfl) rfl rfl q28_11 ?_
    with_reducible refine (spec_CheckProof.calls k _ _ t367 t370 t371 _ _ t372 t375 _ ?side1 ?side2 ?side3 ?side4 A13.out).mono ?_
    (case side1 => exact q28_4)
    (case side2 => exact (Kd.R_reads' HO369.out).2.1)
    (case side3 => exact q28_5)
    (case side4 => exact (Kd.R_reads' HO374.out).2.1)
    rintro e w26 ⟨rfl, hb⟩
    refine ⟨_, rfl, ?_⟩
    have n0_ := Aside0.mk (Kd.R_below q28_14 hb)
    have n1_ := Aside0.mk (Kd.R_below q28_15 hb)
    have n2_ := Aside0.mk (blk_below (g := gb364) (o := .cells #[.int .i64 a1_0, .int .i64 a1_1] 23 (0, 0)) q28_13 hb)
    have n3_ := Aside0.mk (below_step q28_10 hb)
    clear HO369
    clear HO374
    clear BK364
    clear HB
    have HO369 := n0_
    have HO374 := n1_
    have BK364 := n2_
    have HB := n3_
    clear n0_ n1_ n2_ n3_
    (try clear hb)
    (try clear hb2)
    (try clear hk)
    (try clear hi)
    refine hK.out _ _ ⟨(blk_cell BK364.out 0).trans rfl, (blk_cell BK364.out 1).trans rfl⟩ (fun hHeld => ?_)
    clear hK K
    refine norm_ (a' := ?_) ?_ ?_
    rotate_left
    ·
     show Act.put _ (some 28) _ = _
     exact put28_
    refine pure_ (i := 7) (N := some 8) (v := ?_) (a' := ?_) #[true, true, true, true, true, true, true, true] rfl rfl (any_of HT_.out q28_19) (fun _ _ _ h => h) (Or.inl ⟨by rfl, ?_⟩) ?_ ?_
    rotate_left
    ·
     intro w'
     go_simp
     with_reducible rfl
    rotate_left
    ·
     exact put28_
    refine done_ (done_of HT_.out q28_19) ?_
    try go_wp2_with (first | ((with_reducible refine gate_callee (f := 20) rfl ?_); refine goesL_ (some 30) rfl rfl Try.func20 q28_19 rfl #[.slice A0 l0.length c0] rfl q28_11 ?_; (with_reducible refine (laws_toRuleS.calls k _ _ l0 t376 _ ?side1 ?side2 A14.out).mono ?_); (case side1 => exact q28_2); (case side2 => exact HC0.out); rintro e w27 ⟨v377, rfl, ho0, hb⟩; refine ⟨_, rfl, ?_⟩; have n0_ := Aside0.mk (Kd.R_elder' q28_14 (Kd.R_base ho0) hb); have n1_ := Aside0.mk (Kd.R_below q28_15 hb); have n2_ := Aside0.mk (Kd.R_lower (Kd.R_new' ho0 (Kd.R_lt q28_14)) (below_size q28_10)); have n3_ := Aside0.mk (blk_below (g := gb364) (o := .cells #[.int .i64 a1_0, .int .i64 a1_1] 23 (0, 0)) q28_13 hb); have n4_ := Aside0.mk (below_step q28_10 hb); clear HO369; clear HO374; clear BK364; clear HB; have HO369 := n0_; have HO374 := n1_; have HO378 := n2_; have BK364 := n3_; have HB := n4_; clear n0_ n1_ n2_ n3_ n4_; (try clear hb); (try clear hb2); (try clear hk); (try clear hi); (try clear ho0)) | ((with_reducible refine gate_callee (f := 35) rfl ?_); refine goesL_ (some 32) rfl rfl Try.func35 q28_19 rfl #[.slice A2 l2.length c2] rfl q28_11 ?_; (with_reducible refine (laws_toStepS.calls k _ _ l2 t379 _ ?side1 ?side2 A15.out).mono ?_); (case side1 => exact q28_3); (case side2 => exact HC2.out); rintro e w28 ⟨v380, rfl, ho0, hb⟩; refine ⟨_, rfl, ?_⟩; have n0_ := Aside0.mk (Kd.R_below q28_14 hb); have n1_ := Aside0.mk (Kd.R_elder' q28_15 (Kd.R_base ho0) hb); have n2_ := Aside0.mk (Kd.R_below q28_16 hb); have n3_ := Aside0.mk (Kd.R_lower (Kd.R_new' ho0 (Kd.R_lt q28_15)) (below_size q28_10)); have n4_ := Aside0.mk (blk_below (g := gb364) (o := .cells #[.int .i64 a1_0, .int .i64 a1_1] 23 (0, 0)) q28_13 hb); have n5_ := Aside0.mk (below_step q28_10 hb); clear HO369; clear HO374; clear HO378; clear BK364; clear HB; have HO369 := n0_; have HO374 := n1_; have HO378 := n2_; have HO381 := n3_; have BK364 := n4_; have HB := n5_; clear n0_ n1_ n2_ n3_ n4_ n5_; (try clear hb); (try clear hb2); (try clear hk); (try clear hi); (try clear ho0); have hcz29_0 : w28.cell? ⟨gb364, 0, none⟩ = some (.int .i64 a1_0) := (blk_cell BK364.out 0).trans rfl; have hcz29_1 : w28.cell? ⟨gb364, 1, none⟩ = some (.int .i64 a1_1) := (blk_cell BK364.out 1).trans rfl; have hfz29_0 := blk_frozen BK364.out 0; have hfz29_1 := blk_frozen BK364.out 1) | ((with_reducible refine gate_callee (f := 16) rfl ?_); refine goesL_ (some 35) rfl rfl Try.func16 q28_19 rfl #[.agg #[.int .i64 a1_0, .int .i64 a1_1]] rfl q28_11 ?_; (with_reducible refine (laws_toRule.calls a1_0 a1_1 t382 t383 _ A16.out).mono ?_); rintro e w30 ⟨rfl, hb⟩; refine ⟨_, rfl, ?_⟩; have n0_ := Aside0.mk (Kd.R_below q28_14 hb); have n1_ := Aside0.mk (Kd.R_below q28_15 hb); have n2_ := Aside0.mk (Kd.R_below q28_16 hb); have n3_ := Aside0.mk (Kd.R_below q28_17 hb); have n4_ := Aside0.mk (blk_below (g := gb364) (o := .cells #[.int .i64 a1_0, .int .i64 a1_1] 23 (0, 0)) q28_13 hb); have n5_ := Aside0.mk (below_step q28_10 hb); clear HO369; clear HO374; clear HO378; clear HO381; clear BK364; clear HB; have HO369 := n0_; have HO374 := n1_; have HO378 := n2_; have HO381 := n3_; have BK364 := n4_; have HB := n5_; clear n0_ n1_ n2_ n3_ n4_ n5_; (try clear hb); (try clear hb2); (try clear hk); (try clear hi); obtain ⟨Ao31, co31, eo31⟩ := Kd.R_slice HO378.out; subst eo31; obtain ⟨Ao32, co32, eo32⟩ := Kd.R_slice HO381.out; subst eo32) | ((with_reducible refine gate_callee (f := 36) rfl ?_); refine goesL_ (some 37) rfl rfl Try.func36 q28_19 rfl #[.slice Ao31 t376.length co31, .agg #[.int .i64 t382, .int .i64 t383], .slice Ao32 t379.length co32] rfl q28_11 ?_; (with_reducible refine (impl_CheckProof.calls k _ _ t376 t382 t383 _ _ t379 t384 _ ?side1 ?side2 ?side3 ?side4 A17.out).mono ?_); (case side1 => exact q28_6); (case side2 => exact (Kd.R_reads' HO378.out).2.1); (case side3 => exact q28_7); (case side4 => exact (Kd.R_reads' HO381.out).2.1); rintro e w33 ⟨rfl, hb⟩; refine ⟨_, rfl, ?_⟩; have n0_ := Aside0.mk (Kd.R_below q28_14 hb); have n1_ := Aside0.mk (Kd.R_below q28_15 hb); have n2_ := Aside0.mk (Kd.R_below q28_16 hb); have n3_ := Aside0.mk (Kd.R_below q28_17 hb); have n4_ := Aside0.mk (blk_below (g := gb364) (o := .cells #[.int .i64 a1_0, .int .i64 a1_1] 23 (0, 0)) q28_13 hb); have n5_ := Aside0.mk (below_step q28_10 hb); clear HO369; clear HO374; clear HO378; clear HO381; clear BK364; clear HB; have HO369 := n0_; have HO374 := n1_; have HO378 := n2_; have HO381 := n3_; have BK364 := n4_; have HB := n5_; clear n0_ n1_ n2_ n3_ n4_ n5_; (try clear hb); (try clear hb2); (try clear hk); (try clear hi)))
    go_ret
    exact ⟨by first | rfl | (simp [errW_none, errW_some] <;> rfl) | (simp [*, errW_none, errW_some] <;> rfl), by repeat (first | (with_reducible first | exact HB.out | apply below_alloc | apply pw_below_drewN | apply below_drew1 | refine below_set ?_ GE364.out) | exact HB.out)⟩
   ·
    rw [if_neg c18] at H
    have c18b0 : (t384 != t375) = false := by simpa using c18
    (try (have c18b1 : decide (t384 = t375) = true := by simpa using c18))
    (try (have c18b2 : (t384 == t375) = true := by simpa using c18))
    clear c18
    replace H := Option.bind_eq_some_iff.mp H
    obtain ⟨t385, A340, H⟩ := H
    replace H : ((laws_eqRuleS.f k t376 t385).bind fun t388 => (if t388 = true then ((laws_toStepS.f k l2).bind fun t389 => ((laws_eqStepS.f k t379 t389).bind fun t392 => (if t392 = true then (some true) else (some false)))) else (some false))) = some r := H
    have A34 := Aside0.mk A340
    clear A340
    replace H := Option.bind_eq_some_iff.mp H
    obtain ⟨t388, A350, H⟩ := H
    replace H : (if t388 = true then ((laws_toStepS.f k l2).bind fun t389 => ((laws_eqStepS.f k t379 t389).bind fun t392 => (if t392 = true then (some true) else (some false)))) else (some false)) = some r := H
    have A35 := Aside0.mk A350
    clear A350
    by_cases c36 : t388 = true
    ·
     subst c36
     have H1 : ((laws_toStepS.f k l2).bind fun t389 => ((laws_eqStepS.f k t379 t389).bind fun t392 => (if t392 = true then (some true) else (some false)))) = some r := by rw [if_pos rfl] at H; exact H
     clear H
     have H := H1
     clear H1
     replace H := Option.bind_eq_some_iff.mp H
     obtain ⟨t389, A370, H⟩ := H
     replace H : ((laws_eqStepS.f k t379 t389).bind fun t392 => (if t392 = true then (some true) else (some false))) = some r := H
     have A37 := Aside0.mk A370
     clear A370
     replace H := Option.bind_eq_some_iff.mp H
     obtain ⟨t392, A380, H⟩ := H
     replace H : (if t392 = true then (some true) else (some false)) = some r := H
     have A38 := Aside0.mk A380
     clear A380
     by_cases c39 : t392 = true
     ·
      subst c39
      have H1 : (some true) = some r := by rw [if_pos rfl] at H; exact H
      clear H
      have H := H1
      clear H1
      obtain rfl := Option.some.inj H
      go_enter Try.func10, Try.ntmps10
      try go_wp2_with (first | ((with_reducible refine gate_dst (N := 4) rfl ?_); refine box_event ?hg (N := 4) ?hd (cs := #[.int .i64 a1_0, .int .i64 a1_1]) (t := 23) ?hr ?_; (case hd => rfl); (case hg => rfl); (case hr => first | (go_simp; done) | (go_simp; rfl)); intro gb364 hg w40 hbox hb; have n0_ := Aside0.mk (below_step q28_12 hb); have n1_ := Aside0.mk (hbox); have n2_ := Aside0.mk ((by rw [hg]; exact (below_size q28_12) : w.heap.size ≤ gb364)); have n3_ := Aside0.mk ((by rw [hg]; exact (below_size q28_12) : w.heap.size ≤ gb364)); clear HB; have HB := n0_; have BK364 := n1_; have GW364 := n2_; have GE364 := n3_; clear n0_ n1_ n2_ n3_; clear hb hbox hg) | ((with_reducible refine gate_callee (f := 18) rfl ?_); refine goesL_ (some 14) rfl rfl Try.func18 q28_19 rfl #[.slice A0 l0.length c0, .int .i64 1048576] rfl q28_11 ?_; (with_reducible refine (laws_szRuleS.calls _ _ l0 1048576 t365 _ ?side1 ?side2 A4.out).mono ?_); (case side1 => exact q28_2); (case side2 => exact HC0.out); rintro e w' ⟨rfl, ⟨nd, rfl⟩⟩; refine ⟨_, rfl, ?_⟩) | ((with_reducible refine gate_callee (f := 33) rfl ?_); refine goesL_ (some 19) rfl rfl Try.func33 q28_19 rfl #[.slice A2 l2.length c2, .int .i64 t365] rfl q28_11 ?_; (with_reducible refine (laws_szStepS.calls _ _ l2 t365 t366 _ ?side1 ?side2 A7.out).mono ?_); (case side1 => exact q28_1); (case side2 => exact HC2.out); rintro e w' ⟨rfl, ⟨nd, rfl⟩⟩; refine ⟨_, rfl, ?_⟩))
      (try (rw [drewN_self w40]; generalize hq_ : World.drewN w40 _ = w40; have n0_ : Aside0 (w40.heap[gb364]? = some (.cells #[.int .i64 a1_0, .int .i64 a1_1] 23 (0, 0))) := ⟨by rw [← hq_]; exact q28_13⟩; have n1_ : Aside0 (Below w.heap.size w w40) := ⟨by rw [← hq_]; exact q28_10⟩; clear BK364 HB hq_; have BK364 := n0_; have HB := n1_; clear n0_ n1_))
      have n0_ := Aside0.mk (blk_drew BK364.out)
      have n1_ := Aside0.mk (below_drew1 HB.out)
      clear BK364
      clear HB
      have BK364 := n0_
      have HB := n1_
      clear n0_ n1_
      refine start_ (n := 8) (S := fun w' => w'.cell? ⟨gb364, 0, none⟩ = some (.int .i64 a1_0) ∧ w'.cell? ⟨gb364, 1, none⟩ = some (.int .i64 a1_1)) (ds := []) #[false, false, false, false, false, false, false, false] q28_19 rfl rfl ⟨(blk_cell BK364.out 0).trans rfl, (blk_cell BK364.out 1).trans rfl⟩ (fun hHeld => ?_); refine with_tabW laws_FnExactCheckProof.tab8 laws_FnExactCheckProof.bits8 (fun HT_ HW_ => ?_)
      generalize w40.drew = w41 at BK364 HB hHeld ⊢
      refine pure_ (i := 0) (N := some 22) (v := ?_) (a' := ?_) #[true, false, false, false, false, false, false, false] rfl rfl (any_of HT_.out q28_19) (fun _ _ _ h => h) (Or.inl ⟨by rfl, ?_⟩) ?_ ?_
      rotate_left
      ·
       intro w'
       go_simp
       with_reducible rfl
      rotate_left
      ·
       exact put28_
      refine pure_ (i := 4) (N := some 26) (v := ?_) (a' := ?_) #[true, false, false, false, true, false, false, false] rfl rfl (any_of HT_.out q28_19) (fun _ _ _ h => h) (Or.inl ⟨by rfl, ?_⟩) ?_ ?_
      rotate_left
      ·
       intro w'
       go_simp
       with_reducible rfl
      rotate_left
      ·
       exact put28_
      refine take_ (i := 2) (N := some 24) (v := ?_) (a' := ?_) #[true, false, true, false, true, false, false, false] rfl rfl (take_ofW HT_.out HW_.out q28_19) (fun _ _ _ h => h) (Or.inl ⟨by rfl, ?_⟩) hHeld ?_ ?_
      rotate_left
      ·
       rintro w' ⟨s0, s1⟩
       go_simp
       with_reducible rfl
      rotate_left
      ·
       exact put28_
      refine one_ (i := 1) (N := some 23) #[true, true, true, false, true, false, false, false] rfl rfl (one_of HT_.out q28_19) (by decide) (fun K hK => ?_)
      refine goes_ Try.func20 q28_19 rfl #[.slice A0 l0.length c0] (by rfl) rfl rfl q28_11 ?_
      with_reducible refine (laws_toRuleS.calls k _ _ l0 t367 _ ?side1 ?side2 A10.out).mono ?_
      (case side1 => exact q28_2)
      (case side2 => exact HC0.out)
      rintro e w42 ⟨v368, rfl, ho0, hb⟩
      refine ⟨_, rfl, ?_⟩
      have n0_ := Aside0.mk (Kd.R_lower ho0 (below_size q28_10))
      have n1_ := Aside0.mk (blk_below (g := gb364) (o := .cells #[.int .i64 a1_0, .int .i64 a1_1] 23 (0, 0)) q28_13 hb)
      have n2_ := Aside0.mk (below_step q28_10 hb)
      clear BK364
      clear HB
      have HO369 := n0_
      have BK364 := n1_
      have HB := n2_
      clear n0_ n1_ n2_
      (try clear hb)
      (try clear hb2)
      (try clear hk)
      (try clear hi)
      (try clear ho0)
      refine hK.out _ _ ⟨(blk_cell BK364.out 0).trans rfl, (blk_cell BK364.out 1).trans rfl⟩ (fun hHeld => ?_)
      clear hK K
      refine norm_ (a' := ?_) ?_ ?_
      rotate_left
      ·
       show Act.put _ (some 23) _ = _
       exact put28_
      refine one_ (i := 3) (N := some 25) #[true, true, true, true, true, false, false, false] rfl rfl (one_of HT_.out q28_19) (by decide) (fun K hK => ?_)
      refine goes_ Try.func16 q28_19 rfl #[.agg #[.int .i64 a1_0, .int .i64 a1_1]] (by rfl) rfl rfl q28_11 ?_
      with_reducible refine (laws_toRule.calls a1_0 a1_1 t370 t371 _ A11.out).mono ?_
      rintro e w43 ⟨rfl, hb⟩
      refine ⟨_, rfl, ?_⟩
      have n0_ := Aside0.mk (Kd.R_below q28_14 hb)
      have n1_ := Aside0.mk (blk_below (g := gb364) (o := .cells #[.int .i64 a1_0, .int .i64 a1_1] 23 (0, 0)) q28_13 hb)
      have n2_ := Aside0.mk (below_step q28_10 hb)
      clear HO369
      clear BK364
      clear HB
      have HO369 := n0_
      have BK364 := n1_
      have HB := n2_
      clear n0_ n1_ n2_
      (try clear hb)
      (try clear hb2)
      (try clear hk)
      (try clear hi)
      refine hK.out _ _ ⟨(blk_cell BK364.out 0).trans rfl, (blk_cell BK364.out 1).trans rfl⟩ (fun hHeld => ?_)
      clear hK K
      refine norm_ (a' := ?_) ?_ ?_
      rotate_left
      ·
       show Act.put _ (some 25) _ = _
       exact put28_
      refine one_ (i := 5) (N := some 27) #[true, true, true, true, true, true, false, false] rfl rfl (one_of HT_.out q28_19) (by decide) (fun K hK => ?_)
      refine goes_ Try.func35 q28_19 rfl #[.slice A2 l2.length c2] (by rfl) rfl rfl q28_11 ?_
      with_reducible refine (laws_toStepS.calls k _ _ l2 t372 _ ?side1 ?side2 A12.out).mono ?_
      (case side1 => exact q28_3)
      (case side2 => exact HC2.out)
      rintro e w44 ⟨v373, rfl, ho0, hb⟩
      refine ⟨_, rfl, ?_⟩
      have n0_ := Aside0.mk (Kd.R_below q28_14 hb)
      have n1_ := Aside0.mk (Kd.R_lower ho0 (below_size q28_10))
      have n2_ := Aside0.mk (blk_below (g := gb364) (o := .cells #[.int .i64 a1_0, .int .i64 a1_1] 23 (0, 0)) q28_13 hb)
      have n3_ := Aside0.mk (below_step q28_10 hb)
      clear HO369
      clear BK364
      clear HB
      have HO369 := n0_
      have HO374 := n1_
      have BK364 := n2_
      have HB := n3_
      clear n0_ n1_ n2_ n3_
      (try clear hb)
      (try clear hb2)
      (try clear hk)
      (try clear hi)
      (try clear ho0)
      obtain ⟨Ao45, co45, eo45⟩ := Kd.R_slice HO369.out
      (first | subst eo45 | (injection eo45 with f1_ f2_ f3_; have f4_ := f1_.symm; have f5_ := f3_.symm; clear f1_ f2_ f3_; subst f4_; subst f5_))
      obtain ⟨Ao46, co46, eo46⟩ := Kd.R_slice HO374.out
      (first | subst eo46 | (injection eo46 with f1_ f2_ f3_; have f4_ := f1_.symm; have f5_ := f3_.symm; clear f1_ f2_ f3_; subst f4_; subst f5_))
      refine hK.out _ _ ⟨(blk_cell BK364.out 0).trans rfl, (blk_cell BK364.out 1).trans rfl⟩ (fun hHeld => ?_)
      clear hK K
      refine norm_ (a' := ?_) ?_ ?_
      rotate_left
      ·
       show Act.put _ (some 27) _ = _
       exact put28_
      refine one_ (i := 6) (N := some 28) #[true, true, true, true, true, true, true, false] rfl rfl (one_of HT_.out q28_19) (by decide) (fun K hK => ?_)
      refine goes_ Try.func34 q28_19 rfl #[.slice Ao45 t367.length co45, .agg #[.int .i64 t370, .int .i64 t371], .slice Ao46 t372.length co46] (by rfl) rfl rfl q28_11 ?_
      with_reducible refine (spec_CheckProof.calls k _ _ t367 t370 t371 _ _ t372 t375 _ ?side1 ?side2 ?side3 ?side4 A13.out).mono ?_
      (case side1 => exact q28_4)
      (case side2 => exact (Kd.R_reads' HO369.out).2.1)
      (case side3 => exact q28_5)
      (case side4 => exact (Kd.R_reads' HO374.out).2.1)
      rintro e w47 ⟨rfl, hb⟩
      refine ⟨_, rfl, ?_⟩
      have n0_ := Aside0.mk (Kd.R_below q28_14 hb)
      have n1_ := Aside0.mk (Kd.R_below q28_15 hb)
      have n2_ := Aside0.mk (blk_below (g := gb364) (o := .cells #[.int .i64 a1_0, .int .i64 a1_1] 23 (0, 0)) q28_13 hb)
      have n3_ := Aside0.mk (below_step q28_10 hb)
      clear HO369
      clear HO374
      clear BK364
      clear HB
      have HO369 := n0_
      have HO374 := n1_
      have BK364 := n2_
      have HB := n3_
      clear n0_ n1_ n2_ n3_
      (try clear hb)
      (try clear hb2)
      (try clear hk)
      (try clear hi)
      refine hK.out _ _ ⟨(blk_cell BK364.out 0).trans rfl, (blk_cell BK364.out 1).trans rfl⟩ (fun hHeld => ?_)
      clear hK K
      refine norm_ (a' := ?_) ?_ ?_
      rotate_left
      ·
       show Act.put _ (some 28) _ = _
       exact put28_
      refine pure_ (i := 7) (N := some 8) (v := ?_) (a' := ?_) #[true, true, true, true, true, true, true, true] rfl rfl (any_of HT_.out q28_19) (fun _ _ _ h => h) (Or.inl ⟨by rfl, ?_⟩) ?_ ?_
      rotate_left
      ·
       intro w'
       go_simp
       with_reducible rfl
      rotate_left
      ·
       exact put28_
      refine done_ (done_of HT_.out q28_19) ?_
      try go_wp2_with (first | ((with_reducible refine gate_callee (f := 20) rfl ?_); refine goesL_ (some 30) rfl rfl Try.func20 q28_19 rfl #[.slice A0 l0.length c0] rfl q28_11 ?_; (with_reducible refine (laws_toRuleS.calls k _ _ l0 t376 _ ?side1 ?side2 A14.out).mono ?_); (case side1 => exact q28_2); (case side2 => exact HC0.out); rintro e w48 ⟨v377, rfl, ho0, hb⟩; refine ⟨_, rfl, ?_⟩; have n0_ := Aside0.mk (Kd.R_elder' q28_14 (Kd.R_base ho0) hb); have n1_ := Aside0.mk (Kd.R_below q28_15 hb); have n2_ := Aside0.mk (Kd.R_lower (Kd.R_new' ho0 (Kd.R_lt q28_14)) (below_size q28_10)); have n3_ := Aside0.mk (blk_below (g := gb364) (o := .cells #[.int .i64 a1_0, .int .i64 a1_1] 23 (0, 0)) q28_13 hb); have n4_ := Aside0.mk (below_step q28_10 hb); clear HO369; clear HO374; clear BK364; clear HB; have HO369 := n0_; have HO374 := n1_; have HO378 := n2_; have BK364 := n3_; have HB := n4_; clear n0_ n1_ n2_ n3_ n4_; (try clear hb); (try clear hb2); (try clear hk); (try clear hi); (try clear ho0)) | ((with_reducible refine gate_callee (f := 35) rfl ?_); refine goesL_ (some 32) rfl rfl Try.func35 q28_19 rfl #[.slice A2 l2.length c2] rfl q28_11 ?_; (with_reducible refine (laws_toStepS.calls k _ _ l2 t379 _ ?side1 ?side2 A15.out).mono ?_); (case side1 => exact q28_3); (case side2 => exact HC2.out); rintro e w49 ⟨v380, rfl, ho0, hb⟩; refine ⟨_, rfl, ?_⟩; have n0_ := Aside0.mk (Kd.R_below q28_14 hb); have n1_ := Aside0.mk (Kd.R_elder' q28_15 (Kd.R_base ho0) hb); have n2_ := Aside0.mk (Kd.R_below q28_16 hb); have n3_ := Aside0.mk (Kd.R_lower (Kd.R_new' ho0 (Kd.R_lt q28_15)) (below_size q28_10)); have n4_ := Aside0.mk (blk_below (g := gb364) (o := .cells #[.int .i64 a1_0, .int .i64 a1_1] 23 (0, 0)) q28_13 hb); have n5_ := Aside0.mk (below_step q28_10 hb); clear HO369; clear HO374; clear HO378; clear BK364; clear HB; have HO369 := n0_; have HO374 := n1_; have HO378 := n2_; have HO381 := n3_; have BK364 := n4_; have HB := n5_; clear n0_ n1_ n2_ n3_ n4_ n5_; (try clear hb); (try clear hb2); (try clear hk); (try clear hi); (try clear ho0); have hcz50_0 : w49.cell? ⟨gb364, 0, none⟩ = some (.int .i64 a1_0) := (blk_cell BK364.out 0).trans rfl; have hcz50_1 : w49.cell? ⟨gb364, 1, none⟩ = some (.int .i64 a1_1) := (blk_cell BK364.out 1).trans rfl; have hfz50_0 := blk_frozen BK364.out 0; have hfz50_1 := blk_frozen BK364.out 1) | ((with_reducible refine gate_callee (f := 16) rfl ?_); refine goesL_ (some 35) rfl rfl Try.func16 q28_19 rfl #[.agg #[.int .i64 a1_0, .int .i64 a1_1]] rfl q28_11 ?_; (with_reducible refine (laws_toRule.calls a1_0 a1_1 t382 t383 _ A16.out).mono ?_); rintro e w51 ⟨rfl, hb⟩; refine ⟨_, rfl, ?_⟩; have n0_ := Aside0.mk (Kd.R_below q28_14 hb); have n1_ := Aside0.mk (Kd.R_below q28_15 hb); have n2_ := Aside0.mk (Kd.R_below q28_16 hb); have n3_ := Aside0.mk (Kd.R_below q28_17 hb); have n4_ := Aside0.mk (blk_below (g := gb364) (o := .cells #[.int .i64 a1_0, .int .i64 a1_1] 23 (0, 0)) q28_13 hb); have n5_ := Aside0.mk (below_step q28_10 hb); clear HO369; clear HO374; clear HO378; clear HO381; clear BK364; clear HB; have HO369 := n0_; have HO374 := n1_; have HO378 := n2_; have HO381 := n3_; have BK364 := n4_; have HB := n5_; clear n0_ n1_ n2_ n3_ n4_ n5_; (try clear hb); (try clear hb2); (try clear hk); (try clear hi); obtain ⟨Ao52, co52, eo52⟩ := Kd.R_slice HO378.out; subst eo52; obtain ⟨Ao53, co53, eo53⟩ := Kd.R_slice HO381.out; subst eo53) | ((with_reducible refine gate_callee (f := 36) rfl ?_); refine goesL_ (some 37) rfl rfl Try.func36 q28_19 rfl #[.slice Ao52 t376.length co52, .agg #[.int .i64 t382, .int .i64 t383], .slice Ao53 t379.length co53] rfl q28_11 ?_; (with_reducible refine (impl_CheckProof.calls k _ _ t376 t382 t383 _ _ t379 t384 _ ?side1 ?side2 ?side3 ?side4 A17.out).mono ?_); (case side1 => exact q28_6); (case side2 => exact (Kd.R_reads' HO378.out).2.1); (case side3 => exact q28_7); (case side4 => exact (Kd.R_reads' HO381.out).2.1); rintro e w54 ⟨rfl, hb⟩; refine ⟨_, rfl, ?_⟩; have n0_ := Aside0.mk (Kd.R_below q28_14 hb); have n1_ := Aside0.mk (Kd.R_below q28_15 hb); have n2_ := Aside0.mk (Kd.R_below q28_16 hb); have n3_ := Aside0.mk (Kd.R_below q28_17 hb); have n4_ := Aside0.mk (blk_below (g := gb364) (o := .cells #[.int .i64 a1_0, .int .i64 a1_1] 23 (0, 0)) q28_13 hb); have n5_ := Aside0.mk (below_step q28_10 hb); clear HO369; clear HO374; clear HO378; clear HO381; clear BK364; clear HB; have HO369 := n0_; have HO374 := n1_; have HO378 := n2_; have HO381 := n3_; have BK364 := n4_; have HB := n5_; clear n0_ n1_ n2_ n3_ n4_ n5_; (try clear hb); (try clear hb2); (try clear hk); (try clear hi)) | ((with_reducible refine gate_callee (f := 20) rfl ?_); refine goesL_ (some 43) rfl rfl Try.func20 q28_19 rfl #[.slice A0 l0.length c0] rfl q28_11 ?_; (with_reducible refine (laws_toRuleS.calls k _ _ l0 t385 _ ?side1 ?side2 A34.out).mono ?_); (case side1 => exact q28_2); (case side2 => exact HC0.out); rintro e w55 ⟨v386, rfl, ho0, hb⟩; refine ⟨_, rfl, ?_⟩; have n0_ := Aside0.mk (Kd.R_elder' q28_14 (Kd.R_base ho0) hb); have n1_ := Aside0.mk (Kd.R_below q28_15 hb); have n2_ := Aside0.mk (Kd.R_elder' q28_16 (Kd.R_base ho0) hb); have n3_ := Aside0.mk (Kd.R_below q28_17 hb); have n4_ := Aside0.mk (Kd.R_lower (Kd.R_new' (Kd.R_new' ho0 (Kd.R_lt q28_14)) (Kd.R_lt q28_16)) (below_size q28_10)); have n5_ := Aside0.mk (blk_below (g := gb364) (o := .cells #[.int .i64 a1_0, .int .i64 a1_1] 23 (0, 0)) q28_13 hb); have n6_ := Aside0.mk (below_step q28_10 hb); clear HO369; clear HO374; clear HO378; clear HO381; clear BK364; clear HB; have HO369 := n0_; have HO374 := n1_; have HO378 := n2_; have HO381 := n3_; have HO387 := n4_; have BK364 := n5_; have HB := n6_; clear n0_ n1_ n2_ n3_ n4_ n5_ n6_; (try clear hb); (try clear hb2); (try clear hk); (try clear hi); (try clear ho0); obtain ⟨Ao56, co56, eo56⟩ := Kd.R_slice HO387.out; subst eo56) | ((with_reducible refine gate_callee (f := 22) rfl ?_); refine goesL_ (some 44) rfl rfl Try.func22 q28_19 rfl #[.slice Ao52 t376.length co52, .slice Ao56 t385.length co56] rfl q28_11 ?_; (with_reducible refine (laws_eqRuleS.calls k _ _ t376 _ _ t385 true _ ?side1 ?side2 ?side3 ?side4 A35.out).mono ?_); (case side1 => exact q28_6); (case side2 => exact (Kd.R_reads' HO378.out).2.1); (case side3 => exact q28_8); (case side4 => exact (Kd.R_reads' HO387.out).2.1); rintro e w57 ⟨rfl, hb⟩; refine ⟨_, rfl, ?_⟩; have n0_ := Aside0.mk (Kd.R_below q28_14 hb); have n1_ := Aside0.mk (Kd.R_below q28_15 hb); have n2_ := Aside0.mk (Kd.R_below q28_16 hb); have n3_ := Aside0.mk (Kd.R_below q28_17 hb); have n4_ := Aside0.mk (Kd.R_below q28_18 hb); have n5_ := Aside0.mk (blk_below (g := gb364) (o := .cells #[.int .i64 a1_0, .int .i64 a1_1] 23 (0, 0)) q28_13 hb); have n6_ := Aside0.mk (below_step q28_10 hb); clear HO369; clear HO374; clear HO378; clear HO381; clear HO387; clear BK364; clear HB; have HO369 := n0_; have HO374 := n1_; have HO378 := n2_; have HO381 := n3_; have HO387 := n4_; have BK364 := n5_; have HB := n6_; clear n0_ n1_ n2_ n3_ n4_ n5_ n6_; (try clear hb); (try clear hb2); (try clear hk); (try clear hi)) | ((with_reducible refine gate_callee (f := 35) rfl ?_); refine goesL_ (some 48) rfl rfl Try.func35 q28_19 rfl #[.slice A2 l2.length c2] rfl q28_11 ?_; (with_reducible refine (laws_toStepS.calls k _ _ l2 t389 _ ?side1 ?side2 A37.out).mono ?_); (case side1 => exact q28_3); (case side2 => exact HC2.out); rintro e w58 ⟨v390, rfl, ho0, hb⟩; refine ⟨_, rfl, ?_⟩; have n0_ := Aside0.mk (Kd.R_below q28_14 hb); have n1_ := Aside0.mk (Kd.R_elder' q28_15 (Kd.R_base ho0) hb); have n2_ := Aside0.mk (Kd.R_below q28_16 hb); have n3_ := Aside0.mk (Kd.R_elder' q28_17 (Kd.R_base ho0) hb); have n4_ := Aside0.mk (Kd.R_below q28_18 hb); have n5_ := Aside0.mk (Kd.R_lower (Kd.R_new' (Kd.R_new' ho0 (Kd.R_lt q28_15)) (Kd.R_lt q28_17)) (below_size q28_10)); have n6_ := Aside0.mk (blk_below (g := gb364) (o := .cells #[.int .i64 a1_0, .int .i64 a1_1] 23 (0, 0)) q28_13 hb); have n7_ := Aside0.mk (below_step q28_10 hb); clear HO369; clear HO374; clear HO378; clear HO381; clear HO387; clear BK364; clear HB; have HO369 := n0_; have HO374 := n1_; have HO378 := n2_; have HO381 := n3_; have HO387 := n4_; have HO391 := n5_; have BK364 := n6_; have HB := n7_; clear n0_ n1_ n2_ n3_ n4_ n5_ n6_ n7_; (try clear hb); (try clear hb2); (try clear hk); (try clear hi); (try clear ho0); obtain ⟨Ao59, co59, eo59⟩ := Kd.R_slice HO391.out; subst eo59) | ((with_reducible refine gate_callee (f := 37) rfl ?_); refine goesL_ (some 49) rfl rfl Try.func37 q28_19 rfl #[.slice Ao53 t379.length co53, .slice Ao59 t389.length co59] rfl q28_11 ?_; (with_reducible refine (laws_eqStepS.calls k _ _ t379 _ _ t389 true _ ?side1 ?side2 ?side3 ?side4 A38.out).mono ?_); (case side1 => exact q28_7); (case side2 => exact (Kd.R_reads' HO381.out).2.1); (case side3 => exact q28_9); (case side4 => exact (Kd.R_reads' HO391.out).2.1); rintro e w60 ⟨rfl, hb⟩; refine ⟨_, rfl, ?_⟩; have n0_ := Aside0.mk (Kd.R_below q28_14 hb); have n1_ := Aside0.mk (Kd.R_below q28_15 hb); have n2_ := Aside0.mk (Kd.R_below q28_16 hb); have n3_ := Aside0.mk (Kd.R_below q28_17 hb); have n4_ := Aside0.mk (Kd.R_below q28_18 hb); have n5_ := Aside0.mk (Kd.R_below (by (with_reducible repeat (first | apply Kd.R_alloc | apply Kd.R_drewN | apply Kd.R_drew)); exact HO391.out) hb); have n6_ := Aside0.mk (blk_below (g := gb364) (o := .cells #[.int .i64 a1_0, .int .i64 a1_1] 23 (0, 0)) q28_13 hb); have n7_ := Aside0.mk (below_step q28_10 hb); clear HO369; clear HO374; clear HO378; clear HO381; clear HO387; clear HO391; clear BK364; clear HB; have HO369 := n0_; have HO374 := n1_; have HO378 := n2_; have HO381 := n3_; have HO387 := n4_; have HO391 := n5_; have BK364 := n6_; have HB := n7_; clear n0_ n1_ n2_ n3_ n4_ n5_ n6_ n7_; (try clear hb); (try clear hb2); (try clear hk); (try clear hi)))
      go_ret
      exact ⟨by first | rfl | (simp [errW_none, errW_some] <;> rfl) | (simp [*, errW_none, errW_some] <;> rfl), by repeat (first | (with_reducible first | exact HB.out | apply below_alloc | apply pw_below_drewN | apply below_drew1 | refine below_set ?_ GE364.out) | exact HB.out)⟩
     ·
      replace c39 := Bool.eq_false_iff.mpr c39
      subst c39
      have H1 : (some false) = some r := by rw [if_neg (show ¬ (false = true) by decide)] at H; exact H
      clear H
      have H := H1
      clear H1
      obtain rfl := Option.some.inj H
      go_enter Try.func10, Try.ntmps10
      try go_wp2_with (first | ((with_reducible refine gate_dst (N := 4) rfl ?_); refine box_event ?hg (N := 4) ?hd (cs := #[.int .i64 a1_0, .int .i64 a1_1]) (t := 23) ?hr ?_; (case hd => rfl); (case hg => rfl); (case hr => first | (go_simp; done) | (go_simp; rfl)); intro gb364 hg w61 hbox hb; have n0_ := Aside0.mk (below_step q28_12 hb); have n1_ := Aside0.mk (hbox); have n2_ := Aside0.mk ((by rw [hg]; exact (below_size q28_12) : w.heap.size ≤ gb364)); have n3_ := Aside0.mk ((by rw [hg]; exact (below_size q28_12) : w.heap.size ≤ gb364)); clear HB; have HB := n0_; have BK364 := n1_; have GW364 := n2_; have GE364 := n3_; clear n0_ n1_ n2_ n3_; clear hb hbox hg) | ((with_reducible refine gate_callee (f := 18) rfl ?_); refine goesL_ (some 14) rfl rfl Try.func18 q28_19 rfl #[.slice A0 l0.length c0, .int .i64 1048576] rfl q28_11 ?_; (with_reducible refine (laws_szRuleS.calls _ _ l0 1048576 t365 _ ?side1 ?side2 A4.out).mono ?_); (case side1 => exact q28_2); (case side2 => exact HC0.out); rintro e w' ⟨rfl, ⟨nd, rfl⟩⟩; refine ⟨_, rfl, ?_⟩) | ((with_reducible refine gate_callee (f := 33) rfl ?_); refine goesL_ (some 19) rfl rfl Try.func33 q28_19 rfl #[.slice A2 l2.length c2, .int .i64 t365] rfl q28_11 ?_; (with_reducible refine (laws_szStepS.calls _ _ l2 t365 t366 _ ?side1 ?side2 A7.out).mono ?_); (case side1 => exact q28_1); (case side2 => exact HC2.out); rintro e w' ⟨rfl, ⟨nd, rfl⟩⟩; refine ⟨_, rfl, ?_⟩))
      (try (rw [drewN_self w61]; generalize hq_ : World.drewN w61 _ = w61; have n0_ : Aside0 (w61.heap[gb364]? = some (.cells #[.int .i64 a1_0, .int .i64 a1_1] 23 (0, 0))) := ⟨by rw [← hq_]; exact q28_13⟩; have n1_ : Aside0 (Below w.heap.size w w61) := ⟨by rw [← hq_]; exact q28_10⟩; clear BK364 HB hq_; have BK364 := n0_; have HB := n1_; clear n0_ n1_))
      have n0_ := Aside0.mk (blk_drew BK364.out)
      have n1_ := Aside0.mk (below_drew1 HB.out)
      clear BK364
      clear HB
      have BK364 := n0_
      have HB := n1_
      clear n0_ n1_
      refine start_ (n := 8) (S := fun w' => w'.cell? ⟨gb364, 0, none⟩ = some (.int .i64 a1_0) ∧ w'.cell? ⟨gb364, 1, none⟩ = some (.int .i64 a1_1)) (ds := []) #[false, false, false, false, false, false, false, false] q28_19 rfl rfl ⟨(blk_cell BK364.out 0).trans rfl, (blk_cell BK364.out 1).trans rfl⟩ (fun hHeld => ?_); refine with_tabW laws_FnExactCheckProof.tab8 laws_FnExactCheckProof.bits8 (fun HT_ HW_ => ?_)
      generalize w61.drew = w62 at BK364 HB hHeld ⊢
      refine pure_ (i := 0) (N := some 22) (v := ?_) (a' := ?_) #[true, false, false, false, false, false, false, false] rfl rfl (any_of HT_.out q28_19) (fun _ _ _ h => h) (Or.inl ⟨by rfl, ?_⟩) ?_ ?_
      rotate_left
      ·
       intro w'
       go_simp
       with_reducible rfl
      rotate_left
      ·
       exact put28_
      refine pure_ (i := 4) (N := some 26) (v := ?_) (a' := ?_) #[true, false, false, false, true, false, false, false] rfl rfl (any_of HT_.out q28_19) (fun _ _ _ h => h) (Or.inl ⟨by rfl, ?_⟩) ?_ ?_
      rotate_left
      ·
       intro w'
       go_simp
       with_reducible rfl
      rotate_left
      ·
       exact put28_
      refine take_ (i := 2) (N := some 24) (v := ?_) (a' := ?_) #[true, false, true, false, true, false, false, false] rfl rfl (take_ofW HT_.out HW_.out q28_19) (fun _ _ _ h => h) (Or.inl ⟨by rfl, ?_⟩) hHeld ?_ ?_
      rotate_left
      ·
       rintro w' ⟨s0, s1⟩
       go_simp
       with_reducible rfl
      rotate_left
      ·
       exact put28_
      refine one_ (i := 1) (N := some 23) #[true, true, true, false, true, false, false, false] rfl rfl (one_of HT_.out q28_19) (by decide) (fun K hK => ?_)
      refine goes_ Try.func20 q28_19 rfl #[.slice A0 l0.length c0] (by rfl) rfl rfl q28_11 ?_
      with_reducible refine (laws_toRuleS.calls k _ _ l0 t367 _ ?side1 ?side2 A10.out).mono ?_
      (case side1 => exact q28_2)
      (case side2 => exact HC0.out)
      rintro e w63 ⟨v368, rfl, ho0, hb⟩
      refine ⟨_, rfl, ?_⟩
      have n0_ := Aside0.mk (Kd.R_lower ho0 (below_size q28_10))
      have n1_ := Aside0.mk (blk_below (g := gb364) (o := .cells #[.int .i64 a1_0, .int .i64 a1_1] 23 (0, 0)) q28_13 hb)
      have n2_ := Aside0.mk (below_step q28_10 hb)
      clear BK364
      clear HB
      have HO369 := n0_
      have BK364 := n1_
      have HB := n2_
      clear n0_ n1_ n2_
      (try clear hb)
      (try clear hb2)
      (try clear hk)
      (try clear hi)
      (try clear ho0)
      refine hK.out _ _ ⟨(blk_cell BK364.out 0).trans rfl, (blk_cell BK364.out 1).trans rfl⟩ (fun hHeld => ?_)
      clear hK K
      refine norm_ (a' := ?_) ?_ ?_
      rotate_left
      ·
       show Act.put _ (some 23) _ = _
       exact put28_
      refine one_ (i := 3) (N := some 25) #[true, true, true, true, true, false, false, false] rfl rfl (one_of HT_.out q28_19) (by decide) (fun K hK => ?_)
      refine goes_ Try.func16 q28_19 rfl #[.agg #[.int .i64 a1_0, .int .i64 a1_1]] (by rfl) rfl rfl q28_11 ?_
      with_reducible refine (laws_toRule.calls a1_0 a1_1 t370 t371 _ A11.out).mono ?_
      rintro e w64 ⟨rfl, hb⟩
      refine ⟨_, rfl, ?_⟩
      have n0_ := Aside0.mk (Kd.R_below q28_14 hb)
      have n1_ := Aside0.mk (blk_below (g := gb364) (o := .cells #[.int .i64 a1_0, .int .i64 a1_1] 23 (0, 0)) q28_13 hb)
      have n2_ := Aside0.mk (below_step q28_10 hb)
      clear HO369
      clear BK364
      clear HB
      have HO369 := n0_
      have BK364 := n1_
      have HB := n2_
      clear n0_ n1_ n2_
      (try clear hb)
      (try clear hb2)
      (try clear hk)
      (try clear hi)
      refine hK.out _ _ ⟨(blk_cell BK364.out 0).trans rfl, (blk_cell BK364.out 1).trans rfl⟩ (fun hHeld => ?_)
      clear hK K
      refine norm_ (a' := ?_) ?_ ?_
      rotate_left
      ·
       show Act.put _ (some 25) _ = _
       exact put28_
      refine one_ (i := 5) (N := some 27) #[true, true, true, true, true, true, false, false] rfl rfl (one_of HT_.out q28_19) (by decide) (fun K hK => ?_)
      refine goes_ Try.func35 q28_19 rfl #[.slice A2 l2.length c2] (by rfl) rfl rfl q28_11 ?_
      with_reducible refine (laws_toStepS.calls k _ _ l2 t372 _ ?side1 ?side2 A12.out).mono ?_
      (case side1 => exact q28_3)
      (case side2 => exact HC2.out)
      rintro e w65 ⟨v373, rfl, ho0, hb⟩
      refine ⟨_, rfl, ?_⟩
      have n0_ := Aside0.mk (Kd.R_below q28_14 hb)
      have n1_ := Aside0.mk (Kd.R_lower ho0 (below_size q28_10))
      have n2_ := Aside0.mk (blk_below (g := gb364) (o := .cells #[.int .i64 a1_0, .int .i64 a1_1] 23 (0, 0)) q28_13 hb)
      have n3_ := Aside0.mk (below_step q28_10 hb)
      clear HO369
      clear BK364
      clear HB
      have HO369 := n0_
      have HO374 := n1_
      have BK364 := n2_
      have HB := n3_
      clear n0_ n1_ n2_ n3_
      (try clear hb)
      (try clear hb2)
      (try clear hk)
      (try clear hi)
      (try clear ho0)
      obtain ⟨Ao66, co66, eo66⟩ := Kd.R_slice HO369.out
      (first | subst eo66 | (injection eo66 with f1_ f2_ f3_; have f4_ := f1_.symm; have f5_ := f3_.symm; clear f1_ f2_ f3_; subst f4_; subst f5_))
      obtain ⟨Ao67, co67, eo67⟩ := Kd.R_slice HO374.out
      (first | subst eo67 | (injection eo67 with f1_ f2_ f3_; have f4_ := f1_.symm; have f5_ := f3_.symm; clear f1_ f2_ f3_; subst f4_; subst f5_))
      refine hK.out _ _ ⟨(blk_cell BK364.out 0).trans rfl, (blk_cell BK364.out 1).trans rfl⟩ (fun hHeld => ?_)
      clear hK K
      refine norm_ (a' := ?_) ?_ ?_
      rotate_left
      ·
       show Act.put _ (some 27) _ = _
       exact put28_
      refine one_ (i := 6) (N := some 28) #[true, true, true, true, true, true, true, false] rfl rfl (one_of HT_.out q28_19) (by decide) (fun K hK => ?_)
      refine goes_ Try.func34 q28_19 rfl #[.slice Ao66 t367.length co66, .agg #[.int .i64 t370, .int .i64 t371], .slice Ao67 t372.length co67] (by rfl) rfl rfl q28_11 ?_
      with_reducible refine (spec_CheckProof.calls k _ _ t367 t370 t371 _ _ t372 t375 _ ?side1 ?side2 ?side3 ?side4 A13.out).mono ?_
      (case side1 => exact q28_4)
      (case side2 => exact (Kd.R_reads' HO369.out).2.1)
      (case side3 => exact q28_5)
      (case side4 => exact (Kd.R_reads' HO374.out).2.1)
      rintro e w68 ⟨rfl, hb⟩
      refine ⟨_, rfl, ?_⟩
      have n0_ := Aside0.mk (Kd.R_below q28_14 hb)
      have n1_ := Aside0.mk (Kd.R_below q28_15 hb)
      have n2_ := Aside0.mk (blk_below (g := gb364) (o := .cells #[.int .i64 a1_0, .int .i64 a1_1] 23 (0, 0)) q28_13 hb)
      have n3_ := Aside0.mk (below_step q28_10 hb)
      clear HO369
      clear HO374
      clear BK364
      clear HB
      have HO369 := n0_
      have HO374 := n1_
      have BK364 := n2_
      have HB := n3_
      clear n0_ n1_ n2_ n3_
      (try clear hb)
      (try clear hb2)
      (try clear hk)
      (try clear hi)
      refine hK.out _ _ ⟨(blk_cell BK364.out 0).trans rfl, (blk_cell BK364.out 1).trans rfl⟩ (fun hHeld => ?_)
      clear hK K
      refine norm_ (a' := ?_) ?_ ?_
      rotate_left
      ·
       show Act.put _ (some 28) _ = _
       exact put28_
      refine pure_ (i := 7) (N := some 8) (v := ?_) (a' := ?_) #[true, true, true, true, true, true, true, true] rfl rfl (any_of HT_.out q28_19) (fun _ _ _ h => h) (Or.inl ⟨by rfl, ?_⟩) ?_ ?_
      rotate_left
      ·
       intro w'
       go_simp
       with_reducible rfl
      rotate_left
      ·
       exact put28_
      refine done_ (done_of HT_.out q28_19) ?_
      try go_wp2_with (first | ((with_reducible refine gate_callee (f := 20) rfl ?_); refine goesL_ (some 30) rfl rfl Try.func20 q28_19 rfl #[.slice A0 l0.length c0] rfl q28_11 ?_; (with_reducible refine (laws_toRuleS.calls k _ _ l0 t376 _ ?side1 ?side2 A14.out).mono ?_); (case side1 => exact q28_2); (case side2 => exact HC0.out); rintro e w69 ⟨v377, rfl, ho0, hb⟩; refine ⟨_, rfl, ?_⟩; have n0_ := Aside0.mk (Kd.R_elder' q28_14 (Kd.R_base ho0) hb); have n1_ := Aside0.mk (Kd.R_below q28_15 hb); have n2_ := Aside0.mk (Kd.R_lower (Kd.R_new' ho0 (Kd.R_lt q28_14)) (below_size q28_10)); have n3_ := Aside0.mk (blk_below (g := gb364) (o := .cells #[.int .i64 a1_0, .int .i64 a1_1] 23 (0, 0)) q28_13 hb); have n4_ := Aside0.mk (below_step q28_10 hb); clear HO369; clear HO374; clear BK364; clear HB; have HO369 := n0_; have HO374 := n1_; have HO378 := n2_; have BK364 := n3_; have HB := n4_; clear n0_ n1_ n2_ n3_ n4_; (try clear hb); (try clear hb2); (try clear hk); (try clear hi); (try clear ho0)) | ((with_reducible refine gate_callee (f := 35) rfl ?_); refine goesL_ (some 32) rfl rfl Try.func35 q28_19 rfl #[.slice A2 l2.length c2] rfl q28_11 ?_; (with_reducible refine (laws_toStepS.calls k _ _ l2 t379 _ ?side1 ?side2 A15.out).mono ?_); (case side1 => exact q28_3); (case side2 => exact HC2.out); rintro e w70 ⟨v380, rfl, ho0, hb⟩; refine ⟨_, rfl, ?_⟩; have n0_ := Aside0.mk (Kd.R_below q28_14 hb); have n1_ := Aside0.mk (Kd.R_elder' q28_15 (Kd.R_base ho0) hb); have n2_ := Aside0.mk (Kd.R_below q28_16 hb); have n3_ := Aside0.mk (Kd.R_lower (Kd.R_new' ho0 (Kd.R_lt q28_15)) (below_size q28_10)); have n4_ := Aside0.mk (blk_below (g := gb364) (o := .cells #[.int .i64 a1_0, .int .i64 a1_1] 23 (0, 0)) q28_13 hb); have n5_ := Aside0.mk (below_step q28_10 hb); clear HO369; clear HO374; clear HO378; clear BK364; clear HB; have HO369 := n0_; have HO374 := n1_; have HO378 := n2_; have HO381 := n3_; have BK364 := n4_; have HB := n5_; clear n0_ n1_ n2_ n3_ n4_ n5_; (try clear hb); (try clear hb2); (try clear hk); (try clear hi); (try clear ho0); have hcz71_0 : w70.cell? ⟨gb364, 0, none⟩ = some (.int .i64 a1_0) := (blk_cell BK364.out 0).trans rfl; have hcz71_1 : w70.cell? ⟨gb364, 1, none⟩ = some (.int .i64 a1_1) := (blk_cell BK364.out 1).trans rfl; have hfz71_0 := blk_frozen BK364.out 0; have hfz71_1 := blk_frozen BK364.out 1) | ((with_reducible refine gate_callee (f := 16) rfl ?_); refine goesL_ (some 35) rfl rfl Try.func16 q28_19 rfl #[.agg #[.int .i64 a1_0, .int .i64 a1_1]] rfl q28_11 ?_; (with_reducible refine (laws_toRule.calls a1_0 a1_1 t382 t383 _ A16.out).mono ?_); rintro e w72 ⟨rfl, hb⟩; refine ⟨_, rfl, ?_⟩; have n0_ := Aside0.mk (Kd.R_below q28_14 hb); have n1_ := Aside0.mk (Kd.R_below q28_15 hb); have n2_ := Aside0.mk (Kd.R_below q28_16 hb); have n3_ := Aside0.mk (Kd.R_below q28_17 hb); have n4_ := Aside0.mk (blk_below (g := gb364) (o := .cells #[.int .i64 a1_0, .int .i64 a1_1] 23 (0, 0)) q28_13 hb); have n5_ := Aside0.mk (below_step q28_10 hb); clear HO369; clear HO374; clear HO378; clear HO381; clear BK364; clear HB; have HO369 := n0_; have HO374 := n1_; have HO378 := n2_; have HO381 := n3_; have BK364 := n4_; have HB := n5_; clear n0_ n1_ n2_ n3_ n4_ n5_; (try clear hb); (try clear hb2); (try clear hk); (try clear hi); obtain ⟨Ao73, co73, eo73⟩ := Kd.R_slice HO378.out; subst eo73; obtain ⟨Ao74, co74, eo74⟩ := Kd.R_slice HO381.out; subst eo74) | ((with_reducible refine gate_callee (f := 36) rfl ?_); refine goesL_ (some 37) rfl rfl Try.func36 q28_19 rfl #[.slice Ao73 t376.length co73, .agg #[.int .i64 t382, .int .i64 t383], .slice Ao74 t379.length co74] rfl q28_11 ?_; (with_reducible refine (impl_CheckProof.calls k _ _ t376 t382 t383 _ _ t379 t384 _ ?side1 ?side2 ?side3 ?side4 A17.out).mono ?_); (case side1 => exact q28_6); (case side2 => exact (Kd.R_reads' HO378.out).2.1); (case side3 => exact q28_7); (case side4 => exact (Kd.R_reads' HO381.out).2.1); rintro e w75 ⟨rfl, hb⟩; refine ⟨_, rfl, ?_⟩; have n0_ := Aside0.mk (Kd.R_below q28_14 hb); have n1_ := Aside0.mk (Kd.R_below q28_15 hb); have n2_ := Aside0.mk (Kd.R_below q28_16 hb); have n3_ := Aside0.mk (Kd.R_below q28_17 hb); have n4_ := Aside0.mk (blk_below (g := gb364) (o := .cells #[.int .i64 a1_0, .int .i64 a1_1] 23 (0, 0)) q28_13 hb); have n5_ := Aside0.mk (below_step q28_10 hb); clear HO369; clear HO374; clear HO378; clear HO381; clear BK364; clear HB; have HO369 := n0_; have HO374 := n1_; have HO378 := n2_; have HO381 := n3_; have BK364 := n4_; have HB := n5_; clear n0_ n1_ n2_ n3_ n4_ n5_; (try clear hb); (try clear hb2); (try clear hk); (try clear hi)) | ((with_reducible refine gate_callee (f := 20) rfl ?_); refine goesL_ (some 43) rfl rfl Try.func20 q28_19 rfl #[.slice A0 l0.length c0] rfl q28_11 ?_; (with_reducible refine (laws_toRuleS.calls k _ _ l0 t385 _ ?side1 ?side2 A34.out).mono ?_); (case side1 => exact q28_2); (case side2 => exact HC0.out); rintro e w76 ⟨v386, rfl, ho0, hb⟩; refine ⟨_, rfl, ?_⟩; have n0_ := Aside0.mk (Kd.R_elder' q28_14 (Kd.R_base ho0) hb); have n1_ := Aside0.mk (Kd.R_below q28_15 hb); have n2_ := Aside0.mk (Kd.R_elder' q28_16 (Kd.R_base ho0) hb); have n3_ := Aside0.mk (Kd.R_below q28_17 hb); have n4_ := Aside0.mk (Kd.R_lower (Kd.R_new' (Kd.R_new' ho0 (Kd.R_lt q28_14)) (Kd.R_lt q28_16)) (below_size q28_10)); have n5_ := Aside0.mk (blk_below (g := gb364) (o := .cells #[.int .i64 a1_0, .int .i64 a1_1] 23 (0, 0)) q28_13 hb); have n6_ := Aside0.mk (below_step q28_10 hb); clear HO369; clear HO374; clear HO378; clear HO381; clear BK364; clear HB; have HO369 := n0_; have HO374 := n1_; have HO378 := n2_; have HO381 := n3_; have HO387 := n4_; have BK364 := n5_; have HB := n6_; clear n0_ n1_ n2_ n3_ n4_ n5_ n6_; (try clear hb); (try clear hb2); (try clear hk); (try clear hi); (try clear ho0); obtain ⟨Ao77, co77, eo77⟩ := Kd.R_slice HO387.out; subst eo77) | ((with_reducible refine gate_callee (f := 22) rfl ?_); refine goesL_ (some 44) rfl rfl Try.func22 q28_19 rfl #[.slice Ao73 t376.length co73, .slice Ao77 t385.length co77] rfl q28_11 ?_; (with_reducible refine (laws_eqRuleS.calls k _ _ t376 _ _ t385 true _ ?side1 ?side2 ?side3 ?side4 A35.out).mono ?_); (case side1 => exact q28_6); (case side2 => exact (Kd.R_reads' HO378.out).2.1); (case side3 => exact q28_8); (case side4 => exact (Kd.R_reads' HO387.out).2.1); rintro e w78 ⟨rfl, hb⟩; refine ⟨_, rfl, ?_⟩; have n0_ := Aside0.mk (Kd.R_below q28_14 hb); have n1_ := Aside0.mk (Kd.R_below q28_15 hb); have n2_ := Aside0.mk (Kd.R_below q28_16 hb); have n3_ := Aside0.mk (Kd.R_below q28_17 hb); have n4_ := Aside0.mk (Kd.R_below q28_18 hb); have n5_ := Aside0.mk (blk_below (g := gb364) (o := .cells #[.int .i64 a1_0, .int .i64 a1_1] 23 (0, 0)) q28_13 hb); have n6_ := Aside0.mk (below_step q28_10 hb); clear HO369; clear HO374; clear HO378; clear HO381; clear HO387; clear BK364; clear HB; have HO369 := n0_; have HO374 := n1_; have HO378 := n2_; have HO381 := n3_; have HO387 := n4_; have BK364 := n5_; have HB := n6_; clear n0_ n1_ n2_ n3_ n4_ n5_ n6_; (try clear hb); (try clear hb2); (try clear hk); (try clear hi)) | ((with_reducible refine gate_callee (f := 35) rfl ?_); refine goesL_ (some 48) rfl rfl Try.func35 q28_19 rfl #[.slice A2 l2.length c2] rfl q28_11 ?_; (with_reducible refine (laws_toStepS.calls k _ _ l2 t389 _ ?side1 ?side2 A37.out).mono ?_); (case side1 => exact q28_3); (case side2 => exact HC2.out); rintro e w79 ⟨v390, rfl, ho0, hb⟩; refine ⟨_, rfl, ?_⟩; have n0_ := Aside0.mk (Kd.R_below q28_14 hb); have n1_ := Aside0.mk (Kd.R_elder' q28_15 (Kd.R_base ho0) hb); have n2_ := Aside0.mk (Kd.R_below q28_16 hb); have n3_ := Aside0.mk (Kd.R_elder' q28_17 (Kd.R_base ho0) hb); have n4_ := Aside0.mk (Kd.R_below q28_18 hb); have n5_ := Aside0.mk (Kd.R_lower (Kd.R_new' (Kd.R_new' ho0 (Kd.R_lt q28_15)) (Kd.R_lt q28_17)) (below_size q28_10)); have n6_ := Aside0.mk (blk_below (g := gb364) (o := .cells #[.int .i64 a1_0, .int .i64 a1_1] 23 (0, 0)) q28_13 hb); have n7_ := Aside0.mk (below_step q28_10 hb); clear HO369; clear HO374; clear HO378; clear HO381; clear HO387; clear BK364; clear HB; have HO369 := n0_; have HO374 := n1_; have HO378 := n2_; have HO381 := n3_; have HO387 := n4_; have HO391 := n5_; have BK364 := n6_; have HB := n7_; clear n0_ n1_ n2_ n3_ n4_ n5_ n6_ n7_; (try clear hb); (try clear hb2); (try clear hk); (try clear hi); (try clear ho0); obtain ⟨Ao80, co80, eo80⟩ := Kd.R_slice HO391.out; subst eo80) | ((with_reducible refine gate_callee (f := 37) rfl ?_); refine goesL_ (some 49) rfl rfl Try.func37 q28_19 rfl #[.slice Ao74 t379.length co74, .slice Ao80 t389.length co80] rfl q28_11 ?_; (with_reducible refine (laws_eqStepS.calls k _ _ t379 _ _ t389 false _ ?side1 ?side2 ?side3 ?side4 A38.out).mono ?_); (case side1 => exact q28_7); (case side2 => exact (Kd.R_reads' HO381.out).2.1); (case side3 => exact q28_9); (case side4 => exact (Kd.R_reads' HO391.out).2.1); rintro e w81 ⟨rfl, hb⟩; refine ⟨_, rfl, ?_⟩; have n0_ := Aside0.mk (Kd.R_below q28_14 hb); have n1_ := Aside0.mk (Kd.R_below q28_15 hb); have n2_ := Aside0.mk (Kd.R_below q28_16 hb); have n3_ := Aside0.mk (Kd.R_below q28_17 hb); have n4_ := Aside0.mk (Kd.R_below q28_18 hb); have n5_ := Aside0.mk (Kd.R_below (by (with_reducible repeat (first | apply Kd.R_alloc | apply Kd.R_drewN | apply Kd.R_drew)); exact HO391.out) hb); have n6_ := Aside0.mk (blk_below (g := gb364) (o := .cells #[.int .i64 a1_0, .int .i64 a1_1] 23 (0, 0)) q28_13 hb); have n7_ := Aside0.mk (below_step q28_10 hb); clear HO369; clear HO374; clear HO378; clear HO381; clear HO387; clear HO391; clear BK364; clear HB; have HO369 := n0_; have HO374 := n1_; have HO378 := n2_; have HO381 := n3_; have HO387 := n4_; have HO391 := n5_; have BK364 := n6_; have HB := n7_; clear n0_ n1_ n2_ n3_ n4_ n5_ n6_ n7_; (try clear hb); (try clear hb2); (try clear hk); (try clear hi)))
      go_ret
      exact ⟨by first | rfl | (simp [errW_none, errW_some] <;> rfl) | (simp [*, errW_none, errW_some] <;> rfl), by repeat (first | (with_reducible first | exact HB.out | apply below_alloc | apply pw_below_drewN | apply below_drew1 | refine below_set ?_ GE364.out) | exact HB.out)⟩
    ·
     replace c36 := Bool.eq_false_iff.mpr c36
     subst c36
     have H1 : (some false) = some r := by rw [if_neg (show ¬ (false = true) by decide)] at H; exact H
     clear H
     have H := H1
     clear H1
     obtain rfl := Option.some.inj H
     go_enter Try.func10, Try.ntmps10
     try go_wp2_with (first | ((with_reducible refine gate_dst (N := 4) rfl ?_); refine box_event ?hg (N := 4) ?hd (cs := #[.int .i64 a1_0, .int .i64 a1_1]) (t := 23) ?hr ?_; (case hd => rfl); (case hg => rfl); (case hr => first | (go_simp; done) | (go_simp; rfl)); intro gb364 hg w82 hbox hb; have n0_ := Aside0.mk (below_step q28_12 hb); have n1_ := Aside0.mk (hbox); have n2_ := Aside0.mk ((by rw [hg]; exact (below_size q28_12) : w.heap.size ≤ gb364)); have n3_ := Aside0.mk ((by rw [hg]; exact (below_size q28_12) : w.heap.size ≤ gb364)); clear HB; have HB := n0_; have BK364 := n1_; have GW364 := n2_; have GE364 := n3_; clear n0_ n1_ n2_ n3_; clear hb hbox hg) | ((with_reducible refine gate_callee (f := 18) rfl ?_); refine goesL_ (some 14) rfl rfl Try.func18 q28_19 rfl #[.slice A0 l0.length c0, .int .i64 1048576] rfl q28_11 ?_; (with_reducible refine (laws_szRuleS.calls _ _ l0 1048576 t365 _ ?side1 ?side2 A4.out).mono ?_); (case side1 => exact q28_2); (case side2 => exact HC0.out); rintro e w' ⟨rfl, ⟨nd, rfl⟩⟩; refine ⟨_, rfl, ?_⟩) | ((with_reducible refine gate_callee (f := 33) rfl ?_); refine goesL_ (some 19) rfl rfl Try.func33 q28_19 rfl #[.slice A2 l2.length c2, .int .i64 t365] rfl q28_11 ?_; (with_reducible refine (laws_szStepS.calls _ _ l2 t365 t366 _ ?side1 ?side2 A7.out).mono ?_); (case side1 => exact q28_1); (case side2 => exact HC2.out); rintro e w' ⟨rfl, ⟨nd, rfl⟩⟩; refine ⟨_, rfl, ?_⟩))
     (try (rw [drewN_self w82]; generalize hq_ : World.drewN w82 _ = w82; have n0_ : Aside0 (w82.heap[gb364]? = some (.cells #[.int .i64 a1_0, .int .i64 a1_1] 23 (0, 0))) := ⟨by rw [← hq_]; exact q28_13⟩; have n1_ : Aside0 (Below w.heap.size w w82) := ⟨by rw [← hq_]; exact q28_10⟩; clear BK364 HB hq_; have BK364 := n0_; have HB := n1_; clear n0_ n1_))
     have n0_ := Aside0.mk (blk_drew BK364.out)
     have n1_ := Aside0.mk (below_drew1 HB.out)
     clear BK364
     clear HB
     have BK364 := n0_
     have HB := n1_
     clear n0_ n1_
     refine start_ (n := 8) (S := fun w' => w'.cell? ⟨gb364, 0, none⟩ = some (.int .i64 a1_0) ∧ w'.cell? ⟨gb364, 1, none⟩ = some (.int .i64 a1_1)) (ds := []) #[false, false, false, false, false, false, false, false] q28_19 rfl rfl ⟨(blk_cell BK364.out 0).trans rfl, (blk_cell BK364.out 1).trans rfl⟩ (fun hHeld => ?_); refine with_tabW laws_FnExactCheckProof.tab8 laws_FnExactCheckProof.bits8 (fun HT_ HW_ => ?_)
     generalize w82.drew = w83 at BK364 HB hHeld ⊢
     refine pure_ (i := 0) (N := some 22) (v := ?_) (a' := ?_) #[true, false, false, false, false, false, false, false] rfl rfl (any_of HT_.out q28_19) (fun _ _ _ h => h) (Or.inl ⟨by rfl, ?_⟩) ?_ ?_
     rotate_left
     ·
      intro w'
      go_simp
      with_reducible rfl
     rotate_left
     ·
      exact put28_
     refine pure_ (i := 4) (N := some 26) (v := ?_) (a' := ?_) #[true, false, false, false, true, false, false, false] rfl rfl (any_of HT_.out q28_19) (fun _ _ _ h => h) (Or.inl ⟨by rfl, ?_⟩) ?_ ?_
     rotate_left
     ·
      intro w'
      go_simp
      with_reducible rfl
     rotate_left
     ·
      exact put28_
     refine take_ (i := 2) (N := some 24) (v := ?_) (a' := ?_) #[true, false, true, false, true, false, false, false] rfl rfl (take_ofW HT_.out HW_.out q28_19) (fun _ _ _ h => h) (Or.inl ⟨by rfl, ?_⟩) hHeld ?_ ?_
     rotate_left
     ·
      rintro w' ⟨s0, s1⟩
      go_simp
      with_reducible rfl
     rotate_left
     ·
      exact put28_
     refine one_ (i := 1) (N := some 23) #[true, true, true, false, true, false, false, false] rfl rfl (one_of HT_.out q28_19) (by decide) (fun K hK => ?_)
     refine goes_ Try.func20 q28_19 rfl #[.slice A0 l0.length c0] (by rfl) rfl rfl q28_11 ?_
     with_reducible refine (laws_toRuleS.calls k _ _ l0 t367 _ ?side1 ?side2 A10.out).mono ?_
     (case side1 => exact q28_2)
     (case side2 => exact HC0.out)
     rintro e w84 ⟨v368, rfl, ho0, hb⟩
     refine ⟨_, rfl, ?_⟩
     have n0_ := Aside0.mk (Kd.R_lower ho0 (below_size q28_10))
     have n1_ := Aside0.mk (blk_below (g := gb364) (o := .cells #[.int .i64 a1_0, .int .i64 a1_1] 23 (0, 0)) q28_13 hb)
     have n2_ := Aside0.mk (below_step q28_10 hb)
     clear BK364
     clear HB
     have HO369 := n0_
     have BK364 := n1_
     have HB := n2_
     clear n0_ n1_ n2_
     (try clear hb)
     (try clear hb2)
     (try clear hk)
     (try clear hi)
     (try clear ho0)
     refine hK.out _ _ ⟨(blk_cell BK364.out 0).trans rfl, (blk_cell BK364.out 1).trans rfl⟩ (fun hHeld => ?_)
     clear hK K
     refine norm_ (a' := ?_) ?_ ?_
     rotate_left
     ·
      show Act.put _ (some 23) _ = _
      exact put28_
     refine one_ (i := 3) (N := some 25) #[true, true, true, true, true, false, false, false] rfl rfl (one_of HT_.out q28_19) (by decide) (fun K hK => ?_)
     refine goes_ Try.func16 q28_19 rfl #[.agg #[.int .i64 a1_0, .int .i64 a1_1]] (by rfl) rfl rfl q28_11 ?_
     with_reducible refine (laws_toRule.calls a1_0 a1_1 t370 t371 _ A11.out).mono ?_
     rintro e w85 ⟨rfl, hb⟩
     refine ⟨_, rfl, ?_⟩
     have n0_ := Aside0.mk (Kd.R_below q28_14 hb)
     have n1_ := Aside0.mk (blk_below (g := gb364) (o := .cells #[.int .i64 a1_0, .int .i64 a1_1] 23 (0, 0)) q28_13 hb)
     have n2_ := Aside0.mk (below_step q28_10 hb)
     clear HO369
     clear BK364
     clear HB
     have HO369 := n0_
     have BK364 := n1_
     have HB := n2_
     clear n0_ n1_ n2_
     (try clear hb)
     (try clear hb2)
     (try clear hk)
     (try clear hi)
     refine hK.out _ _ ⟨(blk_cell BK364.out 0).trans rfl, (blk_cell BK364.out 1).trans rfl⟩ (fun hHeld => ?_)
     clear hK K
     refine norm_ (a' := ?_) ?_ ?_
     rotate_left
     ·
      show Act.put _ (some 25) _ = _
      exact put28_
     refine one_ (i := 5) (N := some 27) #[true, true, true, true, true, true, false, false] rfl rfl (one_of HT_.out q28_19) (by decide) (fun K hK => ?_)
     refine goes_ Try.func35 q28_19 rfl #[.slice A2 l2.length c2] (by rfl) rfl rfl q28_11 ?_
     with_reducible refine (laws_toStepS.calls k _ _ l2 t372 _ ?side1 ?side2 A12.out).mono ?_
     (case side1 => exact q28_3)
     (case side2 => exact HC2.out)
     rintro e w86 ⟨v373, rfl, ho0, hb⟩
     refine ⟨_, rfl, ?_⟩
     have n0_ := Aside0.mk (Kd.R_below q28_14 hb)
     have n1_ := Aside0.mk (Kd.R_lower ho0 (below_size q28_10))
     have n2_ := Aside0.mk (blk_below (g := gb364) (o := .cells #[.int .i64 a1_0, .int .i64 a1_1] 23 (0, 0)) q28_13 hb)
     have n3_ := Aside0.mk (below_step q28_10 hb)
     clear HO369
     clear BK364
     clear HB
     have HO369 := n0_
     have HO374 := n1_
     have BK364 := n2_
     have HB := n3_
     clear n0_ n1_ n2_ n3_
     (try clear hb)
     (try clear hb2)
     (try clear hk)
     (try clear hi)
     (try clear ho0)
     obtain ⟨Ao87, co87, eo87⟩ := Kd.R_slice HO369.out
     (first | subst eo87 | (injection eo87 with f1_ f2_ f3_; have f4_ := f1_.symm; have f5_ := f3_.symm; clear f1_ f2_ f3_; subst f4_; subst f5_))
     obtain ⟨Ao88, co88, eo88⟩ := Kd.R_slice HO374.out
     (first | subst eo88 | (injection eo88 with f1_ f2_ f3_; have f4_ := f1_.symm; have f5_ := f3_.symm; clear f1_ f2_ f3_; subst f4_; subst f5_))
     refine hK.out _ _ ⟨(blk_cell BK364.out 0).trans rfl, (blk_cell BK364.out 1).trans rfl⟩ (fun hHeld => ?_)
     clear hK K
     refine norm_ (a' := ?_) ?_ ?_
     rotate_left
     ·
      show Act.put _ (some 27) _ = _
      exact put28_
     refine one_ (i := 6) (N := some 28) #[true, true, true, true, true, true, true, false] rfl rfl (one_of HT_.out q28_19) (by decide) (fun K hK => ?_)
     refine goes_ Try.func34 q28_19 rfl #[.slice Ao87 t367.length co87, .agg #[.int .i64 t370, .int .i64 t371], .slice Ao88 t372.length co88] (by rfl) rfl rfl q28_11 ?_
     with_reducible refine (spec_CheckProof.calls k _ _ t367 t370 t371 _ _ t372 t375 _ ?side1 ?side2 ?side3 ?side4 A13.out).mono ?_
     (case side1 => exact q28_4)
     (case side2 => exact (Kd.R_reads' HO369.out).2.1)
     (case side3 => exact q28_5)
     (case side4 => exact (Kd.R_reads' HO374.out).2.1)
     rintro e w89 ⟨rfl, hb⟩
     refine ⟨_, rfl, ?_⟩
     have n0_ := Aside0.mk (Kd.R_below q28_14 hb)
     have n1_ := Aside0.mk (Kd.R_below q28_15 hb)
     have n2_ := Aside0.mk (blk_below (g := gb364) (o := .cells #[.int .i64 a1_0, .int .i64 a1_1] 23 (0, 0)) q28_13 hb)
     have n3_ := Aside0.mk (below_step q28_10 hb)
     clear HO369
     clear HO374
     clear BK364
     clear HB
     have HO369 := n0_
     have HO374 := n1_
     have BK364 := n2_
     have HB := n3_
     clear n0_ n1_ n2_ n3_
     (try clear hb)
     (try clear hb2)
     (try clear hk)
     (try clear hi)
     refine hK.out _ _ ⟨(blk_cell BK364.out 0).trans rfl, (blk_cell BK364.out 1).trans rfl⟩ (fun hHeld => ?_)
     clear hK K
     refine norm_ (a' := ?_) ?_ ?_
     rotate_left
     ·
      show Act.put _ (some 28) _ = _
      exact put28_
     refine pure_ (i := 7) (N := some 8) (v := ?_) (a' := ?_) #[true, true, true, true, true, true, true, true] rfl rfl (any_of HT_.out q28_19) (fun _ _ _ h => h) (Or.inl ⟨by rfl, ?_⟩) ?_ ?_
     rotate_left
     ·
      intro w'
      go_simp
      with_reducible rfl
     rotate_left
     ·
      exact put28_
     refine done_ (done_of HT_.out q28_19) ?_
     try go_wp2_with (first | ((with_reducible refine gate_callee (f := 20) rfl ?_); refine goesL_ (some 30) rfl rfl Try.func20 q28_19 rfl #[.slice A0 l0.length c0] rfl q28_11 ?_; (with_reducible refine (laws_toRuleS.calls k _ _ l0 t376 _ ?side1 ?side2 A14.out).mono ?_); (case side1 => exact q28_2); (case side2 => exact HC0.out); rintro e w90 ⟨v377, rfl, ho0, hb⟩; refine ⟨_, rfl, ?_⟩; have n0_ := Aside0.mk (Kd.R_elder' q28_14 (Kd.R_base ho0) hb); have n1_ := Aside0.mk (Kd.R_below q28_15 hb); have n2_ := Aside0.mk (Kd.R_lower (Kd.R_new' ho0 (Kd.R_lt q28_14)) (below_size q28_10)); have n3_ := Aside0.mk (blk_below (g := gb364) (o := .cells #[.int .i64 a1_0, .int .i64 a1_1] 23 (0, 0)) q28_13 hb); have n4_ := Aside0.mk (below_step q28_10 hb); clear HO369; clear HO374; clear BK364; clear HB; have HO369 := n0_; have HO374 := n1_; have HO378 := n2_; have BK364 := n3_; have HB := n4_; clear n0_ n1_ n2_ n3_ n4_; (try clear hb); (try clear hb2); (try clear hk); (try clear hi); (try clear ho0)) | ((with_reducible refine gate_callee (f := 35) rfl ?_); refine goesL_ (some 32) rfl rfl Try.func35 q28_19 rfl #[.slice A2 l2.length c2] rfl q28_11 ?_; (with_reducible refine (laws_toStepS.calls k _ _ l2 t379 _ ?side1 ?side2 A15.out).mono ?_); (case side1 => exact q28_3); (case side2 => exact HC2.out); rintro e w91 ⟨v380, rfl, ho0, hb⟩; refine ⟨_, rfl, ?_⟩; have n0_ := Aside0.mk (Kd.R_below q28_14 hb); have n1_ := Aside0.mk (Kd.R_elder' q28_15 (Kd.R_base ho0) hb); have n2_ := Aside0.mk (Kd.R_below q28_16 hb); have n3_ := Aside0.mk (Kd.R_lower (Kd.R_new' ho0 (Kd.R_lt q28_15)) (below_size q28_10)); have n4_ := Aside0.mk (blk_below (g := gb364) (o := .cells #[.int .i64 a1_0, .int .i64 a1_1] 23 (0, 0)) q28_13 hb); have n5_ := Aside0.mk (below_step q28_10 hb); clear HO369; clear HO374; clear HO378; clear BK364; clear HB; have HO369 := n0_; have HO374 := n1_; have HO378 := n2_; have HO381 := n3_; have BK364 := n4_; have HB := n5_; clear n0_ n1_ n2_ n3_ n4_ n5_; (try clear hb); (try clear hb2); (try clear hk); (try clear hi); (try clear ho0); have hcz92_0 : w91.cell? ⟨gb364, 0, none⟩ = some (.int .i64 a1_0) := (blk_cell BK364.out 0).trans rfl; have hcz92_1 : w91.cell? ⟨gb364, 1, none⟩ = some (.int .i64 a1_1) := (blk_cell BK364.out 1).trans rfl; have hfz92_0 := blk_frozen BK364.out 0; have hfz92_1 := blk_frozen BK364.out 1) | ((with_reducible refine gate_callee (f := 16) rfl ?_); refine goesL_ (some 35) rfl rfl Try.func16 q28_19 rfl #[.agg #[.int .i64 a1_0, .int .i64 a1_1]] rfl q28_11 ?_; (with_reducible refine (laws_toRule.calls a1_0 a1_1 t382 t383 _ A16.out).mono ?_); rintro e w93 ⟨rfl, hb⟩; refine ⟨_, rfl, ?_⟩; have n0_ := Aside0.mk (Kd.R_below q28_14 hb); have n1_ := Aside0.mk (Kd.R_below q28_15 hb); have n2_ := Aside0.mk (Kd.R_below q28_16 hb); have n3_ := Aside0.mk (Kd.R_below q28_17 hb); have n4_ := Aside0.mk (blk_below (g := gb364) (o := .cells #[.int .i64 a1_0, .int .i64 a1_1] 23 (0, 0)) q28_13 hb); have n5_ := Aside0.mk (below_step q28_10 hb); clear HO369; clear HO374; clear HO378; clear HO381; clear BK364; clear HB; have HO369 := n0_; have HO374 := n1_; have HO378 := n2_; have HO381 := n3_; have BK364 := n4_; have HB := n5_; clear n0_ n1_ n2_ n3_ n4_ n5_; (try clear hb); (try clear hb2); (try clear hk); (try clear hi); obtain ⟨Ao94, co94, eo94⟩ := Kd.R_slice HO378.out; subst eo94; obtain ⟨Ao95, co95, eo95⟩ := Kd.R_slice HO381.out; subst eo95) | ((with_reducible refine gate_callee (f := 36) rfl ?_); refine goesL_ (some 37) rfl rfl Try.func36 q28_19 rfl #[.slice Ao94 t376.length co94, .agg #[.int .i64 t382, .int .i64 t383], .slice Ao95 t379.length co95] rfl q28_11 ?_; (with_reducible refine (impl_CheckProof.calls k _ _ t376 t382 t383 _ _ t379 t384 _ ?side1 ?side2 ?side3 ?side4 A17.out).mono ?_); (case side1 => exact q28_6); (case side2 => exact (Kd.R_reads' HO378.out).2.1); (case side3 => exact q28_7); (case side4 => exact (Kd.R_reads' HO381.out).2.1); rintro e w96 ⟨rfl, hb⟩; refine ⟨_, rfl, ?_⟩; have n0_ := Aside0.mk (Kd.R_below q28_14 hb); have n1_ := Aside0.mk (Kd.R_below q28_15 hb); have n2_ := Aside0.mk (Kd.R_below q28_16 hb); have n3_ := Aside0.mk (Kd.R_below q28_17 hb); have n4_ := Aside0.mk (blk_below (g := gb364) (o := .cells #[.int .i64 a1_0, .int .i64 a1_1] 23 (0, 0)) q28_13 hb); have n5_ := Aside0.mk (below_step q28_10 hb); clear HO369; clear HO374; clear HO378; clear HO381; clear BK364; clear HB; have HO369 := n0_; have HO374 := n1_; have HO378 := n2_; have HO381 := n3_; have BK364 := n4_; have HB := n5_; clear n0_ n1_ n2_ n3_ n4_ n5_; (try clear hb); (try clear hb2); (try clear hk); (try clear hi)) | ((with_reducible refine gate_callee (f := 20) rfl ?_); refine goesL_ (some 43) rfl rfl Try.func20 q28_19 rfl #[.slice A0 l0.length c0] rfl q28_11 ?_; (with_reducible refine (laws_toRuleS.calls k _ _ l0 t385 _ ?side1 ?side2 A34.out).mono ?_); (case side1 => exact q28_2); (case side2 => exact HC0.out); rintro e w97 ⟨v386, rfl, ho0, hb⟩; refine ⟨_, rfl, ?_⟩; have n0_ := Aside0.mk (Kd.R_elder' q28_14 (Kd.R_base ho0) hb); have n1_ := Aside0.mk (Kd.R_below q28_15 hb); have n2_ := Aside0.mk (Kd.R_elder' q28_16 (Kd.R_base ho0) hb); have n3_ := Aside0.mk (Kd.R_below q28_17 hb); have n4_ := Aside0.mk (Kd.R_lower (Kd.R_new' (Kd.R_new' ho0 (Kd.R_lt q28_14)) (Kd.R_lt q28_16)) (below_size q28_10)); have n5_ := Aside0.mk (blk_below (g := gb364) (o := .cells #[.int .i64 a1_0, .int .i64 a1_1] 23 (0, 0)) q28_13 hb); have n6_ := Aside0.mk (below_step q28_10 hb); clear HO369; clear HO374; clear HO378; clear HO381; clear BK364; clear HB; have HO369 := n0_; have HO374 := n1_; have HO378 := n2_; have HO381 := n3_; have HO387 := n4_; have BK364 := n5_; have HB := n6_; clear n0_ n1_ n2_ n3_ n4_ n5_ n6_; (try clear hb); (try clear hb2); (try clear hk); (try clear hi); (try clear ho0); obtain ⟨Ao98, co98, eo98⟩ := Kd.R_slice HO387.out; subst eo98) | ((with_reducible refine gate_callee (f := 22) rfl ?_); refine goesL_ (some 44) rfl rfl Try.func22 q28_19 rfl #[.slice Ao94 t376.length co94, .slice Ao98 t385.length co98] rfl q28_11 ?_; (with_reducible refine (laws_eqRuleS.calls k _ _ t376 _ _ t385 false _ ?side1 ?side2 ?side3 ?side4 A35.out).mono ?_); (case side1 => exact q28_6); (case side2 => exact (Kd.R_reads' HO378.out).2.1); (case side3 => exact q28_8); (case side4 => exact (Kd.R_reads' HO387.out).2.1); rintro e w99 ⟨rfl, hb⟩; refine ⟨_, rfl, ?_⟩; have n0_ := Aside0.mk (Kd.R_below q28_14 hb); have n1_ := Aside0.mk (Kd.R_below q28_15 hb); have n2_ := Aside0.mk (Kd.R_below q28_16 hb); have n3_ := Aside0.mk (Kd.R_below q28_17 hb); have n4_ := Aside0.mk (Kd.R_below q28_18 hb); have n5_ := Aside0.mk (blk_below (g := gb364) (o := .cells #[.int .i64 a1_0, .int .i64 a1_1] 23 (0, 0)) q28_13 hb); have n6_ := Aside0.mk (below_step q28_10 hb); clear HO369; clear HO374; clear HO378; clear HO381; clear HO387; clear BK364; clear HB; have HO369 := n0_; have HO374 := n1_; have HO378 := n2_; have HO381 := n3_; have HO387 := n4_; have BK364 := n5_; have HB := n6_; clear n0_ n1_ n2_ n3_ n4_ n5_ n6_; (try clear hb); (try clear hb2); (try clear hk); (try clear hi)))
     go_ret
     exact ⟨by first | rfl | (simp [errW_none, errW_some] <;> rfl) | (simp [*, errW_none, errW_some] <;> rfl), by repeat (first | (with_reducible first | exact HB.out | apply below_alloc | apply pw_below_drewN | apply below_drew1 | refine below_set ?_ GE364.out) | exact HB.out)⟩

end Go.Proofs.Ytjkbmdbecplgiaa.Pr
