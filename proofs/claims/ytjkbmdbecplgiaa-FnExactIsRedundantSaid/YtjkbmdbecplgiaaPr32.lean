/- Functions of the program as plain functions, each with the proof that its call answers so. Written by a program of this place (myprint.py over the kit's print). No condition beyond what each statement says. -/
import Derived.Test.YtjkbmdbecplgiaaPr0
import Derived.Test.YtjkbmdbecplgiaaPr1
import Derived.Test.YtjkbmdbecplgiaaPr2
import Derived.Test.YtjkbmdbecplgiaaPr3
import Derived.Test.YtjkbmdbecplgiaaPr11
import Derived.Test.YtjkbmdbecplgiaaPr21
namespace Go.Proofs.Ytjkbmdbecplgiaa.Pr
open Go.RowKit Go.Proofs.YtjkbmdbecplgiaaW.PrintWords Go.Proofs.YtjkbmdbecplgiaaW.PrintLast Go.Proofs.YtjkbmdbecplgiaaW.PrintMore
attribute [local go_sem] max2_int min2_int max_two min_two max_three min_three max_four min_four   -- for this text's walks alone
set_option linter.unusedVariables false
set_option linter.unusedSimpArgs false

/-! ### laws_FnExactIsRedundant: function 11 -/
theorem q32_1 {P : Prop} (h : P := by repeat (first | exact (Kd.C_below HR0.out HB.out) | (with_reducible refine Kd.C_alloc ?_ _) | (with_reducible refine Kd.C_drewN ?_ _) | (with_reducible refine Kd.C_drew ?_))) : P := h
theorem q32_2 {P : Prop} (h : P := by repeat (first | exact (Kd.R_reads' HO425.out).2.2 | (with_reducible refine Kd.C_alloc ?_ _) | (with_reducible refine Kd.C_drewN ?_ _) | (with_reducible refine Kd.C_drew ?_))) : P := h
theorem q32_3 {P : Prop} (h : P := by repeat (first | exact (Kd.R_reads' HO429.out).2.2 | (with_reducible refine Kd.C_alloc ?_ _) | (with_reducible refine Kd.C_drewN ?_ _) | (with_reducible refine Kd.C_drew ?_))) : P := h
theorem q32_4 {P : Prop} (h : P := by repeat (first | exact (Kd.R_reads' HO433.out).2.2 | (with_reducible refine Kd.C_alloc ?_ _) | (with_reducible refine Kd.C_drewN ?_ _) | (with_reducible refine Kd.C_drew ?_))) : P := h
theorem q32_5 {P : Prop} (h : P := by repeat (first | exact HR0.out | (with_reducible refine Kd.C_alloc ?_ _) | (with_reducible refine Kd.C_drewN ?_ _) | (with_reducible refine Kd.C_drew ?_))) : P := h
theorem q32_6 {P : Prop} (h : P := by (try simp only [List.map_toArray, List.map_cons, List.map_nil]); first | done | rfl | (simp only [List.length_drop, List.length_take]; rfl)) : P := h
theorem q32_7 {P : Prop} (h : P := by repeat (first | (with_reducible first | exact HB.out | apply below_alloc | apply pw_below_drewN | apply below_drew1) | exact HB.out)) : P := h
theorem q32_8 {P : Prop} (h : P := by (with_reducible repeat (first | apply Kd.R_alloc | apply Kd.R_drewN | apply Kd.R_drew)); exact HO425.out) : P := h
theorem q32_9 {P : Prop} (h : P := by (with_reducible repeat (first | apply Kd.R_alloc | apply Kd.R_drewN | apply Kd.R_drew)); exact HO429.out) : P := h
theorem q32_10 {P : Prop} (h : P := by kernel_rfl) : P := h
def laws_FnExactIsRedundant.f (k : Nat) (l0 : List (S23)) (a1 : Int) : Option (Bool) := (laws_szRuleS.f l0 1048576).bind fun t422 => (if t422 < 0 then (some true) else ((laws_toRuleS.f k l0).bind fun t423 => ((spec_IsRedundant.f k t423 a1).bind fun t426 => ((laws_toRuleS.f k l0).bind fun t427 => ((impl_IsRedundant.f k t427 a1).bind fun t430 => (if (t430 != t426) = true then (some false) else ((laws_toRuleS.f k l0).bind fun t431 => ((laws_eqRuleS.f k t427 t431).bind fun t434 => (if t434 = true then (some true) else (some false))))))))))
theorem laws_FnExactIsRedundant.mono : ∀ a0 a1 k, LeO (laws_FnExactIsRedundant.f k a0 a1) (laws_FnExactIsRedundant.f (k + 1) a0 a1) := by
 intro a0 a1 k
 unfold laws_FnExactIsRedundant.f
 repeat' first
   | (with_reducible exact impl_IsRedundant.mono _ _ _)
   | (with_reducible exact laws_eqRuleS.mono _ _ _)
   | (with_reducible exact laws_toRuleS.mono _ _)
   | (with_reducible exact spec_IsRedundant.mono _ _ _)
   | (with_reducible exact LeO.refl _)
   | (with_reducible exact LeO.none _)
   | (with_reducible refine LeO.ite ?_ ?_)
   | (with_reducible refine LeO.bind ?_ (fun _ => ?_))
   | exact impl_IsRedundant.mono _ _ _
   | exact laws_eqRuleS.mono _ _ _
   | exact laws_toRuleS.mono _ _
   | exact spec_IsRedundant.mono _ _ _
   | exact LeO.none _
   | refine LeO.ite ?_ ?_
   | refine LeO.bind ?_ (fun _ => ?_)
set_option maxHeartbeats 8000000 in
set_option maxRecDepth 100000 in
theorem laws_FnExactIsRedundant.calls (k : Nat) (A0 : Option Addr) (c0 : Nat) (l0 : List (S23)) (a1 : Int) (r : Bool) (w : World) (hr0 : Kd.C k23 w A0 l0.length l0) (hc0 : l0.length ≤ c0) (h : laws_FnExactIsRedundant.f k l0 a1 = some r) :
  Calls Try.prog 11 #[.slice A0 l0.length c0, .int .i64 a1] w fun e w' => e = .returned (.bool r) ∧ Below w.heap.size w w' := by
 have HR0 := Aside0.mk hr0
 have HC0 := Aside0.mk hc0
 clear hr0 hc0
 have HB := Aside0.mk (Below.refl w.heap.size w)
 have H : ((laws_szRuleS.f l0 1048576).bind fun t422 => (if t422 < 0 then (some true) else ((laws_toRuleS.f k l0).bind fun t423 => ((spec_IsRedundant.f k t423 a1).bind fun t426 => ((laws_toRuleS.f k l0).bind fun t427 => ((impl_IsRedundant.f k t427 a1).bind fun t430 => (if (t430 != t426) = true then (some false) else ((laws_toRuleS.f k l0).bind fun t431 => ((laws_eqRuleS.f k t427 t431).bind fun t434 => (if t434 = true then (some true) else (some false))))))))))) = some r := h
 clear h
 replace H := Option.bind_eq_some_iff.mp H
 obtain ⟨t422, A30, H⟩ := H
 replace H : (if t422 < 0 then (some true) else ((laws_toRuleS.f k l0).bind fun t423 => ((spec_IsRedundant.f k t423 a1).bind fun t426 => ((laws_toRuleS.f k l0).bind fun t427 => ((impl_IsRedundant.f k t427 a1).bind fun t430 => (if (t430 != t426) = true then (some false) else ((laws_toRuleS.f k l0).bind fun t431 => ((laws_eqRuleS.f k t427 t431).bind fun t434 => (if t434 = true then (some true) else (some false)))))))))) = some r := H
 have A3 := Aside0.mk A30
 clear A30
 by_cases c4 : t422 < 0
 ·
  rw [if_pos c4] at H
  have c4b0 : decide (t422 < 0) = true := decide_eq_true c4
  clear c4
  obtain rfl := Option.some.inj H
  go_enter Try.func11, Try.ntmps11
  go_wp2_with (first | ((with_reducible refine gate_callee (f := 18) rfl ?_); refine goesL_ (some 11) rfl rfl Try.func18 q32_10 rfl #[.slice A0 l0.length c0, .int .i64 1048576] rfl q32_6 ?_; (with_reducible refine (laws_szRuleS.calls _ _ l0 1048576 t422 _ ?side1 ?side2 A3.out).mono ?_); (case side1 => exact q32_5); (case side2 => exact HC0.out); rintro e w' ⟨rfl, ⟨nd, rfl⟩⟩; refine ⟨_, rfl, ?_⟩))
  go_ret
  exact ⟨by first | rfl | (simp [errW_none, errW_some] <;> rfl) | (simp [*, errW_none, errW_some] <;> rfl), by repeat (first | (with_reducible first | exact HB.out | apply below_alloc | apply pw_below_drewN | apply below_drew1) | exact HB.out)⟩
 ·
  rw [if_neg c4] at H
  have c4b0 : decide (t422 < 0) = false := decide_eq_false c4
  clear c4
  replace H := Option.bind_eq_some_iff.mp H
  obtain ⟨t423, A50, H⟩ := H
  replace H : ((spec_IsRedundant.f k t423 a1).bind fun t426 => ((laws_toRuleS.f k l0).bind fun t427 => ((impl_IsRedundant.f k t427 a1).bind fun t430 => (if (t430 != t426) = true then (some false) else ((laws_toRuleS.f k l0).bind fun t431 => ((laws_eqRuleS.f k t427 t431).bind fun t434 => (if t434 = true then (some true) else (some false)))))))) = some r := H
  have A5 := Aside0.mk A50
  clear A50
  replace H := Option.bind_eq_some_iff.mp H
  obtain ⟨t426, A60, H⟩ := H
  replace H : ((laws_toRuleS.f k l0).bind fun t427 => ((impl_IsRedundant.f k t427 a1).bind fun t430 => (if (t430 != t426) = true then (some false) else ((laws_toRuleS.f k l0).bind fun t431 => ((laws_eqRuleS.f k t427 t431).bind fun t434 => (if t434 = true then (some true) else (some false))))))) = some r := H
  have A6 := Aside0.mk A60
  clear A60
  replace H := Option.bind_eq_some_iff.mp H
  obtain ⟨t427, A70, H⟩ := H
  replace H : ((impl_IsRedundant.f k t427 a1).bind fun t430 => (if (t430 != t426) = true then (some false) else ((laws_toRuleS.f k l0).bind fun t431 => ((laws_eqRuleS.f k t427 t431).bind fun t434 => (if t434 = true then (some true) else (some false)))))) = some r := H
  have A7 := Aside0.mk A70
  clear A70
  replace H := Option.bind_eq_some_iff.mp H
  obtain ⟨t430, A80, H⟩ := H
  replace H : (if (t430 != t426) = true then (some false) else ((laws_toRuleS.f k l0).bind fun t431 => ((laws_eqRuleS.f k t427 t431).bind fun t434 => (if t434 = true then (some true) else (some false))))) = some r := H
  have A8 := Aside0.mk A80
  clear A80
  by_cases c9 : (t430 != t426) = true
  ·
   rw [if_pos c9] at H
   have c9b0 : (t430 != t426) = true := c9
   (try (have c9b1 : decide (t430 = t426) = false := by simpa using c9))
   (try (have c9b2 : (t430 == t426) = false := by simpa using c9))
   (try (have c9b3 : ¬ (t430 = t426) := by simpa using c9))
   clear c9
   obtain rfl := Option.some.inj H
   go_enter Try.func11, Try.ntmps11
   go_wp2_with (first | ((with_reducible refine gate_callee (f := 18) rfl ?_); refine goesL_ (some 11) rfl rfl Try.func18 q32_10 rfl #[.slice A0 l0.length c0, .int .i64 1048576] rfl q32_6 ?_; (with_reducible refine (laws_szRuleS.calls _ _ l0 1048576 t422 _ ?side1 ?side2 A3.out).mono ?_); (case side1 => exact q32_5); (case side2 => exact HC0.out); rintro e w' ⟨rfl, ⟨nd, rfl⟩⟩; refine ⟨_, rfl, ?_⟩) | ((with_reducible refine gate_callee (f := 20) rfl ?_); refine goesL_ (some 15) rfl rfl Try.func20 q32_10 rfl #[.slice A0 l0.length c0] rfl q32_6 ?_; (with_reducible refine (laws_toRuleS.calls k _ _ l0 t423 _ ?side1 ?side2 A5.out).mono ?_); (case side1 => exact q32_5); (case side2 => exact HC0.out); rintro e w10 ⟨v424, rfl, ho0, hb⟩; refine ⟨_, rfl, ?_⟩; have n0_ := Aside0.mk (Kd.R_lower ho0 (below_size q32_7)); have n1_ := Aside0.mk (below_step q32_7 hb); clear HB; have HO425 := n0_; have HB := n1_; clear n0_ n1_; (try clear hb); (try clear hb2); (try clear hk); (try clear hi); (try clear ho0); obtain ⟨Ao11, co11, eo11⟩ := Kd.R_slice HO425.out; subst eo11) | ((with_reducible refine gate_callee (f := 38) rfl ?_); refine goesL_ (some 17) rfl rfl Try.func38 q32_10 rfl #[.slice Ao11 t423.length co11, .int .i64 a1] rfl q32_6 ?_; (with_reducible refine (spec_IsRedundant.calls k _ _ t423 a1 t426 _ ?side1 ?side2 A6.out).mono ?_); (case side1 => exact q32_2); (case side2 => exact (Kd.R_reads' HO425.out).2.1); rintro e w12 ⟨rfl, hb⟩; refine ⟨_, rfl, ?_⟩; have n0_ := Aside0.mk (Kd.R_below q32_8 hb); have n1_ := Aside0.mk (below_step q32_7 hb); clear HO425; clear HB; have HO425 := n0_; have HB := n1_; clear n0_ n1_; (try clear hb); (try clear hb2); (try clear hk); (try clear hi)) | ((with_reducible refine gate_callee (f := 20) rfl ?_); refine goesL_ (some 19) rfl rfl Try.func20 q32_10 rfl #[.slice A0 l0.length c0] rfl q32_6 ?_; (with_reducible refine (laws_toRuleS.calls k _ _ l0 t427 _ ?side1 ?side2 A7.out).mono ?_); (case side1 => exact q32_1); (case side2 => exact HC0.out); rintro e w13 ⟨v428, rfl, ho0, hb⟩; refine ⟨_, rfl, ?_⟩; have n0_ := Aside0.mk (Kd.R_elder' q32_8 (Kd.R_base ho0) hb); have n1_ := Aside0.mk (Kd.R_lower (Kd.R_new' ho0 (Kd.R_lt q32_8)) (below_size q32_7)); have n2_ := Aside0.mk (below_step q32_7 hb); clear HO425; clear HB; have HO425 := n0_; have HO429 := n1_; have HB := n2_; clear n0_ n1_ n2_; (try clear hb); (try clear hb2); (try clear hk); (try clear hi); (try clear ho0); obtain ⟨Ao14, co14, eo14⟩ := Kd.R_slice HO429.out; subst eo14) | ((with_reducible refine gate_callee (f := 39) rfl ?_); refine goesL_ (some 22) rfl rfl Try.func39 q32_10 rfl #[.slice Ao14 t427.length co14, .int .i64 a1] rfl q32_6 ?_; (with_reducible refine (impl_IsRedundant.calls k _ _ t427 a1 t430 _ ?side1 ?side2 A8.out).mono ?_); (case side1 => exact q32_3); (case side2 => exact (Kd.R_reads' HO429.out).2.1); rintro e w15 ⟨rfl, hb⟩; refine ⟨_, rfl, ?_⟩; have n0_ := Aside0.mk (Kd.R_below q32_8 hb); have n1_ := Aside0.mk (Kd.R_below q32_9 hb); have n2_ := Aside0.mk (below_step q32_7 hb); clear HO425; clear HO429; clear HB; have HO425 := n0_; have HO429 := n1_; have HB := n2_; clear n0_ n1_ n2_; (try clear hb); (try clear hb2); (try clear hk); (try clear hi)))
   go_ret
   exact ⟨by first | rfl | (simp [errW_none, errW_some] <;> rfl) | (simp [*, errW_none, errW_some] <;> rfl), by repeat (first | (with_reducible first | exact HB.out | apply below_alloc | apply pw_below_drewN | apply below_drew1) | exact HB.out)⟩
  ·
   rw [if_neg c9] at H
   have c9b0 : (t430 != t426) = false := by simpa using c9
   (try (have c9b1 : decide (t430 = t426) = true := by simpa using c9))
   (try (have c9b2 : (t430 == t426) = true := by simpa using c9))
   clear c9
   replace H := Option.bind_eq_some_iff.mp H
   obtain ⟨t431, A160, H⟩ := H
   replace H : ((laws_eqRuleS.f k t427 t431).bind fun t434 => (if t434 = true then (some true) else (some false))) = some r := H
   have A16 := Aside0.mk A160
   clear A160
   replace H := Option.bind_eq_some_iff.mp H
   obtain ⟨t434, A170, H⟩ := H
   replace H : (if t434 = true then (some true) else (some false)) = some r := H
   have A17 := Aside0.mk A170
   clear A170
   by_cases c18 : t434 = true
   ·
    subst c18
    have H1 : (some true) = some r := by rw [if_pos rfl] at H; exact H
    clear H
    have H := H1
    clear H1
    obtain rfl := Option.some.inj H
    go_enter Try.func11, Try.ntmps11
    go_wp2_with (first | ((with_reducible refine gate_callee (f := 18) rfl ?_); refine goesL_ (some 11) rfl rfl Try.func18 q32_10 rfl #[.slice A0 l0.length c0, .int .i64 1048576] rfl q32_6 ?_; (with_reducible refine (laws_szRuleS.calls _ _ l0 1048576 t422 _ ?side1 ?side2 A3.out).mono ?_); (case side1 => exact q32_5); (case side2 => exact HC0.out); rintro e w' ⟨rfl, ⟨nd, rfl⟩⟩; refine ⟨_, rfl, ?_⟩) | ((with_reducible refine gate_callee (f := 20) rfl ?_); refine goesL_ (some 15) rfl rfl Try.func20 q32_10 rfl #[.slice A0 l0.length c0] rfl q32_6 ?_; (with_reducible refine (laws_toRuleS.calls k _ _ l0 t423 _ ?side1 ?side2 A5.out).mono ?_); (case side1 => exact q32_5); (case side2 => exact HC0.out); rintro e w19 ⟨v424, rfl, ho0, hb⟩; refine ⟨_, rfl, ?_⟩; have n0_ := Aside0.mk (Kd.R_lower ho0 (below_size q32_7)); have n1_ := Aside0.mk (below_step q32_7 hb); clear HB; have HO425 := n0_; have HB := n1_; clear n0_ n1_; (try clear hb); (try clear hb2); (try clear hk); (try clear hi); (try clear ho0); obtain ⟨Ao20, co20, eo20⟩ := Kd.R_slice HO425.out; subst eo20) | ((with_reducible refine gate_callee (f := 38) rfl ?_); refine goesL_ (some 17) rfl rfl Try.func38 q32_10 rfl #[.slice Ao20 t423.length co20, .int .i64 a1] rfl q32_6 ?_; (with_reducible refine (spec_IsRedundant.calls k _ _ t423 a1 t426 _ ?side1 ?side2 A6.out).mono ?_); (case side1 => exact q32_2); (case side2 => exact (Kd.R_reads' HO425.out).2.1); rintro e w21 ⟨rfl, hb⟩; refine ⟨_, rfl, ?_⟩; have n0_ := Aside0.mk (Kd.R_below q32_8 hb); have n1_ := Aside0.mk (below_step q32_7 hb); clear HO425; clear HB; have HO425 := n0_; have HB := n1_; clear n0_ n1_; (try clear hb); (try clear hb2); (try clear hk); (try clear hi)) | ((with_reducible refine gate_callee (f := 20) rfl ?_); refine goesL_ (some 19) rfl rfl Try.func20 q32_10 rfl #[.slice A0 l0.length c0] rfl q32_6 ?_; (with_reducible refine (laws_toRuleS.calls k _ _ l0 t427 _ ?side1 ?side2 A7.out).mono ?_); (case side1 => exact q32_1); (case side2 => exact HC0.out); rintro e w22 ⟨v428, rfl, ho0, hb⟩; refine ⟨_, rfl, ?_⟩; have n0_ := Aside0.mk (Kd.R_elder' q32_8 (Kd.R_base ho0) hb); have n1_ := Aside0.mk (Kd.R_lower (Kd.R_new' ho0 (Kd.R_lt q32_8)) (below_size q32_7)); have n2_ := Aside0.mk (below_step q32_7 hb); clear HO425; clear HB; have HO425 := n0_; have HO429 := n1_; have HB := n2_; clear n0_ n1_ n2_; (try clear hb); (try clear hb2); (try clear hk); (try clear hi); (try clear ho0); obtain ⟨Ao23, co23, eo23⟩ := Kd.R_slice HO429.out; subst eo23) | ((with_reducible refine gate_callee (f := 39) rfl ?_); refine goesL_ (some 22) rfl rfl Try.func39 q32_10 rfl #[.slice Ao23 t427.length co23, .int .i64 a1] rfl q32_6 ?_; (with_reducible refine (impl_IsRedundant.calls k _ _ t427 a1 t430 _ ?side1 ?side2 A8.out).mono ?_); (case side1 => exact q32_3); (case side2 => exact (Kd.R_reads' HO429.out).2.1); rintro e w24 ⟨rfl, hb⟩; refine ⟨_, rfl, ?_⟩; have n0_ := Aside0.mk (Kd.R_below q32_8 hb); have n1_ := Aside0.mk (Kd.R_below q32_9 hb); have n2_ := Aside0.mk (below_step q32_7 hb); clear HO425; clear HO429; clear HB; have HO425 := n0_; have HO429 := n1_; have HB := n2_; clear n0_ n1_ n2_; (try clear hb); (try clear hb2); (try clear hk); (try clear hi)) | ((with_reducible refine gate_callee (f := 20) rfl ?_); refine goesL_ (some 28) rfl rfl Try.func20 q32_10 rfl #[.slice A0 l0.length c0] rfl q32_6 ?_; (with_reducible refine (laws_toRuleS.calls k _ _ l0 t431 _ ?side1 ?side2 A16.out).mono ?_); (case side1 => exact q32_1); (case side2 => exact HC0.out); rintro e w25 ⟨v432, rfl, ho0, hb⟩; refine ⟨_, rfl, ?_⟩; have n0_ := Aside0.mk (Kd.R_elder' q32_8 (Kd.R_base ho0) hb); have n1_ := Aside0.mk (Kd.R_elder' q32_9 (Kd.R_base ho0) hb); have n2_ := Aside0.mk (Kd.R_lower (Kd.R_new' (Kd.R_new' ho0 (Kd.R_lt q32_8)) (Kd.R_lt q32_9)) (below_size q32_7)); have n3_ := Aside0.mk (below_step q32_7 hb); clear HO425; clear HO429; clear HB; have HO425 := n0_; have HO429 := n1_; have HO433 := n2_; have HB := n3_; clear n0_ n1_ n2_ n3_; (try clear hb); (try clear hb2); (try clear hk); (try clear hi); (try clear ho0); obtain ⟨Ao26, co26, eo26⟩ := Kd.R_slice HO433.out; subst eo26) | ((with_reducible refine gate_callee (f := 22) rfl ?_); refine goesL_ (some 29) rfl rfl Try.func22 q32_10 rfl #[.slice Ao23 t427.length co23, .slice Ao26 t431.length co26] rfl q32_6 ?_; (with_reducible refine (laws_eqRuleS.calls k _ _ t427 _ _ t431 true _ ?side1 ?side2 ?side3 ?side4 A17.out).mono ?_); (case side1 => exact q32_3); (case side2 => exact (Kd.R_reads' HO429.out).2.1); (case side3 => exact q32_4); (case side4 => exact (Kd.R_reads' HO433.out).2.1); rintro e w27 ⟨rfl, hb⟩; refine ⟨_, rfl, ?_⟩; have n0_ := Aside0.mk (Kd.R_below q32_8 hb); have n1_ := Aside0.mk (Kd.R_below q32_9 hb); have n2_ := Aside0.mk (Kd.R_below (by (with_reducible repeat (first | apply Kd.R_alloc | apply Kd.R_drewN | apply Kd.R_drew)); exact HO433.out) hb); have n3_ := Aside0.mk (below_step q32_7 hb); clear HO425; clear HO429; clear HO433; clear HB; have HO425 := n0_; have HO429 := n1_; have HO433 := n2_; have HB := n3_; clear n0_ n1_ n2_ n3_; (try clear hb); (try clear hb2); (try clear hk); (try clear hi)))
    go_ret
    exact ⟨by first | rfl | (simp [errW_none, errW_some] <;> rfl) | (simp [*, errW_none, errW_some] <;> rfl), by repeat (first | (with_reducible first | exact HB.out | apply below_alloc | apply pw_below_drewN | apply below_drew1) | exact HB.out)⟩
   ·
    replace c18 := Bool.eq_false_iff.mpr c18
    subst c18
    have H1 : (some false) = some r := by rw [if_neg (show ¬ (false = true) by decide)] at H; exact H
    clear H
    have H := H1
    clear H1
    obtain rfl := Option.some.inj H
    go_enter Try.func11, Try.ntmps11
    go_wp2_with (first | ((with_reducible refine gate_callee (f := 18) rfl ?_); refine goesL_ (some 11) rfl rfl Try.func18 q32_10 rfl #[.slice A0 l0.length c0, .int .i64 1048576] rfl q32_6 ?_; (with_reducible refine (laws_szRuleS.calls _ _ l0 1048576 t422 _ ?side1 ?side2 A3.out).mono ?_); (case side1 => exact q32_5); (case side2 => exact HC0.out); rintro e w' ⟨rfl, ⟨nd, rfl⟩⟩; refine ⟨_, rfl, ?_⟩) | ((with_reducible refine gate_callee (f := 20) rfl ?_); refine goesL_ (some 15) rfl rfl Try.func20 q32_10 rfl #[.slice A0 l0.length c0] rfl q32_6 ?_; (with_reducible refine (laws_toRuleS.calls k _ _ l0 t423 _ ?side1 ?side2 A5.out).mono ?_); (case side1 => exact q32_5); (case side2 => exact HC0.out); rintro e w28 ⟨v424, rfl, ho0, hb⟩; refine ⟨_, rfl, ?_⟩; have n0_ := Aside0.mk (Kd.R_lower ho0 (below_size q32_7)); have n1_ := Aside0.mk (below_step q32_7 hb); clear HB; have HO425 := n0_; have HB := n1_; clear n0_ n1_; (try clear hb); (try clear hb2); (try clear hk); (try clear hi); (try clear ho0); obtain ⟨Ao29, co29, eo29⟩ := Kd.R_slice HO425.out; subst eo29) | ((with_reducible refine gate_callee (f := 38) rfl ?_); refine goesL_ (some 17) rfl rfl Try.func38 q32_10 rfl #[.slice Ao29 t423.length co29, .int .i64 a1] rfl q32_6 ?_; (with_reducible refine (spec_IsRedundant.calls k _ _ t423 a1 t426 _ ?side1 ?side2 A6.out).mono ?_); (case side1 => exact q32_2); (case side2 => exact (Kd.R_reads' HO425.out).2.1); rintro e w30 ⟨rfl, hb⟩; refine ⟨_, rfl, ?_⟩; have n0_ := Aside0.mk (Kd.R_below q32_8 hb); have n1_ := Aside0.mk (below_step q32_7 hb); clear HO425; clear HB; have HO425 := n0_; have HB := n1_; clear n0_ n1_; (try clear hb); (try clear hb2); (try clear hk); (try clear hi)) | ((with_reducible refine gate_callee (f := 20) rfl ?_); refine goesL_ (some 19) rfl rfl Try.func20 q32_10 rfl #[.slice A0 l0.length c0] rfl q32_6 ?_; (with_reducible refine (laws_toRuleS.calls k _ _ l0 t427 _ ?side1 ?side2 A7.out).mono ?_); (case side1 => exact q32_1); (case side2 => exact HC0.out); rintro e w31 ⟨v428, rfl, ho0, hb⟩; refine ⟨_, rfl, ?_⟩; have n0_ := Aside0.mk (Kd.R_elder' q32_8 (Kd.R_base ho0) hb); have n1_ := Aside0.mk (Kd.R_lower (Kd.R_new' ho0 (Kd.R_lt q32_8)) (below_size q32_7)); have n2_ := Aside0.mk (below_step q32_7 hb); clear HO425; clear HB; have HO425 := n0_; have HO429 := n1_; have HB := n2_; clear n0_ n1_ n2_; (try clear hb); (try clear hb2); (try clear hk); (try clear hi); (try clear ho0); obtain ⟨Ao32, co32, eo32⟩ := Kd.R_slice HO429.out; subst eo32) | ((with_reducible refine gate_callee (f := 39) rfl ?_); refine goesL_ (some 22) rfl rfl Try.func39 q32_10 rfl #[.slice Ao32 t427.length co32, .int .i64 a1] rfl q32_6 ?_; (with_reducible refine (impl_IsRedundant.calls k _ _ t427 a1 t430 _ ?side1 ?side2 A8.out).mono ?_); (case side1 => exact q32_3); (case side2 => exact (Kd.R_reads' HO429.out).2.1); rintro e w33 ⟨rfl, hb⟩; refine ⟨_, rfl, ?_⟩; have n0_ := Aside0.mk (Kd.R_below q32_8 hb); have n1_ := Aside0.mk (Kd.R_below q32_9 hb); have n2_ := Aside0.mk (below_step q32_7 hb); clear HO425; clear HO429; clear HB; have HO425 := n0_; have HO429 := n1_; have HB := n2_; clear n0_ n1_ n2_; (try clear hb); (try clear hb2); (try clear hk); (try clear hi)) | ((with_reducible refine gate_callee (f := 20) rfl ?_); refine goesL_ (some 28) rfl rfl Try.func20 q32_10 rfl #[.slice A0 l0.length c0] rfl q32_6 ?_; (with_reducible refine (laws_toRuleS.calls k _ _ l0 t431 _ ?side1 ?side2 A16.out).mono ?_); (case side1 => exact q32_1); (case side2 => exact HC0.out); rintro e w34 ⟨v432, rfl, ho0, hb⟩; refine ⟨_, rfl, ?_⟩; have n0_ := Aside0.mk (Kd.R_elder' q32_8 (Kd.R_base ho0) hb); have n1_ := Aside0.mk (Kd.R_elder' q32_9 (Kd.R_base ho0) hb); have n2_ := Aside0.mk (Kd.R_lower (Kd.R_new' (Kd.R_new' ho0 (Kd.R_lt q32_8)) (Kd.R_lt q32_9)) (below_size q32_7)); have n3_ := Aside0.mk (below_step q32_7 hb); clear HO425; clear HO429; clear HB; have HO425 := n0_; have HO429 := n1_; have HO433 := n2_; have HB := n3_; clear n0_ n1_ n2_ n3_; (try clear hb); (try clear hb2); (try clear hk); (try clear hi); (try clear ho0); obtain ⟨Ao35, co35, eo35⟩ := Kd.R_slice HO433.out; subst eo35) | ((with_reducible refine gate_callee (f := 22) rfl ?_); refine goesL_ (some 29) rfl rfl Try.func22 q32_10 rfl #[.slice Ao32 t427.length co32, .slice Ao35 t431.length co35] rfl q32_6 ?_; (with_reducible refine (laws_eqRuleS.calls k _ _ t427 _ _ t431 false _ ?side1 ?side2 ?side3 ?side4 A17.out).mono ?_); (case side1 => exact q32_3); (case side2 => exact (Kd.R_reads' HO429.out).2.1); (case side3 => exact q32_4); (case side4 => exact (Kd.R_reads' HO433.out).2.1); rintro e w36 ⟨rfl, hb⟩; refine ⟨_, rfl, ?_⟩; have n0_ := Aside0.mk (Kd.R_below q32_8 hb); have n1_ := Aside0.mk (Kd.R_below q32_9 hb); have n2_ := Aside0.mk (Kd.R_below (by (with_reducible repeat (first | apply Kd.R_alloc | apply Kd.R_drewN | apply Kd.R_drew)); exact HO433.out) hb); have n3_ := Aside0.mk (below_step q32_7 hb); clear HO425; clear HO429; clear HO433; clear HB; have HO425 := n0_; have HO429 := n1_; have HO433 := n2_; have HB := n3_; clear n0_ n1_ n2_ n3_; (try clear hb); (try clear hb2); (try clear hk); (try clear hi)))
    go_ret
    exact ⟨by first | rfl | (simp [errW_none, errW_some] <;> rfl) | (simp [*, errW_none, errW_some] <;> rfl), by repeat (first | (with_reducible first | exact HB.out | apply below_alloc | apply pw_below_drewN | apply below_drew1) | exact HB.out)⟩

end Go.Proofs.Ytjkbmdbecplgiaa.Pr
