/- Functions of the program as plain functions, each with the proof that its call answers so. Written by a program of this place (myprint.py over the kit's print). No condition beyond what each statement says. -/
import Derived.Test.YtjkbmdbecplgiaaPr0
import Derived.Test.YtjkbmdbecplgiaaPr1
import Derived.Test.YtjkbmdbecplgiaaPr2
import Derived.Test.YtjkbmdbecplgiaaPr3
import Derived.Test.YtjkbmdbecplgiaaPr13
import Derived.Test.YtjkbmdbecplgiaaPr21
namespace Go.Proofs.Ytjkbmdbecplgiaa.Pr
open Go.RowKit Go.Proofs.YtjkbmdbecplgiaaW.PrintWords Go.Proofs.YtjkbmdbecplgiaaW.PrintLast Go.Proofs.YtjkbmdbecplgiaaW.PrintMore
attribute [local go_sem] max2_int min2_int max_two min_two max_three min_three max_four min_four   -- for this text's walks alone
set_option linter.unusedVariables false
set_option linter.unusedSimpArgs false

/-! ### laws_FnExactMinimalRules: function 14 -/
theorem q33_1 {P : Prop} (h : P := by repeat (first | exact (Kd.C_below HR0.out (by repeat (first | (with_reducible first | exact HB.out | apply below_alloc | apply pw_below_drewN | apply below_drew1) | exact HB.out))) | (with_reducible refine Kd.C_alloc ?_ _) | (with_reducible refine Kd.C_drewN ?_ _) | (with_reducible refine Kd.C_drew ?_))) : P := h
theorem q33_2 {P : Prop} (h : P := by (try simp only [List.map_toArray, List.map_cons, List.map_nil]); first | done | (rw [show t561.length = t549.length from (Kd.R_reads' HO_6.out).1.symm] <;> rfl) | rfl | (simp only [List.length_drop, List.length_take]; rfl)) : P := h
theorem q33_3 {P : Prop} (h : P := by repeat (first | exact (Kd.C_below HR0.out HB.out) | (with_reducible refine Kd.C_alloc ?_ _) | (with_reducible refine Kd.C_drewN ?_ _) | (with_reducible refine Kd.C_drew ?_))) : P := h
theorem q33_4 {P : Prop} (h : P := by repeat (first | exact (Kd.R_reads' HO542.out).2.2 | (with_reducible refine Kd.C_alloc ?_ _) | (with_reducible refine Kd.C_drewN ?_ _) | (with_reducible refine Kd.C_drew ?_))) : P := h
theorem q33_5 {P : Prop} (h : P := by repeat (first | exact (Kd.R_reads' HO545.out).2.2 | (with_reducible refine Kd.C_alloc ?_ _) | (with_reducible refine Kd.C_drewN ?_ _) | (with_reducible refine Kd.C_drew ?_))) : P := h
theorem q33_6 {P : Prop} (h : P := by repeat (first | exact (Kd.R_reads' HO548.out).2.2 | (with_reducible refine Kd.C_alloc ?_ _) | (with_reducible refine Kd.C_drewN ?_ _) | (with_reducible refine Kd.C_drew ?_))) : P := h
theorem q33_7 {P : Prop} (h : P := by repeat (first | exact (Kd.R_reads' HO551.out).2.2 | (with_reducible refine Kd.C_alloc ?_ _) | (with_reducible refine Kd.C_drewN ?_ _) | (with_reducible refine Kd.C_drew ?_))) : P := h
theorem q33_8 {P : Prop} (h : P := by repeat (first | exact (Kd.R_reads' HO555.out).2.2 | (with_reducible refine Kd.C_alloc ?_ _) | (with_reducible refine Kd.C_drewN ?_ _) | (with_reducible refine Kd.C_drew ?_))) : P := h
theorem q33_9 {P : Prop} (h : P := by repeat (first | exact (Kd.R_reads' HO565.out).2.2 | (with_reducible refine Kd.C_alloc ?_ _) | (with_reducible refine Kd.C_drewN ?_ _) | (with_reducible refine Kd.C_drew ?_))) : P := h
theorem q33_10 {P : Prop} (h : P := by repeat (first | exact (Kd.R_reads' HO568.out).2.2 | (with_reducible refine Kd.C_alloc ?_ _) | (with_reducible refine Kd.C_drewN ?_ _) | (with_reducible refine Kd.C_drew ?_))) : P := h
theorem q33_11 {P : Prop} (h : P := by repeat (first | exact (Kd.R_reads' HO_4.out).2.2 | (with_reducible refine Kd.C_alloc ?_ _) | (with_reducible refine Kd.C_drewN ?_ _) | (with_reducible refine Kd.C_drew ?_))) : P := h
theorem q33_12 {P : Prop} (h : P := by repeat (first | exact (Kd.R_reads' HO_6.out).2.2 | (with_reducible refine Kd.C_alloc ?_ _) | (with_reducible refine Kd.C_drewN ?_ _) | (with_reducible refine Kd.C_drew ?_))) : P := h
theorem q33_13 {P : Prop} (h : P := by repeat (first | exact HR0.out | (with_reducible refine Kd.C_alloc ?_ _) | (with_reducible refine Kd.C_drewN ?_ _) | (with_reducible refine Kd.C_drew ?_))) : P := h
theorem q33_14 {P : Prop} (h : P := by (try simp only [List.map_toArray, List.map_cons, List.map_nil]); first | done | rfl | (simp only [List.length_drop, List.length_take]; rfl)) : P := h
theorem q33_15 {P : Prop} (h : P := by repeat (first | (with_reducible first | exact HB.out | apply below_alloc | apply pw_below_drewN | apply below_drew1) | exact HB.out)) : P := h
theorem q33_16 {P : Prop} (h : P := by (with_reducible repeat (first | apply Kd.R_alloc | apply Kd.R_drewN | apply Kd.R_drew)); exact HO542.out) : P := h
theorem q33_17 {P : Prop} (h : P := by (with_reducible repeat (first | apply Kd.R_alloc | apply Kd.R_drewN | apply Kd.R_drew)); exact HO545.out) : P := h
theorem q33_18 {P : Prop} (h : P := by (with_reducible repeat (first | apply Kd.R_alloc | apply Kd.R_drewN | apply Kd.R_drew)); exact HO548.out) : P := h
theorem q33_19 {P : Prop} (h : P := by (with_reducible repeat (first | apply Kd.R_alloc | apply Kd.R_drewN | apply Kd.R_drew)); exact HO551.out) : P := h
theorem q33_20 {P : Prop} (h : P := by (with_reducible repeat (first | apply Kd.R_alloc | apply Kd.R_drewN | apply Kd.R_drew)); exact HO555.out) : P := h
theorem q33_21 {P : Prop} (h : P := by (with_reducible repeat (first | apply Kd.R_alloc | apply Kd.R_drewN | apply Kd.R_drew)); exact HO565.out) : P := h
theorem q33_22 {P : Prop} (h : P := by (with_reducible repeat (first | apply Kd.R_alloc | apply Kd.R_drewN | apply Kd.R_drew)); exact HO568.out) : P := h
theorem q33_23 {P : Prop} (h : P := by (with_reducible repeat (first | apply Kd.R_alloc | apply Kd.R_drewN | apply Kd.R_drew)); exact HO_4.out) : P := h
theorem q33_24 {P : Prop} (h : P := by (with_reducible repeat (first | apply Kd.R_alloc | apply Kd.R_drewN | apply Kd.R_drew)); exact HO_6.out) : P := h
theorem q33_25 {P : Prop} (h : P := by rw [if_neg (show ¬ (false = true) by decide)] at H; exact H) : P := h
theorem q33_26 {P : Prop} (h : P := by kernel_rfl) : P := h
def laws_FnExactMinimalRules.j0 : Nat → List (S23) → List (S25) → List (S25) → Bool → Option (Bool)
 | 0, _, _, _, _ => none
 | k + 1, x0, x4, x6, x42 => if x42 = true then (some false) else ((laws_markRuleS.f k x6 1).bind fun bt560 => ((laws_heldRuleS.f k bt560.2 1).bind fun t562 => (if t562 < 0 then (some false) else (if t562 = bt560.1 then ((laws_toRuleS.f k x0).bind fun t563 => ((impl_MinimalRules.f k t563).bind fun t566 => ((laws_eqRuleS.f k t566 x4).bind fun t569 => (if t569 = true then ((laws_heldRuleS.f k bt560.2 1).bind fun t570 => (if t570 < 0 then (some false) else (if t570 = bt560.1 then (some true) else (some false)))) else (some false))))) else (some false)))))
def laws_FnExactMinimalRules.f (k : Nat) (l0 : List (S23)) : Option (Bool) := (laws_szRuleS.f l0 1048576).bind fun t539 => (if t539 < 0 then (some true) else ((laws_toRuleS.f k l0).bind fun t540 => ((spec_MinimalRules.f k t540).bind fun t543 => ((laws_toRuleS.f k l0).bind fun t546 => ((impl_MinimalRules.f k t546).bind fun t549 => ((laws_eqRuleS.f k t549 t543).bind fun t552 => (if t552 = true then ((laws_toRuleS.f k l0).bind fun t553 => ((laws_eqRuleS.f k t546 t553).bind fun t556 => (if t556 = true then ((laws_markRuleS.f k t546 1).bind fun bt557 => (if bt557.1 < 0 then (laws_FnExactMinimalRules.j0 k l0 t543 t549 true) else ((laws_eqRuleS.f k t549 t543).bind fun t559 => (laws_FnExactMinimalRules.j0 k l0 t543 t549 (!t559))))) else (some false)))) else (some false))))))))
theorem laws_FnExactMinimalRules.mono_l : ∀ k, (∀ y0 y1 y2 y3, LeO (laws_FnExactMinimalRules.j0 k y0 y1 y2 y3) (laws_FnExactMinimalRules.j0 (k + 1) y0 y1 y2 y3))
 | 0 => fun _ _ _ _ r h => by simp [laws_FnExactMinimalRules.j0] at h
 | k + 1 => by
  have ih0 := laws_FnExactMinimalRules.mono_l k
  ·
   intro y0 y1 y2 y3
   unfold laws_FnExactMinimalRules.j0
   repeat' first
   | (with_reducible exact ih0 _ _ _ _)
   | (with_reducible exact impl_MinimalRules.mono _ _)
   | (with_reducible exact laws_eqRuleS.mono _ _ _)
   | (with_reducible exact laws_heldRuleS.mono _ _ _)
   | (with_reducible exact laws_markRuleS.mono _ _ _)
   | (with_reducible exact laws_toRuleS.mono _ _)
   | (with_reducible exact spec_MinimalRules.mono _ _)
   | (with_reducible exact LeO.refl _)
   | (with_reducible exact LeO.none _)
   | (with_reducible refine LeO.ite ?_ ?_)
   | (with_reducible refine LeO.bind ?_ (fun _ => ?_))
   | exact ih0 _ _ _ _
   | exact impl_MinimalRules.mono _ _
   | exact laws_eqRuleS.mono _ _ _
   | exact laws_heldRuleS.mono _ _ _
   | exact laws_markRuleS.mono _ _ _
   | exact laws_toRuleS.mono _ _
   | exact spec_MinimalRules.mono _ _
   | exact LeO.none _
   | refine LeO.ite ?_ ?_
   | refine LeO.bind ?_ (fun _ => ?_)
theorem laws_FnExactMinimalRules.mono : ∀ a0 k, LeO (laws_FnExactMinimalRules.f k a0) (laws_FnExactMinimalRules.f (k + 1) a0) := by
 intro a0 k
 have ih0 := laws_FnExactMinimalRules.mono_l k
 unfold laws_FnExactMinimalRules.f
 repeat' first
   | (with_reducible exact ih0 _ _ _ _)
   | (with_reducible exact impl_MinimalRules.mono _ _)
   | (with_reducible exact laws_eqRuleS.mono _ _ _)
   | (with_reducible exact laws_heldRuleS.mono _ _ _)
   | (with_reducible exact laws_markRuleS.mono _ _ _)
   | (with_reducible exact laws_toRuleS.mono _ _)
   | (with_reducible exact spec_MinimalRules.mono _ _)
   | (with_reducible exact LeO.refl _)
   | (with_reducible exact LeO.none _)
   | (with_reducible refine LeO.ite ?_ ?_)
   | (with_reducible refine LeO.bind ?_ (fun _ => ?_))
   | exact ih0 _ _ _ _
   | exact impl_MinimalRules.mono _ _
   | exact laws_eqRuleS.mono _ _ _
   | exact laws_heldRuleS.mono _ _ _
   | exact laws_markRuleS.mono _ _ _
   | exact laws_toRuleS.mono _ _
   | exact spec_MinimalRules.mono _ _
   | exact LeO.none _
   | refine LeO.ite ?_ ?_
   | refine LeO.bind ?_ (fun _ => ?_)
set_option maxHeartbeats 8000000 in
set_option maxRecDepth 100000 in
theorem laws_FnExactMinimalRules.calls (k : Nat) (A0 : Option Addr) (c0 : Nat) (l0 : List (S23)) (r : Bool) (w : World) (hr0 : Kd.C k23 w A0 l0.length l0) (hc0 : l0.length ≤ c0) (h : laws_FnExactMinimalRules.f k l0 = some r) :
  Calls Try.prog 14 #[.slice A0 l0.length c0] w fun e w' => e = .returned (.bool r) ∧ Below w.heap.size w w' := by
 have HR0 := Aside0.mk hr0
 have HC0 := Aside0.mk hc0
 clear hr0 hc0
 have HB := Aside0.mk (Below.refl w.heap.size w)
 have H : ((laws_szRuleS.f l0 1048576).bind fun t539 => (if t539 < 0 then (some true) else ((laws_toRuleS.f k l0).bind fun t540 => ((spec_MinimalRules.f k t540).bind fun t543 => ((laws_toRuleS.f k l0).bind fun t546 => ((impl_MinimalRules.f k t546).bind fun t549 => ((laws_eqRuleS.f k t549 t543).bind fun t552 => (if t552 = true then ((laws_toRuleS.f k l0).bind fun t553 => ((laws_eqRuleS.f k t546 t553).bind fun t556 => (if t556 = true then ((laws_markRuleS.f k t546 1).bind fun bt557 => (if bt557.1 < 0 then (laws_FnExactMinimalRules.j0 k l0 t543 t549 true) else ((laws_eqRuleS.f k t549 t543).bind fun t559 => (laws_FnExactMinimalRules.j0 k l0 t543 t549 (!t559))))) else (some false)))) else (some false))))))))) = some r := h
 clear h
 replace H := Option.bind_eq_some_iff.mp H
 obtain ⟨t539, A20, H⟩ := H
 replace H : (if t539 < 0 then (some true) else ((laws_toRuleS.f k l0).bind fun t540 => ((spec_MinimalRules.f k t540).bind fun t543 => ((laws_toRuleS.f k l0).bind fun t546 => ((impl_MinimalRules.f k t546).bind fun t549 => ((laws_eqRuleS.f k t549 t543).bind fun t552 => (if t552 = true then ((laws_toRuleS.f k l0).bind fun t553 => ((laws_eqRuleS.f k t546 t553).bind fun t556 => (if t556 = true then ((laws_markRuleS.f k t546 1).bind fun bt557 => (if bt557.1 < 0 then (laws_FnExactMinimalRules.j0 k l0 t543 t549 true) else ((laws_eqRuleS.f k t549 t543).bind fun t559 => (laws_FnExactMinimalRules.j0 k l0 t543 t549 (!t559))))) else (some false)))) else (some false)))))))) = some r := H
 have A2 := Aside0.mk A20
 clear A20
 by_cases c3 : t539 < 0
 ·
  rw [if_pos c3] at H
  have c3b0 : decide (t539 < 0) = true := decide_eq_true c3
  clear c3
  obtain rfl := Option.some.inj H
  go_enter Try.func14, Try.ntmps14
  go_wp2_with (first | ((with_reducible refine gate_callee (f := 18) rfl ?_); refine goesL_ (some 13) rfl rfl Try.func18 q33_26 rfl #[.slice A0 l0.length c0, .int .i64 1048576] rfl q33_14 ?_; (with_reducible refine (laws_szRuleS.calls _ _ l0 1048576 t539 _ ?side1 ?side2 A2.out).mono ?_); (case side1 => exact q33_13); (case side2 => exact HC0.out); rintro e w' ⟨rfl, ⟨nd, rfl⟩⟩; refine ⟨_, rfl, ?_⟩))
  go_ret
  exact ⟨by first | rfl | (simp [errW_none, errW_some] <;> rfl) | (simp [*, errW_none, errW_some] <;> rfl), by repeat (first | (with_reducible first | exact HB.out | apply below_alloc | apply pw_below_drewN | apply below_drew1) | exact HB.out)⟩
 ·
  rw [if_neg c3] at H
  have c3b0 : decide (t539 < 0) = false := decide_eq_false c3
  clear c3
  replace H := Option.bind_eq_some_iff.mp H
  obtain ⟨t540, A40, H⟩ := H
  replace H : ((spec_MinimalRules.f k t540).bind fun t543 => ((laws_toRuleS.f k l0).bind fun t546 => ((impl_MinimalRules.f k t546).bind fun t549 => ((laws_eqRuleS.f k t549 t543).bind fun t552 => (if t552 = true then ((laws_toRuleS.f k l0).bind fun t553 => ((laws_eqRuleS.f k t546 t553).bind fun t556 => (if t556 = true then ((laws_markRuleS.f k t546 1).bind fun bt557 => (if bt557.1 < 0 then (laws_FnExactMinimalRules.j0 k l0 t543 t549 true) else ((laws_eqRuleS.f k t549 t543).bind fun t559 => (laws_FnExactMinimalRules.j0 k l0 t543 t549 (!t559))))) else (some false)))) else (some false)))))) = some r := H
  have A4 := Aside0.mk A40
  clear A40
  replace H := Option.bind_eq_some_iff.mp H
  obtain ⟨t543, A50, H⟩ := H
  replace H : ((laws_toRuleS.f k l0).bind fun t546 => ((impl_MinimalRules.f k t546).bind fun t549 => ((laws_eqRuleS.f k t549 t543).bind fun t552 => (if t552 = true then ((laws_toRuleS.f k l0).bind fun t553 => ((laws_eqRuleS.f k t546 t553).bind fun t556 => (if t556 = true then ((laws_markRuleS.f k t546 1).bind fun bt557 => (if bt557.1 < 0 then (laws_FnExactMinimalRules.j0 k l0 t543 t549 true) else ((laws_eqRuleS.f k t549 t543).bind fun t559 => (laws_FnExactMinimalRules.j0 k l0 t543 t549 (!t559))))) else (some false)))) else (some false))))) = some r := H
  have A5 := Aside0.mk A50
  clear A50
  replace H := Option.bind_eq_some_iff.mp H
  obtain ⟨t546, A60, H⟩ := H
  replace H : ((impl_MinimalRules.f k t546).bind fun t549 => ((laws_eqRuleS.f k t549 t543).bind fun t552 => (if t552 = true then ((laws_toRuleS.f k l0).bind fun t553 => ((laws_eqRuleS.f k t546 t553).bind fun t556 => (if t556 = true then ((laws_markRuleS.f k t546 1).bind fun bt557 => (if bt557.1 < 0 then (laws_FnExactMinimalRules.j0 k l0 t543 t549 true) else ((laws_eqRuleS.f k t549 t543).bind fun t559 => (laws_FnExactMinimalRules.j0 k l0 t543 t549 (!t559))))) else (some false)))) else (some false)))) = some r := H
  have A6 := Aside0.mk A60
  clear A60
  replace H := Option.bind_eq_some_iff.mp H
  obtain ⟨t549, A70, H⟩ := H
  replace H : ((laws_eqRuleS.f k t549 t543).bind fun t552 => (if t552 = true then ((laws_toRuleS.f k l0).bind fun t553 => ((laws_eqRuleS.f k t546 t553).bind fun t556 => (if t556 = true then ((laws_markRuleS.f k t546 1).bind fun bt557 => (if bt557.1 < 0 then (laws_FnExactMinimalRules.j0 k l0 t543 t549 true) else ((laws_eqRuleS.f k t549 t543).bind fun t559 => (laws_FnExactMinimalRules.j0 k l0 t543 t549 (!t559))))) else (some false)))) else (some false))) = some r := H
  have A7 := Aside0.mk A70
  clear A70
  replace H := Option.bind_eq_some_iff.mp H
  obtain ⟨t552, A80, H⟩ := H
  replace H : (if t552 = true then ((laws_toRuleS.f k l0).bind fun t553 => ((laws_eqRuleS.f k t546 t553).bind fun t556 => (if t556 = true then ((laws_markRuleS.f k t546 1).bind fun bt557 => (if bt557.1 < 0 then (laws_FnExactMinimalRules.j0 k l0 t543 t549 true) else ((laws_eqRuleS.f k t549 t543).bind fun t559 => (laws_FnExactMinimalRules.j0 k l0 t543 t549 (!t559))))) else (some false)))) else (some false)) = some r := H
  have A8 := Aside0.mk A80
  clear A80
  by_cases c9 : t552 = true
  ·
   subst c9
   have H1 : ((laws_toRuleS.f k l0).bind fun t553 => ((laws_eqRuleS.f k t546 t553).bind fun t556 => (if t556 = true then ((laws_markRuleS.f k t546 1).bind fun bt557 => (if bt557.1 < 0 then (laws_FnExactMinimalRules.j0 k l0 t543 t549 true) else ((laws_eqRuleS.f k t549 t543).bind fun t559 => (laws_FnExactMinimalRules.j0 k l0 t543 t549 (!t559))))) else (some false)))) = some r := by rw [if_pos rfl] at H; exact H
   clear H
   have H := H1
   clear H1
   replace H := Option.bind_eq_some_iff.mp H
   obtain ⟨t553, A100, H⟩ := H
   replace H : ((laws_eqRuleS.f k t546 t553).bind fun t556 => (if t556 = true then ((laws_markRuleS.f k t546 1).bind fun bt557 => (if bt557.1 < 0 then (laws_FnExactMinimalRules.j0 k l0 t543 t549 true) else ((laws_eqRuleS.f k t549 t543).bind fun t559 => (laws_FnExactMinimalRules.j0 k l0 t543 t549 (!t559))))) else (some false))) = some r := H
   have A10 := Aside0.mk A100
   clear A100
   replace H := Option.bind_eq_some_iff.mp H
   obtain ⟨t556, A110, H⟩ := H
   replace H : (if t556 = true then ((laws_markRuleS.f k t546 1).bind fun bt557 => (if bt557.1 < 0 then (laws_FnExactMinimalRules.j0 k l0 t543 t549 true) else ((laws_eqRuleS.f k t549 t543).bind fun t559 => (laws_FnExactMinimalRules.j0 k l0 t543 t549 (!t559))))) else (some false)) = some r := H
   have A11 := Aside0.mk A110
   clear A110
   by_cases c12 : t556 = true
   ·
    subst c12
    have H1 : ((laws_markRuleS.f k t546 1).bind fun bt557 => (if bt557.1 < 0 then (laws_FnExactMinimalRules.j0 k l0 t543 t549 true) else ((laws_eqRuleS.f k t549 t543).bind fun t559 => (laws_FnExactMinimalRules.j0 k l0 t543 t549 (!t559))))) = some r := by rw [if_pos rfl] at H; exact H
    clear H
    have H := H1
    clear H1
    replace H := Option.bind_eq_some_iff.mp H
    obtain ⟨⟨t557, t558⟩, A130, H⟩ := H
    replace H : (if t557 < 0 then (laws_FnExactMinimalRules.j0 k l0 t543 t549 true) else ((laws_eqRuleS.f k t549 t543).bind fun t559 => (laws_FnExactMinimalRules.j0 k l0 t543 t549 (!t559)))) = some r := H
    have A13 := Aside0.mk A130
    clear A130
    have HC14 := Aside0.mk H
    clear H
    go_enter Try.func14, Try.ntmps14
    go_upto_region 14 with (first | ((with_reducible refine gate_callee (f := 18) rfl ?_); refine goesL_ (some 13) rfl rfl Try.func18 q33_26 rfl #[.slice A0 l0.length c0, .int .i64 1048576] rfl q33_14 ?_; (with_reducible refine (laws_szRuleS.calls _ _ l0 1048576 t539 _ ?side1 ?side2 A2.out).mono ?_); (case side1 => exact q33_13); (case side2 => exact HC0.out); rintro e w' ⟨rfl, ⟨nd, rfl⟩⟩; refine ⟨_, rfl, ?_⟩) | ((with_reducible refine gate_callee (f := 20) rfl ?_); refine goesL_ (some 17) rfl rfl Try.func20 q33_26 rfl #[.slice A0 l0.length c0] rfl q33_14 ?_; (with_reducible refine (laws_toRuleS.calls k _ _ l0 t540 _ ?side1 ?side2 A4.out).mono ?_); (case side1 => exact q33_13); (case side2 => exact HC0.out); rintro e w15 ⟨v541, rfl, ho0, hb⟩; refine ⟨_, rfl, ?_⟩; have n0_ := Aside0.mk (Kd.R_lower ho0 (below_size q33_15)); have n1_ := Aside0.mk (below_step q33_15 hb); clear HB; have HO542 := n0_; have HB := n1_; clear n0_ n1_; (try clear hb); (try clear hb2); (try clear hk); (try clear hi); (try clear ho0); obtain ⟨Ao16, co16, eo16⟩ := Kd.R_slice HO542.out; subst eo16) | ((with_reducible refine gate_callee (f := 46) rfl ?_); refine goesL_ (some 18) rfl rfl Try.func46 q33_26 rfl #[.slice Ao16 t540.length co16] rfl q33_14 ?_; (with_reducible refine (spec_MinimalRules.calls k _ _ t540 t543 _ ?side1 ?side2 A5.out).mono ?_); (case side1 => exact q33_4); (case side2 => exact (Kd.R_reads' HO542.out).2.1); rintro e w17 ⟨v544, rfl, ho0, hb⟩; refine ⟨_, rfl, ?_⟩; have n0_ := Aside0.mk (Kd.R_elder' q33_16 (Kd.R_base ho0) hb); have n1_ := Aside0.mk (Kd.R_lower (Kd.R_new' ho0 (Kd.R_lt q33_16)) (below_size q33_15)); have n2_ := Aside0.mk (below_step q33_15 hb); clear HO542; clear HB; have HO542 := n0_; have HO545 := n1_; have HB := n2_; clear n0_ n1_ n2_; (try clear hb); (try clear hb2); (try clear hk); (try clear hi); (try clear ho0)) | ((with_reducible refine gate_callee (f := 20) rfl ?_); refine goesL_ (some 20) rfl rfl Try.func20 q33_26 rfl #[.slice A0 l0.length c0] rfl q33_14 ?_; (with_reducible refine (laws_toRuleS.calls k _ _ l0 t546 _ ?side1 ?side2 A6.out).mono ?_); (case side1 => exact q33_3); (case side2 => exact HC0.out); rintro e w18 ⟨v547, rfl, ho0, hb⟩; refine ⟨_, rfl, ?_⟩; have n0_ := Aside0.mk (Kd.R_elder' q33_16 (Kd.R_base ho0) hb); have n1_ := Aside0.mk (Kd.R_elder' q33_17 (Kd.R_base ho0) hb); have n2_ := Aside0.mk (Kd.R_lower (Kd.R_new' (Kd.R_new' ho0 (Kd.R_lt q33_16)) (Kd.R_lt q33_17)) (below_size q33_15)); have n3_ := Aside0.mk (below_step q33_15 hb); clear HO542; clear HO545; clear HB; have HO542 := n0_; have HO545 := n1_; have HO548 := n2_; have HB := n3_; clear n0_ n1_ n2_ n3_; (try clear hb); (try clear hb2); (try clear hk); (try clear hi); (try clear ho0); obtain ⟨Ao19, co19, eo19⟩ := Kd.R_slice HO548.out; subst eo19) | ((with_reducible refine gate_callee (f := 47) rfl ?_); refine goesL_ (some 22) rfl rfl Try.func47 q33_26 rfl #[.slice Ao19 t546.length co19] rfl q33_14 ?_; (with_reducible refine (impl_MinimalRules.calls k _ _ t546 t549 _ ?side1 ?side2 A7.out).mono ?_); (case side1 => exact q33_6); (case side2 => exact (Kd.R_reads' HO548.out).2.1); rintro e w20 ⟨v550, rfl, ho0, hb⟩; refine ⟨_, rfl, ?_⟩; have n0_ := Aside0.mk (Kd.R_elder' q33_16 (Kd.R_base ho0) hb); have n1_ := Aside0.mk (Kd.R_elder' q33_17 (Kd.R_base ho0) hb); have n2_ := Aside0.mk (Kd.R_elder' q33_18 (Kd.R_base ho0) hb); have n3_ := Aside0.mk (Kd.R_lower (Kd.R_new' (Kd.R_new' (Kd.R_new' ho0 (Kd.R_lt q33_16)) (Kd.R_lt q33_17)) (Kd.R_lt q33_18)) (below_size q33_15)); have n4_ := Aside0.mk (below_step q33_15 hb); clear HO542; clear HO545; clear HO548; clear HB; have HO542 := n0_; have HO545 := n1_; have HO548 := n2_; have HO551 := n3_; have HB := n4_; clear n0_ n1_ n2_ n3_ n4_; (try clear hb); (try clear hb2); (try clear hk); (try clear hi); (try clear ho0); obtain ⟨Ao21, co21, eo21⟩ := Kd.R_slice HO551.out; subst eo21; obtain ⟨Ao22, co22, eo22⟩ := Kd.R_slice HO545.out; subst eo22) | ((with_reducible refine gate_callee (f := 22) rfl ?_); refine goesL_ (some 25) rfl rfl Try.func22 q33_26 rfl #[.slice Ao21 t549.length co21, .slice Ao22 t543.length co22] rfl q33_14 ?_; (with_reducible refine (laws_eqRuleS.calls k _ _ t549 _ _ t543 true _ ?side1 ?side2 ?side3 ?side4 A8.out).mono ?_); (case side1 => exact q33_7); (case side2 => exact (Kd.R_reads' HO551.out).2.1); (case side3 => exact q33_5); (case side4 => exact (Kd.R_reads' HO545.out).2.1); rintro e w23 ⟨rfl, hb⟩; refine ⟨_, rfl, ?_⟩; have n0_ := Aside0.mk (Kd.R_below q33_16 hb); have n1_ := Aside0.mk (Kd.R_below q33_17 hb); have n2_ := Aside0.mk (Kd.R_below q33_18 hb); have n3_ := Aside0.mk (Kd.R_below q33_19 hb); have n4_ := Aside0.mk (below_step q33_15 hb); clear HO542; clear HO545; clear HO548; clear HO551; clear HB; have HO542 := n0_; have HO545 := n1_; have HO548 := n2_; have HO551 := n3_; have HB := n4_; clear n0_ n1_ n2_ n3_ n4_; (try clear hb); (try clear hb2); (try clear hk); (try clear hi)) | ((with_reducible refine gate_callee (f := 20) rfl ?_); refine goesL_ (some 29) rfl rfl Try.func20 q33_26 rfl #[.slice A0 l0.length c0] rfl q33_14 ?_; (with_reducible refine (laws_toRuleS.calls k _ _ l0 t553 _ ?side1 ?side2 A10.out).mono ?_); (case side1 => exact q33_3); (case side2 => exact HC0.out); rintro e w24 ⟨v554, rfl, ho0, hb⟩; refine ⟨_, rfl, ?_⟩; have n0_ := Aside0.mk (Kd.R_elder' q33_16 (Kd.R_base ho0) hb); have n1_ := Aside0.mk (Kd.R_elder' q33_17 (Kd.R_base ho0) hb); have n2_ := Aside0.mk (Kd.R_elder' q33_18 (Kd.R_base ho0) hb); have n3_ := Aside0.mk (Kd.R_elder' q33_19 (Kd.R_base ho0) hb); have n4_ := Aside0.mk (Kd.R_lower (Kd.R_new' (Kd.R_new' (Kd.R_new' (Kd.R_new' ho0 (Kd.R_lt q33_16)) (Kd.R_lt q33_17)) (Kd.R_lt q33_18)) (Kd.R_lt q33_19)) (below_size q33_15)); have n5_ := Aside0.mk (below_step q33_15 hb); clear HO542; clear HO545; clear HO548; clear HO551; clear HB; have HO542 := n0_; have HO545 := n1_; have HO548 := n2_; have HO551 := n3_; have HO555 := n4_; have HB := n5_; clear n0_ n1_ n2_ n3_ n4_ n5_; (try clear hb); (try clear hb2); (try clear hk); (try clear hi); (try clear ho0); obtain ⟨Ao25, co25, eo25⟩ := Kd.R_slice HO555.out; subst eo25) | ((with_reducible refine gate_callee (f := 22) rfl ?_); refine goesL_ (some 30) rfl rfl Try.func22 q33_26 rfl #[.slice Ao19 t546.length co19, .slice Ao25 t553.length co25] rfl q33_14 ?_; (with_reducible refine (laws_eqRuleS.calls k _ _ t546 _ _ t553 true _ ?side1 ?side2 ?side3 ?side4 A11.out).mono ?_); (case side1 => exact q33_6); (case side2 => exact (Kd.R_reads' HO548.out).2.1); (case side3 => exact q33_8); (case side4 => exact (Kd.R_reads' HO555.out).2.1); rintro e w26 ⟨rfl, hb⟩; refine ⟨_, rfl, ?_⟩; have n0_ := Aside0.mk (Kd.R_below q33_16 hb); have n1_ := Aside0.mk (Kd.R_below q33_17 hb); have n2_ := Aside0.mk (Kd.R_below q33_18 hb); have n3_ := Aside0.mk (Kd.R_below q33_19 hb); have n4_ := Aside0.mk (Kd.R_below q33_20 hb); have n5_ := Aside0.mk (below_step q33_15 hb); clear HO542; clear HO545; clear HO548; clear HO551; clear HO555; clear HB; have HO542 := n0_; have HO545 := n1_; have HO548 := n2_; have HO551 := n3_; have HO555 := n4_; have HB := n5_; clear n0_ n1_ n2_ n3_ n4_ n5_; (try clear hb); (try clear hb2); (try clear hk); (try clear hi)) | ((with_reducible refine gate_callee (f := 44) rfl ?_); refine goesL_ (some 34) rfl rfl Try.func44 q33_26 rfl #[.slice Ao19 t546.length co19, .int .i64 1] rfl q33_14 ?_; (with_reducible refine (laws_markRuleS.calls k (fun k_ => some k_ = (.slice Ao19 t546.length co19 : Value).ownBlock) (.slice Ao19 t546.length co19) t546 1 t557 t558 w _ ?side1 ?side2 A13.out).mono ?_); (case side1 => exact q33_15); (case side2 => exact Kd.R_tight rfl HO548.out); rintro e w27 ⟨rfl, hy0, hb, hkp⟩; refine ⟨_, rfl, ?_⟩; have n0_ := Aside0.mk (Kd.R_mono (ok' := fun k_ => some k_ ≠ (.slice Ao22 t543.length co22 : Value).ownBlock ∧ some k_ ≠ (.slice Ao19 t546.length co19 : Value).ownBlock ∧ some k_ ≠ (.slice Ao21 t549.length co21 : Value).ownBlock ∧ some k_ ≠ (.slice Ao25 t553.length co25 : Value).ownBlock) (Kd.R_keptB (HO542.out) hkp (fun k_ hk_ hs_ => (hk_.1.1.2) hs_)) (fun k_ hk_ => ⟨hk_.1.1.1.1.2, hk_.1.1.1.2, hk_.1.1.2, hk_.1.2⟩)); have n1_ := Aside0.mk (Kd.R_mono (ok' := fun k_ => some k_ ≠ (.slice Ao16 t540.length co16 : Value).ownBlock ∧ some k_ ≠ (.slice Ao19 t546.length co19 : Value).ownBlock ∧ some k_ ≠ (.slice Ao21 t549.length co21 : Value).ownBlock ∧ some k_ ≠ (.slice Ao25 t553.length co25 : Value).ownBlock) (Kd.R_keptB (HO545.out) hkp (fun k_ hk_ hs_ => (hk_.1.1.2) hs_)) (fun k_ hk_ => ⟨hk_.1.1.1.1.2, hk_.1.1.1.2, hk_.1.1.2, hk_.1.2⟩)); have n2_ := Aside0.mk (Kd.R_reok rfl hy0 (fun k_ e_ => HO548.out.1 k_ e_)); have n3_ := Aside0.mk (Kd.R_mono (ok' := fun k_ => some k_ ≠ (.slice Ao16 t540.length co16 : Value).ownBlock ∧ some k_ ≠ (.slice Ao22 t543.length co22 : Value).ownBlock ∧ some k_ ≠ (.slice Ao19 t546.length co19 : Value).ownBlock ∧ some k_ ≠ (.slice Ao25 t553.length co25 : Value).ownBlock) (Kd.R_keptB (HO551.out) hkp (fun k_ hk_ hs_ => (hk_.1.2) hs_)) (fun k_ hk_ => ⟨hk_.1.1.1.1.2, hk_.1.1.1.2, hk_.1.1.2, hk_.1.2⟩)); have n4_ := Aside0.mk (Kd.R_mono (ok' := fun k_ => some k_ ≠ (.slice Ao16 t540.length co16 : Value).ownBlock ∧ some k_ ≠ (.slice Ao22 t543.length co22 : Value).ownBlock ∧ some k_ ≠ (.slice Ao19 t546.length co19 : Value).ownBlock ∧ some k_ ≠ (.slice Ao21 t549.length co21 : Value).ownBlock) (Kd.R_keptB (HO555.out) hkp (fun k_ hk_ hs_ => (hk_.1.2) hs_)) (fun k_ hk_ => ⟨hk_.1.1.1.1.2, hk_.1.1.1.2, hk_.1.1.2, hk_.1.2⟩)); have n5_ := Aside0.mk (hb); clear HO542; clear HO545; clear HO548; clear HO551; clear HO555; clear HB; have HO542 := n0_; have HO545 := n1_; have HO548 := n2_; have HO551 := n3_; have HO555 := n4_; have HB := n5_; clear n0_ n1_ n2_ n3_ n4_ n5_; (try clear hb); (try clear hkp); (try clear hy0)))
    (try simp only [Act.put, List.setIfInBounds_toArray, List.set_cons_zero, List.set_cons_succ])
    go_cut [42] (fun v42 wc => ∃ (kq : Nat) (x42_13 : Bool), v42 = .bool x42_13 ∧ Aside0 (laws_FnExactMinimalRules.j0 kq l0 t543 t549 x42_13 = some r) ∧ Aside0 (kq ≤ k) ∧ Aside0 (Kd.R k25 25 wc w.heap.size (fun k_ => some k_ ≠ ((.slice Ao21 t549.length co21) : Value).ownBlock) (.slice Ao22 t543.length co22) t543) ∧ Aside0 (Kd.R k25 25 wc w.heap.size (fun k_ => some k_ ≠ ((.slice Ao22 t543.length co22) : Value).ownBlock) (.slice Ao21 t549.length co21) t549) ∧ Aside0 (Below w.heap.size w wc))
    case first =>
     have H := HC14.out
     clear HC14
     by_cases c28 : t557 < 0
     ·
      rw [if_pos c28] at H
      have c28b0 : decide (t557 < 0) = true := decide_eq_true c28
      clear c28
      (first | rw [c28b0] | (simp only [i64_w, i32_w]; rw [c28b0]) | skip)
      have H' := Aside0.mk H
      clear H
      go_wp2
      go_meet
      case rel => exact ⟨_, (true), (by first | rfl | (simp; done) | (simp [*]; done)), H', ⟨by first | omega | exact Nat.le_refl _⟩, ⟨by (with_reducible repeat (first | apply Kd.R_alloc | apply Kd.R_drewN | apply Kd.R_drew)); exact Kd.R_mono HO545.out (fun _ hk => hk.2.2.1)⟩, ⟨by (with_reducible repeat (first | apply Kd.R_alloc | apply Kd.R_drewN | apply Kd.R_drew)); exact Kd.R_mono HO551.out (fun _ hk => hk.2.1)⟩, ⟨by repeat (first | (with_reducible first | exact HB.out | apply below_alloc | apply pw_below_drewN | apply below_drew1) | exact HB.out)⟩⟩
     ·
      rw [if_neg c28] at H
      have c28b0 : decide (t557 < 0) = false := decide_eq_false c28
      clear c28
      (first | rw [c28b0] | (simp only [i64_w, i32_w]; rw [c28b0]) | skip)
      replace H := Option.bind_eq_some_iff.mp H
      obtain ⟨t559, A290, H⟩ := H
      replace H : (laws_FnExactMinimalRules.j0 k l0 t543 t549 (!t559)) = some r := H
      have A29 := Aside0.mk A290
      clear A290
      have H' := Aside0.mk H
      clear H
      go_wp2_with (first | (go_at_call 22; (with_reducible refine (laws_eqRuleS.calls k _ _ t549 _ _ t543 t559 _ ?side1 ?side2 ?side3 ?side4 A29.out).mono ?_); (case side1 => exact q33_7); (case side2 => exact (Kd.R_reads' HO551.out).2.1); (case side3 => exact q33_5); (case side4 => exact (Kd.R_reads' HO545.out).2.1); rintro e w30 ⟨rfl, hb⟩; have n0_ := Aside0.mk (Kd.R_below q33_16 hb); have n1_ := Aside0.mk (Kd.R_below q33_17 hb); have n2_ := Aside0.mk (Kd.R_below q33_18 hb); have n3_ := Aside0.mk (Kd.R_below q33_19 hb); have n4_ := Aside0.mk (Kd.R_below q33_20 hb); have n5_ := Aside0.mk (below_step q33_15 hb); clear HO542; clear HO545; clear HO548; clear HO551; clear HO555; clear HB; have HO542 := n0_; have HO545 := n1_; have HO548 := n2_; have HO551 := n3_; have HO555 := n4_; have HB := n5_; clear n0_ n1_ n2_ n3_ n4_ n5_; (try clear hb); (try clear hb2); (try clear hk); (try clear hi)))
      go_meet
      case rel => exact ⟨_, (!t559), (by first | rfl | (simp; done) | (simp [*]; done)), H', ⟨by first | omega | exact Nat.le_refl _⟩, ⟨by (with_reducible repeat (first | apply Kd.R_alloc | apply Kd.R_drewN | apply Kd.R_drew)); exact Kd.R_mono HO545.out (fun _ hk => hk.2.2.1)⟩, ⟨by (with_reducible repeat (first | apply Kd.R_alloc | apply Kd.R_drewN | apply Kd.R_drew)); exact Kd.R_mono HO551.out (fun _ hk => hk.2.1)⟩, ⟨by repeat (first | (with_reducible first | exact HB.out | apply below_alloc | apply pw_below_drewN | apply below_drew1) | exact HB.out)⟩⟩
    case rest =>
     clear HC14
     try clear c1
     try clear c2
     try clear p2
     try clear c3
     try clear c3b0
     try clear c4
     try clear c9
     try clear c12
     try clear c14
     try clear c18
     try clear c20
     try clear c22
     try clear c28
     try clear c28b0
     obtain ⟨kq, x42_13, rfl, HA, HJ13, HO_4, HO_6, HB⟩ := hcut
     cases kq with
     | zero => exact absurd HA.out (by simp [laws_FnExactMinimalRules.j0])
     | succ kj13 =>
      have H := HA.out
      clear HA
      simp only [laws_FnExactMinimalRules.j0] at H
      by_cases c31 : x42_13 = true
      ·
       subst c31
       have H1 : (some false) = some r := by rw [if_pos rfl] at H; exact H
       clear H
       have H := H1
       clear H1
       obtain rfl := Option.some.inj H
       go_wp2
       go_ret
       exact ⟨by first | rfl | (simp [errW_none, errW_some] <;> rfl) | (simp [*, errW_none, errW_some] <;> rfl), by repeat (first | (with_reducible first | exact HB.out | apply below_alloc | apply pw_below_drewN | apply below_drew1) | exact HB.out)⟩
      ·
       replace c31 := Bool.eq_false_iff.mpr c31
       subst c31
       have H1 : ((laws_markRuleS.f kj13 t549 1).bind fun bt560 => ((laws_heldRuleS.f kj13 bt560.2 1).bind fun t562 => (if t562 < 0 then (some false) else (if t562 = bt560.1 then ((laws_toRuleS.f kj13 l0).bind fun t563 => ((impl_MinimalRules.f kj13 t563).bind fun t566 => ((laws_eqRuleS.f kj13 t566 t543).bind fun t569 => (if t569 = true then ((laws_heldRuleS.f kj13 bt560.2 1).bind fun t570 => (if t570 < 0 then (some false) else (if t570 = bt560.1 then (some true) else (some false)))) else (some false))))) else (some false))))) = some r := q33_25
       clear H
       have H := H1
       clear H1
       replace H := Option.bind_eq_some_iff.mp H
       obtain ⟨⟨t560, t561⟩, A320, H⟩ := H
       replace H : ((laws_heldRuleS.f kj13 t561 1).bind fun t562 => (if t562 < 0 then (some false) else (if t562 = t560 then ((laws_toRuleS.f kj13 l0).bind fun t563 => ((impl_MinimalRules.f kj13 t563).bind fun t566 => ((laws_eqRuleS.f kj13 t566 t543).bind fun t569 => (if t569 = true then ((laws_heldRuleS.f kj13 t561 1).bind fun t570 => (if t570 < 0 then (some false) else (if t570 = t560 then (some true) else (some false)))) else (some false))))) else (some false)))) = some r := H
       have A32 := Aside0.mk A320
       clear A320
       replace H := Option.bind_eq_some_iff.mp H
       obtain ⟨t562, A330, H⟩ := H
       replace H : (if t562 < 0 then (some false) else (if t562 = t560 then ((laws_toRuleS.f kj13 l0).bind fun t563 => ((impl_MinimalRules.f kj13 t563).bind fun t566 => ((laws_eqRuleS.f kj13 t566 t543).bind fun t569 => (if t569 = true then ((laws_heldRuleS.f kj13 t561 1).bind fun t570 => (if t570 < 0 then (some false) else (if t570 = t560 then (some true) else (some false)))) else (some false))))) else (some false))) = some r := H
       have A33 := Aside0.mk A330
       clear A330
       by_cases c34 : t562 < 0
       ·
        rw [if_pos c34] at H
        have c34b0 : decide (t562 < 0) = true := decide_eq_true c34
        clear c34
        obtain rfl := Option.some.inj H
        go_wp2_with (first | ((with_reducible refine gate_callee (f := 44) rfl ?_); refine goesL_ (some 45) rfl rfl Try.func44 q33_26 rfl #[.slice Ao21 t549.length co21, .int .i64 1] rfl q33_14 ?_; (with_reducible refine (laws_markRuleS.calls kj13 (fun k_ => some k_ = (.slice Ao21 t549.length co21 : Value).ownBlock) (.slice Ao21 t549.length co21) t549 1 t560 t561 w _ ?side1 ?side2 A32.out).mono ?_); (case side1 => exact q33_15); (case side2 => exact Kd.R_tight rfl HO_6.out); rintro e w35 ⟨rfl, hy0, hb, hkp⟩; refine ⟨_, rfl, ?_⟩; have n0_ := Aside0.mk (Kd.R_mono (ok' := fun k_ => some k_ ≠ (.slice Ao21 t549.length co21 : Value).ownBlock) (Kd.R_keptB (HO_4.out) hkp (fun k_ hk_ hs_ => (hk_) hs_)) (fun k_ hk_ => hk_.1)); have n1_ := Aside0.mk (Kd.R_reok rfl hy0 (fun k_ e_ => HO_6.out.1 k_ e_)); have n2_ := Aside0.mk (hb); clear HO_4; clear HO_6; clear HB; have HO_4 := n0_; have HO_6 := n1_; have HB := n2_; clear n0_ n1_ n2_; (try clear hb); (try clear hkp); (try clear hy0)) | ((with_reducible refine gate_callee (f := 45) rfl ?_); refine goesL_ (some 48) rfl rfl Try.func45 q33_26 rfl #[.slice Ao21 t561.length co21, .int .i64 1] rfl q33_2 ?_; (with_reducible refine (laws_heldRuleS.calls kj13 _ _ t561 1 t562 _ ?side1 ?side2 A33.out).mono ?_); (case side1 => exact q33_12); (case side2 => rw [show t561.length = t549.length from (Kd.R_reads' HO_6.out).1.symm]; exact (Kd.R_reads' HO_6.out).2.1); rintro e w' ⟨rfl, ⟨nd, rfl⟩⟩; refine ⟨_, rfl, ?_⟩))
        go_ret
        exact ⟨by first | rfl | (simp [errW_none, errW_some] <;> rfl) | (simp [*, errW_none, errW_some] <;> rfl), by repeat (first | (with_reducible first | exact HB.out | apply below_alloc | apply pw_below_drewN | apply below_drew1) | exact HB.out)⟩
       ·
        rw [if_neg c34] at H
        have c34b0 : decide (t562 < 0) = false := decide_eq_false c34
        clear c34
        by_cases c36 : t562 = t560
        ·
         rw [if_pos c36] at H
         have c36b0 : (t562 == t560) = true := beq_iff_eq.mpr c36
         have c36b1 : (t562 != t560) = false := bne_eq_false_iff_eq.mpr c36
         clear c36
         replace H := Option.bind_eq_some_iff.mp H
         obtain ⟨t563, A370, H⟩ := H
         replace H : ((impl_MinimalRules.f kj13 t563).bind fun t566 => ((laws_eqRuleS.f kj13 t566 t543).bind fun t569 => (if t569 = true then ((laws_heldRuleS.f kj13 t561 1).bind fun t570 => (if t570 < 0 then (some false) else (if t570 = t560 then (some true) else (some false)))) else (some false)))) = some r := H
         have A37 := Aside0.mk A370
         clear A370
         replace H := Option.bind_eq_some_iff.mp H
         obtain ⟨t566, A380, H⟩ := H
         replace H : ((laws_eqRuleS.f kj13 t566 t543).bind fun t569 => (if t569 = true then ((laws_heldRuleS.f kj13 t561 1).bind fun t570 => (if t570 < 0 then (some false) else (if t570 = t560 then (some true) else (some false)))) else (some false))) = some r := H
         have A38 := Aside0.mk A380
         clear A380
         replace H := Option.bind_eq_some_iff.mp H
         obtain ⟨t569, A390, H⟩ := H
         replace H : (if t569 = true then ((laws_heldRuleS.f kj13 t561 1).bind fun t570 => (if t570 < 0 then (some false) else (if t570 = t560 then (some true) else (some false)))) else (some false)) = some r := H
         have A39 := Aside0.mk A390
         clear A390
         by_cases c40 : t569 = true
         ·
          subst c40
          have H1 : ((laws_heldRuleS.f kj13 t561 1).bind fun t570 => (if t570 < 0 then (some false) else (if t570 = t560 then (some true) else (some false)))) = some r := by rw [if_pos rfl] at H; exact H
          clear H
          have H := H1
          clear H1
          replace H := Option.bind_eq_some_iff.mp H
          obtain ⟨t570, A410, H⟩ := H
          replace H : (if t570 < 0 then (some false) else (if t570 = t560 then (some true) else (some false))) = some r := H
          have A41 := Aside0.mk A410
          clear A410
          by_cases c42 : t570 < 0
          ·
           rw [if_pos c42] at H
           have c42b0 : decide (t570 < 0) = true := decide_eq_true c42
           clear c42
           obtain rfl := Option.some.inj H
           go_wp2_with (first | ((with_reducible refine gate_callee (f := 44) rfl ?_); refine goesL_ (some 45) rfl rfl Try.func44 q33_26 rfl #[.slice Ao21 t549.length co21, .int .i64 1] rfl q33_14 ?_; (with_reducible refine (laws_markRuleS.calls kj13 (fun k_ => some k_ = (.slice Ao21 t549.length co21 : Value).ownBlock) (.slice Ao21 t549.length co21) t549 1 t560 t561 w _ ?side1 ?side2 A32.out).mono ?_); (case side1 => exact q33_15); (case side2 => exact Kd.R_tight rfl HO_6.out); rintro e w43 ⟨rfl, hy0, hb, hkp⟩; refine ⟨_, rfl, ?_⟩; have n0_ := Aside0.mk (Kd.R_mono (ok' := fun k_ => some k_ ≠ (.slice Ao21 t549.length co21 : Value).ownBlock) (Kd.R_keptB (HO_4.out) hkp (fun k_ hk_ hs_ => (hk_) hs_)) (fun k_ hk_ => hk_.1)); have n1_ := Aside0.mk (Kd.R_reok rfl hy0 (fun k_ e_ => HO_6.out.1 k_ e_)); have n2_ := Aside0.mk (hb); clear HO_4; clear HO_6; clear HB; have HO_4 := n0_; have HO_6 := n1_; have HB := n2_; clear n0_ n1_ n2_; (try clear hb); (try clear hkp); (try clear hy0)) | ((with_reducible refine gate_callee (f := 45) rfl ?_); refine goesL_ (some 48) rfl rfl Try.func45 q33_26 rfl #[.slice Ao21 t561.length co21, .int .i64 1] rfl q33_2 ?_; (with_reducible refine (laws_heldRuleS.calls kj13 _ _ t561 1 t562 _ ?side1 ?side2 A33.out).mono ?_); (case side1 => exact q33_12); (case side2 => rw [show t561.length = t549.length from (Kd.R_reads' HO_6.out).1.symm]; exact (Kd.R_reads' HO_6.out).2.1); rintro e w' ⟨rfl, ⟨nd, rfl⟩⟩; refine ⟨_, rfl, ?_⟩) | ((with_reducible refine gate_callee (f := 20) rfl ?_); refine goesL_ (some 55) rfl rfl Try.func20 q33_26 rfl #[.slice A0 l0.length c0] rfl q33_14 ?_; (with_reducible refine (laws_toRuleS.calls kj13 _ _ l0 t563 _ ?side1 ?side2 A37.out).mono ?_); (case side1 => exact q33_1); (case side2 => exact HC0.out); rintro e w44 ⟨v564, rfl, ho0, hb⟩; refine ⟨_, rfl, ?_⟩; have n0_ := Aside0.mk (Kd.R_elder' q33_23 (Kd.R_base ho0) hb); have n1_ := Aside0.mk (Kd.R_elder' q33_24 (Kd.R_base ho0) hb); have n2_ := Aside0.mk (Kd.R_lower (Kd.R_new' (Kd.R_new' ho0 (Kd.R_lt q33_23)) (Kd.R_lt q33_24)) (below_size q33_15)); have n3_ := Aside0.mk (below_step q33_15 hb); clear HO_4; clear HO_6; clear HB; have HO_4 := n0_; have HO_6 := n1_; have HO565 := n2_; have HB := n3_; clear n0_ n1_ n2_ n3_; (try clear hb); (try clear hb2); (try clear hk); (try clear hi); (try clear ho0); obtain ⟨Ao45, co45, eo45⟩ := Kd.R_slice HO565.out; subst eo45) | ((with_reducible refine gate_callee (f := 47) rfl ?_); refine goesL_ (some 56) rfl rfl Try.func47 q33_26 rfl #[.slice Ao45 t563.length co45] rfl q33_14 ?_; (with_reducible refine (impl_MinimalRules.calls kj13 _ _ t563 t566 _ ?side1 ?side2 A38.out).mono ?_); (case side1 => exact q33_9); (case side2 => exact (Kd.R_reads' HO565.out).2.1); rintro e w46 ⟨v567, rfl, ho0, hb⟩; refine ⟨_, rfl, ?_⟩; have n0_ := Aside0.mk (Kd.R_elder' q33_23 (Kd.R_base ho0) hb); have n1_ := Aside0.mk (Kd.R_elder' q33_24 (Kd.R_base ho0) hb); have n2_ := Aside0.mk (Kd.R_elder' q33_21 (Kd.R_base ho0) hb); have n3_ := Aside0.mk (Kd.R_lower (Kd.R_new' (Kd.R_new' (Kd.R_new' ho0 (Kd.R_lt q33_23)) (Kd.R_lt q33_24)) (Kd.R_lt q33_21)) (below_size q33_15)); have n4_ := Aside0.mk (below_step q33_15 hb); clear HO_4; clear HO_6; clear HO565; clear HB; have HO_4 := n0_; have HO_6 := n1_; have HO565 := n2_; have HO568 := n3_; have HB := n4_; clear n0_ n1_ n2_ n3_ n4_; (try clear hb); (try clear hb2); (try clear hk); (try clear hi); (try clear ho0); obtain ⟨Ao47, co47, eo47⟩ := Kd.R_slice HO568.out; subst eo47) | ((with_reducible refine gate_callee (f := 22) rfl ?_); refine goesL_ (some 59) rfl rfl Try.func22 q33_26 rfl #[.slice Ao47 t566.length co47, .slice Ao22 t543.length co22] rfl q33_14 ?_; (with_reducible refine (laws_eqRuleS.calls kj13 _ _ t566 _ _ t543 true _ ?side1 ?side2 ?side3 ?side4 A39.out).mono ?_); (case side1 => exact q33_10); (case side2 => exact (Kd.R_reads' HO568.out).2.1); (case side3 => exact q33_11); (case side4 => exact (Kd.R_reads' HO_4.out).2.1); rintro e w48 ⟨rfl, hb⟩; refine ⟨_, rfl, ?_⟩; have n0_ := Aside0.mk (Kd.R_below q33_23 hb); have n1_ := Aside0.mk (Kd.R_below q33_24 hb); have n2_ := Aside0.mk (Kd.R_below q33_21 hb); have n3_ := Aside0.mk (Kd.R_below q33_22 hb); have n4_ := Aside0.mk (below_step q33_15 hb); clear HO_4; clear HO_6; clear HO565; clear HO568; clear HB; have HO_4 := n0_; have HO_6 := n1_; have HO565 := n2_; have HO568 := n3_; have HB := n4_; clear n0_ n1_ n2_ n3_ n4_; (try clear hb); (try clear hb2); (try clear hk); (try clear hi)) | ((with_reducible refine gate_callee (f := 45) rfl ?_); refine goesL_ (some 63) rfl rfl Try.func45 q33_26 rfl #[.slice Ao21 t561.length co21, .int .i64 1] rfl q33_2 ?_; (with_reducible refine (laws_heldRuleS.calls kj13 _ _ t561 1 t570 _ ?side1 ?side2 A41.out).mono ?_); (case side1 => exact q33_12); (case side2 => rw [show t561.length = t549.length from (Kd.R_reads' HO_6.out).1.symm]; exact (Kd.R_reads' HO_6.out).2.1); rintro e w' ⟨rfl, ⟨nd, rfl⟩⟩; refine ⟨_, rfl, ?_⟩))
           go_ret
           exact ⟨by first | rfl | (simp [errW_none, errW_some] <;> rfl) | (simp [*, errW_none, errW_some] <;> rfl), by repeat (first | (with_reducible first | exact HB.out | apply below_alloc | apply pw_below_drewN | apply below_drew1) | exact HB.out)⟩
          ·
           rw [if_neg c42] at H
           have c42b0 : decide (t570 < 0) = false := decide_eq_false c42
           clear c42
           by_cases c49 : t570 = t560
           ·
            rw [if_pos c49] at H
            have c49b0 : (t570 == t560) = true := beq_iff_eq.mpr c49
            have c49b1 : (t570 != t560) = false := bne_eq_false_iff_eq.mpr c49
            clear c49
            obtain rfl := Option.some.inj H
            go_wp2_with (first | ((with_reducible refine gate_callee (f := 44) rfl ?_); refine goesL_ (some 45) rfl rfl Try.func44 q33_26 rfl #[.slice Ao21 t549.length co21, .int .i64 1] rfl q33_14 ?_; (with_reducible refine (laws_markRuleS.calls kj13 (fun k_ => some k_ = (.slice Ao21 t549.length co21 : Value).ownBlock) (.slice Ao21 t549.length co21) t549 1 t560 t561 w _ ?side1 ?side2 A32.out).mono ?_); (case side1 => exact q33_15); (case side2 => exact Kd.R_tight rfl HO_6.out); rintro e w50 ⟨rfl, hy0, hb, hkp⟩; refine ⟨_, rfl, ?_⟩; have n0_ := Aside0.mk (Kd.R_mono (ok' := fun k_ => some k_ ≠ (.slice Ao21 t549.length co21 : Value).ownBlock) (Kd.R_keptB (HO_4.out) hkp (fun k_ hk_ hs_ => (hk_) hs_)) (fun k_ hk_ => hk_.1)); have n1_ := Aside0.mk (Kd.R_reok rfl hy0 (fun k_ e_ => HO_6.out.1 k_ e_)); have n2_ := Aside0.mk (hb); clear HO_4; clear HO_6; clear HB; have HO_4 := n0_; have HO_6 := n1_; have HB := n2_; clear n0_ n1_ n2_; (try clear hb); (try clear hkp); (try clear hy0)) | ((with_reducible refine gate_callee (f := 45) rfl ?_); refine goesL_ (some 48) rfl rfl Try.func45 q33_26 rfl #[.slice Ao21 t561.length co21, .int .i64 1] rfl q33_2 ?_; (with_reducible refine (laws_heldRuleS.calls kj13 _ _ t561 1 t562 _ ?side1 ?side2 A33.out).mono ?_); (case side1 => exact q33_12); (case side2 => rw [show t561.length = t549.length from (Kd.R_reads' HO_6.out).1.symm]; exact (Kd.R_reads' HO_6.out).2.1); rintro e w' ⟨rfl, ⟨nd, rfl⟩⟩; refine ⟨_, rfl, ?_⟩) | ((with_reducible refine gate_callee (f := 20) rfl ?_); refine goesL_ (some 55) rfl rfl Try.func20 q33_26 rfl #[.slice A0 l0.length c0] rfl q33_14 ?_; (with_reducible refine (laws_toRuleS.calls kj13 _ _ l0 t563 _ ?side1 ?side2 A37.out).mono ?_); (case side1 => exact q33_1); (case side2 => exact HC0.out); rintro e w51 ⟨v564, rfl, ho0, hb⟩; refine ⟨_, rfl, ?_⟩; have n0_ := Aside0.mk (Kd.R_elder' q33_23 (Kd.R_base ho0) hb); have n1_ := Aside0.mk (Kd.R_elder' q33_24 (Kd.R_base ho0) hb); have n2_ := Aside0.mk (Kd.R_lower (Kd.R_new' (Kd.R_new' ho0 (Kd.R_lt q33_23)) (Kd.R_lt q33_24)) (below_size q33_15)); have n3_ := Aside0.mk (below_step q33_15 hb); clear HO_4; clear HO_6; clear HB; have HO_4 := n0_; have HO_6 := n1_; have HO565 := n2_; have HB := n3_; clear n0_ n1_ n2_ n3_; (try clear hb); (try clear hb2); (try clear hk); (try clear hi); (try clear ho0); obtain ⟨Ao52, co52, eo52⟩ := Kd.R_slice HO565.out; subst eo52) | ((with_reducible refine gate_callee (f := 47) rfl ?_); refine goesL_ (some 56) rfl rfl Try.func47 q33_26 rfl #[.slice Ao52 t563.length co52] rfl q33_14 ?_; (with_reducible refine (impl_MinimalRules.calls kj13 _ _ t563 t566 _ ?side1 ?side2 A38.out).mono ?_); (case side1 => exact q33_9); (case side2 => exact (Kd.R_reads' HO565.out).2.1); rintro e w53 ⟨v567, rfl, ho0, hb⟩; refine ⟨_, rfl, ?_⟩; have n0_ := Aside0.mk (Kd.R_elder' q33_23 (Kd.R_base ho0) hb); have n1_ := Aside0.mk (Kd.R_elder' q33_24 (Kd.R_base ho0) hb); have n2_ := Aside0.mk (Kd.R_elder' q33_21 (Kd.R_base ho0) hb); have n3_ := Aside0.mk (Kd.R_lower (Kd.R_new' (Kd.R_new' (Kd.R_new' ho0 (Kd.R_lt q33_23)) (Kd.R_lt q33_24)) (Kd.R_lt q33_21)) (below_size q33_15)); have n4_ := Aside0.mk (below_step q33_15 hb); clear HO_4; clear HO_6; clear HO565; clear HB; have HO_4 := n0_; have HO_6 := n1_; have HO565 := n2_; have HO568 := n3_; have HB := n4_; clear n0_ n1_ n2_ n3_ n4_; (try clear hb); (try clear hb2); (try clear hk); (try clear hi); (try clear ho0); obtain ⟨Ao54, co54, eo54⟩ := Kd.R_slice HO568.out; subst eo54) | ((with_reducible refine gate_callee (f := 22) rfl ?_); refine goesL_ (some 59) rfl rfl Try.func22 q33_26 rfl #[.slice Ao54 t566.length co54, .slice Ao22 t543.length co22] rfl q33_14 ?_; (with_reducible refine (laws_eqRuleS.calls kj13 _ _ t566 _ _ t543 true _ ?side1 ?side2 ?side3 ?side4 A39.out).mono ?_); (case side1 => exact q33_10); (case side2 => exact (Kd.R_reads' HO568.out).2.1); (case side3 => exact q33_11); (case side4 => exact (Kd.R_reads' HO_4.out).2.1); rintro e w55 ⟨rfl, hb⟩; refine ⟨_, rfl, ?_⟩; have n0_ := Aside0.mk (Kd.R_below q33_23 hb); have n1_ := Aside0.mk (Kd.R_below q33_24 hb); have n2_ := Aside0.mk (Kd.R_below q33_21 hb); have n3_ := Aside0.mk (Kd.R_below q33_22 hb); have n4_ := Aside0.mk (below_step q33_15 hb); clear HO_4; clear HO_6; clear HO565; clear HO568; clear HB; have HO_4 := n0_; have HO_6 := n1_; have HO565 := n2_; have HO568 := n3_; have HB := n4_; clear n0_ n1_ n2_ n3_ n4_; (try clear hb); (try clear hb2); (try clear hk); (try clear hi)) | ((with_reducible refine gate_callee (f := 45) rfl ?_); refine goesL_ (some 63) rfl rfl Try.func45 q33_26 rfl #[.slice Ao21 t561.length co21, .int .i64 1] rfl q33_2 ?_; (with_reducible refine (laws_heldRuleS.calls kj13 _ _ t561 1 t570 _ ?side1 ?side2 A41.out).mono ?_); (case side1 => exact q33_12); (case side2 => rw [show t561.length = t549.length from (Kd.R_reads' HO_6.out).1.symm]; exact (Kd.R_reads' HO_6.out).2.1); rintro e w' ⟨rfl, ⟨nd, rfl⟩⟩; refine ⟨_, rfl, ?_⟩))
            go_ret
            exact ⟨by first | rfl | (simp [errW_none, errW_some] <;> rfl) | (simp [*, errW_none, errW_some] <;> rfl), by repeat (first | (with_reducible first | exact HB.out | apply below_alloc | apply pw_below_drewN | apply below_drew1) | exact HB.out)⟩
           ·
            rw [if_neg c49] at H
            have c49b0 : (t570 == t560) = false := beq_eq_false_iff_ne.mpr c49
            have c49b1 : (t570 != t560) = true := bne_iff_ne.mpr c49
            obtain rfl := Option.some.inj H
            go_wp2_with (first | ((with_reducible refine gate_callee (f := 44) rfl ?_); refine goesL_ (some 45) rfl rfl Try.func44 q33_26 rfl #[.slice Ao21 t549.length co21, .int .i64 1] rfl q33_14 ?_; (with_reducible refine (laws_markRuleS.calls kj13 (fun k_ => some k_ = (.slice Ao21 t549.length co21 : Value).ownBlock) (.slice Ao21 t549.length co21) t549 1 t560 t561 w _ ?side1 ?side2 A32.out).mono ?_); (case side1 => exact q33_15); (case side2 => exact Kd.R_tight rfl HO_6.out); rintro e w56 ⟨rfl, hy0, hb, hkp⟩; refine ⟨_, rfl, ?_⟩; have n0_ := Aside0.mk (Kd.R_mono (ok' := fun k_ => some k_ ≠ (.slice Ao21 t549.length co21 : Value).ownBlock) (Kd.R_keptB (HO_4.out) hkp (fun k_ hk_ hs_ => (hk_) hs_)) (fun k_ hk_ => hk_.1)); have n1_ := Aside0.mk (Kd.R_reok rfl hy0 (fun k_ e_ => HO_6.out.1 k_ e_)); have n2_ := Aside0.mk (hb); clear HO_4; clear HO_6; clear HB; have HO_4 := n0_; have HO_6 := n1_; have HB := n2_; clear n0_ n1_ n2_; (try clear hb); (try clear hkp); (try clear hy0)) | ((with_reducible refine gate_callee (f := 45) rfl ?_); refine goesL_ (some 48) rfl rfl Try.func45 q33_26 rfl #[.slice Ao21 t561.length co21, .int .i64 1] rfl q33_2 ?_; (with_reducible refine (laws_heldRuleS.calls kj13 _ _ t561 1 t562 _ ?side1 ?side2 A33.out).mono ?_); (case side1 => exact q33_12); (case side2 => rw [show t561.length = t549.length from (Kd.R_reads' HO_6.out).1.symm]; exact (Kd.R_reads' HO_6.out).2.1); rintro e w' ⟨rfl, ⟨nd, rfl⟩⟩; refine ⟨_, rfl, ?_⟩) | ((with_reducible refine gate_callee (f := 20) rfl ?_); refine goesL_ (some 55) rfl rfl Try.func20 q33_26 rfl #[.slice A0 l0.length c0] rfl q33_14 ?_; (with_reducible refine (laws_toRuleS.calls kj13 _ _ l0 t563 _ ?side1 ?side2 A37.out).mono ?_); (case side1 => exact q33_1); (case side2 => exact HC0.out); rintro e w57 ⟨v564, rfl, ho0, hb⟩; refine ⟨_, rfl, ?_⟩; have n0_ := Aside0.mk (Kd.R_elder' q33_23 (Kd.R_base ho0) hb); have n1_ := Aside0.mk (Kd.R_elder' q33_24 (Kd.R_base ho0) hb); have n2_ := Aside0.mk (Kd.R_lower (Kd.R_new' (Kd.R_new' ho0 (Kd.R_lt q33_23)) (Kd.R_lt q33_24)) (below_size q33_15)); have n3_ := Aside0.mk (below_step q33_15 hb); clear HO_4; clear HO_6; clear HB; have HO_4 := n0_; have HO_6 := n1_; have HO565 := n2_; have HB := n3_; clear n0_ n1_ n2_ n3_; (try clear hb); (try clear hb2); (try clear hk); (try clear hi); (try clear ho0); obtain ⟨Ao58, co58, eo58⟩ := Kd.R_slice HO565.out; subst eo58) | ((with_reducible refine gate_callee (f := 47) rfl ?_); refine goesL_ (some 56) rfl rfl Try.func47 q33_26 rfl #[.slice Ao58 t563.length co58] rfl q33_14 ?_; (with_reducible refine (impl_MinimalRules.calls kj13 _ _ t563 t566 _ ?side1 ?side2 A38.out).mono ?_); (case side1 => exact q33_9); (case side2 => exact (Kd.R_reads' HO565.out).2.1); rintro e w59 ⟨v567, rfl, ho0, hb⟩; refine ⟨_, rfl, ?_⟩; have n0_ := Aside0.mk (Kd.R_elder' q33_23 (Kd.R_base ho0) hb); have n1_ := Aside0.mk (Kd.R_elder' q33_24 (Kd.R_base ho0) hb); have n2_ := Aside0.mk (Kd.R_elder' q33_21 (Kd.R_base ho0) hb); have n3_ := Aside0.mk (Kd.R_lower (Kd.R_new' (Kd.R_new' (Kd.R_new' ho0 (Kd.R_lt q33_23)) (Kd.R_lt q33_24)) (Kd.R_lt q33_21)) (below_size q33_15)); have n4_ := Aside0.mk (below_step q33_15 hb); clear HO_4; clear HO_6; clear HO565; clear HB; have HO_4 := n0_; have HO_6 := n1_; have HO565 := n2_; have HO568 := n3_; have HB := n4_; clear n0_ n1_ n2_ n3_ n4_; (try clear hb); (try clear hb2); (try clear hk); (try clear hi); (try clear ho0); obtain ⟨Ao60, co60, eo60⟩ := Kd.R_slice HO568.out; subst eo60) | ((with_reducible refine gate_callee (f := 22) rfl ?_); refine goesL_ (some 59) rfl rfl Try.func22 q33_26 rfl #[.slice Ao60 t566.length co60, .slice Ao22 t543.length co22] rfl q33_14 ?_; (with_reducible refine (laws_eqRuleS.calls kj13 _ _ t566 _ _ t543 true _ ?side1 ?side2 ?side3 ?side4 A39.out).mono ?_); (case side1 => exact q33_10); (case side2 => exact (Kd.R_reads' HO568.out).2.1); (case side3 => exact q33_11); (case side4 => exact (Kd.R_reads' HO_4.out).2.1); rintro e w61 ⟨rfl, hb⟩; refine ⟨_, rfl, ?_⟩; have n0_ := Aside0.mk (Kd.R_below q33_23 hb); have n1_ := Aside0.mk (Kd.R_below q33_24 hb); have n2_ := Aside0.mk (Kd.R_below q33_21 hb); have n3_ := Aside0.mk (Kd.R_below q33_22 hb); have n4_ := Aside0.mk (below_step q33_15 hb); clear HO_4; clear HO_6; clear HO565; clear HO568; clear HB; have HO_4 := n0_; have HO_6 := n1_; have HO565 := n2_; have HO568 := n3_; have HB := n4_; clear n0_ n1_ n2_ n3_ n4_; (try clear hb); (try clear hb2); (try clear hk); (try clear hi)) | ((with_reducible refine gate_callee (f := 45) rfl ?_); refine goesL_ (some 63) rfl rfl Try.func45 q33_26 rfl #[.slice Ao21 t561.length co21, .int .i64 1] rfl q33_2 ?_; (with_reducible refine (laws_heldRuleS.calls kj13 _ _ t561 1 t570 _ ?side1 ?side2 A41.out).mono ?_); (case side1 => exact q33_12); (case side2 => rw [show t561.length = t549.length from (Kd.R_reads' HO_6.out).1.symm]; exact (Kd.R_reads' HO_6.out).2.1); rintro e w' ⟨rfl, ⟨nd, rfl⟩⟩; refine ⟨_, rfl, ?_⟩))
            go_ret
            exact ⟨by first | rfl | (simp [errW_none, errW_some] <;> rfl) | (simp [*, errW_none, errW_some] <;> rfl), by repeat (first | (with_reducible first | exact HB.out | apply below_alloc | apply pw_below_drewN | apply below_drew1) | exact HB.out)⟩
         ·
          replace c40 := Bool.eq_false_iff.mpr c40
          subst c40
          have H1 : (some false) = some r := q33_25
          clear H
          have H := H1
          clear H1
          obtain rfl := Option.some.inj H
          go_wp2_with (first | ((with_reducible refine gate_callee (f := 44) rfl ?_); refine goesL_ (some 45) rfl rfl Try.func44 q33_26 rfl #[.slice Ao21 t549.length co21, .int .i64 1] rfl q33_14 ?_; (with_reducible refine (laws_markRuleS.calls kj13 (fun k_ => some k_ = (.slice Ao21 t549.length co21 : Value).ownBlock) (.slice Ao21 t549.length co21) t549 1 t560 t561 w _ ?side1 ?side2 A32.out).mono ?_); (case side1 => exact q33_15); (case side2 => exact Kd.R_tight rfl HO_6.out); rintro e w62 ⟨rfl, hy0, hb, hkp⟩; refine ⟨_, rfl, ?_⟩; have n0_ := Aside0.mk (Kd.R_mono (ok' := fun k_ => some k_ ≠ (.slice Ao21 t549.length co21 : Value).ownBlock) (Kd.R_keptB (HO_4.out) hkp (fun k_ hk_ hs_ => (hk_) hs_)) (fun k_ hk_ => hk_.1)); have n1_ := Aside0.mk (Kd.R_reok rfl hy0 (fun k_ e_ => HO_6.out.1 k_ e_)); have n2_ := Aside0.mk (hb); clear HO_4; clear HO_6; clear HB; have HO_4 := n0_; have HO_6 := n1_; have HB := n2_; clear n0_ n1_ n2_; (try clear hb); (try clear hkp); (try clear hy0)) | ((with_reducible refine gate_callee (f := 45) rfl ?_); refine goesL_ (some 48) rfl rfl Try.func45 q33_26 rfl #[.slice Ao21 t561.length co21, .int .i64 1] rfl q33_2 ?_; (with_reducible refine (laws_heldRuleS.calls kj13 _ _ t561 1 t562 _ ?side1 ?side2 A33.out).mono ?_); (case side1 => exact q33_12); (case side2 => rw [show t561.length = t549.length from (Kd.R_reads' HO_6.out).1.symm]; exact (Kd.R_reads' HO_6.out).2.1); rintro e w' ⟨rfl, ⟨nd, rfl⟩⟩; refine ⟨_, rfl, ?_⟩) | ((with_reducible refine gate_callee (f := 20) rfl ?_); refine goesL_ (some 55) rfl rfl Try.func20 q33_26 rfl #[.slice A0 l0.length c0] rfl q33_14 ?_; (with_reducible refine (laws_toRuleS.calls kj13 _ _ l0 t563 _ ?side1 ?side2 A37.out).mono ?_); (case side1 => exact q33_1); (case side2 => exact HC0.out); rintro e w63 ⟨v564, rfl, ho0, hb⟩; refine ⟨_, rfl, ?_⟩; have n0_ := Aside0.mk (Kd.R_elder' q33_23 (Kd.R_base ho0) hb); have n1_ := Aside0.mk (Kd.R_elder' q33_24 (Kd.R_base ho0) hb); have n2_ := Aside0.mk (Kd.R_lower (Kd.R_new' (Kd.R_new' ho0 (Kd.R_lt q33_23)) (Kd.R_lt q33_24)) (below_size q33_15)); have n3_ := Aside0.mk (below_step q33_15 hb); clear HO_4; clear HO_6; clear HB; have HO_4 := n0_; have HO_6 := n1_; have HO565 := n2_; have HB := n3_; clear n0_ n1_ n2_ n3_; (try clear hb); (try clear hb2); (try clear hk); (try clear hi); (try clear ho0); obtain ⟨Ao64, co64, eo64⟩ := Kd.R_slice HO565.out; subst eo64) | ((with_reducible refine gate_callee (f := 47) rfl ?_); refine goesL_ (some 56) rfl rfl Try.func47 q33_26 rfl #[.slice Ao64 t563.length co64] rfl q33_14 ?_; (with_reducible refine (impl_MinimalRules.calls kj13 _ _ t563 t566 _ ?side1 ?side2 A38.out).mono ?_); (case side1 => exact q33_9); (case side2 => exact (Kd.R_reads' HO565.out).2.1); rintro e w65 ⟨v567, rfl, ho0, hb⟩; refine ⟨_, rfl, ?_⟩; have n0_ := Aside0.mk (Kd.R_elder' q33_23 (Kd.R_base ho0) hb); have n1_ := Aside0.mk (Kd.R_elder' q33_24 (Kd.R_base ho0) hb); have n2_ := Aside0.mk (Kd.R_elder' q33_21 (Kd.R_base ho0) hb); have n3_ := Aside0.mk (Kd.R_lower (Kd.R_new' (Kd.R_new' (Kd.R_new' ho0 (Kd.R_lt q33_23)) (Kd.R_lt q33_24)) (Kd.R_lt q33_21)) (below_size q33_15)); have n4_ := Aside0.mk (below_step q33_15 hb); clear HO_4; clear HO_6; clear HO565; clear HB; have HO_4 := n0_; have HO_6 := n1_; have HO565 := n2_; have HO568 := n3_; have HB := n4_; clear n0_ n1_ n2_ n3_ n4_; (try clear hb); (try clear hb2); (try clear hk); (try clear hi); (try clear ho0); obtain ⟨Ao66, co66, eo66⟩ := Kd.R_slice HO568.out; subst eo66) | ((with_reducible refine gate_callee (f := 22) rfl ?_); refine goesL_ (some 59) rfl rfl Try.func22 q33_26 rfl #[.slice Ao66 t566.length co66, .slice Ao22 t543.length co22] rfl q33_14 ?_; (with_reducible refine (laws_eqRuleS.calls kj13 _ _ t566 _ _ t543 false _ ?side1 ?side2 ?side3 ?side4 A39.out).mono ?_); (case side1 => exact q33_10); (case side2 => exact (Kd.R_reads' HO568.out).2.1); (case side3 => exact q33_11); (case side4 => exact (Kd.R_reads' HO_4.out).2.1); rintro e w67 ⟨rfl, hb⟩; refine ⟨_, rfl, ?_⟩; have n0_ := Aside0.mk (Kd.R_below q33_23 hb); have n1_ := Aside0.mk (Kd.R_below q33_24 hb); have n2_ := Aside0.mk (Kd.R_below q33_21 hb); have n3_ := Aside0.mk (Kd.R_below q33_22 hb); have n4_ := Aside0.mk (below_step q33_15 hb); clear HO_4; clear HO_6; clear HO565; clear HO568; clear HB; have HO_4 := n0_; have HO_6 := n1_; have HO565 := n2_; have HO568 := n3_; have HB := n4_; clear n0_ n1_ n2_ n3_ n4_; (try clear hb); (try clear hb2); (try clear hk); (try clear hi)))
          go_ret
          exact ⟨by first | rfl | (simp [errW_none, errW_some] <;> rfl) | (simp [*, errW_none, errW_some] <;> rfl), by repeat (first | (with_reducible first | exact HB.out | apply below_alloc | apply pw_below_drewN | apply below_drew1) | exact HB.out)⟩
        ·
         rw [if_neg c36] at H
         have c36b0 : (t562 == t560) = false := beq_eq_false_iff_ne.mpr c36
         have c36b1 : (t562 != t560) = true := bne_iff_ne.mpr c36
         obtain rfl := Option.some.inj H
         go_wp2_with (first | ((with_reducible refine gate_callee (f := 44) rfl ?_); refine goesL_ (some 45) rfl rfl Try.func44 q33_26 rfl #[.slice Ao21 t549.length co21, .int .i64 1] rfl q33_14 ?_; (with_reducible refine (laws_markRuleS.calls kj13 (fun k_ => some k_ = (.slice Ao21 t549.length co21 : Value).ownBlock) (.slice Ao21 t549.length co21) t549 1 t560 t561 w _ ?side1 ?side2 A32.out).mono ?_); (case side1 => exact q33_15); (case side2 => exact Kd.R_tight rfl HO_6.out); rintro e w68 ⟨rfl, hy0, hb, hkp⟩; refine ⟨_, rfl, ?_⟩; have n0_ := Aside0.mk (Kd.R_mono (ok' := fun k_ => some k_ ≠ (.slice Ao21 t549.length co21 : Value).ownBlock) (Kd.R_keptB (HO_4.out) hkp (fun k_ hk_ hs_ => (hk_) hs_)) (fun k_ hk_ => hk_.1)); have n1_ := Aside0.mk (Kd.R_reok rfl hy0 (fun k_ e_ => HO_6.out.1 k_ e_)); have n2_ := Aside0.mk (hb); clear HO_4; clear HO_6; clear HB; have HO_4 := n0_; have HO_6 := n1_; have HB := n2_; clear n0_ n1_ n2_; (try clear hb); (try clear hkp); (try clear hy0)) | ((with_reducible refine gate_callee (f := 45) rfl ?_); refine goesL_ (some 48) rfl rfl Try.func45 q33_26 rfl #[.slice Ao21 t561.length co21, .int .i64 1] rfl q33_2 ?_; (with_reducible refine (laws_heldRuleS.calls kj13 _ _ t561 1 t562 _ ?side1 ?side2 A33.out).mono ?_); (case side1 => exact q33_12); (case side2 => rw [show t561.length = t549.length from (Kd.R_reads' HO_6.out).1.symm]; exact (Kd.R_reads' HO_6.out).2.1); rintro e w' ⟨rfl, ⟨nd, rfl⟩⟩; refine ⟨_, rfl, ?_⟩))
         go_ret
         exact ⟨by first | rfl | (simp [errW_none, errW_some] <;> rfl) | (simp [*, errW_none, errW_some] <;> rfl), by repeat (first | (with_reducible first | exact HB.out | apply below_alloc | apply pw_below_drewN | apply below_drew1) | exact HB.out)⟩
   ·
    replace c12 := Bool.eq_false_iff.mpr c12
    subst c12
    have H1 : (some false) = some r := q33_25
    clear H
    have H := H1
    clear H1
    obtain rfl := Option.some.inj H
    go_enter Try.func14, Try.ntmps14
    go_wp2_with (first | ((with_reducible refine gate_callee (f := 18) rfl ?_); refine goesL_ (some 13) rfl rfl Try.func18 q33_26 rfl #[.slice A0 l0.length c0, .int .i64 1048576] rfl q33_14 ?_; (with_reducible refine (laws_szRuleS.calls _ _ l0 1048576 t539 _ ?side1 ?side2 A2.out).mono ?_); (case side1 => exact q33_13); (case side2 => exact HC0.out); rintro e w' ⟨rfl, ⟨nd, rfl⟩⟩; refine ⟨_, rfl, ?_⟩) | ((with_reducible refine gate_callee (f := 20) rfl ?_); refine goesL_ (some 17) rfl rfl Try.func20 q33_26 rfl #[.slice A0 l0.length c0] rfl q33_14 ?_; (with_reducible refine (laws_toRuleS.calls k _ _ l0 t540 _ ?side1 ?side2 A4.out).mono ?_); (case side1 => exact q33_13); (case side2 => exact HC0.out); rintro e w69 ⟨v541, rfl, ho0, hb⟩; refine ⟨_, rfl, ?_⟩; have n0_ := Aside0.mk (Kd.R_lower ho0 (below_size q33_15)); have n1_ := Aside0.mk (below_step q33_15 hb); clear HB; have HO542 := n0_; have HB := n1_; clear n0_ n1_; (try clear hb); (try clear hb2); (try clear hk); (try clear hi); (try clear ho0); obtain ⟨Ao70, co70, eo70⟩ := Kd.R_slice HO542.out; subst eo70) | ((with_reducible refine gate_callee (f := 46) rfl ?_); refine goesL_ (some 18) rfl rfl Try.func46 q33_26 rfl #[.slice Ao70 t540.length co70] rfl q33_14 ?_; (with_reducible refine (spec_MinimalRules.calls k _ _ t540 t543 _ ?side1 ?side2 A5.out).mono ?_); (case side1 => exact q33_4); (case side2 => exact (Kd.R_reads' HO542.out).2.1); rintro e w71 ⟨v544, rfl, ho0, hb⟩; refine ⟨_, rfl, ?_⟩; have n0_ := Aside0.mk (Kd.R_elder' q33_16 (Kd.R_base ho0) hb); have n1_ := Aside0.mk (Kd.R_lower (Kd.R_new' ho0 (Kd.R_lt q33_16)) (below_size q33_15)); have n2_ := Aside0.mk (below_step q33_15 hb); clear HO542; clear HB; have HO542 := n0_; have HO545 := n1_; have HB := n2_; clear n0_ n1_ n2_; (try clear hb); (try clear hb2); (try clear hk); (try clear hi); (try clear ho0)) | ((with_reducible refine gate_callee (f := 20) rfl ?_); refine goesL_ (some 20) rfl rfl Try.func20 q33_26 rfl #[.slice A0 l0.length c0] rfl q33_14 ?_; (with_reducible refine (laws_toRuleS.calls k _ _ l0 t546 _ ?side1 ?side2 A6.out).mono ?_); (case side1 => exact q33_3); (case side2 => exact HC0.out); rintro e w72 ⟨v547, rfl, ho0, hb⟩; refine ⟨_, rfl, ?_⟩; have n0_ := Aside0.mk (Kd.R_elder' q33_16 (Kd.R_base ho0) hb); have n1_ := Aside0.mk (Kd.R_elder' q33_17 (Kd.R_base ho0) hb); have n2_ := Aside0.mk (Kd.R_lower (Kd.R_new' (Kd.R_new' ho0 (Kd.R_lt q33_16)) (Kd.R_lt q33_17)) (below_size q33_15)); have n3_ := Aside0.mk (below_step q33_15 hb); clear HO542; clear HO545; clear HB; have HO542 := n0_; have HO545 := n1_; have HO548 := n2_; have HB := n3_; clear n0_ n1_ n2_ n3_; (try clear hb); (try clear hb2); (try clear hk); (try clear hi); (try clear ho0); obtain ⟨Ao73, co73, eo73⟩ := Kd.R_slice HO548.out; subst eo73) | ((with_reducible refine gate_callee (f := 47) rfl ?_); refine goesL_ (some 22) rfl rfl Try.func47 q33_26 rfl #[.slice Ao73 t546.length co73] rfl q33_14 ?_; (with_reducible refine (impl_MinimalRules.calls k _ _ t546 t549 _ ?side1 ?side2 A7.out).mono ?_); (case side1 => exact q33_6); (case side2 => exact (Kd.R_reads' HO548.out).2.1); rintro e w74 ⟨v550, rfl, ho0, hb⟩; refine ⟨_, rfl, ?_⟩; have n0_ := Aside0.mk (Kd.R_elder' q33_16 (Kd.R_base ho0) hb); have n1_ := Aside0.mk (Kd.R_elder' q33_17 (Kd.R_base ho0) hb); have n2_ := Aside0.mk (Kd.R_elder' q33_18 (Kd.R_base ho0) hb); have n3_ := Aside0.mk (Kd.R_lower (Kd.R_new' (Kd.R_new' (Kd.R_new' ho0 (Kd.R_lt q33_16)) (Kd.R_lt q33_17)) (Kd.R_lt q33_18)) (below_size q33_15)); have n4_ := Aside0.mk (below_step q33_15 hb); clear HO542; clear HO545; clear HO548; clear HB; have HO542 := n0_; have HO545 := n1_; have HO548 := n2_; have HO551 := n3_; have HB := n4_; clear n0_ n1_ n2_ n3_ n4_; (try clear hb); (try clear hb2); (try clear hk); (try clear hi); (try clear ho0); obtain ⟨Ao75, co75, eo75⟩ := Kd.R_slice HO551.out; subst eo75; obtain ⟨Ao76, co76, eo76⟩ := Kd.R_slice HO545.out; subst eo76) | ((with_reducible refine gate_callee (f := 22) rfl ?_); refine goesL_ (some 25) rfl rfl Try.func22 q33_26 rfl #[.slice Ao75 t549.length co75, .slice Ao76 t543.length co76] rfl q33_14 ?_; (with_reducible refine (laws_eqRuleS.calls k _ _ t549 _ _ t543 true _ ?side1 ?side2 ?side3 ?side4 A8.out).mono ?_); (case side1 => exact q33_7); (case side2 => exact (Kd.R_reads' HO551.out).2.1); (case side3 => exact q33_5); (case side4 => exact (Kd.R_reads' HO545.out).2.1); rintro e w77 ⟨rfl, hb⟩; refine ⟨_, rfl, ?_⟩; have n0_ := Aside0.mk (Kd.R_below q33_16 hb); have n1_ := Aside0.mk (Kd.R_below q33_17 hb); have n2_ := Aside0.mk (Kd.R_below q33_18 hb); have n3_ := Aside0.mk (Kd.R_below q33_19 hb); have n4_ := Aside0.mk (below_step q33_15 hb); clear HO542; clear HO545; clear HO548; clear HO551; clear HB; have HO542 := n0_; have HO545 := n1_; have HO548 := n2_; have HO551 := n3_; have HB := n4_; clear n0_ n1_ n2_ n3_ n4_; (try clear hb); (try clear hb2); (try clear hk); (try clear hi)) | ((with_reducible refine gate_callee (f := 20) rfl ?_); refine goesL_ (some 29) rfl rfl Try.func20 q33_26 rfl #[.slice A0 l0.length c0] rfl q33_14 ?_; (with_reducible refine (laws_toRuleS.calls k _ _ l0 t553 _ ?side1 ?side2 A10.out).mono ?_); (case side1 => exact q33_3); (case side2 => exact HC0.out); rintro e w78 ⟨v554, rfl, ho0, hb⟩; refine ⟨_, rfl, ?_⟩; have n0_ := Aside0.mk (Kd.R_elder' q33_16 (Kd.R_base ho0) hb); have n1_ := Aside0.mk (Kd.R_elder' q33_17 (Kd.R_base ho0) hb); have n2_ := Aside0.mk (Kd.R_elder' q33_18 (Kd.R_base ho0) hb); have n3_ := Aside0.mk (Kd.R_elder' q33_19 (Kd.R_base ho0) hb); have n4_ := Aside0.mk (Kd.R_lower (Kd.R_new' (Kd.R_new' (Kd.R_new' (Kd.R_new' ho0 (Kd.R_lt q33_16)) (Kd.R_lt q33_17)) (Kd.R_lt q33_18)) (Kd.R_lt q33_19)) (below_size q33_15)); have n5_ := Aside0.mk (below_step q33_15 hb); clear HO542; clear HO545; clear HO548; clear HO551; clear HB; have HO542 := n0_; have HO545 := n1_; have HO548 := n2_; have HO551 := n3_; have HO555 := n4_; have HB := n5_; clear n0_ n1_ n2_ n3_ n4_ n5_; (try clear hb); (try clear hb2); (try clear hk); (try clear hi); (try clear ho0); obtain ⟨Ao79, co79, eo79⟩ := Kd.R_slice HO555.out; subst eo79) | ((with_reducible refine gate_callee (f := 22) rfl ?_); refine goesL_ (some 30) rfl rfl Try.func22 q33_26 rfl #[.slice Ao73 t546.length co73, .slice Ao79 t553.length co79] rfl q33_14 ?_; (with_reducible refine (laws_eqRuleS.calls k _ _ t546 _ _ t553 false _ ?side1 ?side2 ?side3 ?side4 A11.out).mono ?_); (case side1 => exact q33_6); (case side2 => exact (Kd.R_reads' HO548.out).2.1); (case side3 => exact q33_8); (case side4 => exact (Kd.R_reads' HO555.out).2.1); rintro e w80 ⟨rfl, hb⟩; refine ⟨_, rfl, ?_⟩; have n0_ := Aside0.mk (Kd.R_below q33_16 hb); have n1_ := Aside0.mk (Kd.R_below q33_17 hb); have n2_ := Aside0.mk (Kd.R_below q33_18 hb); have n3_ := Aside0.mk (Kd.R_below q33_19 hb); have n4_ := Aside0.mk (Kd.R_below q33_20 hb); have n5_ := Aside0.mk (below_step q33_15 hb); clear HO542; clear HO545; clear HO548; clear HO551; clear HO555; clear HB; have HO542 := n0_; have HO545 := n1_; have HO548 := n2_; have HO551 := n3_; have HO555 := n4_; have HB := n5_; clear n0_ n1_ n2_ n3_ n4_ n5_; (try clear hb); (try clear hb2); (try clear hk); (try clear hi)))
    go_ret
    exact ⟨by first | rfl | (simp [errW_none, errW_some] <;> rfl) | (simp [*, errW_none, errW_some] <;> rfl), by repeat (first | (with_reducible first | exact HB.out | apply below_alloc | apply pw_below_drewN | apply below_drew1) | exact HB.out)⟩
  ·
   replace c9 := Bool.eq_false_iff.mpr c9
   subst c9
   have H1 : (some false) = some r := q33_25
   clear H
   have H := H1
   clear H1
   obtain rfl := Option.some.inj H
   go_enter Try.func14, Try.ntmps14
   go_wp2_with (first | ((with_reducible refine gate_callee (f := 18) rfl ?_); refine goesL_ (some 13) rfl rfl Try.func18 q33_26 rfl #[.slice A0 l0.length c0, .int .i64 1048576] rfl q33_14 ?_; (with_reducible refine (laws_szRuleS.calls _ _ l0 1048576 t539 _ ?side1 ?side2 A2.out).mono ?_); (case side1 => exact q33_13); (case side2 => exact HC0.out); rintro e w' ⟨rfl, ⟨nd, rfl⟩⟩; refine ⟨_, rfl, ?_⟩) | ((with_reducible refine gate_callee (f := 20) rfl ?_); refine goesL_ (some 17) rfl rfl Try.func20 q33_26 rfl #[.slice A0 l0.length c0] rfl q33_14 ?_; (with_reducible refine (laws_toRuleS.calls k _ _ l0 t540 _ ?side1 ?side2 A4.out).mono ?_); (case side1 => exact q33_13); (case side2 => exact HC0.out); rintro e w81 ⟨v541, rfl, ho0, hb⟩; refine ⟨_, rfl, ?_⟩; have n0_ := Aside0.mk (Kd.R_lower ho0 (below_size q33_15)); have n1_ := Aside0.mk (below_step q33_15 hb); clear HB; have HO542 := n0_; have HB := n1_; clear n0_ n1_; (try clear hb); (try clear hb2); (try clear hk); (try clear hi); (try clear ho0); obtain ⟨Ao82, co82, eo82⟩ := Kd.R_slice HO542.out; subst eo82) | ((with_reducible refine gate_callee (f := 46) rfl ?_); refine goesL_ (some 18) rfl rfl Try.func46 q33_26 rfl #[.slice Ao82 t540.length co82] rfl q33_14 ?_; (with_reducible refine (spec_MinimalRules.calls k _ _ t540 t543 _ ?side1 ?side2 A5.out).mono ?_); (case side1 => exact q33_4); (case side2 => exact (Kd.R_reads' HO542.out).2.1); rintro e w83 ⟨v544, rfl, ho0, hb⟩; refine ⟨_, rfl, ?_⟩; have n0_ := Aside0.mk (Kd.R_elder' q33_16 (Kd.R_base ho0) hb); have n1_ := Aside0.mk (Kd.R_lower (Kd.R_new' ho0 (Kd.R_lt q33_16)) (below_size q33_15)); have n2_ := Aside0.mk (below_step q33_15 hb); clear HO542; clear HB; have HO542 := n0_; have HO545 := n1_; have HB := n2_; clear n0_ n1_ n2_; (try clear hb); (try clear hb2); (try clear hk); (try clear hi); (try clear ho0)) | ((with_reducible refine gate_callee (f := 20) rfl ?_); refine goesL_ (some 20) rfl rfl Try.func20 q33_26 rfl #[.slice A0 l0.length c0] rfl q33_14 ?_; (with_reducible refine (laws_toRuleS.calls k _ _ l0 t546 _ ?side1 ?side2 A6.out).mono ?_); (case side1 => exact q33_3); (case side2 => exact HC0.out); rintro e w84 ⟨v547, rfl, ho0, hb⟩; refine ⟨_, rfl, ?_⟩; have n0_ := Aside0.mk (Kd.R_elder' q33_16 (Kd.R_base ho0) hb); have n1_ := Aside0.mk (Kd.R_elder' q33_17 (Kd.R_base ho0) hb); have n2_ := Aside0.mk (Kd.R_lower (Kd.R_new' (Kd.R_new' ho0 (Kd.R_lt q33_16)) (Kd.R_lt q33_17)) (below_size q33_15)); have n3_ := Aside0.mk (below_step q33_15 hb); clear HO542; clear HO545; clear HB; have HO542 := n0_; have HO545 := n1_; have HO548 := n2_; have HB := n3_; clear n0_ n1_ n2_ n3_; (try clear hb); (try clear hb2); (try clear hk); (try clear hi); (try clear ho0); obtain ⟨Ao85, co85, eo85⟩ := Kd.R_slice HO548.out; subst eo85) | ((with_reducible refine gate_callee (f := 47) rfl ?_); refine goesL_ (some 22) rfl rfl Try.func47 q33_26 rfl #[.slice Ao85 t546.length co85] rfl q33_14 ?_; (with_reducible refine (impl_MinimalRules.calls k _ _ t546 t549 _ ?side1 ?side2 A7.out).mono ?_); (case side1 => exact q33_6); (case side2 => exact (Kd.R_reads' HO548.out).2.1); rintro e w86 ⟨v550, rfl, ho0, hb⟩; refine ⟨_, rfl, ?_⟩; have n0_ := Aside0.mk (Kd.R_elder' q33_16 (Kd.R_base ho0) hb); have n1_ := Aside0.mk (Kd.R_elder' q33_17 (Kd.R_base ho0) hb); have n2_ := Aside0.mk (Kd.R_elder' q33_18 (Kd.R_base ho0) hb); have n3_ := Aside0.mk (Kd.R_lower (Kd.R_new' (Kd.R_new' (Kd.R_new' ho0 (Kd.R_lt q33_16)) (Kd.R_lt q33_17)) (Kd.R_lt q33_18)) (below_size q33_15)); have n4_ := Aside0.mk (below_step q33_15 hb); clear HO542; clear HO545; clear HO548; clear HB; have HO542 := n0_; have HO545 := n1_; have HO548 := n2_; have HO551 := n3_; have HB := n4_; clear n0_ n1_ n2_ n3_ n4_; (try clear hb); (try clear hb2); (try clear hk); (try clear hi); (try clear ho0); obtain ⟨Ao87, co87, eo87⟩ := Kd.R_slice HO551.out; subst eo87; obtain ⟨Ao88, co88, eo88⟩ := Kd.R_slice HO545.out; subst eo88) | ((with_reducible refine gate_callee (f := 22) rfl ?_); refine goesL_ (some 25) rfl rfl Try.func22 q33_26 rfl #[.slice Ao87 t549.length co87, .slice Ao88 t543.length co88] rfl q33_14 ?_; (with_reducible refine (laws_eqRuleS.calls k _ _ t549 _ _ t543 false _ ?side1 ?side2 ?side3 ?side4 A8.out).mono ?_); (case side1 => exact q33_7); (case side2 => exact (Kd.R_reads' HO551.out).2.1); (case side3 => exact q33_5); (case side4 => exact (Kd.R_reads' HO545.out).2.1); rintro e w89 ⟨rfl, hb⟩; refine ⟨_, rfl, ?_⟩; have n0_ := Aside0.mk (Kd.R_below q33_16 hb); have n1_ := Aside0.mk (Kd.R_below q33_17 hb); have n2_ := Aside0.mk (Kd.R_below q33_18 hb); have n3_ := Aside0.mk (Kd.R_below q33_19 hb); have n4_ := Aside0.mk (below_step q33_15 hb); clear HO542; clear HO545; clear HO548; clear HO551; clear HB; have HO542 := n0_; have HO545 := n1_; have HO548 := n2_; have HO551 := n3_; have HB := n4_; clear n0_ n1_ n2_ n3_ n4_; (try clear hb); (try clear hb2); (try clear hk); (try clear hi)))
   go_ret
   exact ⟨by first | rfl | (simp [errW_none, errW_some] <;> rfl) | (simp [*, errW_none, errW_some] <;> rfl), by repeat (first | (with_reducible first | exact HB.out | apply below_alloc | apply pw_below_drewN | apply below_drew1) | exact HB.out)⟩

end Go.Proofs.Ytjkbmdbecplgiaa.Pr
