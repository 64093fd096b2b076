/- Functions of the program as plain functions, each with the proof that its call answers so. Written by a program of this place (myprint.py over the kit's print). No condition beyond what each statement says. -/
import Derived.Test.YtjkbmdbecplgiaaPr0
import Derived.Test.YtjkbmdbecplgiaaPr1
import Derived.Test.YtjkbmdbecplgiaaPr2
import Derived.Test.YtjkbmdbecplgiaaPr3
import Derived.Test.YtjkbmdbecplgiaaPr12
import Derived.Test.YtjkbmdbecplgiaaPr13
import Derived.Test.YtjkbmdbecplgiaaPr19
namespace Go.Proofs.Ytjkbmdbecplgiaa.Pr
open Go.RowKit Go.Proofs.YtjkbmdbecplgiaaW.PrintWords Go.Proofs.YtjkbmdbecplgiaaW.PrintLast Go.Proofs.YtjkbmdbecplgiaaW.PrintMore
attribute [local go_sem] max2_int min2_int max_two min_two max_three min_three max_four min_four   -- for this text's walks alone
set_option linter.unusedVariables false
set_option linter.unusedSimpArgs false

/-! ### laws_FnExactLeftReduced: function 13 -/
theorem q30_1 {P : Prop} (h : P := by (try simp only [List.map_toArray, List.map_cons, List.map_nil]); first | done | (rw [show t509.length = t496.length from (Kd.R_reads' HO_9.out).1.symm] <;> rfl) | rfl | (simp only [List.length_drop, List.length_take]; rfl)) : P := h
theorem q30_2 {P : Prop} (h : P := by repeat (first | exact (Kd.C_below HR1.out HB.out) | (with_reducible refine Kd.C_alloc ?_ _) | (with_reducible refine Kd.C_drewN ?_ _) | (with_reducible refine Kd.C_drew ?_))) : P := h
theorem q30_3 {P : Prop} (h : P := by repeat (first | exact (Kd.R_reads' HO492.out).2.2 | (with_reducible refine Kd.C_alloc ?_ _) | (with_reducible refine Kd.C_drewN ?_ _) | (with_reducible refine Kd.C_drew ?_))) : P := h
theorem q30_4 {P : Prop} (h : P := by repeat (first | exact (Kd.R_reads' HO499.out).2.2 | (with_reducible refine Kd.C_alloc ?_ _) | (with_reducible refine Kd.C_drewN ?_ _) | (with_reducible refine Kd.C_drew ?_))) : P := h
theorem q30_5 {P : Prop} (h : P := by repeat (first | exact (Kd.R_reads' HO503.out).2.2 | (with_reducible refine Kd.C_alloc ?_ _) | (with_reducible refine Kd.C_drewN ?_ _) | (with_reducible refine Kd.C_drew ?_))) : P := h
theorem q30_6 {P : Prop} (h : P := by repeat (first | exact (Kd.R_reads' HO517.out).2.2 | (with_reducible refine Kd.C_alloc ?_ _) | (with_reducible refine Kd.C_drewN ?_ _) | (with_reducible refine Kd.C_drew ?_))) : P := h
theorem q30_7 {P : Prop} (h : P := by repeat (first | exact (Kd.R_reads' HO_6.out).2.2 | (with_reducible refine Kd.C_alloc ?_ _) | (with_reducible refine Kd.C_drewN ?_ _) | (with_reducible refine Kd.C_drew ?_))) : P := h
theorem q30_8 {P : Prop} (h : P := by repeat (first | exact (Kd.R_reads' HO_8.out).2.2 | (with_reducible refine Kd.C_alloc ?_ _) | (with_reducible refine Kd.C_drewN ?_ _) | (with_reducible refine Kd.C_drew ?_))) : P := h
theorem q30_9 {P : Prop} (h : P := by repeat (first | exact (Kd.R_reads' HO_9.out).2.2 | (with_reducible refine Kd.C_alloc ?_ _) | (with_reducible refine Kd.C_drewN ?_ _) | (with_reducible refine Kd.C_drew ?_))) : P := h
theorem q30_10 {P : Prop} (h : P := by repeat (first | exact HR1.out | (with_reducible refine Kd.C_alloc ?_ _) | (with_reducible refine Kd.C_drewN ?_ _) | (with_reducible refine Kd.C_drew ?_))) : P := h
theorem q30_11 {P : Prop} (h : P := by (try simp only [List.map_toArray, List.map_cons, List.map_nil]); first | done | rfl | (simp only [List.length_drop, List.length_take]; rfl)) : P := h
theorem q30_12 {P : Prop} (h : P := by repeat (first | (with_reducible first | exact HB.out | apply below_alloc | apply pw_below_drewN | apply below_drew1) | exact HB.out)) : P := h
theorem q30_13 {P : Prop} (h : P := by (with_reducible repeat (first | apply Kd.R_alloc | apply Kd.R_drewN | apply Kd.R_drew)); exact HO488.out) : P := h
theorem q30_14 {P : Prop} (h : P := by (with_reducible repeat (first | apply Kd.R_alloc | apply Kd.R_drewN | apply Kd.R_drew)); exact HO492.out) : P := h
theorem q30_15 {P : Prop} (h : P := by (with_reducible repeat (first | apply Kd.R_alloc | apply Kd.R_drewN | apply Kd.R_drew)); exact HO495.out) : P := h
theorem q30_16 {P : Prop} (h : P := by (with_reducible repeat (first | apply Kd.R_alloc | apply Kd.R_drewN | apply Kd.R_drew)); exact HO503.out) : P := h
theorem q30_17 {P : Prop} (h : P := by (with_reducible repeat (first | apply Kd.R_alloc | apply Kd.R_drewN | apply Kd.R_drew)); exact HO513.out) : P := h
theorem q30_18 {P : Prop} (h : P := by (with_reducible repeat (first | apply Kd.R_alloc | apply Kd.R_drewN | apply Kd.R_drew)); exact HO_6.out) : P := h
theorem q30_19 {P : Prop} (h : P := by (with_reducible repeat (first | apply Kd.R_alloc | apply Kd.R_drewN | apply Kd.R_drew)); exact HO_8.out) : P := h
theorem q30_20 {P : Prop} (h : P := by (with_reducible repeat (first | apply Kd.R_alloc | apply Kd.R_drewN | apply Kd.R_drew)); exact HO_9.out) : P := h
theorem q30_21 {P : Prop} (h : P := by rw [if_neg (show ¬ (false = true) by decide)] at H; exact H) : P := h
theorem q30_22 {P : Prop} (h : P := by first | rfl | (simp; done) | (simp [*]; done)) : P := h
theorem q30_23 {P : Prop} (h : P := by rw [if_pos rfl] at H; exact H) : P := h
theorem q30_24 {P : Prop} (h : P := by kernel_rfl) : P := h
mutual
def laws_FnExactLeftReduced.j0 : Nat → Int → List (S23) → List (S25) → Bool → List (S25) → List (S25) → Bool → Bool → Option (Bool)
 | 0, _, _, _, _, _, _, _, _ => none
 | k + 1, x0, x1, x6, x7, x8, x9, x10, x44 => if x44 = true then (some false) else ((laws_toRuleS.f k x1).bind fun t501 => ((laws_eqRuleS.f k x8 t501).bind fun t504 => (if t504 = true then ((laws_markRuleS.f k x8 1).bind fun bt505 => (if bt505.1 < 0 then (laws_FnExactLeftReduced.j1 k x0 x1 x6 x7 x9 true) else ((laws_eqRuleS.f k x9 x6).bind fun t507 => (if t507 = true then (laws_FnExactLeftReduced.j1 k x0 x1 x6 x7 x9 (x10 != x7)) else (laws_FnExactLeftReduced.j1 k x0 x1 x6 x7 x9 true))))) else (some false))))
def laws_FnExactLeftReduced.j1 : Nat → Int → List (S23) → List (S25) → Bool → List (S25) → Bool → Option (Bool)
 | 0, _, _, _, _, _, _ => none
 | k + 1, x0, x1, x6, x7, x9, x65 => if x65 = true then (some false) else ((laws_markRuleS.f k x9 1).bind fun bt508 => ((laws_heldRuleS.f k bt508.2 1).bind fun t510 => (if t510 < 0 then (some false) else (if t510 = bt508.1 then ((laws_toRuleS.f k x1).bind fun t511 => ((impl_LeftReduced.f k x0 t511).bind fun bt514 => ((laws_eqRuleS.f k bt514.1 x6).bind fun t518 => (if t518 = true then (laws_FnExactLeftReduced.j2 k bt508.2 bt508.1 (bt514.2 != x7)) else (laws_FnExactLeftReduced.j2 k bt508.2 bt508.1 true))))) else (some false)))))
def laws_FnExactLeftReduced.j2 : Nat → List (S25) → Int → Bool → Option (Bool)
 | 0, _, _, _ => none
 | k + 1, x9, x12, x92 => if x92 = true then (some false) else ((laws_heldRuleS.f k x9 1).bind fun t519 => (if t519 < 0 then (some false) else (if t519 = x12 then (some true) else (some false))))
end
def laws_FnExactLeftReduced.f (k : Nat) (a0 : Int) (l1 : List (S23)) : Option (Bool) := (laws_szRuleS.f l1 1048576).bind fun t485 => (if t485 < 0 then (some true) else ((laws_toRuleS.f k l1).bind fun t486 => ((spec_LeftReduced.f k a0 t486).bind fun bt489 => ((laws_toRuleS.f k l1).bind fun t493 => ((impl_LeftReduced.f k a0 t493).bind fun bt496 => ((laws_eqRuleS.f k bt496.1 bt489.1).bind fun t500 => (if t500 = true then (laws_FnExactLeftReduced.j0 k a0 l1 bt489.1 bt489.2 t493 bt496.1 bt496.2 (bt496.2 != bt489.2)) else (laws_FnExactLeftReduced.j0 k a0 l1 bt489.1 bt489.2 t493 bt496.1 bt496.2 true))))))))
theorem laws_FnExactLeftReduced.mono_l : ∀ k, (∀ y0 y1 y2 y3 y4 y5 y6 y7, LeO (laws_FnExactLeftReduced.j0 k y0 y1 y2 y3 y4 y5 y6 y7) (laws_FnExactLeftReduced.j0 (k + 1) y0 y1 y2 y3 y4 y5 y6 y7)) ∧ (∀ y0 y1 y2 y3 y4 y5, LeO (laws_FnExactLeftReduced.j1 k y0 y1 y2 y3 y4 y5) (laws_FnExactLeftReduced.j1 (k + 1) y0 y1 y2 y3 y4 y5)) ∧ (∀ y0 y1 y2, LeO (laws_FnExactLeftReduced.j2 k y0 y1 y2) (laws_FnExactLeftReduced.j2 (k + 1) y0 y1 y2))
 | 0 => ⟨fun _ _ _ _ _ _ _ _ r h => by simp [laws_FnExactLeftReduced.j0] at h, fun _ _ _ _ _ _ r h => by simp [laws_FnExactLeftReduced.j1] at h, fun _ _ _ r h => by simp [laws_FnExactLeftReduced.j2] at h⟩
 | k + 1 => by
  obtain ⟨ih0, ih1, ih2⟩ := laws_FnExactLeftReduced.mono_l k
  refine ⟨?_, ?_, ?_⟩
  ·
   intro y0 y1 y2 y3 y4 y5 y6 y7
   unfold laws_FnExactLeftReduced.j0
   repeat' first
   | (with_reducible exact ih0 _ _ _ _ _ _ _ _)
   | (with_reducible exact ih1 _ _ _ _ _ _)
   | (with_reducible exact ih2 _ _ _)
   | (with_reducible exact impl_LeftReduced.mono _ _ _)
   | (with_reducible exact laws_eqRuleS.mono _ _ _)
   | (with_reducible exact laws_heldRuleS.mono _ _ _)
   | (with_reducible exact laws_markRuleS.mono _ _ _)
   | (with_reducible exact laws_toRuleS.mono _ _)
   | (with_reducible exact spec_LeftReduced.mono _ _ _)
   | (with_reducible exact LeO.refl _)
   | (with_reducible exact LeO.none _)
   | (with_reducible refine LeO.ite ?_ ?_)
   | (with_reducible refine LeO.bind ?_ (fun _ => ?_))
   | exact ih0 _ _ _ _ _ _ _ _
   | exact ih1 _ _ _ _ _ _
   | exact ih2 _ _ _
   | exact impl_LeftReduced.mono _ _ _
   | exact laws_eqRuleS.mono _ _ _
   | exact laws_heldRuleS.mono _ _ _
   | exact laws_markRuleS.mono _ _ _
   | exact laws_toRuleS.mono _ _
   | exact spec_LeftReduced.mono _ _ _
   | exact LeO.none _
   | refine LeO.ite ?_ ?_
   | refine LeO.bind ?_ (fun _ => ?_)
  ·
   intro y0 y1 y2 y3 y4 y5
   unfold laws_FnExactLeftReduced.j1
   repeat' first
   | (with_reducible exact ih0 _ _ _ _ _ _ _ _)
   | (with_reducible exact ih1 _ _ _ _ _ _)
   | (with_reducible exact ih2 _ _ _)
   | (with_reducible exact impl_LeftReduced.mono _ _ _)
   | (with_reducible exact laws_eqRuleS.mono _ _ _)
   | (with_reducible exact laws_heldRuleS.mono _ _ _)
   | (with_reducible exact laws_markRuleS.mono _ _ _)
   | (with_reducible exact laws_toRuleS.mono _ _)
   | (with_reducible exact spec_LeftReduced.mono _ _ _)
   | (with_reducible exact LeO.refl _)
   | (with_reducible exact LeO.none _)
   | (with_reducible refine LeO.ite ?_ ?_)
   | (with_reducible refine LeO.bind ?_ (fun _ => ?_))
   | exact ih0 _ _ _ _ _ _ _ _
   | exact ih1 _ _ _ _ _ _
   | exact ih2 _ _ _
   | exact impl_LeftReduced.mono _ _ _
   | exact laws_eqRuleS.mono _ _ _
   | exact laws_heldRuleS.mono _ _ _
   | exact laws_markRuleS.mono _ _ _
   | exact laws_toRuleS.mono _ _
   | exact spec_LeftReduced.mono _ _ _
   | exact LeO.none _
   | refine LeO.ite ?_ ?_
   | refine LeO.bind ?_ (fun _ => ?_)
  ·
   intro y0 y1 y2
   unfold laws_FnExactLeftReduced.j2
   repeat' first
   | (with_reducible exact ih0 _ _ _ _ _ _ _ _)
   | (with_reducible exact ih1 _ _ _ _ _ _)
   | (with_reducible exact ih2 _ _ _)
   | (with_reducible exact impl_LeftReduced.mono _ _ _)
   | (with_reducible exact laws_eqRuleS.mono _ _ _)
   | (with_reducible exact laws_heldRuleS.mono _ _ _)
   | (with_reducible exact laws_markRuleS.mono _ _ _)
   | (with_reducible exact laws_toRuleS.mono _ _)
   | (with_reducible exact spec_LeftReduced.mono _ _ _)
   | (with_reducible exact LeO.refl _)
   | (with_reducible exact LeO.none _)
   | (with_reducible refine LeO.ite ?_ ?_)
   | (with_reducible refine LeO.bind ?_ (fun _ => ?_))
   | exact ih0 _ _ _ _ _ _ _ _
   | exact ih1 _ _ _ _ _ _
   | exact ih2 _ _ _
   | exact impl_LeftReduced.mono _ _ _
   | exact laws_eqRuleS.mono _ _ _
   | exact laws_heldRuleS.mono _ _ _
   | exact laws_markRuleS.mono _ _ _
   | exact laws_toRuleS.mono _ _
   | exact spec_LeftReduced.mono _ _ _
   | exact LeO.none _
   | refine LeO.ite ?_ ?_
   | refine LeO.bind ?_ (fun _ => ?_)
theorem laws_FnExactLeftReduced.mono : ∀ a0 a1 k, LeO (laws_FnExactLeftReduced.f k a0 a1) (laws_FnExactLeftReduced.f (k + 1) a0 a1) := by
 intro a0 a1 k
 obtain ⟨ih0, ih1, ih2⟩ := laws_FnExactLeftReduced.mono_l k
 unfold laws_FnExactLeftReduced.f
 repeat' first
   | (with_reducible exact ih0 _ _ _ _ _ _ _ _)
   | (with_reducible exact ih1 _ _ _ _ _ _)
   | (with_reducible exact ih2 _ _ _)
   | (with_reducible exact impl_LeftReduced.mono _ _ _)
   | (with_reducible exact laws_eqRuleS.mono _ _ _)
   | (with_reducible exact laws_heldRuleS.mono _ _ _)
   | (with_reducible exact laws_markRuleS.mono _ _ _)
   | (with_reducible exact laws_toRuleS.mono _ _)
   | (with_reducible exact spec_LeftReduced.mono _ _ _)
   | (with_reducible exact LeO.refl _)
   | (with_reducible exact LeO.none _)
   | (with_reducible refine LeO.ite ?_ ?_)
   | (with_reducible refine LeO.bind ?_ (fun _ => ?_))
   | exact ih0 _ _ _ _ _ _ _ _
   | exact ih1 _ _ _ _ _ _
   | exact ih2 _ _ _
   | exact impl_LeftReduced.mono _ _ _
   | exact laws_eqRuleS.mono _ _ _
   | exact laws_heldRuleS.mono _ _ _
   | exact laws_markRuleS.mono _ _ _
   | exact laws_toRuleS.mono _ _
   | exact spec_LeftReduced.mono _ _ _
   | exact LeO.none _
   | refine LeO.ite ?_ ?_
   | refine LeO.bind ?_ (fun _ => ?_)
set_option maxHeartbeats 8000000 in
set_option maxRecDepth 100000 in
theorem laws_FnExactLeftReduced.calls (k : Nat) (a0 : Int) (A1 : Option Addr) (c1 : Nat) (l1 : List (S23)) (r : Bool) (w : World) (hr1 : Kd.C k23 w A1 l1.length l1) (hc1 : l1.length ≤ c1) (h : laws_FnExactLeftReduced.f k a0 l1 = some r) :
  Calls Try.prog 13 #[.int .i64 a0, .slice A1 l1.length c1] w fun e w' => e = .returned (.bool r) ∧ Below w.heap.size w w' := by
 have HR1 := Aside0.mk hr1
 have HC1 := Aside0.mk hc1
 clear hr1 hc1
 have HB := Aside0.mk (Below.refl w.heap.size w)
 have H : ((laws_szRuleS.f l1 1048576).bind fun t485 => (if t485 < 0 then (some true) else ((laws_toRuleS.f k l1).bind fun t486 => ((spec_LeftReduced.f k a0 t486).bind fun bt489 => ((laws_toRuleS.f k l1).bind fun t493 => ((impl_LeftReduced.f k a0 t493).bind fun bt496 => ((laws_eqRuleS.f k bt496.1 bt489.1).bind fun t500 => (if t500 = true then (laws_FnExactLeftReduced.j0 k a0 l1 bt489.1 bt489.2 t493 bt496.1 bt496.2 (bt496.2 != bt489.2)) else (laws_FnExactLeftReduced.j0 k a0 l1 bt489.1 bt489.2 t493 bt496.1 bt496.2 true))))))))) = some r := h
 clear h
 replace H := Option.bind_eq_some_iff.mp H
 obtain ⟨t485, A30, H⟩ := H
 replace H : (if t485 < 0 then (some true) else ((laws_toRuleS.f k l1).bind fun t486 => ((spec_LeftReduced.f k a0 t486).bind fun bt489 => ((laws_toRuleS.f k l1).bind fun t493 => ((impl_LeftReduced.f k a0 t493).bind fun bt496 => ((laws_eqRuleS.f k bt496.1 bt489.1).bind fun t500 => (if t500 = true then (laws_FnExactLeftReduced.j0 k a0 l1 bt489.1 bt489.2 t493 bt496.1 bt496.2 (bt496.2 != bt489.2)) else (laws_FnExactLeftReduced.j0 k a0 l1 bt489.1 bt489.2 t493 bt496.1 bt496.2 true)))))))) = some r := H
 have A3 := Aside0.mk A30
 clear A30
 by_cases c4 : t485 < 0
 ·
  rw [if_pos c4] at H
  have c4b0 : decide (t485 < 0) = true := decide_eq_true c4
  clear c4
  obtain rfl := Option.some.inj H
  go_enter Try.func13, Try.ntmps13
  go_wp2_with (first | ((with_reducible refine gate_callee (f := 18) rfl ?_); refine goesL_ (some 18) rfl rfl Try.func18 q30_24 rfl #[.slice A1 l1.length c1, .int .i64 1048576] rfl q30_11 ?_; (with_reducible refine (laws_szRuleS.calls _ _ l1 1048576 t485 _ ?side1 ?side2 A3.out).mono ?_); (case side1 => exact q30_10); (case side2 => exact HC1.out); rintro e w' ⟨rfl, ⟨nd, rfl⟩⟩; refine ⟨_, rfl, ?_⟩))
  go_ret
  exact ⟨by first | rfl | (simp [errW_none, errW_some] <;> rfl) | (simp [*, errW_none, errW_some] <;> rfl), by repeat (first | (with_reducible first | exact HB.out | apply below_alloc | apply pw_below_drewN | apply below_drew1) | exact HB.out)⟩
 ·
  rw [if_neg c4] at H
  have c4b0 : decide (t485 < 0) = false := decide_eq_false c4
  clear c4
  replace H := Option.bind_eq_some_iff.mp H
  obtain ⟨t486, A50, H⟩ := H
  replace H : ((spec_LeftReduced.f k a0 t486).bind fun bt489 => ((laws_toRuleS.f k l1).bind fun t493 => ((impl_LeftReduced.f k a0 t493).bind fun bt496 => ((laws_eqRuleS.f k bt496.1 bt489.1).bind fun t500 => (if t500 = true then (laws_FnExactLeftReduced.j0 k a0 l1 bt489.1 bt489.2 t493 bt496.1 bt496.2 (bt496.2 != bt489.2)) else (laws_FnExactLeftReduced.j0 k a0 l1 bt489.1 bt489.2 t493 bt496.1 bt496.2 true)))))) = some r := H
  have A5 := Aside0.mk A50
  clear A50
  replace H := Option.bind_eq_some_iff.mp H
  obtain ⟨⟨t489, t490⟩, A60, H⟩ := H
  replace H : ((laws_toRuleS.f k l1).bind fun t493 => ((impl_LeftReduced.f k a0 t493).bind fun bt496 => ((laws_eqRuleS.f k bt496.1 t489).bind fun t500 => (if t500 = true then (laws_FnExactLeftReduced.j0 k a0 l1 t489 t490 t493 bt496.1 bt496.2 (bt496.2 != t490)) else (laws_FnExactLeftReduced.j0 k a0 l1 t489 t490 t493 bt496.1 bt496.2 true))))) = some r := H
  have A6 := Aside0.mk A60
  clear A60
  replace H := Option.bind_eq_some_iff.mp H
  obtain ⟨t493, A70, H⟩ := H
  replace H : ((impl_LeftReduced.f k a0 t493).bind fun bt496 => ((laws_eqRuleS.f k bt496.1 t489).bind fun t500 => (if t500 = true then (laws_FnExactLeftReduced.j0 k a0 l1 t489 t490 t493 bt496.1 bt496.2 (bt496.2 != t490)) else (laws_FnExactLeftReduced.j0 k a0 l1 t489 t490 t493 bt496.1 bt496.2 true)))) = some r := H
  have A7 := Aside0.mk A70
  clear A70
  replace H := Option.bind_eq_some_iff.mp H
  obtain ⟨⟨t496, t497⟩, A80, H⟩ := H
  replace H : ((laws_eqRuleS.f k t496 t489).bind fun t500 => (if t500 = true then (laws_FnExactLeftReduced.j0 k a0 l1 t489 t490 t493 t496 t497 (t497 != t490)) else (laws_FnExactLeftReduced.j0 k a0 l1 t489 t490 t493 t496 t497 true))) = some r := H
  have A8 := Aside0.mk A80
  clear A80
  have HC9 := Aside0.mk H
  clear H
  go_enter Try.func13, Try.ntmps13
  go_upto_region 8 with (first | ((with_reducible refine gate_callee (f := 18) rfl ?_); refine goesL_ (some 18) rfl rfl Try.func18 q30_24 rfl #[.slice A1 l1.length c1, .int .i64 1048576] rfl q30_11 ?_; (with_reducible refine (laws_szRuleS.calls _ _ l1 1048576 t485 _ ?side1 ?side2 A3.out).mono ?_); (case side1 => exact q30_10); (case side2 => exact HC1.out); rintro e w' ⟨rfl, ⟨nd, rfl⟩⟩; refine ⟨_, rfl, ?_⟩) | ((with_reducible refine gate_callee (f := 20) rfl ?_); refine goesL_ (some 24) rfl rfl Try.func20 q30_24 rfl #[.slice A1 l1.length c1] rfl q30_11 ?_; (with_reducible refine (laws_toRuleS.calls k _ _ l1 t486 _ ?side1 ?side2 A5.out).mono ?_); (case side1 => exact q30_10); (case side2 => exact HC1.out); rintro e w10 ⟨v487, rfl, ho0, hb⟩; refine ⟨_, rfl, ?_⟩; have n0_ := Aside0.mk (Kd.R_lower ho0 (below_size q30_12)); have n1_ := Aside0.mk (below_step q30_12 hb); clear HB; have HO488 := n0_; have HB := n1_; clear n0_ n1_; (try clear hb); (try clear hb2); (try clear hk); (try clear hi); (try clear ho0); obtain ⟨Ao11, co11, eo11⟩ := Kd.R_slice HO488.out; subst eo11) | ((with_reducible refine gate_callee (f := 42) rfl ?_); refine goesL_ (some 25) rfl rfl Try.func42 q30_24 rfl #[.int .i64 a0, .slice Ao11 t486.length co11] rfl q30_11 ?_; (with_reducible refine (spec_LeftReduced.calls k a0 _ _ t486 t489 t490 _ ?side1 ?side2 A6.out).mono ?_); (case side1 => repeat (first | exact (Kd.R_reads' HO488.out).2.2 | (with_reducible refine Kd.C_alloc ?_ _) | (with_reducible refine Kd.C_drewN ?_ _) | (with_reducible refine Kd.C_drew ?_))); (case side2 => exact (Kd.R_reads' HO488.out).2.1); rintro e w12 ⟨v491, rfl, ho0, hb⟩; refine ⟨_, rfl, ?_⟩; have n0_ := Aside0.mk (Kd.R_elder' q30_13 (Kd.R_base ho0) hb); have n1_ := Aside0.mk (Kd.R_lower (Kd.R_new' ho0 (Kd.R_lt q30_13)) (below_size q30_12)); have n2_ := Aside0.mk (below_step q30_12 hb); clear HO488; clear HB; have HO488 := n0_; have HO492 := n1_; have HB := n2_; clear n0_ n1_ n2_; (try clear hb); (try clear hb2); (try clear hk); (try clear hi); (try clear ho0)) | ((with_reducible refine gate_callee (f := 20) rfl ?_); refine goesL_ (some 29) rfl rfl Try.func20 q30_24 rfl #[.slice A1 l1.length c1] rfl q30_11 ?_; (with_reducible refine (laws_toRuleS.calls k _ _ l1 t493 _ ?side1 ?side2 A7.out).mono ?_); (case side1 => exact q30_2); (case side2 => exact HC1.out); rintro e w13 ⟨v494, rfl, ho0, hb⟩; refine ⟨_, rfl, ?_⟩; have n0_ := Aside0.mk (Kd.R_elder' q30_13 (Kd.R_base ho0) hb); have n1_ := Aside0.mk (Kd.R_elder' q30_14 (Kd.R_base ho0) hb); have n2_ := Aside0.mk (Kd.R_lower (Kd.R_new' (Kd.R_new' ho0 (Kd.R_lt q30_13)) (Kd.R_lt q30_14)) (below_size q30_12)); have n3_ := Aside0.mk (below_step q30_12 hb); clear HO488; clear HO492; clear HB; have HO488 := n0_; have HO492 := n1_; have HO495 := n2_; have HB := n3_; clear n0_ n1_ n2_ n3_; (try clear hb); (try clear hb2); (try clear hk); (try clear hi); (try clear ho0); obtain ⟨Ao14, co14, eo14⟩ := Kd.R_slice HO495.out; subst eo14) | ((with_reducible refine gate_callee (f := 43) rfl ?_); refine goesL_ (some 33) rfl rfl Try.func43 q30_24 rfl #[.int .i64 a0, .slice Ao14 t493.length co14] rfl q30_11 ?_; (with_reducible refine (impl_LeftReduced.calls k a0 _ _ t493 t496 t497 _ ?side1 ?side2 A8.out).mono ?_); (case side1 => repeat (first | exact (Kd.R_reads' HO495.out).2.2 | (with_reducible refine Kd.C_alloc ?_ _) | (with_reducible refine Kd.C_drewN ?_ _) | (with_reducible refine Kd.C_drew ?_))); (case side2 => exact (Kd.R_reads' HO495.out).2.1); rintro e w15 ⟨v498, rfl, ho0, hb⟩; refine ⟨_, rfl, ?_⟩; have n0_ := Aside0.mk (Kd.R_elder' q30_13 (Kd.R_base ho0) hb); have n1_ := Aside0.mk (Kd.R_elder' q30_14 (Kd.R_base ho0) hb); have n2_ := Aside0.mk (Kd.R_elder' q30_15 (Kd.R_base ho0) hb); have n3_ := Aside0.mk (Kd.R_lower (Kd.R_new' (Kd.R_new' (Kd.R_new' ho0 (Kd.R_lt q30_13)) (Kd.R_lt q30_14)) (Kd.R_lt q30_15)) (below_size q30_12)); have n4_ := Aside0.mk (below_step q30_12 hb); clear HO488; clear HO492; clear HO495; clear HB; have HO488 := n0_; have HO492 := n1_; have HO495 := n2_; have HO499 := n3_; have HB := n4_; clear n0_ n1_ n2_ n3_ n4_; (try clear hb); (try clear hb2); (try clear hk); (try clear hi); (try clear ho0)))
  (try simp only [Act.put, List.setIfInBounds_toArray, List.set_cons_zero, List.set_cons_succ])
  go_cut [44] (fun v44 wc => ∃ (kq : Nat) (x44_8 : Bool), v44 = .bool x44_8 ∧ Aside0 (laws_FnExactLeftReduced.j0 kq a0 l1 t489 t490 t493 t496 t497 x44_8 = some r) ∧ Aside0 (kq ≤ k) ∧ Aside0 (Kd.R k25 25 wc w.heap.size (fun k_ => some k_ ≠ ((.slice Ao14 t493.length co14) : Value).ownBlock ∧ some k_ ≠ (v498 : Value).ownBlock) v491 t489) ∧ Aside0 (Kd.R k25 25 wc w.heap.size (fun k_ => some k_ ≠ (v491 : Value).ownBlock ∧ some k_ ≠ (v498 : Value).ownBlock) (.slice Ao14 t493.length co14) t493) ∧ Aside0 (Kd.R k25 25 wc w.heap.size (fun k_ => some k_ ≠ (v491 : Value).ownBlock ∧ some k_ ≠ ((.slice Ao14 t493.length co14) : Value).ownBlock) v498 t496) ∧ Aside0 (Below w.heap.size w wc))
  case first =>
   have H := HC9.out
   clear HC9
   replace H := Option.bind_eq_some_iff.mp H
   obtain ⟨t500, A160, H⟩ := H
   replace H : (if t500 = true then (laws_FnExactLeftReduced.j0 k a0 l1 t489 t490 t493 t496 t497 (t497 != t490)) else (laws_FnExactLeftReduced.j0 k a0 l1 t489 t490 t493 t496 t497 true)) = some r := H
   have A16 := Aside0.mk A160
   clear A160
   by_cases c17 : t500 = true
   ·
    subst c17
    have H1 : (laws_FnExactLeftReduced.j0 k a0 l1 t489 t490 t493 t496 t497 (t497 != t490)) = some r := q30_23
    clear H
    have H := H1
    clear H1
    have H' := Aside0.mk H
    clear H
    obtain ⟨Ao18, co18, eo18⟩ := Kd.R_slice HO499.out
    subst eo18
    obtain ⟨Ao19, co19, eo19⟩ := Kd.R_slice HO492.out
    subst eo19
    go_wp2_with (first | ((with_reducible refine gate_callee (f := 22) rfl ?_); refine goesL_ (some 38) rfl rfl Try.func22 q30_24 rfl #[.slice Ao18 t496.length co18, .slice Ao19 t489.length co19] rfl q30_11 ?_; (with_reducible refine (laws_eqRuleS.calls k _ _ t496 _ _ t489 true _ ?side1 ?side2 ?side3 ?side4 A16.out).mono ?_); (case side1 => exact q30_4); (case side2 => exact (Kd.R_reads' HO499.out).2.1); (case side3 => exact q30_3); (case side4 => exact (Kd.R_reads' HO492.out).2.1); rintro e w20 ⟨rfl, hb⟩; refine ⟨_, rfl, ?_⟩; have n0_ := Aside0.mk (Kd.R_below q30_13 hb); have n1_ := Aside0.mk (Kd.R_below q30_14 hb); have n2_ := Aside0.mk (Kd.R_below q30_15 hb); have n3_ := Aside0.mk (Kd.R_below (by (with_reducible repeat (first | apply Kd.R_alloc | apply Kd.R_drewN | apply Kd.R_drew)); exact HO499.out) hb); have n4_ := Aside0.mk (below_step q30_12 hb); clear HO488; clear HO492; clear HO495; clear HO499; clear HB; have HO488 := n0_; have HO492 := n1_; have HO495 := n2_; have HO499 := n3_; have HB := n4_; clear n0_ n1_ n2_ n3_ n4_; (try clear hb); (try clear hb2); (try clear hk); (try clear hi)))
    go_meet
    case rel => exact ⟨_, ((t497 != t490)), q30_22, H', ⟨by first | omega | exact Nat.le_refl _⟩, ⟨by (with_reducible repeat (first | apply Kd.R_alloc | apply Kd.R_drewN | apply Kd.R_drew)); exact Kd.R_mono HO492.out (fun _ hk => ⟨hk.1.2, hk.2⟩)⟩, ⟨by (with_reducible repeat (first | apply Kd.R_alloc | apply Kd.R_drewN | apply Kd.R_drew)); exact Kd.R_mono HO495.out (fun _ hk => ⟨hk.1.2, hk.2⟩)⟩, ⟨by (with_reducible repeat (first | apply Kd.R_alloc | apply Kd.R_drewN | apply Kd.R_drew)); exact Kd.R_mono HO499.out (fun _ hk => ⟨hk.1.2, hk.2⟩)⟩, ⟨by repeat (first | (with_reducible first | exact HB.out | apply below_alloc | apply pw_below_drewN | apply below_drew1) | exact HB.out)⟩⟩
   ·
    replace c17 := Bool.eq_false_iff.mpr c17
    subst c17
    have H1 : (laws_FnExactLeftReduced.j0 k a0 l1 t489 t490 t493 t496 t497 true) = some r := q30_21
    clear H
    have H := H1
    clear H1
    have H' := Aside0.mk H
    clear H
    obtain ⟨Ao21, co21, eo21⟩ := Kd.R_slice HO499.out
    subst eo21
    obtain ⟨Ao22, co22, eo22⟩ := Kd.R_slice HO492.out
    subst eo22
    go_wp2_with (first | ((with_reducible refine gate_callee (f := 22) rfl ?_); refine goesL_ (some 38) rfl rfl Try.func22 q30_24 rfl #[.slice Ao21 t496.length co21, .slice Ao22 t489.length co22] rfl q30_11 ?_; (with_reducible refine (laws_eqRuleS.calls k _ _ t496 _ _ t489 false _ ?side1 ?side2 ?side3 ?side4 A16.out).mono ?_); (case side1 => exact q30_4); (case side2 => exact (Kd.R_reads' HO499.out).2.1); (case side3 => exact q30_3); (case side4 => exact (Kd.R_reads' HO492.out).2.1); rintro e w23 ⟨rfl, hb⟩; refine ⟨_, rfl, ?_⟩; have n0_ := Aside0.mk (Kd.R_below q30_13 hb); have n1_ := Aside0.mk (Kd.R_below q30_14 hb); have n2_ := Aside0.mk (Kd.R_below q30_15 hb); have n3_ := Aside0.mk (Kd.R_below (by (with_reducible repeat (first | apply Kd.R_alloc | apply Kd.R_drewN | apply Kd.R_drew)); exact HO499.out) hb); have n4_ := Aside0.mk (below_step q30_12 hb); clear HO488; clear HO492; clear HO495; clear HO499; clear HB; have HO488 := n0_; have HO492 := n1_; have HO495 := n2_; have HO499 := n3_; have HB := n4_; clear n0_ n1_ n2_ n3_ n4_; (try clear hb); (try clear hb2); (try clear hk); (try clear hi)))
    go_meet
    case rel => exact ⟨_, (true), q30_22, H', ⟨by first | omega | exact Nat.le_refl _⟩, ⟨by (with_reducible repeat (first | apply Kd.R_alloc | apply Kd.R_drewN | apply Kd.R_drew)); exact Kd.R_mono HO492.out (fun _ hk => ⟨hk.1.2, hk.2⟩)⟩, ⟨by (with_reducible repeat (first | apply Kd.R_alloc | apply Kd.R_drewN | apply Kd.R_drew)); exact Kd.R_mono HO495.out (fun _ hk => ⟨hk.1.2, hk.2⟩)⟩, ⟨by (with_reducible repeat (first | apply Kd.R_alloc | apply Kd.R_drewN | apply Kd.R_drew)); exact Kd.R_mono HO499.out (fun _ hk => ⟨hk.1.2, hk.2⟩)⟩, ⟨by repeat (first | (with_reducible first | exact HB.out | apply below_alloc | apply pw_below_drewN | apply below_drew1) | exact HB.out)⟩⟩
  case rest =>
   clear HC9
   try clear c1
   try clear c2
   try clear p2
   try clear c4
   try clear c4b0
   try clear c13
   try clear c17
   try clear c18
   try clear c20
   try clear c22
   obtain ⟨kq, x44_8, rfl, HA, HJ8, HO_6, HO_8, HO_9, HB⟩ := hcut
   cases kq with
   | zero => exact absurd HA.out (by simp [laws_FnExactLeftReduced.j0])
   | succ kj8 =>
    have H := HA.out
    clear HA
    simp only [laws_FnExactLeftReduced.j0] at H
    by_cases c24 : x44_8 = true
    ·
     subst c24
     have H1 : (some false) = some r := q30_23
     clear H
     have H := H1
     clear H1
     obtain rfl := Option.some.inj H
     go_wp2
     go_ret
     exact ⟨by first | rfl | (simp [errW_none, errW_some] <;> rfl) | (simp [*, errW_none, errW_some] <;> rfl), by repeat (first | (with_reducible first | exact HB.out | apply below_alloc | apply pw_below_drewN | apply below_drew1) | exact HB.out)⟩
    ·
     replace c24 := Bool.eq_false_iff.mpr c24
     subst c24
     have H1 : ((laws_toRuleS.f kj8 l1).bind fun t501 => ((laws_eqRuleS.f kj8 t493 t501).bind fun t504 => (if t504 = true then ((laws_markRuleS.f kj8 t493 1).bind fun bt505 => (if bt505.1 < 0 then (laws_FnExactLeftReduced.j1 kj8 a0 l1 t489 t490 t496 true) else ((laws_eqRuleS.f kj8 t496 t489).bind fun t507 => (if t507 = true then (laws_FnExactLeftReduced.j1 kj8 a0 l1 t489 t490 t496 (t497 != t490)) else (laws_FnExactLeftReduced.j1 kj8 a0 l1 t489 t490 t496 true))))) else (some false)))) = some r := q30_21
     clear H
     have H := H1
     clear H1
     replace H := Option.bind_eq_some_iff.mp H
     obtain ⟨t501, A250, H⟩ := H
     replace H : ((laws_eqRuleS.f kj8 t493 t501).bind fun t504 => (if t504 = true then ((laws_markRuleS.f kj8 t493 1).bind fun bt505 => (if bt505.1 < 0 then (laws_FnExactLeftReduced.j1 kj8 a0 l1 t489 t490 t496 true) else ((laws_eqRuleS.f kj8 t496 t489).bind fun t507 => (if t507 = true then (laws_FnExactLeftReduced.j1 kj8 a0 l1 t489 t490 t496 (t497 != t490)) else (laws_FnExactLeftReduced.j1 kj8 a0 l1 t489 t490 t496 true))))) else (some false))) = some r := H
     have A25 := Aside0.mk A250
     clear A250
     replace H := Option.bind_eq_some_iff.mp H
     obtain ⟨t504, A260, H⟩ := H
     replace H : (if t504 = true then ((laws_markRuleS.f kj8 t493 1).bind fun bt505 => (if bt505.1 < 0 then (laws_FnExactLeftReduced.j1 kj8 a0 l1 t489 t490 t496 true) else ((laws_eqRuleS.f kj8 t496 t489).bind fun t507 => (if t507 = true then (laws_FnExactLeftReduced.j1 kj8 a0 l1 t489 t490 t496 (t497 != t490)) else (laws_FnExactLeftReduced.j1 kj8 a0 l1 t489 t490 t496 true))))) else (some false)) = some r := H
     have A26 := Aside0.mk A260
     clear A260
     by_cases c27 : t504 = true
     ·
      subst c27
      have H1 : ((laws_markRuleS.f kj8 t493 1).bind fun bt505 => (if bt505.1 < 0 then (laws_FnExactLeftReduced.j1 kj8 a0 l1 t489 t490 t496 true) else ((laws_eqRuleS.f kj8 t496 t489).bind fun t507 => (if t507 = true then (laws_FnExactLeftReduced.j1 kj8 a0 l1 t489 t490 t496 (t497 != t490)) else (laws_FnExactLeftReduced.j1 kj8 a0 l1 t489 t490 t496 true))))) = some r := q30_23
      clear H
      have H := H1
      clear H1
      replace H := Option.bind_eq_some_iff.mp H
      obtain ⟨⟨t505, t506⟩, A280, H⟩ := H
      replace H : (if t505 < 0 then (laws_FnExactLeftReduced.j1 kj8 a0 l1 t489 t490 t496 true) else ((laws_eqRuleS.f kj8 t496 t489).bind fun t507 => (if t507 = true then (laws_FnExactLeftReduced.j1 kj8 a0 l1 t489 t490 t496 (t497 != t490)) else (laws_FnExactLeftReduced.j1 kj8 a0 l1 t489 t490 t496 true)))) = some r := H
      have A28 := Aside0.mk A280
      clear A280
      have HC29 := Aside0.mk H
      clear H
      go_upto_region 14 with (first | ((with_reducible refine gate_callee (f := 20) rfl ?_); refine goesL_ (some 47) rfl rfl Try.func20 q30_24 rfl #[.slice A1 l1.length c1] rfl q30_11 ?_; (with_reducible refine (laws_toRuleS.calls kj8 _ _ l1 t501 _ ?side1 ?side2 A25.out).mono ?_); (case side1 => exact q30_2); (case side2 => exact HC1.out); rintro e w30 ⟨v502, rfl, ho0, hb⟩; refine ⟨_, rfl, ?_⟩; have n0_ := Aside0.mk (Kd.R_elder' q30_18 (Kd.R_base ho0) hb); have n1_ := Aside0.mk (Kd.R_elder' q30_19 (Kd.R_base ho0) hb); have n2_ := Aside0.mk (Kd.R_elder' q30_20 (Kd.R_base ho0) hb); have n3_ := Aside0.mk (Kd.R_lower (Kd.R_new' (Kd.R_new' (Kd.R_new' ho0 (Kd.R_lt q30_18)) (Kd.R_lt q30_19)) (Kd.R_lt q30_20)) (below_size q30_12)); have n4_ := Aside0.mk (below_step q30_12 hb); clear HO_6; clear HO_8; clear HO_9; clear HB; have HO_6 := n0_; have HO_8 := n1_; have HO_9 := n2_; have HO503 := n3_; have HB := n4_; clear n0_ n1_ n2_ n3_ n4_; (try clear hb); (try clear hb2); (try clear hk); (try clear hi); (try clear ho0); obtain ⟨Ao31, co31, eo31⟩ := Kd.R_slice HO503.out; subst eo31) | ((with_reducible refine gate_callee (f := 22) rfl ?_); refine goesL_ (some 48) rfl rfl Try.func22 q30_24 rfl #[.slice Ao14 t493.length co14, .slice Ao31 t501.length co31] rfl q30_11 ?_; (with_reducible refine (laws_eqRuleS.calls kj8 _ _ t493 _ _ t501 true _ ?side1 ?side2 ?side3 ?side4 A26.out).mono ?_); (case side1 => exact q30_8); (case side2 => exact (Kd.R_reads' HO_8.out).2.1); (case side3 => exact q30_5); (case side4 => exact (Kd.R_reads' HO503.out).2.1); rintro e w32 ⟨rfl, hb⟩; refine ⟨_, rfl, ?_⟩; have n0_ := Aside0.mk (Kd.R_below q30_18 hb); have n1_ := Aside0.mk (Kd.R_below q30_19 hb); have n2_ := Aside0.mk (Kd.R_below q30_20 hb); have n3_ := Aside0.mk (Kd.R_below q30_16 hb); have n4_ := Aside0.mk (below_step q30_12 hb); clear HO_6; clear HO_8; clear HO_9; clear HO503; clear HB; have HO_6 := n0_; have HO_8 := n1_; have HO_9 := n2_; have HO503 := n3_; have HB := n4_; clear n0_ n1_ n2_ n3_ n4_; (try clear hb); (try clear hb2); (try clear hk); (try clear hi)) | ((with_reducible refine gate_callee (f := 44) rfl ?_); refine goesL_ (some 52) rfl rfl Try.func44 q30_24 rfl #[.slice Ao14 t493.length co14, .int .i64 1] rfl q30_11 ?_; (with_reducible refine (laws_markRuleS.calls kj8 (fun k_ => some k_ = (.slice Ao14 t493.length co14 : Value).ownBlock) (.slice Ao14 t493.length co14) t493 1 t505 t506 w _ ?side1 ?side2 A28.out).mono ?_); (case side1 => exact q30_12); (case side2 => exact Kd.R_tight rfl HO_8.out); rintro e w33 ⟨rfl, hy0, hb, hkp⟩; refine ⟨_, rfl, ?_⟩; have n0_ := Aside0.mk (Kd.R_mono (ok' := fun k_ => some k_ ≠ (.slice Ao14 t493.length co14 : Value).ownBlock ∧ some k_ ≠ (v498 : Value).ownBlock ∧ some k_ ≠ (.slice Ao31 t501.length co31 : Value).ownBlock) (Kd.R_keptB (HO_6.out) hkp (fun k_ hk_ hs_ => (hk_.1.1) hs_)) (fun k_ hk_ => ⟨hk_.1.1.1, hk_.1.1.2, hk_.1.2⟩)); have n1_ := Aside0.mk (Kd.R_reok rfl hy0 (fun k_ e_ => HO_8.out.1 k_ e_)); have n2_ := Aside0.mk (Kd.R_mono (ok' := fun k_ => some k_ ≠ (v491 : Value).ownBlock ∧ some k_ ≠ (.slice Ao14 t493.length co14 : Value).ownBlock ∧ some k_ ≠ (.slice Ao31 t501.length co31 : Value).ownBlock) (Kd.R_keptB (HO_9.out) hkp (fun k_ hk_ hs_ => (hk_.1.2) hs_)) (fun k_ hk_ => ⟨hk_.1.1.1, hk_.1.1.2, hk_.1.2⟩)); have n3_ := Aside0.mk (Kd.R_mono (ok' := fun k_ => some k_ ≠ (v491 : Value).ownBlock ∧ some k_ ≠ (.slice Ao14 t493.length co14 : Value).ownBlock ∧ some k_ ≠ (v498 : Value).ownBlock) (Kd.R_keptB (HO503.out) hkp (fun k_ hk_ hs_ => (hk_.1.2) hs_)) (fun k_ hk_ => ⟨hk_.1.1.1.2, hk_.1.1.2, hk_.1.2⟩)); have n4_ := Aside0.mk (hb); clear HO_6; clear HO_8; clear HO_9; clear HO503; clear HB; have HO_6 := n0_; have HO_8 := n1_; have HO_9 := n2_; have HO503 := n3_; have HB := n4_; clear n0_ n1_ n2_ n3_ n4_; (try clear hb); (try clear hkp); (try clear hy0)))
      (try simp only [Act.put, List.setIfInBounds_toArray, List.set_cons_zero, List.set_cons_succ])
      go_cut [65] (fun v65 wc => ∃ (kq : Nat) (x65_28 : Bool), v65 = .bool x65_28 ∧ Aside0 (laws_FnExactLeftReduced.j1 kq a0 l1 t489 t490 t496 x65_28 = some r) ∧ Aside0 (kq ≤ kj8) ∧ Aside0 (Kd.R k25 25 wc w.heap.size (fun k_ => some k_ ≠ (v498 : Value).ownBlock) v491 t489) ∧ Aside0 (Kd.R k25 25 wc w.heap.size (fun k_ => some k_ ≠ (v491 : Value).ownBlock) v498 t496) ∧ Aside0 (Below w.heap.size w wc))
      case first =>
       have H := HC29.out
       clear HC29
       by_cases c34 : t505 < 0
       ·
        rw [if_pos c34] at H
        have c34b0 : decide (t505 < 0) = true := decide_eq_true c34
        clear c34
        (first | rw [c34b0] | (simp only [i64_w, i32_w]; rw [c34b0]) | skip)
        have H' := Aside0.mk H
        clear H
        go_wp2
        go_meet
        case rel => exact ⟨_, (true), q30_22, H', ⟨by have := HJ8.out; first | omega | exact Nat.le_refl _⟩, ⟨by (with_reducible repeat (first | apply Kd.R_alloc | apply Kd.R_drewN | apply Kd.R_drew)); exact Kd.R_mono HO_6.out (fun _ hk => hk.2.1)⟩, ⟨by (with_reducible repeat (first | apply Kd.R_alloc | apply Kd.R_drewN | apply Kd.R_drew)); exact Kd.R_mono HO_9.out (fun _ hk => hk.1)⟩, ⟨by repeat (first | (with_reducible first | exact HB.out | apply below_alloc | apply pw_below_drewN | apply below_drew1) | exact HB.out)⟩⟩
       ·
        rw [if_neg c34] at H
        have c34b0 : decide (t505 < 0) = false := decide_eq_false c34
        clear c34
        (first | rw [c34b0] | (simp only [i64_w, i32_w]; rw [c34b0]) | skip)
        replace H := Option.bind_eq_some_iff.mp H
        obtain ⟨t507, A350, H⟩ := H
        replace H : (if t507 = true then (laws_FnExactLeftReduced.j1 kj8 a0 l1 t489 t490 t496 (t497 != t490)) else (laws_FnExactLeftReduced.j1 kj8 a0 l1 t489 t490 t496 true)) = some r := H
        have A35 := Aside0.mk A350
        clear A350
        by_cases c36 : t507 = true
        ·
         subst c36
         have H1 : (laws_FnExactLeftReduced.j1 kj8 a0 l1 t489 t490 t496 (t497 != t490)) = some r := q30_23
         clear H
         have H := H1
         clear H1
         have H' := Aside0.mk H
         clear H
         obtain ⟨Ao37, co37, eo37⟩ := Kd.R_slice HO_9.out
         subst eo37
         obtain ⟨Ao38, co38, eo38⟩ := Kd.R_slice HO_6.out
         subst eo38
         go_wp2_with (first | (go_at_call 22; (with_reducible refine (laws_eqRuleS.calls kj8 _ _ t496 _ _ t489 true _ ?side1 ?side2 ?side3 ?side4 A35.out).mono ?_); (case side1 => exact q30_9); (case side2 => exact (Kd.R_reads' HO_9.out).2.1); (case side3 => exact q30_7); (case side4 => exact (Kd.R_reads' HO_6.out).2.1); rintro e w39 ⟨rfl, hb⟩; have n0_ := Aside0.mk (Kd.R_below q30_18 hb); have n1_ := Aside0.mk (Kd.R_below q30_19 hb); have n2_ := Aside0.mk (Kd.R_below q30_20 hb); have n3_ := Aside0.mk (Kd.R_below q30_16 hb); have n4_ := Aside0.mk (below_step q30_12 hb); clear HO_6; clear HO_8; clear HO_9; clear HO503; clear HB; have HO_6 := n0_; have HO_8 := n1_; have HO_9 := n2_; have HO503 := n3_; have HB := n4_; clear n0_ n1_ n2_ n3_ n4_; (try clear hb); (try clear hb2); (try clear hk); (try clear hi)))
         go_meet
         case rel => exact ⟨_, ((t497 != t490)), q30_22, H', ⟨by have := HJ8.out; first | omega | exact Nat.le_refl _⟩, ⟨by (with_reducible repeat (first | apply Kd.R_alloc | apply Kd.R_drewN | apply Kd.R_drew)); exact Kd.R_mono HO_6.out (fun _ hk => hk.2.1)⟩, ⟨by (with_reducible repeat (first | apply Kd.R_alloc | apply Kd.R_drewN | apply Kd.R_drew)); exact Kd.R_mono HO_9.out (fun _ hk => hk.1)⟩, ⟨by repeat (first | (with_reducible first | exact HB.out | apply below_alloc | apply pw_below_drewN | apply below_drew1) | exact HB.out)⟩⟩
        ·
         replace c36 := Bool.eq_false_iff.mpr c36
         subst c36
         have H1 : (laws_FnExactLeftReduced.j1 kj8 a0 l1 t489 t490 t496 true) = some r := q30_21
         clear H
         have H := H1
         clear H1
         have H' := Aside0.mk H
         clear H
         obtain ⟨Ao40, co40, eo40⟩ := Kd.R_slice HO_9.out
         subst eo40
         obtain ⟨Ao41, co41, eo41⟩ := Kd.R_slice HO_6.out
         subst eo41
         go_wp2_with (first | (go_at_call 22; (with_reducible refine (laws_eqRuleS.calls kj8 _ _ t496 _ _ t489 false _ ?side1 ?side2 ?side3 ?side4 A35.out).mono ?_); (case side1 => exact q30_9); (case side2 => exact (Kd.R_reads' HO_9.out).2.1); (case side3 => exact q30_7); (case side4 => exact (Kd.R_reads' HO_6.out).2.1); rintro e w42 ⟨rfl, hb⟩; have n0_ := Aside0.mk (Kd.R_below q30_18 hb); have n1_ := Aside0.mk (Kd.R_below q30_19 hb); have n2_ := Aside0.mk (Kd.R_below q30_20 hb); have n3_ := Aside0.mk (Kd.R_below q30_16 hb); have n4_ := Aside0.mk (below_step q30_12 hb); clear HO_6; clear HO_8; clear HO_9; clear HO503; clear HB; have HO_6 := n0_; have HO_8 := n1_; have HO_9 := n2_; have HO503 := n3_; have HB := n4_; clear n0_ n1_ n2_ n3_ n4_; (try clear hb); (try clear hb2); (try clear hk); (try clear hi)))
         go_meet
         case rel => exact ⟨_, (true), q30_22, H', ⟨by have := HJ8.out; first | omega | exact Nat.le_refl _⟩, ⟨by (with_reducible repeat (first | apply Kd.R_alloc | apply Kd.R_drewN | apply Kd.R_drew)); exact Kd.R_mono HO_6.out (fun _ hk => hk.2.1)⟩, ⟨by (with_reducible repeat (first | apply Kd.R_alloc | apply Kd.R_drewN | apply Kd.R_drew)); exact Kd.R_mono HO_9.out (fun _ hk => hk.1)⟩, ⟨by repeat (first | (with_reducible first | exact HB.out | apply below_alloc | apply pw_below_drewN | apply below_drew1) | exact HB.out)⟩⟩
      case rest =>
       clear HC29
       try clear c1
       try clear c2
       try clear p2
       try clear c3
       try clear c4
       try clear c4b0
       try clear c13
       try clear c17
       try clear c18
       try clear c20
       try clear c22
       try clear c24
       try clear c27
       try clear c34
       try clear c34b0
       try clear c36
       try clear c42
       try clear p2
       obtain ⟨kq, x65_28, rfl, HA, HJ28, HO_6, HO_9, HB⟩ := hcut
       cases kq with
       | zero => exact absurd HA.out (by simp [laws_FnExactLeftReduced.j1])
       | succ kj28 =>
        have H := HA.out
        clear HA
        simp only [laws_FnExactLeftReduced.j1] at H
        by_cases c43 : x65_28 = true
        ·
         subst c43
         have H1 : (some false) = some r := q30_23
         clear H
         have H := H1
         clear H1
         obtain rfl := Option.some.inj H
         go_wp2
         go_ret
         exact ⟨by first | rfl | (simp [errW_none, errW_some] <;> rfl) | (simp [*, errW_none, errW_some] <;> rfl), by repeat (first | (with_reducible first | exact HB.out | apply below_alloc | apply pw_below_drewN | apply below_drew1) | exact HB.out)⟩
        ·
         replace c43 := Bool.eq_false_iff.mpr c43
         subst c43
         have H1 : ((laws_markRuleS.f kj28 t496 1).bind fun bt508 => ((laws_heldRuleS.f kj28 bt508.2 1).bind fun t510 => (if t510 < 0 then (some false) else (if t510 = bt508.1 then ((laws_toRuleS.f kj28 l1).bind fun t511 => ((impl_LeftReduced.f kj28 a0 t511).bind fun bt514 => ((laws_eqRuleS.f kj28 bt514.1 t489).bind fun t518 => (if t518 = true then (laws_FnExactLeftReduced.j2 kj28 bt508.2 bt508.1 (bt514.2 != t490)) else (laws_FnExactLeftReduced.j2 kj28 bt508.2 bt508.1 true))))) else (some false))))) = some r := q30_21
         clear H
         have H := H1
         clear H1
         replace H := Option.bind_eq_some_iff.mp H
         obtain ⟨⟨t508, t509⟩, A440, H⟩ := H
         replace H : ((laws_heldRuleS.f kj28 t509 1).bind fun t510 => (if t510 < 0 then (some false) else (if t510 = t508 then ((laws_toRuleS.f kj28 l1).bind fun t511 => ((impl_LeftReduced.f kj28 a0 t511).bind fun bt514 => ((laws_eqRuleS.f kj28 bt514.1 t489).bind fun t518 => (if t518 = true then (laws_FnExactLeftReduced.j2 kj28 t509 t508 (bt514.2 != t490)) else (laws_FnExactLeftReduced.j2 kj28 t509 t508 true))))) else (some false)))) = some r := H
         have A44 := Aside0.mk A440
         clear A440
         replace H := Option.bind_eq_some_iff.mp H
         obtain ⟨t510, A450, H⟩ := H
         replace H : (if t510 < 0 then (some false) else (if t510 = t508 then ((laws_toRuleS.f kj28 l1).bind fun t511 => ((impl_LeftReduced.f kj28 a0 t511).bind fun bt514 => ((laws_eqRuleS.f kj28 bt514.1 t489).bind fun t518 => (if t518 = true then (laws_FnExactLeftReduced.j2 kj28 t509 t508 (bt514.2 != t490)) else (laws_FnExactLeftReduced.j2 kj28 t509 t508 true))))) else (some false))) = some r := H
         have A45 := Aside0.mk A450
         clear A450
         by_cases c46 : t510 < 0
         ·
          rw [if_pos c46] at H
          have c46b0 : decide (t510 < 0) = true := decide_eq_true c46
          clear c46
          obtain rfl := Option.some.inj H
          obtain ⟨Ao47, co47, eo47⟩ := Kd.R_slice HO_9.out
          subst eo47
          go_wp2_with (first | ((with_reducible refine gate_callee (f := 44) rfl ?_); refine goesL_ (some 68) rfl rfl Try.func44 q30_24 rfl #[.slice Ao47 t496.length co47, .int .i64 1] rfl q30_11 ?_; (with_reducible refine (laws_markRuleS.calls kj28 (fun k_ => some k_ = (.slice Ao47 t496.length co47 : Value).ownBlock) (.slice Ao47 t496.length co47) t496 1 t508 t509 w _ ?side1 ?side2 A44.out).mono ?_); (case side1 => exact q30_12); (case side2 => exact Kd.R_tight rfl HO_9.out); rintro e w48 ⟨rfl, hy0, hb, hkp⟩; refine ⟨_, rfl, ?_⟩; have n0_ := Aside0.mk (Kd.R_mono (ok' := fun k_ => some k_ ≠ (.slice Ao47 t496.length co47 : Value).ownBlock) (Kd.R_keptB (HO_6.out) hkp (fun k_ hk_ hs_ => (hk_) hs_)) (fun k_ hk_ => hk_.1)); have n1_ := Aside0.mk (Kd.R_reok rfl hy0 (fun k_ e_ => HO_9.out.1 k_ e_)); have n2_ := Aside0.mk (hb); clear HO_6; clear HO_9; clear HB; have HO_6 := n0_; have HO_9 := n1_; have HB := n2_; clear n0_ n1_ n2_; (try clear hb); (try clear hkp); (try clear hy0)) | ((with_reducible refine gate_callee (f := 45) rfl ?_); refine goesL_ (some 71) rfl rfl Try.func45 q30_24 rfl #[.slice Ao47 t509.length co47, .int .i64 1] rfl q30_1 ?_; (with_reducible refine (laws_heldRuleS.calls kj28 _ _ t509 1 t510 _ ?side1 ?side2 A45.out).mono ?_); (case side1 => exact q30_9); (case side2 => rw [show t509.length = t496.length from (Kd.R_reads' HO_9.out).1.symm]; exact (Kd.R_reads' HO_9.out).2.1); rintro e w' ⟨rfl, ⟨nd, rfl⟩⟩; refine ⟨_, rfl, ?_⟩))
          go_ret
          exact ⟨by first | rfl | (simp [errW_none, errW_some] <;> rfl) | (simp [*, errW_none, errW_some] <;> rfl), by repeat (first | (with_reducible first | exact HB.out | apply below_alloc | apply pw_below_drewN | apply below_drew1) | exact HB.out)⟩
         ·
          rw [if_neg c46] at H
          have c46b0 : decide (t510 < 0) = false := decide_eq_false c46
          clear c46
          by_cases c49 : t510 = t508
          ·
           rw [if_pos c49] at H
           have c49b0 : (t510 == t508) = true := beq_iff_eq.mpr c49
           have c49b1 : (t510 != t508) = false := bne_eq_false_iff_eq.mpr c49
           clear c49
           replace H := Option.bind_eq_some_iff.mp H
           obtain ⟨t511, A500, H⟩ := H
           replace H : ((impl_LeftReduced.f kj28 a0 t511).bind fun bt514 => ((laws_eqRuleS.f kj28 bt514.1 t489).bind fun t518 => (if t518 = true then (laws_FnExactLeftReduced.j2 kj28 t509 t508 (bt514.2 != t490)) else (laws_FnExactLeftReduced.j2 kj28 t509 t508 true)))) = some r := H
           have A50 := Aside0.mk A500
           clear A500
           replace H := Option.bind_eq_some_iff.mp H
           obtain ⟨⟨t514, t515⟩, A510, H⟩ := H
           replace H : ((laws_eqRuleS.f kj28 t514 t489).bind fun t518 => (if t518 = true then (laws_FnExactLeftReduced.j2 kj28 t509 t508 (t515 != t490)) else (laws_FnExactLeftReduced.j2 kj28 t509 t508 true))) = some r := H
           have A51 := Aside0.mk A510
           clear A510
           have HC52 := Aside0.mk H
           clear H
           obtain ⟨Ao53, co53, eo53⟩ := Kd.R_slice HO_9.out
           subst eo53
           go_upto_region 25 with (first | ((with_reducible refine gate_callee (f := 44) rfl ?_); refine goesL_ (some 68) rfl rfl Try.func44 q30_24 rfl #[.slice Ao53 t496.length co53, .int .i64 1] rfl q30_11 ?_; (with_reducible refine (laws_markRuleS.calls kj28 (fun k_ => some k_ = (.slice Ao53 t496.length co53 : Value).ownBlock) (.slice Ao53 t496.length co53) t496 1 t508 t509 w _ ?side1 ?side2 A44.out).mono ?_); (case side1 => exact q30_12); (case side2 => exact Kd.R_tight rfl HO_9.out); rintro e w54 ⟨rfl, hy0, hb, hkp⟩; refine ⟨_, rfl, ?_⟩; have n0_ := Aside0.mk (Kd.R_mono (ok' := fun k_ => some k_ ≠ (.slice Ao53 t496.length co53 : Value).ownBlock) (Kd.R_keptB (HO_6.out) hkp (fun k_ hk_ hs_ => (hk_) hs_)) (fun k_ hk_ => hk_.1)); have n1_ := Aside0.mk (Kd.R_reok rfl hy0 (fun k_ e_ => HO_9.out.1 k_ e_)); have n2_ := Aside0.mk (hb); clear HO_6; clear HO_9; clear HB; have HO_6 := n0_; have HO_9 := n1_; have HB := n2_; clear n0_ n1_ n2_; (try clear hb); (try clear hkp); (try clear hy0)) | ((with_reducible refine gate_callee (f := 45) rfl ?_); refine goesL_ (some 71) rfl rfl Try.func45 q30_24 rfl #[.slice Ao53 t509.length co53, .int .i64 1] rfl q30_1 ?_; (with_reducible refine (laws_heldRuleS.calls kj28 _ _ t509 1 t510 _ ?side1 ?side2 A45.out).mono ?_); (case side1 => exact q30_9); (case side2 => rw [show t509.length = t496.length from (Kd.R_reads' HO_9.out).1.symm]; exact (Kd.R_reads' HO_9.out).2.1); rintro e w' ⟨rfl, ⟨nd, rfl⟩⟩; refine ⟨_, rfl, ?_⟩) | ((with_reducible refine gate_callee (f := 20) rfl ?_); refine goesL_ (some 80) rfl rfl Try.func20 q30_24 rfl #[.slice A1 l1.length c1] rfl q30_11 ?_; (with_reducible refine (laws_toRuleS.calls kj28 _ _ l1 t511 _ ?side1 ?side2 A50.out).mono ?_); (case side1 => repeat (first | exact (Kd.C_below HR1.out q30_12) | (with_reducible refine Kd.C_alloc ?_ _) | (with_reducible refine Kd.C_drewN ?_ _) | (with_reducible refine Kd.C_drew ?_))); (case side2 => exact HC1.out); rintro e w55 ⟨v512, rfl, ho0, hb⟩; refine ⟨_, rfl, ?_⟩; have n0_ := Aside0.mk (Kd.R_elder' q30_18 (Kd.R_base ho0) hb); have n1_ := Aside0.mk (Kd.R_elder' q30_20 (Kd.R_base ho0) hb); have n2_ := Aside0.mk (Kd.R_lower (Kd.R_new' (Kd.R_new' ho0 (Kd.R_lt q30_18)) (Kd.R_lt q30_20)) (below_size q30_12)); have n3_ := Aside0.mk (below_step q30_12 hb); clear HO_6; clear HO_9; clear HB; have HO_6 := n0_; have HO_9 := n1_; have HO513 := n2_; have HB := n3_; clear n0_ n1_ n2_ n3_; (try clear hb); (try clear hb2); (try clear hk); (try clear hi); (try clear ho0); obtain ⟨Ao56, co56, eo56⟩ := Kd.R_slice HO513.out; subst eo56) | ((with_reducible refine gate_callee (f := 43) rfl ?_); refine goesL_ (some 81) rfl rfl Try.func43 q30_24 rfl #[.int .i64 a0, .slice Ao56 t511.length co56] rfl q30_11 ?_; (with_reducible refine (impl_LeftReduced.calls kj28 a0 _ _ t511 t514 t515 _ ?side1 ?side2 A51.out).mono ?_); (case side1 => repeat (first | exact (Kd.R_reads' HO513.out).2.2 | (with_reducible refine Kd.C_alloc ?_ _) | (with_reducible refine Kd.C_drewN ?_ _) | (with_reducible refine Kd.C_drew ?_))); (case side2 => exact (Kd.R_reads' HO513.out).2.1); rintro e w57 ⟨v516, rfl, ho0, hb⟩; refine ⟨_, rfl, ?_⟩; have n0_ := Aside0.mk (Kd.R_elder' q30_18 (Kd.R_base ho0) hb); have n1_ := Aside0.mk (Kd.R_elder' q30_20 (Kd.R_base ho0) hb); have n2_ := Aside0.mk (Kd.R_elder' q30_17 (Kd.R_base ho0) hb); have n3_ := Aside0.mk (Kd.R_lower (Kd.R_new' (Kd.R_new' (Kd.R_new' ho0 (Kd.R_lt q30_18)) (Kd.R_lt q30_20)) (Kd.R_lt q30_17)) (below_size q30_12)); have n4_ := Aside0.mk (below_step q30_12 hb); clear HO_6; clear HO_9; clear HO513; clear HB; have HO_6 := n0_; have HO_9 := n1_; have HO513 := n2_; have HO517 := n3_; have HB := n4_; clear n0_ n1_ n2_ n3_ n4_; (try clear hb); (try clear hb2); (try clear hk); (try clear hi); (try clear ho0)))
           (try simp only [Act.put, List.setIfInBounds_toArray, List.set_cons_zero, List.set_cons_succ])
           go_cut [92] (fun v92 wc => ∃ (kq : Nat) (x92_51 : Bool), v92 = .bool x92_51 ∧ Aside0 (laws_FnExactLeftReduced.j2 kq t509 t508 x92_51 = some r) ∧ Aside0 (kq ≤ kj28) ∧ Aside0 (Kd.R k25 25 wc w.heap.size (fun _ => True) (.slice Ao53 t496.length co53) t509) ∧ Aside0 (Below w.heap.size w wc))
           case first =>
            have H := HC52.out
            clear HC52
            replace H := Option.bind_eq_some_iff.mp H
            obtain ⟨t518, A580, H⟩ := H
            replace H : (if t518 = true then (laws_FnExactLeftReduced.j2 kj28 t509 t508 (t515 != t490)) else (laws_FnExactLeftReduced.j2 kj28 t509 t508 true)) = some r := H
            have A58 := Aside0.mk A580
            clear A580
            by_cases c59 : t518 = true
            ·
             subst c59
             have H1 : (laws_FnExactLeftReduced.j2 kj28 t509 t508 (t515 != t490)) = some r := q30_23
             clear H
             have H := H1
             clear H1
             have H' := Aside0.mk H
             clear H
             obtain ⟨Ao60, co60, eo60⟩ := Kd.R_slice HO517.out
             subst eo60
             obtain ⟨Ao61, co61, eo61⟩ := Kd.R_slice HO_6.out
             subst eo61
             go_wp2_with (first | ((with_reducible refine gate_callee (f := 22) rfl ?_); refine goesL_ (some 86) rfl rfl Try.func22 q30_24 rfl #[.slice Ao60 t514.length co60, .slice Ao61 t489.length co61] rfl q30_11 ?_; (with_reducible refine (laws_eqRuleS.calls kj28 _ _ t514 _ _ t489 true _ ?side1 ?side2 ?side3 ?side4 A58.out).mono ?_); (case side1 => exact q30_6); (case side2 => exact (Kd.R_reads' HO517.out).2.1); (case side3 => exact q30_7); (case side4 => exact (Kd.R_reads' HO_6.out).2.1); rintro e w62 ⟨rfl, hb⟩; refine ⟨_, rfl, ?_⟩; have n0_ := Aside0.mk (Kd.R_below q30_18 hb); have n1_ := Aside0.mk (Kd.R_below q30_20 hb); have n2_ := Aside0.mk (Kd.R_below q30_17 hb); have n3_ := Aside0.mk (Kd.R_below (by (with_reducible repeat (first | apply Kd.R_alloc | apply Kd.R_drewN | apply Kd.R_drew)); exact HO517.out) hb); have n4_ := Aside0.mk (below_step q30_12 hb); clear HO_6; clear HO_9; clear HO513; clear HO517; clear HB; have HO_6 := n0_; have HO_9 := n1_; have HO513 := n2_; have HO517 := n3_; have HB := n4_; clear n0_ n1_ n2_ n3_ n4_; (try clear hb); (try clear hb2); (try clear hk); (try clear hi)))
             go_meet
             case rel => exact ⟨_, ((t515 != t490)), q30_22, H', ⟨by have := HJ8.out; have := HJ28.out; first | omega | exact Nat.le_refl _⟩, ⟨by (with_reducible repeat (first | apply Kd.R_alloc | apply Kd.R_drewN | apply Kd.R_drew)); exact Kd.R_mono HO_9.out (fun _ hk => trivial)⟩, ⟨by repeat (first | (with_reducible first | exact HB.out | apply below_alloc | apply pw_below_drewN | apply below_drew1) | exact HB.out)⟩⟩
            ·
             replace c59 := Bool.eq_false_iff.mpr c59
             subst c59
             have H1 : (laws_FnExactLeftReduced.j2 kj28 t509 t508 true) = some r := q30_21
             clear H
             have H := H1
             clear H1
             have H' := Aside0.mk H
             clear H
             obtain ⟨Ao63, co63, eo63⟩ := Kd.R_slice HO517.out
             subst eo63
             obtain ⟨Ao64, co64, eo64⟩ := Kd.R_slice HO_6.out
             subst eo64
             go_wp2_with (first | ((with_reducible refine gate_callee (f := 22) rfl ?_); refine goesL_ (some 86) rfl rfl Try.func22 q30_24 rfl #[.slice Ao63 t514.length co63, .slice Ao64 t489.length co64] rfl q30_11 ?_; (with_reducible refine (laws_eqRuleS.calls kj28 _ _ t514 _ _ t489 false _ ?side1 ?side2 ?side3 ?side4 A58.out).mono ?_); (case side1 => exact q30_6); (case side2 => exact (Kd.R_reads' HO517.out).2.1); (case side3 => exact q30_7); (case side4 => exact (Kd.R_reads' HO_6.out).2.1); rintro e w65 ⟨rfl, hb⟩; refine ⟨_, rfl, ?_⟩; have n0_ := Aside0.mk (Kd.R_below q30_18 hb); have n1_ := Aside0.mk (Kd.R_below q30_20 hb); have n2_ := Aside0.mk (Kd.R_below q30_17 hb); have n3_ := Aside0.mk (Kd.R_below (by (with_reducible repeat (first | apply Kd.R_alloc | apply Kd.R_drewN | apply Kd.R_drew)); exact HO517.out) hb); have n4_ := Aside0.mk (below_step q30_12 hb); clear HO_6; clear HO_9; clear HO513; clear HO517; clear HB; have HO_6 := n0_; have HO_9 := n1_; have HO513 := n2_; have HO517 := n3_; have HB := n4_; clear n0_ n1_ n2_ n3_ n4_; (try clear hb); (try clear hb2); (try clear hk); (try clear hi)))
             go_meet
             case rel => exact ⟨_, (true), q30_22, H', ⟨by have := HJ8.out; have := HJ28.out; first | omega | exact Nat.le_refl _⟩, ⟨by (with_reducible repeat (first | apply Kd.R_alloc | apply Kd.R_drewN | apply Kd.R_drew)); exact Kd.R_mono HO_9.out (fun _ hk => trivial)⟩, ⟨by repeat (first | (with_reducible first | exact HB.out | apply below_alloc | apply pw_below_drewN | apply below_drew1) | exact HB.out)⟩⟩
           case rest =>
            clear HC52
            try clear c1
            try clear c2
            try clear p2
            try clear c3
            try clear c4
            try clear c4b0
            try clear c5
            try clear c13
            try clear c17
            try clear c18
            try clear c20
            try clear c22
            try clear c24
            try clear c27
            try clear c34
            try clear c34b0
            try clear c36
            try clear c42
            try clear c43
            try clear c44
            try clear c45
            try clear c46
            try clear c46b0
            try clear c49
            try clear c49b0
            try clear c49b1
            try clear c59
            try clear p2
            obtain ⟨kq, x92_51, rfl, HA, HJ51, HO_9, HB⟩ := hcut
            have hl9_51 := (Kd.R_reads' HO_9.out).1
            rw [hl9_51] at HO_9
            (try simp only [hl9_51])
            cases kq with
            | zero => exact absurd HA.out (by simp [laws_FnExactLeftReduced.j2])
            | succ kj51 =>
             have H := HA.out
             clear HA
             simp only [laws_FnExactLeftReduced.j2] at H
             by_cases c66 : x92_51 = true
             ·
              subst c66
              have H1 : (some false) = some r := q30_23
              clear H
              have H := H1
              clear H1
              obtain rfl := Option.some.inj H
              go_wp2
              go_ret
              exact ⟨by first | rfl | (simp [errW_none, errW_some] <;> rfl) | (simp [*, errW_none, errW_some] <;> rfl), by repeat (first | (with_reducible first | exact HB.out | apply below_alloc | apply pw_below_drewN | apply below_drew1) | exact HB.out)⟩
             ·
              replace c66 := Bool.eq_false_iff.mpr c66
              subst c66
              have H1 : ((laws_heldRuleS.f kj51 t509 1).bind fun t519 => (if t519 < 0 then (some false) else (if t519 = t508 then (some true) else (some false)))) = some r := q30_21
              clear H
              have H := H1
              clear H1
              replace H := Option.bind_eq_some_iff.mp H
              obtain ⟨t519, A670, H⟩ := H
              replace H : (if t519 < 0 then (some false) else (if t519 = t508 then (some true) else (some false))) = some r := H
              have A67 := Aside0.mk A670
              clear A670
              by_cases c68 : t519 < 0
              ·
               rw [if_pos c68] at H
               have c68b0 : decide (t519 < 0) = true := decide_eq_true c68
               clear c68
               obtain rfl := Option.some.inj H
               go_wp2_with (first | ((with_reducible refine gate_callee (f := 45) rfl ?_); refine goesL_ (some 95) rfl rfl Try.func45 q30_24 rfl #[.slice Ao53 t509.length co53, .int .i64 1] rfl q30_11 ?_; (with_reducible refine (laws_heldRuleS.calls kj51 _ _ t509 1 t519 _ ?side1 ?side2 A67.out).mono ?_); (case side1 => exact q30_9); (case side2 => exact (Kd.R_reads' HO_9.out).2.1); rintro e w' ⟨rfl, ⟨nd, rfl⟩⟩; refine ⟨_, rfl, ?_⟩))
               go_ret
               exact ⟨by first | rfl | (simp [errW_none, errW_some] <;> rfl) | (simp [*, errW_none, errW_some] <;> rfl), by repeat (first | (with_reducible first | exact HB.out | apply below_alloc | apply pw_below_drewN | apply below_drew1) | exact HB.out)⟩
              ·
               rw [if_neg c68] at H
               have c68b0 : decide (t519 < 0) = false := decide_eq_false c68
               clear c68
               by_cases c69 : t519 = t508
               ·
                rw [if_pos c69] at H
                have c69b0 : (t519 == t508) = true := beq_iff_eq.mpr c69
                have c69b1 : (t519 != t508) = false := bne_eq_false_iff_eq.mpr c69
                clear c69
                obtain rfl := Option.some.inj H
                go_wp2_with (first | ((with_reducible refine gate_callee (f := 45) rfl ?_); refine goesL_ (some 95) rfl rfl Try.func45 q30_24 rfl #[.slice Ao53 t509.length co53, .int .i64 1] rfl q30_11 ?_; (with_reducible refine (laws_heldRuleS.calls kj51 _ _ t509 1 t519 _ ?side1 ?side2 A67.out).mono ?_); (case side1 => exact q30_9); (case side2 => exact (Kd.R_reads' HO_9.out).2.1); rintro e w' ⟨rfl, ⟨nd, rfl⟩⟩; refine ⟨_, rfl, ?_⟩))
                go_ret
                exact ⟨by first | rfl | (simp [errW_none, errW_some] <;> rfl) | (simp [*, errW_none, errW_some] <;> rfl), by repeat (first | (with_reducible first | exact HB.out | apply below_alloc | apply pw_below_drewN | apply below_drew1) | exact HB.out)⟩
               ·
                rw [if_neg c69] at H
                have c69b0 : (t519 == t508) = false := beq_eq_false_iff_ne.mpr c69
                have c69b1 : (t519 != t508) = true := bne_iff_ne.mpr c69
                obtain rfl := Option.some.inj H
                go_wp2_with (first | ((with_reducible refine gate_callee (f := 45) rfl ?_); refine goesL_ (some 95) rfl rfl Try.func45 q30_24 rfl #[.slice Ao53 t509.length co53, .int .i64 1] rfl q30_11 ?_; (with_reducible refine (laws_heldRuleS.calls kj51 _ _ t509 1 t519 _ ?side1 ?side2 A67.out).mono ?_); (case side1 => exact q30_9); (case side2 => exact (Kd.R_reads' HO_9.out).2.1); rintro e w' ⟨rfl, ⟨nd, rfl⟩⟩; refine ⟨_, rfl, ?_⟩))
                go_ret
                exact ⟨by first | rfl | (simp [errW_none, errW_some] <;> rfl) | (simp [*, errW_none, errW_some] <;> rfl), by repeat (first | (with_reducible first | exact HB.out | apply below_alloc | apply pw_below_drewN | apply below_drew1) | exact HB.out)⟩
          ·
           rw [if_neg c49] at H
           have c49b0 : (t510 == t508) = false := beq_eq_false_iff_ne.mpr c49
           have c49b1 : (t510 != t508) = true := bne_iff_ne.mpr c49
           obtain rfl := Option.some.inj H
           obtain ⟨Ao70, co70, eo70⟩ := Kd.R_slice HO_9.out
           subst eo70
           go_wp2_with (first | ((with_reducible refine gate_callee (f := 44) rfl ?_); refine goesL_ (some 68) rfl rfl Try.func44 q30_24 rfl #[.slice Ao70 t496.length co70, .int .i64 1] rfl q30_11 ?_; (with_reducible refine (laws_markRuleS.calls kj28 (fun k_ => some k_ = (.slice Ao70 t496.length co70 : Value).ownBlock) (.slice Ao70 t496.length co70) t496 1 t508 t509 w _ ?side1 ?side2 A44.out).mono ?_); (case side1 => exact q30_12); (case side2 => exact Kd.R_tight rfl HO_9.out); rintro e w71 ⟨rfl, hy0, hb, hkp⟩; refine ⟨_, rfl, ?_⟩; have n0_ := Aside0.mk (Kd.R_mono (ok' := fun k_ => some k_ ≠ (.slice Ao70 t496.length co70 : Value).ownBlock) (Kd.R_keptB (HO_6.out) hkp (fun k_ hk_ hs_ => (hk_) hs_)) (fun k_ hk_ => hk_.1)); have n1_ := Aside0.mk (Kd.R_reok rfl hy0 (fun k_ e_ => HO_9.out.1 k_ e_)); have n2_ := Aside0.mk (hb); clear HO_6; clear HO_9; clear HB; have HO_6 := n0_; have HO_9 := n1_; have HB := n2_; clear n0_ n1_ n2_; (try clear hb); (try clear hkp); (try clear hy0)) | ((with_reducible refine gate_callee (f := 45) rfl ?_); refine goesL_ (some 71) rfl rfl Try.func45 q30_24 rfl #[.slice Ao70 t509.length co70, .int .i64 1] rfl q30_1 ?_; (with_reducible refine (laws_heldRuleS.calls kj28 _ _ t509 1 t510 _ ?side1 ?side2 A45.out).mono ?_); (case side1 => exact q30_9); (case side2 => rw [show t509.length = t496.length from (Kd.R_reads' HO_9.out).1.symm]; exact (Kd.R_reads' HO_9.out).2.1); rintro e w' ⟨rfl, ⟨nd, rfl⟩⟩; refine ⟨_, rfl, ?_⟩))
           go_ret
           exact ⟨by first | rfl | (simp [errW_none, errW_some] <;> rfl) | (simp [*, errW_none, errW_some] <;> rfl), by repeat (first | (with_reducible first | exact HB.out | apply below_alloc | apply pw_below_drewN | apply below_drew1) | exact HB.out)⟩
     ·
      replace c27 := Bool.eq_false_iff.mpr c27
      subst c27
      have H1 : (some false) = some r := q30_21
      clear H
      have H := H1
      clear H1
      obtain rfl := Option.some.inj H
      go_wp2_with (first | ((with_reducible refine gate_callee (f := 20) rfl ?_); refine goesL_ (some 47) rfl rfl Try.func20 q30_24 rfl #[.slice A1 l1.length c1] rfl q30_11 ?_; (with_reducible refine (laws_toRuleS.calls kj8 _ _ l1 t501 _ ?side1 ?side2 A25.out).mono ?_); (case side1 => exact q30_2); (case side2 => exact HC1.out); rintro e w72 ⟨v502, rfl, ho0, hb⟩; refine ⟨_, rfl, ?_⟩; have n0_ := Aside0.mk (Kd.R_elder' q30_18 (Kd.R_base ho0) hb); have n1_ := Aside0.mk (Kd.R_elder' q30_19 (Kd.R_base ho0) hb); have n2_ := Aside0.mk (Kd.R_elder' q30_20 (Kd.R_base ho0) hb); have n3_ := Aside0.mk (Kd.R_lower (Kd.R_new' (Kd.R_new' (Kd.R_new' ho0 (Kd.R_lt q30_18)) (Kd.R_lt q30_19)) (Kd.R_lt q30_20)) (below_size q30_12)); have n4_ := Aside0.mk (below_step q30_12 hb); clear HO_6; clear HO_8; clear HO_9; clear HB; have HO_6 := n0_; have HO_8 := n1_; have HO_9 := n2_; have HO503 := n3_; have HB := n4_; clear n0_ n1_ n2_ n3_ n4_; (try clear hb); (try clear hb2); (try clear hk); (try clear hi); (try clear ho0); obtain ⟨Ao73, co73, eo73⟩ := Kd.R_slice HO503.out; subst eo73) | ((with_reducible refine gate_callee (f := 22) rfl ?_); refine goesL_ (some 48) rfl rfl Try.func22 q30_24 rfl #[.slice Ao14 t493.length co14, .slice Ao73 t501.length co73] rfl q30_11 ?_; (with_reducible refine (laws_eqRuleS.calls kj8 _ _ t493 _ _ t501 false _ ?side1 ?side2 ?side3 ?side4 A26.out).mono ?_); (case side1 => exact q30_8); (case side2 => exact (Kd.R_reads' HO_8.out).2.1); (case side3 => exact q30_5); (case side4 => exact (Kd.R_reads' HO503.out).2.1); rintro e w74 ⟨rfl, hb⟩; refine ⟨_, rfl, ?_⟩; have n0_ := Aside0.mk (Kd.R_below q30_18 hb); have n1_ := Aside0.mk (Kd.R_below q30_19 hb); have n2_ := Aside0.mk (Kd.R_below q30_20 hb); have n3_ := Aside0.mk (Kd.R_below q30_16 hb); have n4_ := Aside0.mk (below_step q30_12 hb); clear HO_6; clear HO_8; clear HO_9; clear HO503; clear HB; have HO_6 := n0_; have HO_8 := n1_; have HO_9 := n2_; have HO503 := n3_; have HB := n4_; clear n0_ n1_ n2_ n3_ n4_; (try clear hb); (try clear hb2); (try clear hk); (try clear hi)))
      go_ret
      exact ⟨by first | rfl | (simp [errW_none, errW_some] <;> rfl) | (simp [*, errW_none, errW_some] <;> rfl), by repeat (first | (with_reducible first | exact HB.out | apply below_alloc | apply pw_below_drewN | apply below_drew1) | exact HB.out)⟩

end Go.Proofs.Ytjkbmdbecplgiaa.Pr
