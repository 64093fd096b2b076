/- What the law needs of the program's functions as plain functions, of the proofs that their calls answer so, and of plain laws: gathered by a program of this place (pack.py) out of its printed texts. No condition beyond what each statement says. -/
import Derived.Test.YtbflblmkdnhboaaDoorZXProperPremises2
import Derived.Test.YtbflblmkdnhboaaDoorZXProperPremises3
import Derived.Test.YtbflblmkdnhboaaDoorZXProperPremises4
import Derived.Test.YtbflblmkdnhboaaDoorZXProperPremises6
import Derived.Test.YtbflblmkdnhboaaDoorZXProperPremises7
import Derived.Test.YtbflblmkdnhboaaDoorZXProperPremises8
import Derived.Test.YtbflblmkdnhboaaDoorZXProperPremises15
namespace Go.Proofs.YtbflblmkdnhboaaDoor.Pr
open Go.RowKit Go.Proofs.YtbflblmkdnhboaaDoorW.PrintWords Go.Proofs.YtbflblmkdnhboaaDoorW.PrintLast Go.Proofs.YtbflblmkdnhboaaDoorW.PrintMore
attribute [local go_sem] max2_int min2_int max_two min_two max_three min_three max_four min_four   -- for this text's walks alone
set_option linter.unusedVariables false
set_option linter.unusedSimpArgs false
theorem put24_ {P : Prop} (h : P := by simp only [Act.put, List.setIfInBounds_toArray, List.set_cons_zero, List.set_cons_succ, i64_w, i32_w]; rfl) : P := h
theorem q24_1 {P : Prop} (h : P := by (with_reducible repeat (first | apply Kd.R_alloc | apply Kd.R_drewN | apply Kd.R_drew)); exact (Kd.R_mono (Kd.R_far (p := ⟨gb460, 1, none⟩) (Kd.R_far (p := ⟨gb460, 0, none⟩) (Kd.R_types HO452.out BK460.out (by decide)) (fun _ hk => hk.2) (.int .i64 t456)) (fun _ hk => hk.2) (.slice Ao30 t457.length co30)) (fun _ h_ => h_.1))) : P := h
theorem q24_2 {P : Prop} (h : P := by (with_reducible repeat (first | apply Kd.R_alloc | apply Kd.R_drewN | apply Kd.R_drew)); exact (Kd.R_mono (Kd.R_far (p := ⟨gb460, 1, none⟩) (Kd.R_far (p := ⟨gb460, 0, none⟩) (Kd.R_types HO455.out BK460.out (by decide)) (fun _ hk => hk.2) (.int .i64 t456)) (fun _ hk => hk.2) (.slice Ao30 t457.length co30)) (fun _ h_ => h_.1))) : P := h
theorem q24_3 {P : Prop} (h : P := by (with_reducible repeat (first | apply Kd.R_alloc | apply Kd.R_drewN | apply Kd.R_drew)); exact (Kd.R_mono (Kd.R_far (p := ⟨gb460, 1, none⟩) (Kd.R_far (p := ⟨gb460, 0, none⟩) (Kd.R_types HO459.out BK460.out (by decide)) (fun _ hk => hk.2) (.int .i64 t456)) (fun _ hk => hk.2) (.slice Ao30 t457.length co30)) (fun _ h_ => h_.1))) : P := h
theorem q24_4 {P : Prop} (h : P := by (try simp only [List.map_toArray, List.map_cons, List.map_nil]); first | done | (rw [show t474.length = t461.length from (Kd.R_reads' HO_6.out).1.symm] <;> rfl) | rfl | (simp only [List.length_drop, List.length_take]; rfl)) : P := h
theorem q24_5 {P : Prop} (h : P := by repeat (first | (with_reducible first | exact HB.out | apply below_alloc | apply pw_below_drewN | apply below_drew1 | refine below_set ?_ GE447.out | refine below_set ?_ GE460.out) | exact HB.out)) : P := h
theorem q24_6 {P : Prop} (h : P := by repeat (first | exact (Kd.C_below HR0_1.out HB.out) | (with_reducible refine Kd.C_alloc ?_ _) | (with_reducible refine Kd.C_drewN ?_ _) | (with_reducible refine Kd.C_drew ?_))) : P := h
theorem q24_7 {P : Prop} (h : P := by repeat (first | exact (Kd.R_reads' HO455.out).2.2 | (with_reducible refine Kd.C_alloc ?_ _) | (with_reducible refine Kd.C_drewN ?_ _) | (with_reducible refine Kd.C_drew ?_))) : P := h
theorem q24_8 {P : Prop} (h : P := by repeat (first | exact (Kd.R_reads' HO463.out).2.2 | (with_reducible refine Kd.C_alloc ?_ _) | (with_reducible refine Kd.C_drewN ?_ _) | (with_reducible refine Kd.C_drew ?_))) : P := h
theorem q24_9 {P : Prop} (h : P := by repeat (first | exact (Kd.R_reads' HO_6.out).2.2 | (with_reducible refine Kd.C_alloc ?_ _) | (with_reducible refine Kd.C_drewN ?_ _) | (with_reducible refine Kd.C_drew ?_))) : P := h
theorem q24_10 {P : Prop} (h : P := by repeat (first | (with_reducible first | exact HB.out | apply below_alloc | apply pw_below_drewN | apply below_drew1 | refine below_set ?_ GE447.out) | exact HB.out)) : P := h
theorem q24_11 {P : Prop} (h : P := by (try simp only [List.map_toArray, List.map_cons, List.map_nil]); first | done | rfl | (simp only [List.length_drop, List.length_take]; rfl)) : P := h
theorem q24_12 {P : Prop} (h : P := by repeat (first | (with_reducible first | exact HB.out | apply below_alloc | apply pw_below_drewN | apply below_drew1) | exact HB.out)) : P := h
theorem q24_13 {P : Prop} (h : P := by (with_reducible repeat (first | refine blk_drewN ?_ _ | refine blk_drew ?_ | refine blk_alloc ?_ _)); exact BK447.out) : P := h
theorem q24_14 {P : Prop} (h : P := by (with_reducible repeat (first | refine blk_drewN ?_ _ | refine blk_drew ?_ | refine blk_alloc ?_ _)); exact BK460.out) : P := h
theorem q24_15 {P : Prop} (h : P := by (with_reducible repeat (first | apply Kd.R_alloc | apply Kd.R_drewN | apply Kd.R_drew)); exact HO_461001.out) : P := h
theorem q24_16 {P : Prop} (h : P := by (with_reducible repeat (first | apply Kd.R_alloc | apply Kd.R_drewN | apply Kd.R_drew)); exact HO452.out) : P := h
theorem q24_17 {P : Prop} (h : P := by (with_reducible repeat (first | apply Kd.R_alloc | apply Kd.R_drewN | apply Kd.R_drew)); exact HO455.out) : P := h
theorem q24_18 {P : Prop} (h : P := by (with_reducible repeat (first | apply Kd.R_alloc | apply Kd.R_drewN | apply Kd.R_drew)); exact HO459.out) : P := h
theorem q24_19 {P : Prop} (h : P := by (with_reducible repeat (first | apply Kd.R_alloc | apply Kd.R_drewN | apply Kd.R_drew)); exact HO463.out) : P := h
theorem q24_20 {P : Prop} (h : P := by (with_reducible repeat (first | apply Kd.R_alloc | apply Kd.R_drewN | apply Kd.R_drew)); exact HO_4.out) : P := h
theorem q24_21 {P : Prop} (h : P := by (with_reducible repeat (first | apply Kd.R_alloc | apply Kd.R_drewN | apply Kd.R_drew)); exact HO_6.out) : P := h
theorem q24_22 {P : Prop} (h : P := by rw [if_neg (show ¬ (false = true) by decide)] at H; exact H) : P := h
theorem q24_23 {P : Prop} (h : P := by kernel_rfl) : P := h
def laws_FnExactProperPremises.j0 : Nat → List Int → List Int → Bool → Int → List Int → Option (Bool)
 | 0, _, _, _, _, _ => none
 | k + 1, x4, x6, x42, x448000, x448001 => if x42 = true then (some false) else ((laws_markIntS.f k x6 1).bind fun bt473 => ((laws_heldIntS.f k bt473.2 1).bind fun t475 => (if t475 < 0 then (some false) else (if t475 = bt473.1 then ((laws_toContext.f k x448000 x448001).bind fun bt476 => ((impl_ProperPremises.f k bt476.1 bt476.2).bind fun t480 => ((laws_eqIntS.f k t480 x4).bind fun t483 => (if t483 = true then ((laws_heldIntS.f k bt473.2 1).bind fun t484 => (if t484 < 0 then (some false) else (if t484 = bt473.1 then (some true) else (some false)))) else (some false))))) else (some false)))))
def laws_FnExactProperPremises.f (k : Nat) (a0_0 : Int) (l0_1 : List Int) : Option (Bool) := (laws_szContext.f a0_0 l0_1 1048576).bind fun t448 => (if t448 < 0 then (some true) else ((laws_toContext.f k a0_0 l0_1).bind fun bt449 => ((spec_ProperPremises.f k bt449.1 bt449.2).bind fun t453 => ((laws_toContext.f k a0_0 l0_1).bind fun bt456 => ((impl_ProperPremises.f k bt456.1 bt456.2).bind fun t461 => ((laws_eqIntS.f k t461 t453).bind fun t464 => (if t464 = true then ((laws_toContext.f k a0_0 l0_1).bind fun bt465 => ((laws_eqContext.f k bt456.1 bt456.2 bt465.1 bt465.2).bind fun t469 => (if t469 = true then ((laws_markContext.f k bt456.1 bt456.2 1).bind fun bt470 => (if bt470.1 < 0 then (laws_FnExactProperPremises.j0 k t453 t461 true a0_0 l0_1) else ((laws_eqIntS.f k t461 t453).bind fun t472 => (laws_FnExactProperPremises.j0 k t453 t461 (!t472) a0_0 l0_1)))) else (some false)))) else (some false))))))))
set_option maxHeartbeats 8000000 in
set_option maxRecDepth 100000 in
theorem laws_FnExactProperPremises.calls (k : Nat) (a0_0 : Int) (A0_1 : Option Addr) (c0_1 : Nat) (l0_1 : List Int) (r : Bool) (w : World) (hr0_1 : Kd.C (Kd.int .i64) w A0_1 l0_1.length l0_1) (hc0_1 : l0_1.length ≤ c0_1) (hrt : r = true) (htab : Tab64 w) (h : laws_FnExactProperPremises.f k a0_0 l0_1 = some r) :
  Calls Tryd.prog 5 #[.agg #[.int .i64 a0_0, .slice A0_1 l0_1.length c0_1]] w fun e w' => e = .returned (.bool r) ∧ Below w.heap.size w w' := by
 have HTB := Aside0.mk htab
 clear htab
 have hu24 := Tryd.underlying24
 have hu27 := Tryd.underlying27
 have HR0_1 := Aside0.mk hr0_1
 have HC0_1 := Aside0.mk hc0_1
 clear hr0_1 hc0_1
 have HB := Aside0.mk (Below.refl w.heap.size w)
 have HRT := Aside0.mk hrt
 clear hrt
 have H : ((laws_szContext.f a0_0 l0_1 1048576).bind fun t448 => (if t448 < 0 then (some true) else ((laws_toContext.f k a0_0 l0_1).bind fun bt449 => ((spec_ProperPremises.f k bt449.1 bt449.2).bind fun t453 => ((laws_toContext.f k a0_0 l0_1).bind fun bt456 => ((impl_ProperPremises.f k bt456.1 bt456.2).bind fun t461 => ((laws_eqIntS.f k t461 t453).bind fun t464 => (if t464 = true then ((laws_toContext.f k a0_0 l0_1).bind fun bt465 => ((laws_eqContext.f k bt456.1 bt456.2 bt465.1 bt465.2).bind fun t469 => (if t469 = true then ((laws_markContext.f k bt456.1 bt456.2 1).bind fun bt470 => (if bt470.1 < 0 then (laws_FnExactProperPremises.j0 k t453 t461 true a0_0 l0_1) else ((laws_eqIntS.f k t461 t453).bind fun t472 => (laws_FnExactProperPremises.j0 k t453 t461 (!t472) a0_0 l0_1)))) else (some false)))) else (some false))))))))) = some r := h
 clear h
 replace H := Option.bind_eq_some_iff.mp H
 obtain ⟨t448, A20, H⟩ := H
 replace H : (if t448 < 0 then (some true) else ((laws_toContext.f k a0_0 l0_1).bind fun bt449 => ((spec_ProperPremises.f k bt449.1 bt449.2).bind fun t453 => ((laws_toContext.f k a0_0 l0_1).bind fun bt456 => ((impl_ProperPremises.f k bt456.1 bt456.2).bind fun t461 => ((laws_eqIntS.f k t461 t453).bind fun t464 => (if t464 = true then ((laws_toContext.f k a0_0 l0_1).bind fun bt465 => ((laws_eqContext.f k bt456.1 bt456.2 bt465.1 bt465.2).bind fun t469 => (if t469 = true then ((laws_markContext.f k bt456.1 bt456.2 1).bind fun bt470 => (if bt470.1 < 0 then (laws_FnExactProperPremises.j0 k t453 t461 true a0_0 l0_1) else ((laws_eqIntS.f k t461 t453).bind fun t472 => (laws_FnExactProperPremises.j0 k t453 t461 (!t472) a0_0 l0_1)))) else (some false)))) else (some false)))))))) = some r := H
 have A2 := Aside0.mk A20
 clear A20
 by_cases c3 : t448 < 0
 ·
  rw [if_pos c3] at H
  have c3b0 : decide (t448 < 0) = true := decide_eq_true c3
  clear c3
  obtain rfl := Option.some.inj H
  go_enter Tryd.func5, Tryd.ntmps5
  go_wp2_with (first | ((with_reducible refine gate_dst (N := 1) rfl ?_); refine box_event ?hg (N := 1) ?hd (cs := #[.int .i64 a0_0, .slice A0_1 l0_1.length c0_1]) (t := 24) ?hr ?_; (case hd => rfl); (case hg => rfl); (case hr => first | (go_simp; done) | (go_simp; rfl)); intro gb447 hg w4 hbox hb; have n0_ := Aside0.mk (below_step q24_12 hb); have n1_ := Aside0.mk (hbox); have n2_ := Aside0.mk ((by rw [hg]; exact (below_size q24_12) : w.heap.size ≤ gb447)); have n3_ := Aside0.mk ((by rw [hg]; exact (below_size q24_12) : w.heap.size ≤ gb447)); clear HB; have HB := n0_; have BK447 := n1_; have GW447 := n2_; have GE447 := n3_; clear n0_ n1_ n2_ n3_; clear hb hbox hg; have hcz5_0 : w4.cell? ⟨gb447, 0, none⟩ = some (.int .i64 a0_0) := (blk_cell BK447.out 0).trans rfl; have hcz5_1 : w4.cell? ⟨gb447, 1, none⟩ = some (.slice A0_1 l0_1.length c0_1) := (blk_cell BK447.out 1).trans rfl; have hfz5_0 := blk_frozen BK447.out 0; have hfz5_1 := blk_frozen BK447.out 1) | ((with_reducible refine gate_callee (f := 12) rfl ?_); refine goesL_ (some 13) rfl rfl Tryd.func12 q24_23 rfl #[.agg #[.int .i64 a0_0, .slice A0_1 l0_1.length c0_1], .int .i64 1048576] rfl q24_11 ?_; (with_reducible refine (laws_szContext.calls a0_0 _ _ l0_1 1048576 t448 _ ?side1 ?side2 A2.out).mono ?_); (case side1 => exact q24_6); (case side2 => exact HC0_1.out); rintro e w6 ⟨rfl, hb⟩; refine ⟨_, rfl, ?_⟩; have n0_ := Aside0.mk (blk_below (g := gb447) (o := .cells #[.int .i64 a0_0, .slice A0_1 l0_1.length c0_1] 24 (0, 0)) q24_13 hb); have n1_ := Aside0.mk (below_step q24_10 hb); clear BK447; clear HB; have BK447 := n0_; have HB := n1_; clear n0_ n1_; (try clear hb); (try clear hb2); (try clear hk); (try clear hi)))
  go_ret
  exact ⟨by first | rfl | (simp [errW_none, errW_some] <;> rfl) | (simp [*, errW_none, errW_some] <;> rfl), by repeat (first | (with_reducible first | exact HB.out | apply below_alloc | apply pw_below_drewN | apply below_drew1 | refine below_set ?_ GE447.out) | exact HB.out)⟩
 ·
  rw [if_neg c3] at H
  have c3b0 : decide (t448 < 0) = false := decide_eq_false c3
  clear c3
  replace H := Option.bind_eq_some_iff.mp H
  obtain ⟨⟨t449, t450⟩, A70, H⟩ := H
  replace H : ((spec_ProperPremises.f k t449 t450).bind fun t453 => ((laws_toContext.f k a0_0 l0_1).bind fun bt456 => ((impl_ProperPremises.f k bt456.1 bt456.2).bind fun t461 => ((laws_eqIntS.f k t461 t453).bind fun t464 => (if t464 = true then ((laws_toContext.f k a0_0 l0_1).bind fun bt465 => ((laws_eqContext.f k bt456.1 bt456.2 bt465.1 bt465.2).bind fun t469 => (if t469 = true then ((laws_markContext.f k bt456.1 bt456.2 1).bind fun bt470 => (if bt470.1 < 0 then (laws_FnExactProperPremises.j0 k t453 t461 true a0_0 l0_1) else ((laws_eqIntS.f k t461 t453).bind fun t472 => (laws_FnExactProperPremises.j0 k t453 t461 (!t472) a0_0 l0_1)))) else (some false)))) else (some false)))))) = some r := H
  have A7 := Aside0.mk A70
  clear A70
  replace H := Option.bind_eq_some_iff.mp H
  obtain ⟨t453, A80, H⟩ := H
  replace H : ((laws_toContext.f k a0_0 l0_1).bind fun bt456 => ((impl_ProperPremises.f k bt456.1 bt456.2).bind fun t461 => ((laws_eqIntS.f k t461 t453).bind fun t464 => (if t464 = true then ((laws_toContext.f k a0_0 l0_1).bind fun bt465 => ((laws_eqContext.f k bt456.1 bt456.2 bt465.1 bt465.2).bind fun t469 => (if t469 = true then ((laws_markContext.f k bt456.1 bt456.2 1).bind fun bt470 => (if bt470.1 < 0 then (laws_FnExactProperPremises.j0 k t453 t461 true a0_0 l0_1) else ((laws_eqIntS.f k t461 t453).bind fun t472 => (laws_FnExactProperPremises.j0 k t453 t461 (!t472) a0_0 l0_1)))) else (some false)))) else (some false))))) = some r := H
  have A8 := Aside0.mk A80
  clear A80
  replace H := Option.bind_eq_some_iff.mp H
  obtain ⟨⟨t456, t457⟩, A90, H⟩ := H
  replace H : ((impl_ProperPremises.f k t456 t457).bind fun t461 => ((laws_eqIntS.f k t461 t453).bind fun t464 => (if t464 = true then ((laws_toContext.f k a0_0 l0_1).bind fun bt465 => ((laws_eqContext.f k t456 t457 bt465.1 bt465.2).bind fun t469 => (if t469 = true then ((laws_markContext.f k t456 t457 1).bind fun bt470 => (if bt470.1 < 0 then (laws_FnExactProperPremises.j0 k t453 t461 true a0_0 l0_1) else ((laws_eqIntS.f k t461 t453).bind fun t472 => (laws_FnExactProperPremises.j0 k t453 t461 (!t472) a0_0 l0_1)))) else (some false)))) else (some false)))) = some r := H
  have A9 := Aside0.mk A90
  clear A90
  replace H := Option.bind_eq_some_iff.mp H
  obtain ⟨t461, A100, H⟩ := H
  replace H : ((laws_eqIntS.f k t461 t453).bind fun t464 => (if t464 = true then ((laws_toContext.f k a0_0 l0_1).bind fun bt465 => ((laws_eqContext.f k t456 t457 bt465.1 bt465.2).bind fun t469 => (if t469 = true then ((laws_markContext.f k t456 t457 1).bind fun bt470 => (if bt470.1 < 0 then (laws_FnExactProperPremises.j0 k t453 t461 true a0_0 l0_1) else ((laws_eqIntS.f k t461 t453).bind fun t472 => (laws_FnExactProperPremises.j0 k t453 t461 (!t472) a0_0 l0_1)))) else (some false)))) else (some false))) = some r := H
  have A10 := Aside0.mk A100
  clear A100
  replace H := Option.bind_eq_some_iff.mp H
  obtain ⟨t464, A110, H⟩ := H
  replace H : (if t464 = true then ((laws_toContext.f k a0_0 l0_1).bind fun bt465 => ((laws_eqContext.f k t456 t457 bt465.1 bt465.2).bind fun t469 => (if t469 = true then ((laws_markContext.f k t456 t457 1).bind fun bt470 => (if bt470.1 < 0 then (laws_FnExactProperPremises.j0 k t453 t461 true a0_0 l0_1) else ((laws_eqIntS.f k t461 t453).bind fun t472 => (laws_FnExactProperPremises.j0 k t453 t461 (!t472) a0_0 l0_1)))) else (some false)))) else (some false)) = some r := H
  have A11 := Aside0.mk A110
  clear A110
  by_cases c12 : t464 = true
  ·
   subst c12
   have H1 : ((laws_toContext.f k a0_0 l0_1).bind fun bt465 => ((laws_eqContext.f k t456 t457 bt465.1 bt465.2).bind fun t469 => (if t469 = true then ((laws_markContext.f k t456 t457 1).bind fun bt470 => (if bt470.1 < 0 then (laws_FnExactProperPremises.j0 k t453 t461 true a0_0 l0_1) else ((laws_eqIntS.f k t461 t453).bind fun t472 => (laws_FnExactProperPremises.j0 k t453 t461 (!t472) a0_0 l0_1)))) else (some false)))) = some r := by rw [if_pos rfl] at H; exact H
   clear H
   have H := H1
   clear H1
   replace H := Option.bind_eq_some_iff.mp H
   obtain ⟨⟨t465, t466⟩, A130, H⟩ := H
   replace H : ((laws_eqContext.f k t456 t457 t465 t466).bind fun t469 => (if t469 = true then ((laws_markContext.f k t456 t457 1).bind fun bt470 => (if bt470.1 < 0 then (laws_FnExactProperPremises.j0 k t453 t461 true a0_0 l0_1) else ((laws_eqIntS.f k t461 t453).bind fun t472 => (laws_FnExactProperPremises.j0 k t453 t461 (!t472) a0_0 l0_1)))) else (some false))) = some r := H
   have A13 := Aside0.mk A130
   clear A130
   replace H := Option.bind_eq_some_iff.mp H
   obtain ⟨t469, A140, H⟩ := H
   replace H : (if t469 = true then ((laws_markContext.f k t456 t457 1).bind fun bt470 => (if bt470.1 < 0 then (laws_FnExactProperPremises.j0 k t453 t461 true a0_0 l0_1) else ((laws_eqIntS.f k t461 t453).bind fun t472 => (laws_FnExactProperPremises.j0 k t453 t461 (!t472) a0_0 l0_1)))) else (some false)) = some r := H
   have A14 := Aside0.mk A140
   clear A140
   by_cases c15 : t469 = true
   ·
    subst c15
    have H1 : ((laws_markContext.f k t456 t457 1).bind fun bt470 => (if bt470.1 < 0 then (laws_FnExactProperPremises.j0 k t453 t461 true a0_0 l0_1) else ((laws_eqIntS.f k t461 t453).bind fun t472 => (laws_FnExactProperPremises.j0 k t453 t461 (!t472) a0_0 l0_1)))) = some r := by rw [if_pos rfl] at H; exact H
    clear H
    have H := H1
    clear H1
    replace H := Option.bind_eq_some_iff.mp H
    obtain ⟨⟨t470, t471⟩, A160, H⟩ := H
    replace H : (if t470 < 0 then (laws_FnExactProperPremises.j0 k t453 t461 true a0_0 l0_1) else ((laws_eqIntS.f k t461 t453).bind fun t472 => (laws_FnExactProperPremises.j0 k t453 t461 (!t472) a0_0 l0_1))) = some r := H
    have A16 := Aside0.mk A160
    clear A160
    have HC17 := Aside0.mk H
    clear H
    go_enter Tryd.func5, Tryd.ntmps5
    try go_wp2_with (first | ((with_reducible refine gate_dst (N := 1) rfl ?_); refine box_event ?hg (N := 1) ?hd (cs := #[.int .i64 a0_0, .slice A0_1 l0_1.length c0_1]) (t := 24) ?hr ?_; (case hd => rfl); (case hg => rfl); (case hr => first | (go_simp; done) | (go_simp; rfl)); intro gb447 hg w18 hbox hb; have n0_ := Aside0.mk (below_step q24_12 hb); have n1_ := Aside0.mk (hbox); have n2_ := Aside0.mk ((by rw [hg]; exact (below_size q24_12) : w.heap.size ≤ gb447)); have n3_ := Aside0.mk ((by rw [hg]; exact (below_size q24_12) : w.heap.size ≤ gb447)); clear HB; have HB := n0_; have BK447 := n1_; have GW447 := n2_; have GE447 := n3_; clear n0_ n1_ n2_ n3_; clear hb hbox hg; have hcz19_0 : w18.cell? ⟨gb447, 0, none⟩ = some (.int .i64 a0_0) := (blk_cell BK447.out 0).trans rfl; have hcz19_1 : w18.cell? ⟨gb447, 1, none⟩ = some (.slice A0_1 l0_1.length c0_1) := (blk_cell BK447.out 1).trans rfl; have hfz19_0 := blk_frozen BK447.out 0; have hfz19_1 := blk_frozen BK447.out 1) | ((with_reducible refine gate_callee (f := 12) rfl ?_); refine goesL_ (some 13) rfl rfl Tryd.func12 q24_23 rfl #[.agg #[.int .i64 a0_0, .slice A0_1 l0_1.length c0_1], .int .i64 1048576] rfl q24_11 ?_; (with_reducible refine (laws_szContext.calls a0_0 _ _ l0_1 1048576 t448 _ ?side1 ?side2 A2.out).mono ?_); (case side1 => exact q24_6); (case side2 => exact HC0_1.out); rintro e w20 ⟨rfl, hb⟩; refine ⟨_, rfl, ?_⟩; have n0_ := Aside0.mk (blk_below (g := gb447) (o := .cells #[.int .i64 a0_0, .slice A0_1 l0_1.length c0_1] 24 (0, 0)) q24_13 hb); have n1_ := Aside0.mk (below_step q24_10 hb); clear BK447; clear HB; have BK447 := n0_; have HB := n1_; clear n0_ n1_; (try clear hb); (try clear hb2); (try clear hk); (try clear hi); have hcz21_0 : w20.cell? ⟨gb447, 0, none⟩ = some (.int .i64 a0_0) := (blk_cell BK447.out 0).trans rfl; have hcz21_1 : w20.cell? ⟨gb447, 1, none⟩ = some (.slice A0_1 l0_1.length c0_1) := (blk_cell BK447.out 1).trans rfl; have hfz21_0 := blk_frozen BK447.out 0; have hfz21_1 := blk_frozen BK447.out 1) | ((with_reducible refine gate_callee (f := 14) rfl ?_); refine goesL_ (some 17) rfl rfl Tryd.func14 q24_23 rfl #[.agg #[.int .i64 a0_0, .slice A0_1 l0_1.length c0_1]] rfl q24_11 ?_; (with_reducible refine (laws_toContext.calls k a0_0 _ _ l0_1 t449 t450 _ ?side1 ?side2 A7.out).mono ?_); (case side1 => exact q24_6); (case side2 => exact HC0_1.out); rintro e w22 ⟨v451, rfl, ho0, hb⟩; refine ⟨_, rfl, ?_⟩; have n0_ := Aside0.mk (Kd.R_lower ho0 (below_size q24_10)); have n1_ := Aside0.mk (blk_below (g := gb447) (o := .cells #[.int .i64 a0_0, .slice A0_1 l0_1.length c0_1] 24 (0, 0)) q24_13 hb); have n2_ := Aside0.mk (below_step q24_10 hb); clear BK447; clear HB; have HO452 := n0_; have BK447 := n1_; have HB := n2_; clear n0_ n1_ n2_; (try clear hb); (try clear hb2); (try clear hk); (try clear hi); (try clear ho0); obtain ⟨Ao23, co23, eo23⟩ := Kd.R_slice HO452.out; subst eo23) | ((with_reducible refine gate_callee (f := 26) rfl ?_); refine goesL_ (some 18) rfl rfl Tryd.func26 q24_23 rfl #[.agg #[.int .i64 t449, .slice Ao23 t450.length co23]] rfl q24_11 ?_; (with_reducible refine (spec_ProperPremises.calls k t449 _ _ t450 t453 _ ?side1 ?side2 A8.out).mono ?_); (case side1 => repeat (first | exact (Kd.R_reads' HO452.out).2.2 | (with_reducible refine Kd.C_alloc ?_ _) | (with_reducible refine Kd.C_drewN ?_ _) | (with_reducible refine Kd.C_drew ?_))); (case side2 => exact (Kd.R_reads' HO452.out).2.1); rintro e w24 ⟨v454, rfl, ho0, hb⟩; refine ⟨_, rfl, ?_⟩; have n0_ := Aside0.mk (Kd.R_elder' q24_16 (Kd.R_base ho0) hb); have n1_ := Aside0.mk (Kd.R_lower (Kd.R_new' ho0 (Kd.R_lt q24_16)) (below_size q24_10)); have n2_ := Aside0.mk (blk_below (g := gb447) (o := .cells #[.int .i64 a0_0, .slice A0_1 l0_1.length c0_1] 24 (0, 0)) q24_13 hb); have n3_ := Aside0.mk (below_step q24_10 hb); clear HO452; clear BK447; clear HB; have HO452 := n0_; have HO455 := n1_; have BK447 := n2_; have HB := n3_; clear n0_ n1_ n2_ n3_; (try clear hb); (try clear hb2); (try clear hk); (try clear hi); (try clear ho0); have hcz25_0 : w24.cell? ⟨gb447, 0, none⟩ = some (.int .i64 a0_0) := (blk_cell BK447.out 0).trans rfl; have hcz25_1 : w24.cell? ⟨gb447, 1, none⟩ = some (.slice A0_1 l0_1.length c0_1) := (blk_cell BK447.out 1).trans rfl; have hfz25_0 := blk_frozen BK447.out 0; have hfz25_1 := blk_frozen BK447.out 1) | ((with_reducible refine gate_callee (f := 14) rfl ?_); refine goesL_ (some 20) rfl rfl Tryd.func14 q24_23 rfl #[.agg #[.int .i64 a0_0, .slice A0_1 l0_1.length c0_1]] rfl q24_11 ?_; (with_reducible refine (laws_toContext.calls k a0_0 _ _ l0_1 t456 t457 _ ?side1 ?side2 A9.out).mono ?_); (case side1 => exact q24_6); (case side2 => exact HC0_1.out); rintro e w26 ⟨v458, rfl, ho0, hb⟩; refine ⟨_, rfl, ?_⟩; have n0_ := Aside0.mk (Kd.R_elder' q24_16 (Kd.R_base ho0) hb); have n1_ := Aside0.mk (Kd.R_elder' q24_17 (Kd.R_base ho0) hb); have n2_ := Aside0.mk (Kd.R_lower (Kd.R_new' (Kd.R_new' ho0 (Kd.R_lt q24_16)) (Kd.R_lt q24_17)) (below_size q24_10)); have n3_ := Aside0.mk (blk_below (g := gb447) (o := .cells #[.int .i64 a0_0, .slice A0_1 l0_1.length c0_1] 24 (0, 0)) q24_13 hb); have n4_ := Aside0.mk (below_step q24_10 hb); clear HO452; clear HO455; clear BK447; clear HB; have HO452 := n0_; have HO455 := n1_; have HO459 := n2_; have BK447 := n3_; have HB := n4_; clear n0_ n1_ n2_ n3_ n4_; (try clear hb); (try clear hb2); (try clear hk); (try clear hi); (try clear ho0)) | ((with_reducible refine gate_dst (N := 5) rfl ?_); refine box_event ?hg (N := 5) ?hd (cs := #[.int .i64 0, .slice none 0 0]) (t := 27) ?hr ?_; (case hd => rfl); (case hg => rfl); (case hr => first | (go_simp; done) | (go_simp; rfl)); intro gb460 hg w27 hbox hb; have n0_ := Aside0.mk (Kd.R_below q24_16 hb); have n1_ := Aside0.mk (Kd.R_below q24_17 hb); have n2_ := Aside0.mk (Kd.R_below q24_18 hb); have n3_ := Aside0.mk (blk_below (g := gb447) (o := .cells #[.int .i64 a0_0, .slice A0_1 l0_1.length c0_1] 24 (0, 0)) q24_13 hb); have n4_ := Aside0.mk (below_step q24_10 hb); have n5_ := Aside0.mk (hbox); have n6_ := Aside0.mk ((by rw [hg]; exact (below_size q24_10) : w.heap.size ≤ gb460)); have n7_ := Aside0.mk ((by rw [hg]; exact (below_size q24_10) : w.heap.size ≤ gb460)); have n8_ := Aside0.mk ((by rw [hg]; exact Nat.ne_of_lt (blk_lt (g := gb447) (o := .cells #[.int .i64 a0_0, .slice A0_1 l0_1.length c0_1] 24 (0, 0)) q24_13) : gb447 ≠ gb460)); have n9_ := Aside0.mk ((by rw [hg]; exact Nat.ne_of_gt (blk_lt (g := gb447) (o := .cells #[.int .i64 a0_0, .slice A0_1 l0_1.length c0_1] 24 (0, 0)) q24_13) : gb460 ≠ gb447)); clear HO452; clear HO455; clear HO459; clear BK447; clear HB; have HO452 := n0_; have HO455 := n1_; have HO459 := n2_; have BK447 := n3_; have HB := n4_; have BK460 := n5_; have GW460 := n6_; have GE460 := n7_; have NB447_460 := n8_; have NB460_447 := n9_; clear n0_ n1_ n2_ n3_ n4_ n5_ n6_ n7_ n8_ n9_; clear hb hbox hg; have hnb28 := NB460_447.out; have hnc28 := NB447_460.out; have hcz29_0 : w27.cell? ⟨gb460, 0, none⟩ = some (.int .i64 0) := (blk_cell BK460.out 0).trans rfl; have hcz29_1 : w27.cell? ⟨gb460, 1, none⟩ = some (.slice none 0 0) := (blk_cell BK460.out 1).trans rfl; have hfz29_0 := blk_frozen BK460.out 0; have hfz29_1 := blk_frozen BK460.out 1; obtain ⟨Ao30, co30, eo30⟩ := Kd.R_slice HO459.out; subst eo30) | ((with_reducible refine gate_callee (f := 27) rfl ?_); refine goesL_ (some 22) rfl rfl Tryd.func27 q24_23 rfl #[.agg #[.int .i64 t456, .slice Ao30 t457.length co30]] rfl q24_11 ?_; (with_reducible refine (impl_ProperPremises.calls k t456 _ _ t457 t461 _ ?side1 ?side2 ?tab A10.out).mono ?_); (case tab => first | exact HTB.out | (refine Tab64.below HTB.out ?_; repeat (first | (with_reducible first | exact HB.out | apply below_alloc | apply pw_below_drewN | apply below_drew1 | refine below_set ?_ GE447.out | refine below_set ?_ GE460.out) | exact HB.out)) | (repeat (first | exact HTB.out | apply Tab64.drewN | apply Tab64.drew | apply Tab64.alloc))); (case side1 => refine (Kd.R_reads' (e := 3) (base := w.heap.size) (ok := fun k_ => ((True ∧ some k_ ≠ (.slice Ao23 t450.length co23 : Value).ownBlock) ∧ some k_ ≠ (v454 : Value).ownBlock)) (n := t457.length) (c := co30) ?_).2.2; exact q24_3); (case side2 => exact (Kd.R_reads' HO459.out).2.1); rintro e w31 ⟨v462, rfl, ho0, hb⟩; refine ⟨_, rfl, ?_⟩; have n0_ := Aside0.mk (Kd.R_elder' q24_1 (Kd.R_base ho0) hb); have n1_ := Aside0.mk (Kd.R_elder' q24_2 (Kd.R_base ho0) hb); have n2_ := Aside0.mk (Kd.R_elder' q24_3 (Kd.R_base ho0) hb); have n3_ := Aside0.mk (Kd.R_lower (Kd.R_new' (Kd.R_new' (Kd.R_new' ho0 (Kd.R_lt q24_1)) (Kd.R_lt q24_2)) (Kd.R_lt q24_3)) (below_size q24_5)); have n4_ := Aside0.mk (blk_below (g := gb447) (o := .cells #[.int .i64 a0_0, .slice A0_1 l0_1.length c0_1] 24 (0, 0)) (by (with_reducible repeat (first | refine blk_drewN ?_ _ | refine blk_drew ?_ | refine blk_alloc ?_ _)); refine blk_far ?_ NB447_460.out _; (with_reducible repeat (first | refine blk_drewN ?_ _ | refine blk_drew ?_ | refine blk_alloc ?_ _)); refine blk_far ?_ NB447_460.out _; (with_reducible repeat (first | refine blk_drewN ?_ _ | refine blk_drew ?_ | refine blk_alloc ?_ _)); exact BK447.out) hb); have n5_ := Aside0.mk (blk_below (g := gb460) (o := .cells #[.int .i64 t456, .slice Ao30 t457.length co30] 27 (0, 0)) (by (with_reducible repeat (first | refine blk_drewN ?_ _ | refine blk_drew ?_ | refine blk_alloc ?_ _)); refine blk_put (cs := #[.int .i64 t456, .slice none 0 0]) ?_ 1 _ rfl; (with_reducible repeat (first | refine blk_drewN ?_ _ | refine blk_drew ?_ | refine blk_alloc ?_ _)); refine blk_put (cs := #[.int .i64 0, .slice none 0 0]) ?_ 0 _ rfl; (with_reducible repeat (first | refine blk_drewN ?_ _ | refine blk_drew ?_ | refine blk_alloc ?_ _)); exact BK460.out) hb); have n6_ := Aside0.mk (below_step q24_5 hb); clear HO452; clear HO455; clear HO459; clear BK447; clear BK460; clear HB; have HO452 := n0_; have HO455 := n1_; have HO459 := n2_; have HO463 := n3_; have BK447 := n4_; have BK460 := n5_; have HB := n6_; clear n0_ n1_ n2_ n3_ n4_ n5_ n6_; (try clear hb); (try clear hb2); (try clear hk); (try clear hi); (try clear ho0); obtain ⟨Ao32, co32, eo32⟩ := Kd.R_slice HO463.out; subst eo32; obtain ⟨Ao33, co33, eo33⟩ := Kd.R_slice HO455.out; subst eo33) | ((with_reducible refine gate_callee (f := 21) rfl ?_); refine goesL_ (some 25) rfl rfl Tryd.func21 q24_23 rfl #[.slice Ao32 t461.length co32, .slice Ao33 t453.length co33] rfl q24_11 ?_; (with_reducible refine (laws_eqIntS.calls k _ _ t461 _ _ t453 true _ ?side1 ?side2 ?side3 ?side4 A11.out).mono ?_); (case side1 => exact q24_8); (case side2 => exact (Kd.R_reads' HO463.out).2.1); (case side3 => exact q24_7); (case side4 => exact (Kd.R_reads' HO455.out).2.1); rintro e w' ⟨rfl, ⟨nd, rfl⟩⟩; refine ⟨_, rfl, ?_⟩))
    (try (rw [drewN_self w31]; generalize hq_ : World.drewN w31 _ = w31; have n0_ : Aside0 (Kd.R (Kd.int .i64) 3 w31 w.heap.size (fun k_ => some k_ ≠ (.slice Ao33 t453.length co33 : Value).ownBlock ∧ some k_ ≠ (.slice Ao30 t457.length co30 : Value).ownBlock ∧ some k_ ≠ (.slice Ao32 t461.length co32 : Value).ownBlock) (.slice Ao23 t450.length co23) t450) := ⟨by rw [← hq_]; exact (by (with_reducible repeat (first | apply Kd.R_alloc | apply Kd.R_drewN | apply Kd.R_drew)); exact Kd.R_mono HO452.out (fun _ hk => ⟨hk.1.1.2, ⟨hk.1.2, hk.2⟩⟩))⟩; have n1_ : Aside0 (Kd.R (Kd.int .i64) 3 w31 w.heap.size (fun k_ => some k_ ≠ (.slice Ao23 t450.length co23 : Value).ownBlock ∧ some k_ ≠ (.slice Ao30 t457.length co30 : Value).ownBlock ∧ some k_ ≠ (.slice Ao32 t461.length co32 : Value).ownBlock) (.slice Ao33 t453.length co33) t453) := ⟨by rw [← hq_]; exact (by (with_reducible repeat (first | apply Kd.R_alloc | apply Kd.R_drewN | apply Kd.R_drew)); exact Kd.R_mono HO455.out (fun _ hk => ⟨hk.1.1.2, ⟨hk.1.2, hk.2⟩⟩))⟩; have n2_ : Aside0 (Kd.R (Kd.int .i64) 3 w31 w.heap.size (fun k_ => some k_ ≠ (.slice Ao23 t450.length co23 : Value).ownBlock ∧ some k_ ≠ (.slice Ao33 t453.length co33 : Value).ownBlock ∧ some k_ ≠ (.slice Ao32 t461.length co32 : Value).ownBlock) (.slice Ao30 t457.length co30) t457) := ⟨by rw [← hq_]; exact (by (with_reducible repeat (first | apply Kd.R_alloc | apply Kd.R_drewN | apply Kd.R_drew)); exact Kd.R_mono HO459.out (fun _ hk => ⟨hk.1.1.2, ⟨hk.1.2, hk.2⟩⟩))⟩; have n3_ : Aside0 (Kd.R (Kd.int .i64) 3 w31 w.heap.size (fun k_ => some k_ ≠ (.slice Ao23 t450.length co23 : Value).ownBlock ∧ some k_ ≠ (.slice Ao33 t453.length co33 : Value).ownBlock ∧ some k_ ≠ (.slice Ao30 t457.length co30 : Value).ownBlock) (.slice Ao32 t461.length co32) t461) := ⟨by rw [← hq_]; exact (by (with_reducible repeat (first | apply Kd.R_alloc | apply Kd.R_drewN | apply Kd.R_drew)); exact Kd.R_mono HO463.out (fun _ hk => ⟨hk.1.1.2, ⟨hk.1.2, hk.2⟩⟩))⟩; have n4_ : Aside0 (w31.heap[gb447]? = some (.cells #[.int .i64 a0_0, .slice A0_1 l0_1.length c0_1] 24 (0, 0))) := ⟨by rw [← hq_]; exact q24_13⟩; have n5_ : Aside0 (w31.heap[gb460]? = some (.cells #[.int .i64 t456, .slice Ao30 t457.length co30] 27 (0, 0))) := ⟨by rw [← hq_]; exact q24_14⟩; have n6_ : Aside0 (Below w.heap.size w w31) := ⟨by rw [← hq_]; exact q24_5⟩; clear HO452 HO455 HO459 HO463 BK447 BK460 HB hq_; have HO452 := n0_; have HO455 := n1_; have HO459 := n2_; have HO463 := n3_; have BK447 := n4_; have BK460 := n5_; have HB := n6_; clear n0_ n1_ n2_ n3_ n4_ n5_ n6_))
    have n0_ := Aside0.mk (Kd.R_drew HO452.out)
    have n1_ := Aside0.mk (Kd.R_drew HO455.out)
    have n2_ := Aside0.mk (Kd.R_drew HO459.out)
    have n3_ := Aside0.mk (Kd.R_drew HO463.out)
    have n4_ := Aside0.mk (blk_drew BK447.out)
    have n5_ := Aside0.mk (blk_drew BK460.out)
    have n6_ := Aside0.mk (below_drew1 HB.out)
    clear HO452
    clear HO455
    clear HO459
    clear HO463
    clear BK447
    clear BK460
    clear HB
    have HO452 := n0_
    have HO455 := n1_
    have HO459 := n2_
    have HO463 := n3_
    have BK447 := n4_
    have BK460 := n5_
    have HB := n6_
    clear n0_ n1_ n2_ n3_ n4_ n5_ n6_
    refine start_ (n := 5) (S := fun w' => w'.cell? ⟨gb460, 0, none⟩ = some (.int .i64 t456) ∧ w'.cell? ⟨gb460, 1, none⟩ = some (.slice Ao30 t457.length co30) ∧ w'.cell? ⟨gb447, 0, none⟩ = some (.int .i64 a0_0) ∧ w'.cell? ⟨gb447, 1, none⟩ = some (.slice A0_1 l0_1.length c0_1)) (ds := []) #[false, false, false, false, false] q24_23 rfl rfl ⟨(blk_cell BK460.out 0).trans rfl, (blk_cell BK460.out 1).trans rfl, (blk_cell BK447.out 0).trans rfl, (blk_cell BK447.out 1).trans rfl⟩ (fun hHeld => ?_)
    generalize w31.drew = w34 at HO452 HO455 HO459 HO463 BK447 BK460 HB hHeld ⊢
    refine take_ (i := 0) (N := some 27) (v := ?_) (a' := ?_) #[true, false, false, false, false] rfl rfl q24_23 (fun _ _ _ h => h) (Or.inl ⟨by rfl, ?_⟩) hHeld ?_ ?_
    rotate_left
    ·
     rintro w' ⟨s0, s1, s2, s3⟩
     go_simp
     with_reducible rfl
    rotate_left
    ·
     exact put24_
    refine take_ (i := 1) (N := some 28) (v := ?_) (a' := ?_) #[true, true, false, false, false] rfl rfl q24_23 (fun _ _ _ h => h) (Or.inl ⟨by rfl, ?_⟩) hHeld ?_ ?_
    rotate_left
    ·
     rintro w' ⟨s0, s1, s2, s3⟩
     go_simp
     with_reducible rfl
    rotate_left
    ·
     exact put24_
    refine one_ (i := 2) (N := some 29) #[true, true, true, false, false] rfl rfl q24_23 (by decide) (fun K hK => ?_)
    refine goes_ Tryd.func14 q24_23 rfl #[.agg #[.int .i64 a0_0, .slice A0_1 l0_1.length c0_1]] (by rfl) rfl rfl q24_11 ?_
    with_reducible refine (laws_toContext.calls k a0_0 _ _ l0_1 t465 t466 _ ?side1 ?side2 A13.out).mono ?_
    (case side1 => exact q24_6)
    (case side2 => exact HC0_1.out)
    rintro e w35 ⟨v467, rfl, ho0, hb⟩
    refine ⟨_, rfl, ?_⟩
    have n0_ := Aside0.mk (Kd.R_elder' q24_16 (Kd.R_base ho0) hb)
    have n1_ := Aside0.mk (Kd.R_elder' q24_17 (Kd.R_base ho0) hb)
    have n2_ := Aside0.mk (Kd.R_elder' q24_18 (Kd.R_base ho0) hb)
    have n3_ := Aside0.mk (Kd.R_elder' q24_19 (Kd.R_base ho0) hb)
    have n4_ := Aside0.mk (Kd.R_lower (Kd.R_new' (Kd.R_new' (Kd.R_new' (Kd.R_new' ho0 (Kd.R_lt q24_16)) (Kd.R_lt q24_17)) (Kd.R_lt q24_18)) (Kd.R_lt q24_19)) (below_size q24_5))
    have n5_ := Aside0.mk (blk_below (g := gb447) (o := .cells #[.int .i64 a0_0, .slice A0_1 l0_1.length c0_1] 24 (0, 0)) q24_13 hb)
    have n6_ := Aside0.mk (blk_below (g := gb460) (o := .cells #[.int .i64 t456, .slice Ao30 t457.length co30] 27 (0, 0)) q24_14 hb)
    have n7_ := Aside0.mk (below_step q24_5 hb)
    clear HO452
    clear HO455
    clear HO459
    clear HO463
    clear BK447
    clear BK460
    clear HB
    have HO452 := n0_
    have HO455 := n1_
    have HO459 := n2_
    have HO463 := n3_
    have HO468 := n4_
    have BK447 := n5_
    have BK460 := n6_
    have HB := n7_
    clear n0_ n1_ n2_ n3_ n4_ n5_ n6_ n7_
    (try clear hb)
    (try clear hb2)
    (try clear hk)
    (try clear hi)
    (try clear ho0)
    obtain ⟨Ao36, co36, eo36⟩ := Kd.R_slice HO468.out
    (first | subst eo36 | (injection eo36 with f1_ f2_ f3_; have f4_ := f1_.symm; have f5_ := f3_.symm; clear f1_ f2_ f3_; subst f4_; subst f5_))
    refine hK.out _ _ ⟨(blk_cell BK460.out 0).trans rfl, (blk_cell BK460.out 1).trans rfl, (blk_cell BK447.out 0).trans rfl, (blk_cell BK447.out 1).trans rfl⟩ (fun hHeld => ?_)
    clear hK K
    refine norm_ (a' := ?_) ?_ ?_
    rotate_left
    ·
     show Act.put _ (some 29) _ = _
     exact put24_
    refine one_ (i := 3) (N := some 30) #[true, true, true, true, false] rfl rfl q24_23 (by decide) (fun K hK => ?_)
    refine goes_ Tryd.func16 q24_23 rfl #[.agg #[.int .i64 t456, .slice Ao30 t457.length co30], .agg #[.int .i64 t465, .slice Ao36 t466.length co36]] (by rfl) rfl rfl q24_11 ?_
    with_reducible refine (laws_eqContext.calls k t456 _ _ t457 t465 _ _ t466 true _ ?side1 ?side2 ?side3 ?side4 A14.out).mono ?_
    (case side1 => repeat (first | exact (Kd.R_reads' HO459.out).2.2 | (with_reducible refine Kd.C_alloc ?_ _) | (with_reducible refine Kd.C_drewN ?_ _) | (with_reducible refine Kd.C_drew ?_)))
    (case side2 => exact (Kd.R_reads' HO459.out).2.1)
    (case side3 => repeat (first | exact (Kd.R_reads' HO468.out).2.2 | (with_reducible refine Kd.C_alloc ?_ _) | (with_reducible refine Kd.C_drewN ?_ _) | (with_reducible refine Kd.C_drew ?_)))
    (case side4 => exact (Kd.R_reads' HO468.out).2.1)
    rintro e w37 ⟨rfl, hb⟩
    refine ⟨_, rfl, ?_⟩
    have n0_ := Aside0.mk (Kd.R_below q24_16 hb)
    have n1_ := Aside0.mk (Kd.R_below q24_17 hb)
    have n2_ := Aside0.mk (Kd.R_below q24_18 hb)
    have n3_ := Aside0.mk (Kd.R_below q24_19 hb)
    have n4_ := Aside0.mk (Kd.R_below (by (with_reducible repeat (first | apply Kd.R_alloc | apply Kd.R_drewN | apply Kd.R_drew)); exact HO468.out) hb)
    have n5_ := Aside0.mk (blk_below (g := gb447) (o := .cells #[.int .i64 a0_0, .slice A0_1 l0_1.length c0_1] 24 (0, 0)) q24_13 hb)
    have n6_ := Aside0.mk (blk_below (g := gb460) (o := .cells #[.int .i64 t456, .slice Ao30 t457.length co30] 27 (0, 0)) q24_14 hb)
    have n7_ := Aside0.mk (below_step q24_5 hb)
    clear HO452
    clear HO455
    clear HO459
    clear HO463
    clear HO468
    clear BK447
    clear BK460
    clear HB
    have HO452 := n0_
    have HO455 := n1_
    have HO459 := n2_
    have HO463 := n3_
    have HO468 := n4_
    have BK447 := n5_
    have BK460 := n6_
    have HB := n7_
    clear n0_ n1_ n2_ n3_ n4_ n5_ n6_ n7_
    (try clear hb)
    (try clear hb2)
    (try clear hk)
    (try clear hi)
    refine hK.out _ _ ⟨(blk_cell BK460.out 0).trans rfl, (blk_cell BK460.out 1).trans rfl, (blk_cell BK447.out 0).trans rfl, (blk_cell BK447.out 1).trans rfl⟩ (fun hHeld => ?_)
    clear hK K
    refine norm_ (a' := ?_) ?_ ?_
    rotate_left
    ·
     show Act.put _ (some 30) _ = _
     exact put24_
    refine pure_ (i := 4) (N := some 31) (v := ?_) (a' := ?_) #[true, true, true, true, true] rfl rfl q24_23 (fun _ _ _ h => h) (Or.inl ⟨by rfl, ?_⟩) ?_ ?_
    rotate_left
    ·
     intro w'
     go_simp
     with_reducible rfl
    rotate_left
    ·
     exact put24_
    refine done_ q24_23 ?_
    have hcz38_0 : w37.cell? ⟨gb460, 0, none⟩ = some (.int .i64 t456) := (blk_cell BK460.out 0).trans rfl
    have hcz38_1 : w37.cell? ⟨gb460, 1, none⟩ = some (.slice Ao30 t457.length co30) := (blk_cell BK460.out 1).trans rfl
    have hfz38_0 := blk_frozen BK460.out 0
    have hfz38_1 := blk_frozen BK460.out 1
    go_upto_region 14 with (first | ((with_reducible refine gate_callee (f := 28) rfl ?_); refine goesL_ (some 34) rfl rfl Tryd.func28 q24_23 rfl #[.agg #[.int .i64 t456, .slice Ao30 t457.length co30], .int .i64 1] rfl q24_11 ?_; (with_reducible refine (laws_markContext.calls k t456 (fun k_ => some k_ = (.slice Ao30 t457.length co30 : Value).ownBlock) (.slice Ao30 t457.length co30) t457 1 t470 t471 w _ ?side1 ?side2 A16.out).mono ?_); (case side1 => exact q24_5); (case side2 => exact Kd.R_tight rfl HO459.out); rintro e w39 ⟨rfl, hy0, hb, hkp⟩; refine ⟨_, rfl, ?_⟩; have n0_ := Aside0.mk (blk_kept q24_13 hkp (fun hs_ => (fun e_ => (Kd.R_ne HO459.out BK447.out (by decide)) e_) hs_)); have n1_ := Aside0.mk (Kd.R_mono (ok' := fun k_ => some k_ ≠ (.slice Ao33 t453.length co33 : Value).ownBlock ∧ some k_ ≠ (.slice Ao30 t457.length co30 : Value).ownBlock ∧ some k_ ≠ (.slice Ao32 t461.length co32 : Value).ownBlock ∧ some k_ ≠ (.slice Ao36 t466.length co36 : Value).ownBlock) (Kd.R_keptB (HO452.out) hkp (fun k_ hk_ hs_ => by first | exact hk_.1.1.2 hs_ | exact hk_.1.1 hs_ | exact hk_.1.2 hs_ | exact hk_.2 hs_ | exact hk_.1 hs_ | exact hk_.1.1.1 hs_ | exact hk_ hs_ | exact hk_.1.2.1 hs_ | exact hk_.1.2.2 hs_ | exact hk_.1.1.2.1 hs_ | exact hk_.1.1.2.2 hs_ | exact hk_.2.1 hs_ | exact hk_.2.2 hs_ | exact hk_.1.1.1.1 hs_ | exact hk_.1.1.1.2 hs_ | exact hk_.1.2.2.1 hs_ | exact hk_.1.2.2.2 hs_ | exact hk_.1.1.1.2.1 hs_ | exact hk_.1.1.1.2.2 hs_ | exact hk_.2.2.1 hs_ | exact hk_.2.2.2 hs_ | exact hk_.1.1.2.2.1 hs_ | exact hk_.1.1.2.2.2 hs_ | exact hk_.1.2.2.2.1 hs_ | exact hk_.1.2.2.2.2 hs_ | exact hk_.1.1.1.1.1 hs_ | exact hk_.1.1.1.1.2 hs_)) (fun k_ hk_ => ⟨by first | exact hk_.1.1.1.1.2 | exact hk_.1.1.2 | exact hk_.1.1 | exact hk_.1.2 | exact hk_.2 | exact hk_.1 | exact hk_.1.1.1 | exact hk_ | exact hk_.1.2.1 | exact hk_.1.2.2 | exact hk_.1.1.2.1 | exact hk_.1.1.2.2 | exact hk_.2.1 | exact hk_.2.2 | exact hk_.1.1.1.1 | exact hk_.1.1.1.2 | exact hk_.1.2.2.1 | exact hk_.1.2.2.2 | exact hk_.1.1.1.2.1 | exact hk_.1.1.1.2.2 | exact hk_.2.2.1 | exact hk_.2.2.2 | exact hk_.1.1.2.2.1 | exact hk_.1.1.2.2.2 | exact hk_.1.2.2.2.1 | exact hk_.1.2.2.2.2 | exact hk_.1.1.1.1.1, by first | exact hk_.1.1.1.2 | exact hk_.1.1.2 | exact hk_.1.1 | exact hk_.1.2 | exact hk_.2 | exact hk_.1 | exact hk_.1.1.1 | exact hk_ | exact hk_.1.2.1 | exact hk_.1.2.2 | exact hk_.1.1.2.1 | exact hk_.1.1.2.2 | exact hk_.2.1 | exact hk_.2.2 | exact hk_.1.1.1.1 | exact hk_.1.2.2.1 | exact hk_.1.2.2.2 | exact hk_.1.1.1.2.1 | exact hk_.1.1.1.2.2 | exact hk_.2.2.1 | exact hk_.2.2.2 | exact hk_.1.1.2.2.1 | exact hk_.1.1.2.2.2 | exact hk_.1.2.2.2.1 | exact hk_.1.2.2.2.2 | exact hk_.1.1.1.1.1 | exact hk_.1.1.1.1.2, by first | exact hk_.1.1.2 | exact hk_.1.1 | exact hk_.1.2 | exact hk_.2 | exact hk_.1 | exact hk_.1.1.1 | exact hk_ | exact hk_.1.2.1 | exact hk_.1.2.2 | exact hk_.1.1.2.1 | exact hk_.1.1.2.2 | exact hk_.2.1 | exact hk_.2.2 | exact hk_.1.1.1.1 | exact hk_.1.1.1.2 | exact hk_.1.2.2.1 | exact hk_.1.2.2.2 | exact hk_.1.1.1.2.1 | exact hk_.1.1.1.2.2 | exact hk_.2.2.1 | exact hk_.2.2.2 | exact hk_.1.1.2.2.1 | exact hk_.1.1.2.2.2 | exact hk_.1.2.2.2.1 | exact hk_.1.2.2.2.2 | exact hk_.1.1.1.1.1 | exact hk_.1.1.1.1.2, by first | exact hk_.1.2 | exact hk_.1.1.2 | exact hk_.1.1 | exact hk_.2 | exact hk_.1 | exact hk_.1.1.1 | exact hk_ | exact hk_.1.2.1 | exact hk_.1.2.2 | exact hk_.1.1.2.1 | exact hk_.1.1.2.2 | exact hk_.2.1 | exact hk_.2.2 | exact hk_.1.1.1.1 | exact hk_.1.1.1.2 | exact hk_.1.2.2.1 | exact hk_.1.2.2.2 | exact hk_.1.1.1.2.1 | exact hk_.1.1.1.2.2 | exact hk_.2.2.1 | exact hk_.2.2.2 | exact hk_.1.1.2.2.1 | exact hk_.1.1.2.2.2 | exact hk_.1.2.2.2.1 | exact hk_.1.2.2.2.2 | exact hk_.1.1.1.1.1 | exact hk_.1.1.1.1.2⟩)); have n2_ := Aside0.mk (Kd.R_mono (ok' := fun k_ => some k_ ≠ (.slice Ao23 t450.length co23 : Value).ownBlock ∧ some k_ ≠ (.slice Ao30 t457.length co30 : Value).ownBlock ∧ some k_ ≠ (.slice Ao32 t461.length co32 : Value).ownBlock ∧ some k_ ≠ (.slice Ao36 t466.length co36 : Value).ownBlock) (Kd.R_keptB (HO455.out) hkp (fun k_ hk_ hs_ => by first | exact hk_.1.1.2 hs_ | exact hk_.1.1 hs_ | exact hk_.1.2 hs_ | exact hk_.2 hs_ | exact hk_.1 hs_ | exact hk_.1.1.1 hs_ | exact hk_ hs_ | exact hk_.1.2.1 hs_ | exact hk_.1.2.2 hs_ | exact hk_.1.1.2.1 hs_ | exact hk_.1.1.2.2 hs_ | exact hk_.2.1 hs_ | exact hk_.2.2 hs_ | exact hk_.1.1.1.1 hs_ | exact hk_.1.1.1.2 hs_ | exact hk_.1.2.2.1 hs_ | exact hk_.1.2.2.2 hs_ | exact hk_.1.1.1.2.1 hs_ | exact hk_.1.1.1.2.2 hs_ | exact hk_.2.2.1 hs_ | exact hk_.2.2.2 hs_ | exact hk_.1.1.2.2.1 hs_ | exact hk_.1.1.2.2.2 hs_ | exact hk_.1.2.2.2.1 hs_ | exact hk_.1.2.2.2.2 hs_ | exact hk_.1.1.1.1.1 hs_ | exact hk_.1.1.1.1.2 hs_)) (fun k_ hk_ => ⟨by first | exact hk_.1.1.1.1.2 | exact hk_.1.1.2 | exact hk_.1.1 | exact hk_.1.2 | exact hk_.2 | exact hk_.1 | exact hk_.1.1.1 | exact hk_ | exact hk_.1.2.1 | exact hk_.1.2.2 | exact hk_.1.1.2.1 | exact hk_.1.1.2.2 | exact hk_.2.1 | exact hk_.2.2 | exact hk_.1.1.1.1 | exact hk_.1.1.1.2 | exact hk_.1.2.2.1 | exact hk_.1.2.2.2 | exact hk_.1.1.1.2.1 | exact hk_.1.1.1.2.2 | exact hk_.2.2.1 | exact hk_.2.2.2 | exact hk_.1.1.2.2.1 | exact hk_.1.1.2.2.2 | exact hk_.1.2.2.2.1 | exact hk_.1.2.2.2.2 | exact hk_.1.1.1.1.1, by first | exact hk_.1.1.1.2 | exact hk_.1.1.2 | exact hk_.1.1 | exact hk_.1.2 | exact hk_.2 | exact hk_.1 | exact hk_.1.1.1 | exact hk_ | exact hk_.1.2.1 | exact hk_.1.2.2 | exact hk_.1.1.2.1 | exact hk_.1.1.2.2 | exact hk_.2.1 | exact hk_.2.2 | exact hk_.1.1.1.1 | exact hk_.1.2.2.1 | exact hk_.1.2.2.2 | exact hk_.1.1.1.2.1 | exact hk_.1.1.1.2.2 | exact hk_.2.2.1 | exact hk_.2.2.2 | exact hk_.1.1.2.2.1 | exact hk_.1.1.2.2.2 | exact hk_.1.2.2.2.1 | exact hk_.1.2.2.2.2 | exact hk_.1.1.1.1.1 | exact hk_.1.1.1.1.2, by first | exact hk_.1.1.2 | exact hk_.1.1 | exact hk_.1.2 | exact hk_.2 | exact hk_.1 | exact hk_.1.1.1 | exact hk_ | exact hk_.1.2.1 | exact hk_.1.2.2 | exact hk_.1.1.2.1 | exact hk_.1.1.2.2 | exact hk_.2.1 | exact hk_.2.2 | exact hk_.1.1.1.1 | exact hk_.1.1.1.2 | exact hk_.1.2.2.1 | exact hk_.1.2.2.2 | exact hk_.1.1.1.2.1 | exact hk_.1.1.1.2.2 | exact hk_.2.2.1 | exact hk_.2.2.2 | exact hk_.1.1.2.2.1 | exact hk_.1.1.2.2.2 | exact hk_.1.2.2.2.1 | exact hk_.1.2.2.2.2 | exact hk_.1.1.1.1.1 | exact hk_.1.1.1.1.2, by first | exact hk_.1.2 | exact hk_.1.1.2 | exact hk_.1.1 | exact hk_.2 | exact hk_.1 | exact hk_.1.1.1 | exact hk_ | exact hk_.1.2.1 | exact hk_.1.2.2 | exact hk_.1.1.2.1 | exact hk_.1.1.2.2 | exact hk_.2.1 | exact hk_.2.2 | exact hk_.1.1.1.1 | exact hk_.1.1.1.2 | exact hk_.1.2.2.1 | exact hk_.1.2.2.2 | exact hk_.1.1.1.2.1 | exact hk_.1.1.1.2.2 | exact hk_.2.2.1 | exact hk_.2.2.2 | exact hk_.1.1.2.2.1 | exact hk_.1.1.2.2.2 | exact hk_.1.2.2.2.1 | exact hk_.1.2.2.2.2 | exact hk_.1.1.1.1.1 | exact hk_.1.1.1.1.2⟩)); have n3_ := Aside0.mk (Kd.R_reok rfl hy0 (fun k_ e_ => HO459.out.1 k_ e_)); have n4_ := Aside0.mk (blk_kept q24_14 hkp (fun hs_ => (fun e_ => (Kd.R_ne HO459.out BK460.out (by decide)) e_) hs_)); have n5_ := Aside0.mk (Kd.R_mono (ok' := fun k_ => some k_ ≠ (.slice Ao23 t450.length co23 : Value).ownBlock ∧ some k_ ≠ (.slice Ao33 t453.length co33 : Value).ownBlock ∧ some k_ ≠ (.slice Ao30 t457.length co30 : Value).ownBlock ∧ some k_ ≠ (.slice Ao36 t466.length co36 : Value).ownBlock) (Kd.R_keptB (HO463.out) hkp (fun k_ hk_ hs_ => by first | exact hk_.1.2 hs_ | exact hk_.1.1.2 hs_ | exact hk_.1.1 hs_ | exact hk_.2 hs_ | exact hk_.1 hs_ | exact hk_.1.1.1 hs_ | exact hk_ hs_ | exact hk_.1.2.1 hs_ | exact hk_.1.2.2 hs_ | exact hk_.1.1.2.1 hs_ | exact hk_.1.1.2.2 hs_ | exact hk_.2.1 hs_ | exact hk_.2.2 hs_ | exact hk_.1.1.1.1 hs_ | exact hk_.1.1.1.2 hs_ | exact hk_.1.2.2.1 hs_ | exact hk_.1.2.2.2 hs_ | exact hk_.1.1.1.2.1 hs_ | exact hk_.1.1.1.2.2 hs_ | exact hk_.2.2.1 hs_ | exact hk_.2.2.2 hs_ | exact hk_.1.1.2.2.1 hs_ | exact hk_.1.1.2.2.2 hs_ | exact hk_.1.2.2.2.1 hs_ | exact hk_.1.2.2.2.2 hs_ | exact hk_.1.1.1.1.1 hs_ | exact hk_.1.1.1.1.2 hs_)) (fun k_ hk_ => ⟨by first | exact hk_.1.1.1.1.2 | exact hk_.1.1.2 | exact hk_.1.1 | exact hk_.1.2 | exact hk_.2 | exact hk_.1 | exact hk_.1.1.1 | exact hk_ | exact hk_.1.2.1 | exact hk_.1.2.2 | exact hk_.1.1.2.1 | exact hk_.1.1.2.2 | exact hk_.2.1 | exact hk_.2.2 | exact hk_.1.1.1.1 | exact hk_.1.1.1.2 | exact hk_.1.2.2.1 | exact hk_.1.2.2.2 | exact hk_.1.1.1.2.1 | exact hk_.1.1.1.2.2 | exact hk_.2.2.1 | exact hk_.2.2.2 | exact hk_.1.1.2.2.1 | exact hk_.1.1.2.2.2 | exact hk_.1.2.2.2.1 | exact hk_.1.2.2.2.2 | exact hk_.1.1.1.1.1, by first | exact hk_.1.1.1.2 | exact hk_.1.1.2 | exact hk_.1.1 | exact hk_.1.2 | exact hk_.2 | exact hk_.1 | exact hk_.1.1.1 | exact hk_ | exact hk_.1.2.1 | exact hk_.1.2.2 | exact hk_.1.1.2.1 | exact hk_.1.1.2.2 | exact hk_.2.1 | exact hk_.2.2 | exact hk_.1.1.1.1 | exact hk_.1.2.2.1 | exact hk_.1.2.2.2 | exact hk_.1.1.1.2.1 | exact hk_.1.1.1.2.2 | exact hk_.2.2.1 | exact hk_.2.2.2 | exact hk_.1.1.2.2.1 | exact hk_.1.1.2.2.2 | exact hk_.1.2.2.2.1 | exact hk_.1.2.2.2.2 | exact hk_.1.1.1.1.1 | exact hk_.1.1.1.1.2, by first | exact hk_.1.1.2 | exact hk_.1.1 | exact hk_.1.2 | exact hk_.2 | exact hk_.1 | exact hk_.1.1.1 | exact hk_ | exact hk_.1.2.1 | exact hk_.1.2.2 | exact hk_.1.1.2.1 | exact hk_.1.1.2.2 | exact hk_.2.1 | exact hk_.2.2 | exact hk_.1.1.1.1 | exact hk_.1.1.1.2 | exact hk_.1.2.2.1 | exact hk_.1.2.2.2 | exact hk_.1.1.1.2.1 | exact hk_.1.1.1.2.2 | exact hk_.2.2.1 | exact hk_.2.2.2 | exact hk_.1.1.2.2.1 | exact hk_.1.1.2.2.2 | exact hk_.1.2.2.2.1 | exact hk_.1.2.2.2.2 | exact hk_.1.1.1.1.1 | exact hk_.1.1.1.1.2, by first | exact hk_.1.2 | exact hk_.1.1.2 | exact hk_.1.1 | exact hk_.2 | exact hk_.1 | exact hk_.1.1.1 | exact hk_ | exact hk_.1.2.1 | exact hk_.1.2.2 | exact hk_.1.1.2.1 | exact hk_.1.1.2.2 | exact hk_.2.1 | exact hk_.2.2 | exact hk_.1.1.1.1 | exact hk_.1.1.1.2 | exact hk_.1.2.2.1 | exact hk_.1.2.2.2 | exact hk_.1.1.1.2.1 | exact hk_.1.1.1.2.2 | exact hk_.2.2.1 | exact hk_.2.2.2 | exact hk_.1.1.2.2.1 | exact hk_.1.1.2.2.2 | exact hk_.1.2.2.2.1 | exact hk_.1.2.2.2.2 | exact hk_.1.1.1.1.1 | exact hk_.1.1.1.1.2⟩)); have n6_ := Aside0.mk (Kd.R_mono (ok' := fun k_ => some k_ ≠ (.slice Ao23 t450.length co23 : Value).ownBlock ∧ some k_ ≠ (.slice Ao33 t453.length co33 : Value).ownBlock ∧ some k_ ≠ (.slice Ao30 t457.length co30 : Value).ownBlock ∧ some k_ ≠ (.slice Ao32 t461.length co32 : Value).ownBlock) (Kd.R_keptB (HO468.out) hkp (fun k_ hk_ hs_ => by first | exact hk_.1.2 hs_ | exact hk_.1.1.2 hs_ | exact hk_.1.1 hs_ | exact hk_.2 hs_ | exact hk_.1 hs_ | exact hk_.1.1.1 hs_ | exact hk_ hs_ | exact hk_.1.2.1 hs_ | exact hk_.1.2.2 hs_ | exact hk_.1.1.2.1 hs_ | exact hk_.1.1.2.2 hs_ | exact hk_.2.1 hs_ | exact hk_.2.2 hs_ | exact hk_.1.1.1.1 hs_ | exact hk_.1.1.1.2 hs_ | exact hk_.1.2.2.1 hs_ | exact hk_.1.2.2.2 hs_ | exact hk_.1.1.1.2.1 hs_ | exact hk_.1.1.1.2.2 hs_ | exact hk_.2.2.1 hs_ | exact hk_.2.2.2 hs_ | exact hk_.1.1.2.2.1 hs_ | exact hk_.1.1.2.2.2 hs_ | exact hk_.1.2.2.2.1 hs_ | exact hk_.1.2.2.2.2 hs_ | exact hk_.1.1.1.1.1 hs_ | exact hk_.1.1.1.1.2 hs_)) (fun k_ hk_ => ⟨by first | exact hk_.1.1.1.1.2 | exact hk_.1.1.2 | exact hk_.1.1 | exact hk_.1.2 | exact hk_.2 | exact hk_.1 | exact hk_.1.1.1 | exact hk_ | exact hk_.1.2.1 | exact hk_.1.2.2 | exact hk_.1.1.2.1 | exact hk_.1.1.2.2 | exact hk_.2.1 | exact hk_.2.2 | exact hk_.1.1.1.1 | exact hk_.1.1.1.2 | exact hk_.1.2.2.1 | exact hk_.1.2.2.2 | exact hk_.1.1.1.2.1 | exact hk_.1.1.1.2.2 | exact hk_.2.2.1 | exact hk_.2.2.2 | exact hk_.1.1.2.2.1 | exact hk_.1.1.2.2.2 | exact hk_.1.2.2.2.1 | exact hk_.1.2.2.2.2 | exact hk_.1.1.1.1.1, by first | exact hk_.1.1.1.2 | exact hk_.1.1.2 | exact hk_.1.1 | exact hk_.1.2 | exact hk_.2 | exact hk_.1 | exact hk_.1.1.1 | exact hk_ | exact hk_.1.2.1 | exact hk_.1.2.2 | exact hk_.1.1.2.1 | exact hk_.1.1.2.2 | exact hk_.2.1 | exact hk_.2.2 | exact hk_.1.1.1.1 | exact hk_.1.2.2.1 | exact hk_.1.2.2.2 | exact hk_.1.1.1.2.1 | exact hk_.1.1.1.2.2 | exact hk_.2.2.1 | exact hk_.2.2.2 | exact hk_.1.1.2.2.1 | exact hk_.1.1.2.2.2 | exact hk_.1.2.2.2.1 | exact hk_.1.2.2.2.2 | exact hk_.1.1.1.1.1 | exact hk_.1.1.1.1.2, by first | exact hk_.1.1.2 | exact hk_.1.1 | exact hk_.1.2 | exact hk_.2 | exact hk_.1 | exact hk_.1.1.1 | exact hk_ | exact hk_.1.2.1 | exact hk_.1.2.2 | exact hk_.1.1.2.1 | exact hk_.1.1.2.2 | exact hk_.2.1 | exact hk_.2.2 | exact hk_.1.1.1.1 | exact hk_.1.1.1.2 | exact hk_.1.2.2.1 | exact hk_.1.2.2.2 | exact hk_.1.1.1.2.1 | exact hk_.1.1.1.2.2 | exact hk_.2.2.1 | exact hk_.2.2.2 | exact hk_.1.1.2.2.1 | exact hk_.1.1.2.2.2 | exact hk_.1.2.2.2.1 | exact hk_.1.2.2.2.2 | exact hk_.1.1.1.1.1 | exact hk_.1.1.1.1.2, by first | exact hk_.1.2 | exact hk_.1.1.2 | exact hk_.1.1 | exact hk_.2 | exact hk_.1 | exact hk_.1.1.1 | exact hk_ | exact hk_.1.2.1 | exact hk_.1.2.2 | exact hk_.1.1.2.1 | exact hk_.1.1.2.2 | exact hk_.2.1 | exact hk_.2.2 | exact hk_.1.1.1.1 | exact hk_.1.1.1.2 | exact hk_.1.2.2.1 | exact hk_.1.2.2.2 | exact hk_.1.1.1.2.1 | exact hk_.1.1.1.2.2 | exact hk_.2.2.1 | exact hk_.2.2.2 | exact hk_.1.1.2.2.1 | exact hk_.1.1.2.2.2 | exact hk_.1.2.2.2.1 | exact hk_.1.2.2.2.2 | exact hk_.1.1.1.1.1 | exact hk_.1.1.1.1.2⟩)); have n7_ := Aside0.mk (hb); clear BK447; clear HO452; clear HO455; clear HO459; clear BK460; clear HO463; clear HO468; clear HB; have BK447 := n0_; have HO452 := n1_; have HO455 := n2_; have HO459 := n3_; have BK460 := n4_; have HO463 := n5_; have HO468 := n6_; have HB := n7_; clear n0_ n1_ n2_ n3_ n4_ n5_ n6_ n7_; (try clear hb); (try clear hkp); (try clear hy0)))
    (try simp only [Act.put, List.setIfInBounds_toArray, List.set_cons_zero, List.set_cons_succ])
    go_cut [42] (fun v42 wc => ∃ (kq : Nat) (x42_16 : Bool), v42 = .bool x42_16 ∧ Aside0 (laws_FnExactProperPremises.j0 kq t453 t461 x42_16 a0_0 l0_1 = some r) ∧ Aside0 (kq ≤ k) ∧ Aside0 (Kd.R (Kd.int .i64) 3 wc w.heap.size (fun k_ => some k_ ≠ ((.slice Ao32 t461.length co32) : Value).ownBlock ∧ some k_ ≠ ((.slice Ao30 t457.length co30) : Value).ownBlock) (.slice Ao33 t453.length co33) t453) ∧ Aside0 (Kd.R (Kd.int .i64) 3 wc w.heap.size (fun k_ => some k_ ≠ ((.slice Ao33 t453.length co33) : Value).ownBlock ∧ some k_ ≠ ((.slice Ao30 t457.length co30) : Value).ownBlock) (.slice Ao32 t461.length co32) t461) ∧ Aside0 (Kd.R (Kd.int .i64) 3 wc w.heap.size (fun k_ => some k_ ≠ ((.slice Ao33 t453.length co33) : Value).ownBlock ∧ some k_ ≠ ((.slice Ao32 t461.length co32) : Value).ownBlock) (.slice Ao30 t457.length co30) t471) ∧ Aside0 (wc.heap[gb447]? = some (.cells #[.int .i64 a0_0, (.slice A0_1 l0_1.length c0_1)] 24 (0, 0))) ∧ Aside0 (wc.heap[gb460]? = some (.cells #[.int .i64 t456, (.slice Ao30 t457.length co30)] 27 (0, 0))) ∧ Aside0 (Below w.heap.size w wc))
    case first =>
     have H := HC17.out
     clear HC17
     by_cases c40 : t470 < 0
     ·
      rw [if_pos c40] at H
      refine absurd ?_ Bool.false_ne_true; revert H; generalize k = kq_; intro H; cases kq_ with | zero => exact absurd H (by simp only [laws_FnExactProperPremises.j0]; exact fun h => by cases h) | succ kq_ => simp only [laws_FnExactProperPremises.j0] at H; (try rw [if_pos rfl] at H); exact (Option.some.inj H).trans HRT.out
     ·
      rw [if_neg c40] at H
      have c40b0 : decide (t470 < 0) = false := decide_eq_false c40
      clear c40
      (first | rw [c40b0] | (simp only [i64_w, i32_w]; rw [c40b0]) | skip)
      replace H := Option.bind_eq_some_iff.mp H
      obtain ⟨t472, A410, H⟩ := H
      replace H : (laws_FnExactProperPremises.j0 k t453 t461 (!t472) a0_0 l0_1) = some r := H
      have A41 := Aside0.mk A410
      clear A410
      have H' := Aside0.mk H
      clear H
      go_wp2_with (first | (go_at_call 21; (with_reducible refine (laws_eqIntS.calls k _ _ t461 _ _ t453 t472 _ ?side1 ?side2 ?side3 ?side4 A41.out).mono ?_); (case side1 => exact q24_8); (case side2 => exact (Kd.R_reads' HO463.out).2.1); (case side3 => exact q24_7); (case side4 => exact (Kd.R_reads' HO455.out).2.1); rintro e w' ⟨rfl, ⟨nd, rfl⟩⟩))
      go_meet
      case rel => exact ⟨_, (!t472), (by first | rfl | (simp; done) | (simp [*]; done) | (simp [i64_w, i32_w]; done)), H', ⟨by first | omega | exact Nat.le_refl _⟩, ⟨by (with_reducible repeat (first | apply Kd.R_alloc | apply Kd.R_drewN | apply Kd.R_drew)); exact Kd.R_mono HO455.out (fun _ hk => ⟨by first | exact hk.2.2.1 | exact hk.1.1.2 | exact hk.1.1 | exact hk.1.2 | exact hk.2 | exact hk.1 | exact hk.1.1.1 | exact hk | exact hk.1.2.1 | exact hk.1.2.2 | exact hk.1.1.2.1 | exact hk.1.1.2.2 | exact hk.2.1 | exact hk.2.2 | exact hk.1.1.1.1 | exact hk.1.1.1.2 | exact hk.1.2.2.1 | exact hk.1.2.2.2 | exact hk.1.1.1.2.1 | exact hk.1.1.1.2.2 | exact hk.2.2.2 | exact hk.1.1.2.2.1 | exact hk.1.1.2.2.2 | exact hk.1.2.2.2.1 | exact hk.1.2.2.2.2 | exact hk.1.1.1.1.1 | exact hk.1.1.1.1.2, by first | exact hk.2.1 | exact hk.1.1.2 | exact hk.1.1 | exact hk.1.2 | exact hk.2 | exact hk.1 | exact hk.1.1.1 | exact hk | exact hk.1.2.1 | exact hk.1.2.2 | exact hk.1.1.2.1 | exact hk.1.1.2.2 | exact hk.2.2 | exact hk.1.1.1.1 | exact hk.1.1.1.2 | exact hk.1.2.2.1 | exact hk.1.2.2.2 | exact hk.1.1.1.2.1 | exact hk.1.1.1.2.2 | exact hk.2.2.1 | exact hk.2.2.2 | exact hk.1.1.2.2.1 | exact hk.1.1.2.2.2 | exact hk.1.2.2.2.1 | exact hk.1.2.2.2.2 | exact hk.1.1.1.1.1 | exact hk.1.1.1.1.2⟩)⟩, ⟨by (with_reducible repeat (first | apply Kd.R_alloc | apply Kd.R_drewN | apply Kd.R_drew)); exact Kd.R_mono HO463.out (fun _ hk => ⟨by first | exact hk.2.1 | exact hk.1.1.2 | exact hk.1.1 | exact hk.1.2 | exact hk.2 | exact hk.1 | exact hk.1.1.1 | exact hk | exact hk.1.2.1 | exact hk.1.2.2 | exact hk.1.1.2.1 | exact hk.1.1.2.2 | exact hk.2.2 | exact hk.1.1.1.1 | exact hk.1.1.1.2 | exact hk.1.2.2.1 | exact hk.1.2.2.2 | exact hk.1.1.1.2.1 | exact hk.1.1.1.2.2 | exact hk.2.2.1 | exact hk.2.2.2 | exact hk.1.1.2.2.1 | exact hk.1.1.2.2.2 | exact hk.1.2.2.2.1 | exact hk.1.2.2.2.2 | exact hk.1.1.1.1.1 | exact hk.1.1.1.1.2, by first | exact hk.2.2.1 | exact hk.1.1.2 | exact hk.1.1 | exact hk.1.2 | exact hk.2 | exact hk.1 | exact hk.1.1.1 | exact hk | exact hk.1.2.1 | exact hk.1.2.2 | exact hk.1.1.2.1 | exact hk.1.1.2.2 | exact hk.2.1 | exact hk.2.2 | exact hk.1.1.1.1 | exact hk.1.1.1.2 | exact hk.1.2.2.1 | exact hk.1.2.2.2 | exact hk.1.1.1.2.1 | exact hk.1.1.1.2.2 | exact hk.2.2.2 | exact hk.1.1.2.2.1 | exact hk.1.1.2.2.2 | exact hk.1.2.2.2.1 | exact hk.1.2.2.2.2 | exact hk.1.1.1.1.1 | exact hk.1.1.1.1.2⟩)⟩, ⟨by (with_reducible repeat (first | apply Kd.R_alloc | apply Kd.R_drewN | apply Kd.R_drew)); exact Kd.R_mono HO459.out (fun _ hk => ⟨by first | exact hk.1.1.2 | exact hk.1.1 | exact hk.1.2 | exact hk.2 | exact hk.1 | exact hk.1.1.1 | exact hk | exact hk.1.2.1 | exact hk.1.2.2 | exact hk.1.1.2.1 | exact hk.1.1.2.2 | exact hk.2.1 | exact hk.2.2 | exact hk.1.1.1.1 | exact hk.1.1.1.2 | exact hk.1.2.2.1 | exact hk.1.2.2.2 | exact hk.1.1.1.2.1 | exact hk.1.1.1.2.2 | exact hk.2.2.1 | exact hk.2.2.2 | exact hk.1.1.2.2.1 | exact hk.1.1.2.2.2 | exact hk.1.2.2.2.1 | exact hk.1.2.2.2.2 | exact hk.1.1.1.1.1 | exact hk.1.1.1.1.2, by first | exact hk.1.2 | exact hk.1.1.2 | exact hk.1.1 | exact hk.2 | exact hk.1 | exact hk.1.1.1 | exact hk | exact hk.1.2.1 | exact hk.1.2.2 | exact hk.1.1.2.1 | exact hk.1.1.2.2 | exact hk.2.1 | exact hk.2.2 | exact hk.1.1.1.1 | exact hk.1.1.1.2 | exact hk.1.2.2.1 | exact hk.1.2.2.2 | exact hk.1.1.1.2.1 | exact hk.1.1.1.2.2 | exact hk.2.2.1 | exact hk.2.2.2 | exact hk.1.1.2.2.1 | exact hk.1.1.2.2.2 | exact hk.1.2.2.2.1 | exact hk.1.2.2.2.2 | exact hk.1.1.1.1.1 | exact hk.1.1.1.1.2⟩)⟩, ⟨by (with_reducible repeat (first | refine blk_drewN ?_ _ | refine blk_drew ?_ | refine blk_alloc ?_ _)); exact BK447.out⟩, ⟨by (with_reducible repeat (first | refine blk_drewN ?_ _ | refine blk_drew ?_ | refine blk_alloc ?_ _)); exact BK460.out⟩, ⟨by repeat (first | (with_reducible first | exact HB.out | apply below_alloc | apply pw_below_drewN | apply below_drew1 | refine below_set ?_ GE447.out | refine below_set ?_ GE460.out) | exact HB.out)⟩⟩
    case rest =>
     clear HC17
     try clear c1
     try clear c2
     try clear p2
     try clear c3
     try clear c3b0
     try clear c4
     try clear c5
     try clear c12
     try clear c14
     try clear c15
     try clear c16
     try clear c21
     try clear c26
     try clear c27
     try clear c28
     try clear c40
     try clear c40b0
     try clear hcz19_0
     try clear hcz19_1
     try clear hcz21_0
     try clear hcz21_1
     try clear hcz25_0
     try clear hcz25_1
     try clear hcz29_0
     try clear hcz29_1
     try clear hcz38_0
     try clear hcz38_1
     try clear hcz5_0
     try clear hcz5_1
     try clear hfz19_0
     try clear hfz19_1
     try clear hfz21_0
     try clear hfz21_1
     try clear hfz25_0
     try clear hfz25_1
     try clear hfz29_0
     try clear hfz29_1
     try clear hfz38_0
     try clear hfz38_1
     try clear hfz5_0
     try clear hfz5_1
     obtain ⟨kq, x42_16, rfl, HA, HJ16, HO_4, HO_6, HO_461001, BK447, BK460, HB⟩ := hcut
     have hl461001_16 := (Kd.R_reads' HO_461001.out).1
     rw [hl461001_16] at HO_461001
     (try simp only [hl461001_16])
     (try simp only [hl461001_16] at BK447)
     (try simp only [hl461001_16] at BK460)
     (try simp only [hl461001_16] at HO_4)
     (try simp only [hl461001_16] at HO_6)
     cases kq with
     | zero => exact absurd HA.out (by simp [laws_FnExactProperPremises.j0])
     | succ kj16 =>
      have H := HA.out
      clear HA
      simp only [laws_FnExactProperPremises.j0] at H
      by_cases c42 : x42_16 = true
      ·
       subst c42
       have H1 : (some false) = some r := by rw [if_pos rfl] at H; exact H
       clear H
       have H := H1
       clear H1
       exact absurd ((Option.some.inj H).trans HRT.out) Bool.false_ne_true
      ·
       replace c42 := Bool.eq_false_iff.mpr c42
       subst c42
       have H1 : ((laws_markIntS.f kj16 t461 1).bind fun bt473 => ((laws_heldIntS.f kj16 bt473.2 1).bind fun t475 => (if t475 < 0 then (some false) else (if t475 = bt473.1 then ((laws_toContext.f kj16 a0_0 l0_1).bind fun bt476 => ((impl_ProperPremises.f kj16 bt476.1 bt476.2).bind fun t480 => ((laws_eqIntS.f kj16 t480 t453).bind fun t483 => (if t483 = true then ((laws_heldIntS.f kj16 bt473.2 1).bind fun t484 => (if t484 < 0 then (some false) else (if t484 = bt473.1 then (some true) else (some false)))) else (some false))))) else (some false))))) = some r := q24_22
       clear H
       have H := H1
       clear H1
       replace H := Option.bind_eq_some_iff.mp H
       obtain ⟨⟨t473, t474⟩, A430, H⟩ := H
       replace H : ((laws_heldIntS.f kj16 t474 1).bind fun t475 => (if t475 < 0 then (some false) else (if t475 = t473 then ((laws_toContext.f kj16 a0_0 l0_1).bind fun bt476 => ((impl_ProperPremises.f kj16 bt476.1 bt476.2).bind fun t480 => ((laws_eqIntS.f kj16 t480 t453).bind fun t483 => (if t483 = true then ((laws_heldIntS.f kj16 t474 1).bind fun t484 => (if t484 < 0 then (some false) else (if t484 = t473 then (some true) else (some false)))) else (some false))))) else (some false)))) = some r := H
       have A43 := Aside0.mk A430
       clear A430
       replace H := Option.bind_eq_some_iff.mp H
       obtain ⟨t475, A440, H⟩ := H
       replace H : (if t475 < 0 then (some false) else (if t475 = t473 then ((laws_toContext.f kj16 a0_0 l0_1).bind fun bt476 => ((impl_ProperPremises.f kj16 bt476.1 bt476.2).bind fun t480 => ((laws_eqIntS.f kj16 t480 t453).bind fun t483 => (if t483 = true then ((laws_heldIntS.f kj16 t474 1).bind fun t484 => (if t484 < 0 then (some false) else (if t484 = t473 then (some true) else (some false)))) else (some false))))) else (some false))) = some r := H
       have A44 := Aside0.mk A440
       clear A440
       by_cases c45 : t475 < 0
       ·
        rw [if_pos c45] at H
        exact absurd ((Option.some.inj H).trans HRT.out) Bool.false_ne_true
       ·
        rw [if_neg c45] at H
        have c45b0 : decide (t475 < 0) = false := decide_eq_false c45
        clear c45
        by_cases c46 : t475 = t473
        ·
         rw [if_pos c46] at H
         have c46b0 : (t475 == t473) = true := beq_iff_eq.mpr c46
         have c46b1 : (t475 != t473) = false := bne_eq_false_iff_eq.mpr c46
         clear c46
         replace H := Option.bind_eq_some_iff.mp H
         obtain ⟨⟨t476, t477⟩, A470, H⟩ := H
         replace H : ((impl_ProperPremises.f kj16 t476 t477).bind fun t480 => ((laws_eqIntS.f kj16 t480 t453).bind fun t483 => (if t483 = true then ((laws_heldIntS.f kj16 t474 1).bind fun t484 => (if t484 < 0 then (some false) else (if t484 = t473 then (some true) else (some false)))) else (some false)))) = some r := H
         have A47 := Aside0.mk A470
         clear A470
         replace H := Option.bind_eq_some_iff.mp H
         obtain ⟨t480, A480, H⟩ := H
         replace H : ((laws_eqIntS.f kj16 t480 t453).bind fun t483 => (if t483 = true then ((laws_heldIntS.f kj16 t474 1).bind fun t484 => (if t484 < 0 then (some false) else (if t484 = t473 then (some true) else (some false)))) else (some false))) = some r := H
         have A48 := Aside0.mk A480
         clear A480
         replace H := Option.bind_eq_some_iff.mp H
         obtain ⟨t483, A490, H⟩ := H
         replace H : (if t483 = true then ((laws_heldIntS.f kj16 t474 1).bind fun t484 => (if t484 < 0 then (some false) else (if t484 = t473 then (some true) else (some false)))) else (some false)) = some r := H
         have A49 := Aside0.mk A490
         clear A490
         by_cases c50 : t483 = true
         ·
          subst c50
          have H1 : ((laws_heldIntS.f kj16 t474 1).bind fun t484 => (if t484 < 0 then (some false) else (if t484 = t473 then (some true) else (some false)))) = some r := by rw [if_pos rfl] at H; exact H
          clear H
          have H := H1
          clear H1
          replace H := Option.bind_eq_some_iff.mp H
          obtain ⟨t484, A510, H⟩ := H
          replace H : (if t484 < 0 then (some false) else (if t484 = t473 then (some true) else (some false))) = some r := H
          have A51 := Aside0.mk A510
          clear A510
          by_cases c52 : t484 < 0
          ·
           rw [if_pos c52] at H
           exact absurd ((Option.some.inj H).trans HRT.out) Bool.false_ne_true
          ·
           rw [if_neg c52] at H
           have c52b0 : decide (t484 < 0) = false := decide_eq_false c52
           clear c52
           by_cases c53 : t484 = t473
           ·
            rw [if_pos c53] at H
            have c53b0 : (t484 == t473) = true := beq_iff_eq.mpr c53
            have c53b1 : (t484 != t473) = false := bne_eq_false_iff_eq.mpr c53
            clear c53
            obtain rfl := Option.some.inj H
            go_wp2_with (first | ((with_reducible refine gate_callee (f := 24) rfl ?_); refine goesL_ (some 45) rfl rfl Tryd.func24 q24_23 rfl #[.slice Ao32 t461.length co32, .int .i64 1] rfl q24_11 ?_; (with_reducible refine (laws_markIntS.calls kj16 (fun k_ => some k_ = (.slice Ao32 t461.length co32 : Value).ownBlock) (.slice Ao32 t461.length co32) t461 1 t473 t474 w _ ?side1 ?side2 A43.out).mono ?_); (case side1 => exact q24_5); (case side2 => exact Kd.R_tight rfl HO_6.out); rintro e w54 ⟨rfl, hy0, hb, hkp⟩; refine ⟨_, rfl, ?_⟩; have n0_ := Aside0.mk (Kd.R_mono (ok' := fun k_ => some k_ ≠ (.slice Ao32 t461.length co32 : Value).ownBlock ∧ some k_ ≠ (.slice Ao30 t471.length co30 : Value).ownBlock) (Kd.R_keptB (HO_4.out) hkp (fun k_ hk_ hs_ => by first | exact hk_.1 hs_ | exact hk_.1.1.2 hs_ | exact hk_.1.1 hs_ | exact hk_.1.2 hs_ | exact hk_.2 hs_ | exact hk_.1.1.1 hs_ | exact hk_ hs_ | exact hk_.1.2.1 hs_ | exact hk_.1.2.2 hs_ | exact hk_.1.1.2.1 hs_ | exact hk_.1.1.2.2 hs_ | exact hk_.2.1 hs_ | exact hk_.2.2 hs_ | exact hk_.1.1.1.1 hs_ | exact hk_.1.1.1.2 hs_ | exact hk_.1.2.2.1 hs_ | exact hk_.1.2.2.2 hs_ | exact hk_.1.1.1.2.1 hs_ | exact hk_.1.1.1.2.2 hs_ | exact hk_.2.2.1 hs_ | exact hk_.2.2.2 hs_ | exact hk_.1.1.2.2.1 hs_ | exact hk_.1.1.2.2.2 hs_ | exact hk_.1.2.2.2.1 hs_ | exact hk_.1.2.2.2.2 hs_ | exact hk_.1.1.1.1.1 hs_ | exact hk_.1.1.1.1.2 hs_)) (fun k_ hk_ => ⟨by first | exact hk_.1.1 | exact hk_.1.1.2 | exact hk_.1.2 | exact hk_.2 | exact hk_.1 | exact hk_.1.1.1 | exact hk_ | exact hk_.1.2.1 | exact hk_.1.2.2 | exact hk_.1.1.2.1 | exact hk_.1.1.2.2 | exact hk_.2.1 | exact hk_.2.2 | exact hk_.1.1.1.1 | exact hk_.1.1.1.2 | exact hk_.1.2.2.1 | exact hk_.1.2.2.2 | exact hk_.1.1.1.2.1 | exact hk_.1.1.1.2.2 | exact hk_.2.2.1 | exact hk_.2.2.2 | exact hk_.1.1.2.2.1 | exact hk_.1.1.2.2.2 | exact hk_.1.2.2.2.1 | exact hk_.1.2.2.2.2 | exact hk_.1.1.1.1.1 | exact hk_.1.1.1.1.2, by first | exact hk_.1.2 | exact hk_.1.1.2 | exact hk_.1.1 | exact hk_.2 | exact hk_.1 | exact hk_.1.1.1 | exact hk_ | exact hk_.1.2.1 | exact hk_.1.2.2 | exact hk_.1.1.2.1 | exact hk_.1.1.2.2 | exact hk_.2.1 | exact hk_.2.2 | exact hk_.1.1.1.1 | exact hk_.1.1.1.2 | exact hk_.1.2.2.1 | exact hk_.1.2.2.2 | exact hk_.1.1.1.2.1 | exact hk_.1.1.1.2.2 | exact hk_.2.2.1 | exact hk_.2.2.2 | exact hk_.1.1.2.2.1 | exact hk_.1.1.2.2.2 | exact hk_.1.2.2.2.1 | exact hk_.1.2.2.2.2 | exact hk_.1.1.1.1.1 | exact hk_.1.1.1.1.2⟩)); have n1_ := Aside0.mk (Kd.R_reok rfl hy0 (fun k_ e_ => HO_6.out.1 k_ e_)); have n2_ := Aside0.mk (Kd.R_mono (ok' := fun k_ => some k_ ≠ (.slice Ao33 t453.length co33 : Value).ownBlock ∧ some k_ ≠ (.slice Ao32 t461.length co32 : Value).ownBlock) (Kd.R_keptB (HO_461001.out) hkp (fun k_ hk_ hs_ => by first | exact hk_.2 hs_ | exact hk_.1.1.2 hs_ | exact hk_.1.1 hs_ | exact hk_.1.2 hs_ | exact hk_.1 hs_ | exact hk_.1.1.1 hs_ | exact hk_ hs_ | exact hk_.1.2.1 hs_ | exact hk_.1.2.2 hs_ | exact hk_.1.1.2.1 hs_ | exact hk_.1.1.2.2 hs_ | exact hk_.2.1 hs_ | exact hk_.2.2 hs_ | exact hk_.1.1.1.1 hs_ | exact hk_.1.1.1.2 hs_ | exact hk_.1.2.2.1 hs_ | exact hk_.1.2.2.2 hs_ | exact hk_.1.1.1.2.1 hs_ | exact hk_.1.1.1.2.2 hs_ | exact hk_.2.2.1 hs_ | exact hk_.2.2.2 hs_ | exact hk_.1.1.2.2.1 hs_ | exact hk_.1.1.2.2.2 hs_ | exact hk_.1.2.2.2.1 hs_ | exact hk_.1.2.2.2.2 hs_ | exact hk_.1.1.1.1.1 hs_ | exact hk_.1.1.1.1.2 hs_)) (fun k_ hk_ => ⟨by first | exact hk_.1.1 | exact hk_.1.1.2 | exact hk_.1.2 | exact hk_.2 | exact hk_.1 | exact hk_.1.1.1 | exact hk_ | exact hk_.1.2.1 | exact hk_.1.2.2 | exact hk_.1.1.2.1 | exact hk_.1.1.2.2 | exact hk_.2.1 | exact hk_.2.2 | exact hk_.1.1.1.1 | exact hk_.1.1.1.2 | exact hk_.1.2.2.1 | exact hk_.1.2.2.2 | exact hk_.1.1.1.2.1 | exact hk_.1.1.1.2.2 | exact hk_.2.2.1 | exact hk_.2.2.2 | exact hk_.1.1.2.2.1 | exact hk_.1.1.2.2.2 | exact hk_.1.2.2.2.1 | exact hk_.1.2.2.2.2 | exact hk_.1.1.1.1.1 | exact hk_.1.1.1.1.2, by first | exact hk_.1.2 | exact hk_.1.1.2 | exact hk_.1.1 | exact hk_.2 | exact hk_.1 | exact hk_.1.1.1 | exact hk_ | exact hk_.1.2.1 | exact hk_.1.2.2 | exact hk_.1.1.2.1 | exact hk_.1.1.2.2 | exact hk_.2.1 | exact hk_.2.2 | exact hk_.1.1.1.1 | exact hk_.1.1.1.2 | exact hk_.1.2.2.1 | exact hk_.1.2.2.2 | exact hk_.1.1.1.2.1 | exact hk_.1.1.1.2.2 | exact hk_.2.2.1 | exact hk_.2.2.2 | exact hk_.1.1.2.2.1 | exact hk_.1.1.2.2.2 | exact hk_.1.2.2.2.1 | exact hk_.1.2.2.2.2 | exact hk_.1.1.1.1.1 | exact hk_.1.1.1.1.2⟩)); have n3_ := Aside0.mk (blk_kept q24_13 hkp (fun hs_ => (fun e_ => (Kd.R_ne HO_6.out BK447.out (by decide)) e_) hs_)); have n4_ := Aside0.mk (blk_kept q24_14 hkp (fun hs_ => (fun e_ => (Kd.R_ne HO_6.out BK460.out (by decide)) e_) hs_)); have n5_ := Aside0.mk (hb); clear HO_4; clear HO_6; clear HO_461001; clear BK447; clear BK460; clear HB; have HO_4 := n0_; have HO_6 := n1_; have HO_461001 := n2_; have BK447 := n3_; have BK460 := n4_; have HB := n5_; clear n0_ n1_ n2_ n3_ n4_ n5_; (try clear hb); (try clear hkp); (try clear hy0)) | ((with_reducible refine gate_callee (f := 25) rfl ?_); refine goesL_ (some 48) rfl rfl Tryd.func25 q24_23 rfl #[.slice Ao32 t474.length co32, .int .i64 1] rfl q24_4 ?_; (with_reducible refine (laws_heldIntS.calls kj16 _ _ t474 1 t475 _ ?side1 ?side2 A44.out).mono ?_); (case side1 => exact q24_9); (case side2 => rw [show t474.length = t461.length from (Kd.R_reads' HO_6.out).1.symm]; exact (Kd.R_reads' HO_6.out).2.1); rintro e w' ⟨rfl, ⟨nd, rfl⟩⟩; refine ⟨_, rfl, ?_⟩; have hnb55 := NB447_460.out; have hnc55 := NB460_447.out; have hcz56_0 : w54.cell? ⟨gb447, 0, none⟩ = some (.int .i64 a0_0) := (blk_cell BK447.out 0).trans rfl; have hcz56_1 : w54.cell? ⟨gb447, 1, none⟩ = some (.slice A0_1 l0_1.length c0_1) := (blk_cell BK447.out 1).trans rfl; have hfz56_0 := blk_frozen BK447.out 0; have hfz56_1 := blk_frozen BK447.out 1) | ((with_reducible refine gate_callee (f := 14) rfl ?_); refine goesL_ (some 55) rfl rfl Tryd.func14 q24_23 rfl #[.agg #[.int .i64 a0_0, .slice A0_1 l0_1.length c0_1]] rfl q24_11 ?_; (with_reducible refine (laws_toContext.calls kj16 a0_0 _ _ l0_1 t476 t477 _ ?side1 ?side2 A47.out).mono ?_); (case side1 => repeat (first | exact (Kd.C_below HR0_1.out q24_5) | (with_reducible refine Kd.C_alloc ?_ _) | (with_reducible refine Kd.C_drewN ?_ _) | (with_reducible refine Kd.C_drew ?_))); (case side2 => exact HC0_1.out); rintro e w57 ⟨v478, rfl, ho0, hb⟩; refine ⟨_, rfl, ?_⟩; have n0_ := Aside0.mk (Kd.R_elder' q24_20 (Kd.R_base ho0) hb); have n1_ := Aside0.mk (Kd.R_elder' q24_21 (Kd.R_base ho0) hb); have n2_ := Aside0.mk (Kd.R_elder' q24_15 (Kd.R_base ho0) hb); have n3_ := Aside0.mk (Kd.R_lower (Kd.R_new' (Kd.R_new' (Kd.R_new' ho0 (Kd.R_lt q24_20)) (Kd.R_lt q24_21)) (Kd.R_lt q24_15)) (below_size q24_5)); have n4_ := Aside0.mk (blk_below (g := gb447) (o := .cells #[.int .i64 a0_0, .slice A0_1 l0_1.length c0_1] 24 (0, 0)) q24_13 hb); have n5_ := Aside0.mk (blk_below (g := gb460) (o := .cells #[.int .i64 t456, .slice Ao30 t471.length co30] 27 (0, 0)) q24_14 hb); have n6_ := Aside0.mk (below_step q24_5 hb); clear HO_4; clear HO_6; clear HO_461001; clear BK447; clear BK460; clear HB; have HO_4 := n0_; have HO_6 := n1_; have HO_461001 := n2_; have HO479 := n3_; have BK447 := n4_; have BK460 := n5_; have HB := n6_; clear n0_ n1_ n2_ n3_ n4_ n5_ n6_; (try clear hb); (try clear hb2); (try clear hk); (try clear hi); (try clear ho0); obtain ⟨Ao58, co58, eo58⟩ := Kd.R_slice HO479.out; subst eo58) | ((with_reducible refine gate_callee (f := 27) rfl ?_); refine goesL_ (some 56) rfl rfl Tryd.func27 q24_23 rfl #[.agg #[.int .i64 t476, .slice Ao58 t477.length co58]] rfl q24_11 ?_; (with_reducible refine (impl_ProperPremises.calls kj16 t476 _ _ t477 t480 _ ?side1 ?side2 ?tab A48.out).mono ?_); (case tab => first | exact HTB.out | (refine Tab64.below HTB.out ?_; repeat (first | (with_reducible first | exact HB.out | apply below_alloc | apply pw_below_drewN | apply below_drew1 | refine below_set ?_ GE447.out | refine below_set ?_ GE460.out) | exact HB.out)) | (repeat (first | exact HTB.out | apply Tab64.drewN | apply Tab64.drew | apply Tab64.alloc))); (case side1 => repeat (first | exact (Kd.R_reads' HO479.out).2.2 | (with_reducible refine Kd.C_alloc ?_ _) | (with_reducible refine Kd.C_drewN ?_ _) | (with_reducible refine Kd.C_drew ?_))); (case side2 => exact (Kd.R_reads' HO479.out).2.1); rintro e w59 ⟨v481, rfl, ho0, hb⟩; refine ⟨_, rfl, ?_⟩; have n0_ := Aside0.mk (Kd.R_elder' q24_20 (Kd.R_base ho0) hb); have n1_ := Aside0.mk (Kd.R_elder' q24_21 (Kd.R_base ho0) hb); have n2_ := Aside0.mk (Kd.R_elder' q24_15 (Kd.R_base ho0) hb); have n3_ := Aside0.mk (Kd.R_elder' (by (with_reducible repeat (first | apply Kd.R_alloc | apply Kd.R_drewN | apply Kd.R_drew)); exact HO479.out) (Kd.R_base ho0) hb); have n4_ := Aside0.mk (Kd.R_lower (Kd.R_new' (Kd.R_new' (Kd.R_new' (Kd.R_new' ho0 (Kd.R_lt q24_20)) (Kd.R_lt q24_21)) (Kd.R_lt q24_15)) (Kd.R_lt (by (with_reducible repeat (first | apply Kd.R_alloc | apply Kd.R_drewN | apply Kd.R_drew)); exact HO479.out))) (below_size q24_5)); have n5_ := Aside0.mk (blk_below (g := gb447) (o := .cells #[.int .i64 a0_0, .slice A0_1 l0_1.length c0_1] 24 (0, 0)) q24_13 hb); have n6_ := Aside0.mk (blk_below (g := gb460) (o := .cells #[.int .i64 t456, .slice Ao30 t471.length co30] 27 (0, 0)) q24_14 hb); have n7_ := Aside0.mk (below_step q24_5 hb); clear HO_4; clear HO_6; clear HO_461001; clear HO479; clear BK447; clear BK460; clear HB; have HO_4 := n0_; have HO_6 := n1_; have HO_461001 := n2_; have HO479 := n3_; have HO482 := n4_; have BK447 := n5_; have BK460 := n6_; have HB := n7_; clear n0_ n1_ n2_ n3_ n4_ n5_ n6_ n7_; (try clear hb); (try clear hb2); (try clear hk); (try clear hi); (try clear ho0); obtain ⟨Ao60, co60, eo60⟩ := Kd.R_slice HO482.out; subst eo60) | ((with_reducible refine gate_callee (f := 21) rfl ?_); refine goesL_ (some 59) rfl rfl Tryd.func21 q24_23 rfl #[.slice Ao60 t480.length co60, .slice Ao33 t453.length co33] rfl q24_11 ?_; (with_reducible refine (laws_eqIntS.calls kj16 _ _ t480 _ _ t453 true _ ?side1 ?side2 ?side3 ?side4 A49.out).mono ?_); (case side1 => repeat (first | exact (Kd.R_reads' HO482.out).2.2 | (with_reducible refine Kd.C_alloc ?_ _) | (with_reducible refine Kd.C_drewN ?_ _) | (with_reducible refine Kd.C_drew ?_))); (case side2 => exact (Kd.R_reads' HO482.out).2.1); (case side3 => repeat (first | exact (Kd.R_reads' HO_4.out).2.2 | (with_reducible refine Kd.C_alloc ?_ _) | (with_reducible refine Kd.C_drewN ?_ _) | (with_reducible refine Kd.C_drew ?_))); (case side4 => exact (Kd.R_reads' HO_4.out).2.1); rintro e w' ⟨rfl, ⟨nd, rfl⟩⟩; refine ⟨_, rfl, ?_⟩) | ((with_reducible refine gate_callee (f := 25) rfl ?_); refine goesL_ (some 63) rfl rfl Tryd.func25 q24_23 rfl #[.slice Ao32 t474.length co32, .int .i64 1] rfl q24_4 ?_; (with_reducible refine (laws_heldIntS.calls kj16 _ _ t474 1 t484 _ ?side1 ?side2 A51.out).mono ?_); (case side1 => exact q24_9); (case side2 => rw [show t474.length = t461.length from (Kd.R_reads' HO_6.out).1.symm]; exact (Kd.R_reads' HO_6.out).2.1); rintro e w' ⟨rfl, ⟨nd, rfl⟩⟩; refine ⟨_, rfl, ?_⟩))
            go_ret
            exact ⟨by first | rfl | (simp [errW_none, errW_some] <;> rfl) | (simp [*, errW_none, errW_some] <;> rfl), by repeat (first | (with_reducible first | exact HB.out | apply below_alloc | apply pw_below_drewN | apply below_drew1 | refine below_set ?_ GE447.out | refine below_set ?_ GE460.out) | exact HB.out)⟩
           ·
            rw [if_neg c53] at H
            exact absurd ((Option.some.inj H).trans HRT.out) Bool.false_ne_true
         ·
          replace c50 := Bool.eq_false_iff.mpr c50
          subst c50
          have H1 : (some false) = some r := q24_22
          clear H
          have H := H1
          clear H1
          exact absurd ((Option.some.inj H).trans HRT.out) Bool.false_ne_true
        ·
         rw [if_neg c46] at H
         exact absurd ((Option.some.inj H).trans HRT.out) Bool.false_ne_true
   ·
    replace c15 := Bool.eq_false_iff.mpr c15
    subst c15
    have H1 : (some false) = some r := q24_22
    clear H
    have H := H1
    clear H1
    exact absurd ((Option.some.inj H).trans HRT.out) Bool.false_ne_true
  ·
   replace c12 := Bool.eq_false_iff.mpr c12
   subst c12
   have H1 : (some false) = some r := q24_22
   clear H
   have H := H1
   clear H1
   exact absurd ((Option.some.inj H).trans HRT.out) Bool.false_ne_true
end Go.Proofs.YtbflblmkdnhboaaDoor.Pr
