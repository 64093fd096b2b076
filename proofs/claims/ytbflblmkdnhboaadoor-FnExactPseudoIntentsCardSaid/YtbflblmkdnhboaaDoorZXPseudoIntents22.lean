/- What the law needs of the program's functions as plain functions, of the proofs that their calls answer so, and of plain laws: gathered by a program of this place (pack.py) out of its printed texts. No condition beyond what each statement says. -/
import Derived.Test.YtbflblmkdnhboaaDoorZXPseudoIntents2
import Derived.Test.YtbflblmkdnhboaaDoorZXPseudoIntents4
import Derived.Test.YtbflblmkdnhboaaDoorZXPseudoIntents7
import Derived.Test.YtbflblmkdnhboaaDoorZXPseudoIntents21
namespace Go.Proofs.YtbflblmkdnhboaaDoor.Pr
open Go.RowKit Go.Proofs.YtbflblmkdnhboaaDoorW.PrintWords Go.Proofs.YtbflblmkdnhboaaDoorW.PrintLast Go.Proofs.YtbflblmkdnhboaaDoorW.PrintMore
attribute [local go_sem] max2_int min2_int max_two min_two max_three min_three max_four min_four   -- for this text's walks alone
set_option linter.unusedVariables false
set_option linter.unusedSimpArgs false
theorem put19_ {P : Prop} (h : P := by simp only [Act.put, List.setIfInBounds_toArray, List.set_cons_zero, List.set_cons_succ, i64_w, i32_w]; rfl) : P := h
theorem q19_1 {P : Prop} (h : P := by (with_reducible repeat (first | apply Kd.R_alloc | apply Kd.R_drewN | apply Kd.R_drew)); exact (Kd.R_mono (Kd.R_far (p := ⟨gb302, 1, none⟩) (Kd.R_far (p := ⟨gb302, 0, none⟩) (Kd.R_types HO294.out BK302.out (by decide)) (fun _ hk => hk.2) (.int .i64 t298)) (fun _ hk => hk.2) (.slice Ao30 t299.length co30)) (fun _ h_ => h_.1))) : P := h
theorem q19_2 {P : Prop} (h : P := by (with_reducible repeat (first | apply Kd.R_alloc | apply Kd.R_drewN | apply Kd.R_drew)); exact (Kd.R_mono (Kd.R_far (p := ⟨gb302, 1, none⟩) (Kd.R_far (p := ⟨gb302, 0, none⟩) (Kd.R_types HO297.out BK302.out (by decide)) (fun _ hk => hk.2) (.int .i64 t298)) (fun _ hk => hk.2) (.slice Ao30 t299.length co30)) (fun _ h_ => h_.1))) : P := h
theorem q19_3 {P : Prop} (h : P := by (with_reducible repeat (first | apply Kd.R_alloc | apply Kd.R_drewN | apply Kd.R_drew)); exact (Kd.R_mono (Kd.R_far (p := ⟨gb302, 1, none⟩) (Kd.R_far (p := ⟨gb302, 0, none⟩) (Kd.R_types HO301.out BK302.out (by decide)) (fun _ hk => hk.2) (.int .i64 t298)) (fun _ hk => hk.2) (.slice Ao30 t299.length co30)) (fun _ h_ => h_.1))) : P := h
theorem q19_4 {P : Prop} (h : P := by (try simp only [List.map_toArray, List.map_cons, List.map_nil]); first | done | (rw [show t316.length = t303.length from (Kd.R_reads' HO_6.out).1.symm] <;> rfl) | rfl | (simp only [List.length_drop, List.length_take]; rfl)) : P := h
theorem q19_5 {P : Prop} (h : P := by repeat (first | (with_reducible first | exact HB.out | apply below_alloc | apply pw_below_drewN | apply below_drew1 | refine below_set ?_ GE289.out | refine below_set ?_ GE302.out) | exact HB.out)) : P := h
theorem q19_6 {P : Prop} (h : P := by repeat (first | exact (Kd.C_below HR0_1.out HB.out) | (with_reducible refine Kd.C_alloc ?_ _) | (with_reducible refine Kd.C_drewN ?_ _) | (with_reducible refine Kd.C_drew ?_))) : P := h
theorem q19_7 {P : Prop} (h : P := by repeat (first | exact (Kd.R_reads' HO297.out).2.2 | (with_reducible refine Kd.C_alloc ?_ _) | (with_reducible refine Kd.C_drewN ?_ _) | (with_reducible refine Kd.C_drew ?_))) : P := h
theorem q19_8 {P : Prop} (h : P := by repeat (first | exact (Kd.R_reads' HO305.out).2.2 | (with_reducible refine Kd.C_alloc ?_ _) | (with_reducible refine Kd.C_drewN ?_ _) | (with_reducible refine Kd.C_drew ?_))) : P := h
theorem q19_9 {P : Prop} (h : P := by repeat (first | exact (Kd.R_reads' HO_6.out).2.2 | (with_reducible refine Kd.C_alloc ?_ _) | (with_reducible refine Kd.C_drewN ?_ _) | (with_reducible refine Kd.C_drew ?_))) : P := h
theorem q19_10 {P : Prop} (h : P := by repeat (first | (with_reducible first | exact HB.out | apply below_alloc | apply pw_below_drewN | apply below_drew1 | refine below_set ?_ GE289.out) | exact HB.out)) : P := h
theorem q19_11 {P : Prop} (h : P := by (try simp only [List.map_toArray, List.map_cons, List.map_nil]); first | done | rfl | (simp only [List.length_drop, List.length_take]; rfl)) : P := h
theorem q19_12 {P : Prop} (h : P := by repeat (first | (with_reducible first | exact HB.out | apply below_alloc | apply pw_below_drewN | apply below_drew1) | exact HB.out)) : P := h
theorem q19_13 {P : Prop} (h : P := by (with_reducible repeat (first | refine blk_drewN ?_ _ | refine blk_drew ?_ | refine blk_alloc ?_ _)); exact BK289.out) : P := h
theorem q19_14 {P : Prop} (h : P := by (with_reducible repeat (first | refine blk_drewN ?_ _ | refine blk_drew ?_ | refine blk_alloc ?_ _)); exact BK302.out) : P := h
theorem q19_15 {P : Prop} (h : P := by (with_reducible repeat (first | apply Kd.R_alloc | apply Kd.R_drewN | apply Kd.R_drew)); exact HO294.out) : P := h
theorem q19_16 {P : Prop} (h : P := by (with_reducible repeat (first | apply Kd.R_alloc | apply Kd.R_drewN | apply Kd.R_drew)); exact HO297.out) : P := h
theorem q19_17 {P : Prop} (h : P := by (with_reducible repeat (first | apply Kd.R_alloc | apply Kd.R_drewN | apply Kd.R_drew)); exact HO301.out) : P := h
theorem q19_18 {P : Prop} (h : P := by (with_reducible repeat (first | apply Kd.R_alloc | apply Kd.R_drewN | apply Kd.R_drew)); exact HO305.out) : P := h
theorem q19_19 {P : Prop} (h : P := by (with_reducible repeat (first | apply Kd.R_alloc | apply Kd.R_drewN | apply Kd.R_drew)); exact HO_4.out) : P := h
theorem q19_20 {P : Prop} (h : P := by (with_reducible repeat (first | apply Kd.R_alloc | apply Kd.R_drewN | apply Kd.R_drew)); exact HO_6.out) : P := h
theorem q19_21 {P : Prop} (h : P := by rw [if_neg (show ¬ (false = true) by decide)] at H; exact H) : P := h
theorem q19_22 {P : Prop} (h : P := by kernel_rfl) : P := h
def laws_FnExactPseudoIntents.j0 : Nat → List Int → List Int → Bool → Int → List Int → Option (Bool)
 | 0, _, _, _, _, _ => none
 | k + 1, x4, x6, x42, x290000, x290001 => if x42 = true then (some false) else ((laws_markIntS.f k x6 1).bind fun bt315 => ((laws_heldIntS.f k bt315.2 1).bind fun t317 => (if t317 < 0 then (some false) else (if t317 = bt315.1 then ((laws_toContext.f k x290000 x290001).bind fun bt318 => ((impl_PseudoIntents.f bt318.1 bt318.2).bind fun t322 => ((laws_eqIntS.f k t322 x4).bind fun t325 => (if t325 = true then ((laws_heldIntS.f k bt315.2 1).bind fun t326 => (if t326 < 0 then (some false) else (if t326 = bt315.1 then (some true) else (some false)))) else (some false))))) else (some false)))))
def laws_FnExactPseudoIntents.f (k : Nat) (a0_0 : Int) (l0_1 : List Int) : Option (Bool) := (laws_szContext.f a0_0 l0_1 1048576).bind fun t290 => (if t290 < 0 then (some true) else ((laws_toContext.f k a0_0 l0_1).bind fun bt291 => ((spec_PseudoIntents.f k bt291.1 bt291.2).bind fun t295 => ((laws_toContext.f k a0_0 l0_1).bind fun bt298 => ((impl_PseudoIntents.f bt298.1 bt298.2).bind fun t303 => ((laws_eqIntS.f k t303 t295).bind fun t306 => (if t306 = true then ((laws_toContext.f k a0_0 l0_1).bind fun bt307 => ((laws_eqContext.f k bt298.1 bt298.2 bt307.1 bt307.2).bind fun t311 => (if t311 = true then ((laws_markContext.f k bt298.1 bt298.2 1).bind fun bt312 => (if bt312.1 < 0 then (laws_FnExactPseudoIntents.j0 k t295 t303 true a0_0 l0_1) else ((laws_eqIntS.f k t303 t295).bind fun t314 => (laws_FnExactPseudoIntents.j0 k t295 t303 (!t314) a0_0 l0_1)))) else (some false)))) else (some false))))))))
set_option maxHeartbeats 8000000 in
set_option maxRecDepth 100000 in
theorem laws_FnExactPseudoIntents.calls (k : Nat) (a0_0 : Int) (A0_1 : Option Addr) (c0_1 : Nat) (l0_1 : List Int) (r : Bool) (w : World) (hr0_1 : Kd.C (Kd.int .i64) w A0_1 l0_1.length l0_1) (hc0_1 : l0_1.length ≤ c0_1) (hrt : r = true) (htab : Tab64 w) (h : laws_FnExactPseudoIntents.f k a0_0 l0_1 = some r) :
  Calls Tryd.prog 10 #[.agg #[.int .i64 a0_0, .slice A0_1 l0_1.length c0_1]] w fun e w' => e = .returned (.bool r) ∧ Below w.heap.size w w' := by
 have HTB := Aside0.mk htab
 clear htab
 have hu24 := Tryd.underlying24
 have hu27 := Tryd.underlying27
 have HR0_1 := Aside0.mk hr0_1
 have HC0_1 := Aside0.mk hc0_1
 clear hr0_1 hc0_1
 have HB := Aside0.mk (Below.refl w.heap.size w)
 have HRT := Aside0.mk hrt
 clear hrt
 have H : ((laws_szContext.f a0_0 l0_1 1048576).bind fun t290 => (if t290 < 0 then (some true) else ((laws_toContext.f k a0_0 l0_1).bind fun bt291 => ((spec_PseudoIntents.f k bt291.1 bt291.2).bind fun t295 => ((laws_toContext.f k a0_0 l0_1).bind fun bt298 => ((impl_PseudoIntents.f bt298.1 bt298.2).bind fun t303 => ((laws_eqIntS.f k t303 t295).bind fun t306 => (if t306 = true then ((laws_toContext.f k a0_0 l0_1).bind fun bt307 => ((laws_eqContext.f k bt298.1 bt298.2 bt307.1 bt307.2).bind fun t311 => (if t311 = true then ((laws_markContext.f k bt298.1 bt298.2 1).bind fun bt312 => (if bt312.1 < 0 then (laws_FnExactPseudoIntents.j0 k t295 t303 true a0_0 l0_1) else ((laws_eqIntS.f k t303 t295).bind fun t314 => (laws_FnExactPseudoIntents.j0 k t295 t303 (!t314) a0_0 l0_1)))) else (some false)))) else (some false))))))))) = some r := h
 clear h
 replace H := Option.bind_eq_some_iff.mp H
 obtain ⟨t290, A20, H⟩ := H
 replace H : (if t290 < 0 then (some true) else ((laws_toContext.f k a0_0 l0_1).bind fun bt291 => ((spec_PseudoIntents.f k bt291.1 bt291.2).bind fun t295 => ((laws_toContext.f k a0_0 l0_1).bind fun bt298 => ((impl_PseudoIntents.f bt298.1 bt298.2).bind fun t303 => ((laws_eqIntS.f k t303 t295).bind fun t306 => (if t306 = true then ((laws_toContext.f k a0_0 l0_1).bind fun bt307 => ((laws_eqContext.f k bt298.1 bt298.2 bt307.1 bt307.2).bind fun t311 => (if t311 = true then ((laws_markContext.f k bt298.1 bt298.2 1).bind fun bt312 => (if bt312.1 < 0 then (laws_FnExactPseudoIntents.j0 k t295 t303 true a0_0 l0_1) else ((laws_eqIntS.f k t303 t295).bind fun t314 => (laws_FnExactPseudoIntents.j0 k t295 t303 (!t314) a0_0 l0_1)))) else (some false)))) else (some false)))))))) = some r := H
 have A2 := Aside0.mk A20
 clear A20
 by_cases c3 : t290 < 0
 ·
  rw [if_pos c3] at H
  have c3b0 : decide (t290 < 0) = true := decide_eq_true c3
  clear c3
  obtain rfl := Option.some.inj H
  go_enter Tryd.func10, Tryd.ntmps10
  go_wp2_with (first | ((with_reducible refine gate_dst (N := 1) rfl ?_); refine box_event ?hg (N := 1) ?hd (cs := #[.int .i64 a0_0, .slice A0_1 l0_1.length c0_1]) (t := 24) ?hr ?_; (case hd => rfl); (case hg => rfl); (case hr => first | (go_simp; done) | (go_simp; rfl)); intro gb289 hg w4 hbox hb; have n0_ := Aside0.mk (below_step q19_12 hb); have n1_ := Aside0.mk (hbox); have n2_ := Aside0.mk ((by rw [hg]; exact (below_size q19_12) : w.heap.size ≤ gb289)); have n3_ := Aside0.mk ((by rw [hg]; exact (below_size q19_12) : w.heap.size ≤ gb289)); clear HB; have HB := n0_; have BK289 := n1_; have GW289 := n2_; have GE289 := n3_; clear n0_ n1_ n2_ n3_; clear hb hbox hg; have hcz5_0 : w4.cell? ⟨gb289, 0, none⟩ = some (.int .i64 a0_0) := (blk_cell BK289.out 0).trans rfl; have hcz5_1 : w4.cell? ⟨gb289, 1, none⟩ = some (.slice A0_1 l0_1.length c0_1) := (blk_cell BK289.out 1).trans rfl; have hfz5_0 := blk_frozen BK289.out 0; have hfz5_1 := blk_frozen BK289.out 1) | ((with_reducible refine gate_callee (f := 12) rfl ?_); refine goesL_ (some 13) rfl rfl Tryd.func12 q19_22 rfl #[.agg #[.int .i64 a0_0, .slice A0_1 l0_1.length c0_1], .int .i64 1048576] rfl q19_11 ?_; (with_reducible refine (laws_szContext.calls a0_0 _ _ l0_1 1048576 t290 _ ?side1 ?side2 A2.out).mono ?_); (case side1 => exact q19_6); (case side2 => exact HC0_1.out); rintro e w6 ⟨rfl, hb⟩; refine ⟨_, rfl, ?_⟩; have n0_ := Aside0.mk (blk_below (g := gb289) (o := .cells #[.int .i64 a0_0, .slice A0_1 l0_1.length c0_1] 24 (0, 0)) q19_13 hb); have n1_ := Aside0.mk (below_step q19_10 hb); clear BK289; clear HB; have BK289 := n0_; have HB := n1_; clear n0_ n1_; (try clear hb); (try clear hb2); (try clear hk); (try clear hi)))
  go_ret
  exact ⟨by first | rfl | (simp [errW_none, errW_some] <;> rfl) | (simp [*, errW_none, errW_some] <;> rfl), by repeat (first | (with_reducible first | exact HB.out | apply below_alloc | apply pw_below_drewN | apply below_drew1 | refine below_set ?_ GE289.out) | exact HB.out)⟩
 ·
  rw [if_neg c3] at H
  have c3b0 : decide (t290 < 0) = false := decide_eq_false c3
  clear c3
  replace H := Option.bind_eq_some_iff.mp H
  obtain ⟨⟨t291, t292⟩, A70, H⟩ := H
  replace H : ((spec_PseudoIntents.f k t291 t292).bind fun t295 => ((laws_toContext.f k a0_0 l0_1).bind fun bt298 => ((impl_PseudoIntents.f bt298.1 bt298.2).bind fun t303 => ((laws_eqIntS.f k t303 t295).bind fun t306 => (if t306 = true then ((laws_toContext.f k a0_0 l0_1).bind fun bt307 => ((laws_eqContext.f k bt298.1 bt298.2 bt307.1 bt307.2).bind fun t311 => (if t311 = true then ((laws_markContext.f k bt298.1 bt298.2 1).bind fun bt312 => (if bt312.1 < 0 then (laws_FnExactPseudoIntents.j0 k t295 t303 true a0_0 l0_1) else ((laws_eqIntS.f k t303 t295).bind fun t314 => (laws_FnExactPseudoIntents.j0 k t295 t303 (!t314) a0_0 l0_1)))) else (some false)))) else (some false)))))) = some r := H
  have A7 := Aside0.mk A70
  clear A70
  replace H := Option.bind_eq_some_iff.mp H
  obtain ⟨t295, A80, H⟩ := H
  replace H : ((laws_toContext.f k a0_0 l0_1).bind fun bt298 => ((impl_PseudoIntents.f bt298.1 bt298.2).bind fun t303 => ((laws_eqIntS.f k t303 t295).bind fun t306 => (if t306 = true then ((laws_toContext.f k a0_0 l0_1).bind fun bt307 => ((laws_eqContext.f k bt298.1 bt298.2 bt307.1 bt307.2).bind fun t311 => (if t311 = true then ((laws_markContext.f k bt298.1 bt298.2 1).bind fun bt312 => (if bt312.1 < 0 then (laws_FnExactPseudoIntents.j0 k t295 t303 true a0_0 l0_1) else ((laws_eqIntS.f k t303 t295).bind fun t314 => (laws_FnExactPseudoIntents.j0 k t295 t303 (!t314) a0_0 l0_1)))) else (some false)))) else (some false))))) = some r := H
  have A8 := Aside0.mk A80
  clear A80
  replace H := Option.bind_eq_some_iff.mp H
  obtain ⟨⟨t298, t299⟩, A90, H⟩ := H
  replace H : ((impl_PseudoIntents.f t298 t299).bind fun t303 => ((laws_eqIntS.f k t303 t295).bind fun t306 => (if t306 = true then ((laws_toContext.f k a0_0 l0_1).bind fun bt307 => ((laws_eqContext.f k t298 t299 bt307.1 bt307.2).bind fun t311 => (if t311 = true then ((laws_markContext.f k t298 t299 1).bind fun bt312 => (if bt312.1 < 0 then (laws_FnExactPseudoIntents.j0 k t295 t303 true a0_0 l0_1) else ((laws_eqIntS.f k t303 t295).bind fun t314 => (laws_FnExactPseudoIntents.j0 k t295 t303 (!t314) a0_0 l0_1)))) else (some false)))) else (some false)))) = some r := H
  have A9 := Aside0.mk A90
  clear A90
  replace H := Option.bind_eq_some_iff.mp H
  obtain ⟨t303, A100, H⟩ := H
  replace H : ((laws_eqIntS.f k t303 t295).bind fun t306 => (if t306 = true then ((laws_toContext.f k a0_0 l0_1).bind fun bt307 => ((laws_eqContext.f k t298 t299 bt307.1 bt307.2).bind fun t311 => (if t311 = true then ((laws_markContext.f k t298 t299 1).bind fun bt312 => (if bt312.1 < 0 then (laws_FnExactPseudoIntents.j0 k t295 t303 true a0_0 l0_1) else ((laws_eqIntS.f k t303 t295).bind fun t314 => (laws_FnExactPseudoIntents.j0 k t295 t303 (!t314) a0_0 l0_1)))) else (some false)))) else (some false))) = some r := H
  have A10 := Aside0.mk A100
  clear A100
  replace H := Option.bind_eq_some_iff.mp H
  obtain ⟨t306, A110, H⟩ := H
  replace H : (if t306 = true then ((laws_toContext.f k a0_0 l0_1).bind fun bt307 => ((laws_eqContext.f k t298 t299 bt307.1 bt307.2).bind fun t311 => (if t311 = true then ((laws_markContext.f k t298 t299 1).bind fun bt312 => (if bt312.1 < 0 then (laws_FnExactPseudoIntents.j0 k t295 t303 true a0_0 l0_1) else ((laws_eqIntS.f k t303 t295).bind fun t314 => (laws_FnExactPseudoIntents.j0 k t295 t303 (!t314) a0_0 l0_1)))) else (some false)))) else (some false)) = some r := H
  have A11 := Aside0.mk A110
  clear A110
  by_cases c12 : t306 = true
  ·
   subst c12
   have H1 : ((laws_toContext.f k a0_0 l0_1).bind fun bt307 => ((laws_eqContext.f k t298 t299 bt307.1 bt307.2).bind fun t311 => (if t311 = true then ((laws_markContext.f k t298 t299 1).bind fun bt312 => (if bt312.1 < 0 then (laws_FnExactPseudoIntents.j0 k t295 t303 true a0_0 l0_1) else ((laws_eqIntS.f k t303 t295).bind fun t314 => (laws_FnExactPseudoIntents.j0 k t295 t303 (!t314) a0_0 l0_1)))) else (some false)))) = some r := by rw [if_pos rfl] at H; exact H
   clear H
   have H := H1
   clear H1
   replace H := Option.bind_eq_some_iff.mp H
   obtain ⟨⟨t307, t308⟩, A130, H⟩ := H
   replace H : ((laws_eqContext.f k t298 t299 t307 t308).bind fun t311 => (if t311 = true then ((laws_markContext.f k t298 t299 1).bind fun bt312 => (if bt312.1 < 0 then (laws_FnExactPseudoIntents.j0 k t295 t303 true a0_0 l0_1) else ((laws_eqIntS.f k t303 t295).bind fun t314 => (laws_FnExactPseudoIntents.j0 k t295 t303 (!t314) a0_0 l0_1)))) else (some false))) = some r := H
   have A13 := Aside0.mk A130
   clear A130
   replace H := Option.bind_eq_some_iff.mp H
   obtain ⟨t311, A140, H⟩ := H
   replace H : (if t311 = true then ((laws_markContext.f k t298 t299 1).bind fun bt312 => (if bt312.1 < 0 then (laws_FnExactPseudoIntents.j0 k t295 t303 true a0_0 l0_1) else ((laws_eqIntS.f k t303 t295).bind fun t314 => (laws_FnExactPseudoIntents.j0 k t295 t303 (!t314) a0_0 l0_1)))) else (some false)) = some r := H
   have A14 := Aside0.mk A140
   clear A140
   by_cases c15 : t311 = true
   ·
    subst c15
    have H1 : ((laws_markContext.f k t298 t299 1).bind fun bt312 => (if bt312.1 < 0 then (laws_FnExactPseudoIntents.j0 k t295 t303 true a0_0 l0_1) else ((laws_eqIntS.f k t303 t295).bind fun t314 => (laws_FnExactPseudoIntents.j0 k t295 t303 (!t314) a0_0 l0_1)))) = some r := by rw [if_pos rfl] at H; exact H
    clear H
    have H := H1
    clear H1
    replace H := Option.bind_eq_some_iff.mp H
    obtain ⟨⟨t312, t313⟩, A160, H⟩ := H
    replace H : (if t312 < 0 then (laws_FnExactPseudoIntents.j0 k t295 t303 true a0_0 l0_1) else ((laws_eqIntS.f k t303 t295).bind fun t314 => (laws_FnExactPseudoIntents.j0 k t295 t303 (!t314) a0_0 l0_1))) = some r := H
    have A16 := Aside0.mk A160
    clear A160
    have HC17 := Aside0.mk H
    clear H
    go_enter Tryd.func10, Tryd.ntmps10
    try go_wp2_with (first | ((with_reducible refine gate_dst (N := 1) rfl ?_); refine box_event ?hg (N := 1) ?hd (cs := #[.int .i64 a0_0, .slice A0_1 l0_1.length c0_1]) (t := 24) ?hr ?_; (case hd => rfl); (case hg => rfl); (case hr => first | (go_simp; done) | (go_simp; rfl)); intro gb289 hg w18 hbox hb; have n0_ := Aside0.mk (below_step q19_12 hb); have n1_ := Aside0.mk (hbox); have n2_ := Aside0.mk ((by rw [hg]; exact (below_size q19_12) : w.heap.size ≤ gb289)); have n3_ := Aside0.mk ((by rw [hg]; exact (below_size q19_12) : w.heap.size ≤ gb289)); clear HB; have HB := n0_; have BK289 := n1_; have GW289 := n2_; have GE289 := n3_; clear n0_ n1_ n2_ n3_; clear hb hbox hg; have hcz19_0 : w18.cell? ⟨gb289, 0, none⟩ = some (.int .i64 a0_0) := (blk_cell BK289.out 0).trans rfl; have hcz19_1 : w18.cell? ⟨gb289, 1, none⟩ = some (.slice A0_1 l0_1.length c0_1) := (blk_cell BK289.out 1).trans rfl; have hfz19_0 := blk_frozen BK289.out 0; have hfz19_1 := blk_frozen BK289.out 1) | ((with_reducible refine gate_callee (f := 12) rfl ?_); refine goesL_ (some 13) rfl rfl Tryd.func12 q19_22 rfl #[.agg #[.int .i64 a0_0, .slice A0_1 l0_1.length c0_1], .int .i64 1048576] rfl q19_11 ?_; (with_reducible refine (laws_szContext.calls a0_0 _ _ l0_1 1048576 t290 _ ?side1 ?side2 A2.out).mono ?_); (case side1 => exact q19_6); (case side2 => exact HC0_1.out); rintro e w20 ⟨rfl, hb⟩; refine ⟨_, rfl, ?_⟩; have n0_ := Aside0.mk (blk_below (g := gb289) (o := .cells #[.int .i64 a0_0, .slice A0_1 l0_1.length c0_1] 24 (0, 0)) q19_13 hb); have n1_ := Aside0.mk (below_step q19_10 hb); clear BK289; clear HB; have BK289 := n0_; have HB := n1_; clear n0_ n1_; (try clear hb); (try clear hb2); (try clear hk); (try clear hi); have hcz21_0 : w20.cell? ⟨gb289, 0, none⟩ = some (.int .i64 a0_0) := (blk_cell BK289.out 0).trans rfl; have hcz21_1 : w20.cell? ⟨gb289, 1, none⟩ = some (.slice A0_1 l0_1.length c0_1) := (blk_cell BK289.out 1).trans rfl; have hfz21_0 := blk_frozen BK289.out 0; have hfz21_1 := blk_frozen BK289.out 1) | ((with_reducible refine gate_callee (f := 14) rfl ?_); refine goesL_ (some 17) rfl rfl Tryd.func14 q19_22 rfl #[.agg #[.int .i64 a0_0, .slice A0_1 l0_1.length c0_1]] rfl q19_11 ?_; (with_reducible refine (laws_toContext.calls k a0_0 _ _ l0_1 t291 t292 _ ?side1 ?side2 A7.out).mono ?_); (case side1 => exact q19_6); (case side2 => exact HC0_1.out); rintro e w22 ⟨v293, rfl, ho0, hb⟩; refine ⟨_, rfl, ?_⟩; have n0_ := Aside0.mk (Kd.R_lower ho0 (below_size q19_10)); have n1_ := Aside0.mk (blk_below (g := gb289) (o := .cells #[.int .i64 a0_0, .slice A0_1 l0_1.length c0_1] 24 (0, 0)) q19_13 hb); have n2_ := Aside0.mk (below_step q19_10 hb); clear BK289; clear HB; have HO294 := n0_; have BK289 := n1_; have HB := n2_; clear n0_ n1_ n2_; (try clear hb); (try clear hb2); (try clear hk); (try clear hi); (try clear ho0); obtain ⟨Ao23, co23, eo23⟩ := Kd.R_slice HO294.out; subst eo23) | ((with_reducible refine gate_callee (f := 39) rfl ?_); refine goesL_ (some 18) rfl rfl Tryd.func39 q19_22 rfl #[.agg #[.int .i64 t291, .slice Ao23 t292.length co23]] rfl q19_11 ?_; (with_reducible refine (spec_PseudoIntents.calls k t291 _ _ t292 t295 _ ?side1 ?side2 A8.out).mono ?_); (case side1 => repeat (first | exact (Kd.R_reads' HO294.out).2.2 | (with_reducible refine Kd.C_alloc ?_ _) | (with_reducible refine Kd.C_drewN ?_ _) | (with_reducible refine Kd.C_drew ?_))); (case side2 => exact (Kd.R_reads' HO294.out).2.1); rintro e w24 ⟨v296, rfl, ho0, hb⟩; refine ⟨_, rfl, ?_⟩; have n0_ := Aside0.mk (Kd.R_elder' q19_15 (Kd.R_base ho0) hb); have n1_ := Aside0.mk (Kd.R_lower (Kd.R_new' ho0 (Kd.R_lt q19_15)) (below_size q19_10)); have n2_ := Aside0.mk (blk_below (g := gb289) (o := .cells #[.int .i64 a0_0, .slice A0_1 l0_1.length c0_1] 24 (0, 0)) q19_13 hb); have n3_ := Aside0.mk (below_step q19_10 hb); clear HO294; clear BK289; clear HB; have HO294 := n0_; have HO297 := n1_; have BK289 := n2_; have HB := n3_; clear n0_ n1_ n2_ n3_; (try clear hb); (try clear hb2); (try clear hk); (try clear hi); (try clear ho0); have hcz25_0 : w24.cell? ⟨gb289, 0, none⟩ = some (.int .i64 a0_0) := (blk_cell BK289.out 0).trans rfl; have hcz25_1 : w24.cell? ⟨gb289, 1, none⟩ = some (.slice A0_1 l0_1.length c0_1) := (blk_cell BK289.out 1).trans rfl; have hfz25_0 := blk_frozen BK289.out 0; have hfz25_1 := blk_frozen BK289.out 1) | ((with_reducible refine gate_callee (f := 14) rfl ?_); refine goesL_ (some 20) rfl rfl Tryd.func14 q19_22 rfl #[.agg #[.int .i64 a0_0, .slice A0_1 l0_1.length c0_1]] rfl q19_11 ?_; (with_reducible refine (laws_toContext.calls k a0_0 _ _ l0_1 t298 t299 _ ?side1 ?side2 A9.out).mono ?_); (case side1 => exact q19_6); (case side2 => exact HC0_1.out); rintro e w26 ⟨v300, rfl, ho0, hb⟩; refine ⟨_, rfl, ?_⟩; have n0_ := Aside0.mk (Kd.R_elder' q19_15 (Kd.R_base ho0) hb); have n1_ := Aside0.mk (Kd.R_elder' q19_16 (Kd.R_base ho0) hb); have n2_ := Aside0.mk (Kd.R_lower (Kd.R_new' (Kd.R_new' ho0 (Kd.R_lt q19_15)) (Kd.R_lt q19_16)) (below_size q19_10)); have n3_ := Aside0.mk (blk_below (g := gb289) (o := .cells #[.int .i64 a0_0, .slice A0_1 l0_1.length c0_1] 24 (0, 0)) q19_13 hb); have n4_ := Aside0.mk (below_step q19_10 hb); clear HO294; clear HO297; clear BK289; clear HB; have HO294 := n0_; have HO297 := n1_; have HO301 := n2_; have BK289 := n3_; have HB := n4_; clear n0_ n1_ n2_ n3_ n4_; (try clear hb); (try clear hb2); (try clear hk); (try clear hi); (try clear ho0)) | ((with_reducible refine gate_dst (N := 5) rfl ?_); refine box_event ?hg (N := 5) ?hd (cs := #[.int .i64 0, .slice none 0 0]) (t := 27) ?hr ?_; (case hd => rfl); (case hg => rfl); (case hr => first | (go_simp; done) | (go_simp; rfl)); intro gb302 hg w27 hbox hb; have n0_ := Aside0.mk (Kd.R_below q19_15 hb); have n1_ := Aside0.mk (Kd.R_below q19_16 hb); have n2_ := Aside0.mk (Kd.R_below q19_17 hb); have n3_ := Aside0.mk (blk_below (g := gb289) (o := .cells #[.int .i64 a0_0, .slice A0_1 l0_1.length c0_1] 24 (0, 0)) q19_13 hb); have n4_ := Aside0.mk (below_step q19_10 hb); have n5_ := Aside0.mk (hbox); have n6_ := Aside0.mk ((by rw [hg]; exact (below_size q19_10) : w.heap.size ≤ gb302)); have n7_ := Aside0.mk ((by rw [hg]; exact (below_size q19_10) : w.heap.size ≤ gb302)); have n8_ := Aside0.mk ((by rw [hg]; exact Nat.ne_of_lt (blk_lt (g := gb289) (o := .cells #[.int .i64 a0_0, .slice A0_1 l0_1.length c0_1] 24 (0, 0)) q19_13) : gb289 ≠ gb302)); have n9_ := Aside0.mk ((by rw [hg]; exact Nat.ne_of_gt (blk_lt (g := gb289) (o := .cells #[.int .i64 a0_0, .slice A0_1 l0_1.length c0_1] 24 (0, 0)) q19_13) : gb302 ≠ gb289)); clear HO294; clear HO297; clear HO301; clear BK289; clear HB; have HO294 := n0_; have HO297 := n1_; have HO301 := n2_; have BK289 := n3_; have HB := n4_; have BK302 := n5_; have GW302 := n6_; have GE302 := n7_; have NB289_302 := n8_; have NB302_289 := n9_; clear n0_ n1_ n2_ n3_ n4_ n5_ n6_ n7_ n8_ n9_; clear hb hbox hg; have hnb28 := NB302_289.out; have hnc28 := NB289_302.out; have hcz29_0 : w27.cell? ⟨gb302, 0, none⟩ = some (.int .i64 0) := (blk_cell BK302.out 0).trans rfl; have hcz29_1 : w27.cell? ⟨gb302, 1, none⟩ = some (.slice none 0 0) := (blk_cell BK302.out 1).trans rfl; have hfz29_0 := blk_frozen BK302.out 0; have hfz29_1 := blk_frozen BK302.out 1; obtain ⟨Ao30, co30, eo30⟩ := Kd.R_slice HO301.out; subst eo30) | ((with_reducible refine gate_callee (f := 40) rfl ?_); refine goesL_ (some 22) rfl rfl Tryd.func40 q19_22 rfl #[.agg #[.int .i64 t298, .slice Ao30 t299.length co30]] rfl q19_11 ?_; (with_reducible refine (impl_PseudoIntents.calls t298 _ _ t299 t303 _ ?side1 ?side2 ?tab A10.out).mono ?_); (case tab => first | exact HTB.out | (refine Tab64.below HTB.out ?_; repeat (first | (with_reducible first | exact HB.out | apply below_alloc | apply pw_below_drewN | apply below_drew1 | refine below_set ?_ GE289.out | refine below_set ?_ GE302.out) | exact HB.out)) | (repeat (first | exact HTB.out | apply Tab64.drewN | apply Tab64.drew | apply Tab64.alloc))); (case side1 => refine (Kd.R_reads' (e := 3) (base := w.heap.size) (ok := fun k_ => ((True ∧ some k_ ≠ (.slice Ao23 t292.length co23 : Value).ownBlock) ∧ some k_ ≠ (v296 : Value).ownBlock)) (n := t299.length) (c := co30) ?_).2.2; exact q19_3); (case side2 => exact (Kd.R_reads' HO301.out).2.1); rintro e w31 ⟨v304, rfl, ho0, hb⟩; refine ⟨_, rfl, ?_⟩; have n0_ := Aside0.mk (Kd.R_elder' q19_1 (Kd.R_base ho0) hb); have n1_ := Aside0.mk (Kd.R_elder' q19_2 (Kd.R_base ho0) hb); have n2_ := Aside0.mk (Kd.R_elder' q19_3 (Kd.R_base ho0) hb); have n3_ := Aside0.mk (Kd.R_lower (Kd.R_new' (Kd.R_new' (Kd.R_new' ho0 (Kd.R_lt q19_1)) (Kd.R_lt q19_2)) (Kd.R_lt q19_3)) (below_size q19_5)); have n4_ := Aside0.mk (blk_below (g := gb289) (o := .cells #[.int .i64 a0_0, .slice A0_1 l0_1.length c0_1] 24 (0, 0)) (by (with_reducible repeat (first | refine blk_drewN ?_ _ | refine blk_drew ?_ | refine blk_alloc ?_ _)); refine blk_far ?_ NB289_302.out _; (with_reducible repeat (first | refine blk_drewN ?_ _ | refine blk_drew ?_ | refine blk_alloc ?_ _)); refine blk_far ?_ NB289_302.out _; (with_reducible repeat (first | refine blk_drewN ?_ _ | refine blk_drew ?_ | refine blk_alloc ?_ _)); exact BK289.out) hb); have n5_ := Aside0.mk (blk_below (g := gb302) (o := .cells #[.int .i64 t298, .slice Ao30 t299.length co30] 27 (0, 0)) (by (with_reducible repeat (first | refine blk_drewN ?_ _ | refine blk_drew ?_ | refine blk_alloc ?_ _)); refine blk_put (cs := #[.int .i64 t298, .slice none 0 0]) ?_ 1 _ rfl; (with_reducible repeat (first | refine blk_drewN ?_ _ | refine blk_drew ?_ | refine blk_alloc ?_ _)); refine blk_put (cs := #[.int .i64 0, .slice none 0 0]) ?_ 0 _ rfl; (with_reducible repeat (first | refine blk_drewN ?_ _ | refine blk_drew ?_ | refine blk_alloc ?_ _)); exact BK302.out) hb); have n6_ := Aside0.mk (below_step q19_5 hb); clear HO294; clear HO297; clear HO301; clear BK289; clear BK302; clear HB; have HO294 := n0_; have HO297 := n1_; have HO301 := n2_; have HO305 := n3_; have BK289 := n4_; have BK302 := n5_; have HB := n6_; clear n0_ n1_ n2_ n3_ n4_ n5_ n6_; (try clear hb); (try clear hb2); (try clear hk); (try clear hi); (try clear ho0); obtain ⟨Ao32, co32, eo32⟩ := Kd.R_slice HO305.out; subst eo32; obtain ⟨Ao33, co33, eo33⟩ := Kd.R_slice HO297.out; subst eo33) | ((with_reducible refine gate_callee (f := 21) rfl ?_); refine goesL_ (some 25) rfl rfl Tryd.func21 q19_22 rfl #[.slice Ao32 t303.length co32, .slice Ao33 t295.length co33] rfl q19_11 ?_; (with_reducible refine (laws_eqIntS.calls k _ _ t303 _ _ t295 true _ ?side1 ?side2 ?side3 ?side4 A11.out).mono ?_); (case side1 => exact q19_8); (case side2 => exact (Kd.R_reads' HO305.out).2.1); (case side3 => exact q19_7); (case side4 => exact (Kd.R_reads' HO297.out).2.1); rintro e w' ⟨rfl, ⟨nd, rfl⟩⟩; refine ⟨_, rfl, ?_⟩))
    (try (rw [drewN_self w31]; generalize hq_ : World.drewN w31 _ = w31; have n0_ : Aside0 (Kd.R (Kd.int .i64) 3 w31 w.heap.size (fun k_ => some k_ ≠ (.slice Ao33 t295.length co33 : Value).ownBlock ∧ some k_ ≠ (.slice Ao30 t299.length co30 : Value).ownBlock ∧ some k_ ≠ (.slice Ao32 t303.length co32 : Value).ownBlock) (.slice Ao23 t292.length co23) t292) := ⟨by rw [← hq_]; exact (by (with_reducible repeat (first | apply Kd.R_alloc | apply Kd.R_drewN | apply Kd.R_drew)); exact Kd.R_mono HO294.out (fun _ hk => ⟨hk.1.1.2, ⟨hk.1.2, hk.2⟩⟩))⟩; have n1_ : Aside0 (Kd.R (Kd.int .i64) 3 w31 w.heap.size (fun k_ => some k_ ≠ (.slice Ao23 t292.length co23 : Value).ownBlock ∧ some k_ ≠ (.slice Ao30 t299.length co30 : Value).ownBlock ∧ some k_ ≠ (.slice Ao32 t303.length co32 : Value).ownBlock) (.slice Ao33 t295.length co33) t295) := ⟨by rw [← hq_]; exact (by (with_reducible repeat (first | apply Kd.R_alloc | apply Kd.R_drewN | apply Kd.R_drew)); exact Kd.R_mono HO297.out (fun _ hk => ⟨hk.1.1.2, ⟨hk.1.2, hk.2⟩⟩))⟩; have n2_ : Aside0 (Kd.R (Kd.int .i64) 3 w31 w.heap.size (fun k_ => some k_ ≠ (.slice Ao23 t292.length co23 : Value).ownBlock ∧ some k_ ≠ (.slice Ao33 t295.length co33 : Value).ownBlock ∧ some k_ ≠ (.slice Ao32 t303.length co32 : Value).ownBlock) (.slice Ao30 t299.length co30) t299) := ⟨by rw [← hq_]; exact (by (with_reducible repeat (first | apply Kd.R_alloc | apply Kd.R_drewN | apply Kd.R_drew)); exact Kd.R_mono HO301.out (fun _ hk => ⟨hk.1.1.2, ⟨hk.1.2, hk.2⟩⟩))⟩; have n3_ : Aside0 (Kd.R (Kd.int .i64) 3 w31 w.heap.size (fun k_ => some k_ ≠ (.slice Ao23 t292.length co23 : Value).ownBlock ∧ some k_ ≠ (.slice Ao33 t295.length co33 : Value).ownBlock ∧ some k_ ≠ (.slice Ao30 t299.length co30 : Value).ownBlock) (.slice Ao32 t303.length co32) t303) := ⟨by rw [← hq_]; exact (by (with_reducible repeat (first | apply Kd.R_alloc | apply Kd.R_drewN | apply Kd.R_drew)); exact Kd.R_mono HO305.out (fun _ hk => ⟨hk.1.1.2, ⟨hk.1.2, hk.2⟩⟩))⟩; have n4_ : Aside0 (w31.heap[gb289]? = some (.cells #[.int .i64 a0_0, .slice A0_1 l0_1.length c0_1] 24 (0, 0))) := ⟨by rw [← hq_]; exact q19_13⟩; have n5_ : Aside0 (w31.heap[gb302]? = some (.cells #[.int .i64 t298, .slice Ao30 t299.length co30] 27 (0, 0))) := ⟨by rw [← hq_]; exact q19_14⟩; have n6_ : Aside0 (Below w.heap.size w w31) := ⟨by rw [← hq_]; exact q19_5⟩; clear HO294 HO297 HO301 HO305 BK289 BK302 HB hq_; have HO294 := n0_; have HO297 := n1_; have HO301 := n2_; have HO305 := n3_; have BK289 := n4_; have BK302 := n5_; have HB := n6_; clear n0_ n1_ n2_ n3_ n4_ n5_ n6_))
    have n0_ := Aside0.mk (Kd.R_drew HO294.out)
    have n1_ := Aside0.mk (Kd.R_drew HO297.out)
    have n2_ := Aside0.mk (Kd.R_drew HO301.out)
    have n3_ := Aside0.mk (Kd.R_drew HO305.out)
    have n4_ := Aside0.mk (blk_drew BK289.out)
    have n5_ := Aside0.mk (blk_drew BK302.out)
    have n6_ := Aside0.mk (below_drew1 HB.out)
    clear HO294
    clear HO297
    clear HO301
    clear HO305
    clear BK289
    clear BK302
    clear HB
    have HO294 := n0_
    have HO297 := n1_
    have HO301 := n2_
    have HO305 := n3_
    have BK289 := n4_
    have BK302 := n5_
    have HB := n6_
    clear n0_ n1_ n2_ n3_ n4_ n5_ n6_
    refine start_ (n := 5) (S := fun w' => w'.cell? ⟨gb302, 0, none⟩ = some (.int .i64 t298) ∧ w'.cell? ⟨gb302, 1, none⟩ = some (.slice Ao30 t299.length co30) ∧ w'.cell? ⟨gb289, 0, none⟩ = some (.int .i64 a0_0) ∧ w'.cell? ⟨gb289, 1, none⟩ = some (.slice A0_1 l0_1.length c0_1)) (ds := []) #[false, false, false, false, false] q19_22 rfl rfl ⟨(blk_cell BK302.out 0).trans rfl, (blk_cell BK302.out 1).trans rfl, (blk_cell BK289.out 0).trans rfl, (blk_cell BK289.out 1).trans rfl⟩ (fun hHeld => ?_)
    generalize w31.drew = w34 at HO294 HO297 HO301 HO305 BK289 BK302 HB hHeld ⊢
    refine take_ (i := 0) (N := some 27) (v := ?_) (a' := ?_) #[true, false, false, false, false] rfl rfl q19_22 (fun _ _ _ h => h) (Or.inl ⟨by rfl, ?_⟩) hHeld ?_ ?_
    rotate_left
    ·
     rintro w' ⟨s0, s1, s2, s3⟩
     go_simp
     with_reducible rfl
    rotate_left
    ·
     exact put19_
    refine take_ (i := 1) (N := some 28) (v := ?_) (a' := ?_) #[true, true, false, false, false] rfl rfl q19_22 (fun _ _ _ h => h) (Or.inl ⟨by rfl, ?_⟩) hHeld ?_ ?_
    rotate_left
    ·
     rintro w' ⟨s0, s1, s2, s3⟩
     go_simp
     with_reducible rfl
    rotate_left
    ·
     exact put19_
    refine one_ (i := 2) (N := some 29) #[true, true, true, false, false] rfl rfl q19_22 (by decide) (fun K hK => ?_)
    refine goes_ Tryd.func14 q19_22 rfl #[.agg #[.int .i64 a0_0, .slice A0_1 l0_1.length c0_1]] (by rfl) rfl rfl q19_11 ?_
    with_reducible refine (laws_toContext.calls k a0_0 _ _ l0_1 t307 t308 _ ?side1 ?side2 A13.out).mono ?_
    (case side1 => exact q19_6)
    (case side2 => exact HC0_1.out)
    rintro e w35 ⟨v309, rfl, ho0, hb⟩
    refine ⟨_, rfl, ?_⟩
    have n0_ := Aside0.mk (Kd.R_elder' q19_15 (Kd.R_base ho0) hb)
    have n1_ := Aside0.mk (Kd.R_elder' q19_16 (Kd.R_base ho0) hb)
    have n2_ := Aside0.mk (Kd.R_elder' q19_17 (Kd.R_base ho0) hb)
    have n3_ := Aside0.mk (Kd.R_elder' q19_18 (Kd.R_base ho0) hb)
    have n4_ := Aside0.mk (Kd.R_lower (Kd.R_new' (Kd.R_new' (Kd.R_new' (Kd.R_new' ho0 (Kd.R_lt q19_15)) (Kd.R_lt q19_16)) (Kd.R_lt q19_17)) (Kd.R_lt q19_18)) (below_size q19_5))
    have n5_ := Aside0.mk (blk_below (g := gb289) (o := .cells #[.int .i64 a0_0, .slice A0_1 l0_1.length c0_1] 24 (0, 0)) q19_13 hb)
    have n6_ := Aside0.mk (blk_below (g := gb302) (o := .cells #[.int .i64 t298, .slice Ao30 t299.length co30] 27 (0, 0)) q19_14 hb)
    have n7_ := Aside0.mk (below_step q19_5 hb)
    clear HO294
    clear HO297
    clear HO301
    clear HO305
    clear BK289
    clear BK302
    clear HB
    have HO294 := n0_
    have HO297 := n1_
    have HO301 := n2_
    have HO305 := n3_
    have HO310 := n4_
    have BK289 := n5_
    have BK302 := n6_
    have HB := n7_
    clear n0_ n1_ n2_ n3_ n4_ n5_ n6_ n7_
    (try clear hb)
    (try clear hb2)
    (try clear hk)
    (try clear hi)
    (try clear ho0)
    obtain ⟨Ao36, co36, eo36⟩ := Kd.R_slice HO310.out
    (first | subst eo36 | (injection eo36 with f1_ f2_ f3_; have f4_ := f1_.symm; have f5_ := f3_.symm; clear f1_ f2_ f3_; subst f4_; subst f5_))
    refine hK.out _ _ ⟨(blk_cell BK302.out 0).trans rfl, (blk_cell BK302.out 1).trans rfl, (blk_cell BK289.out 0).trans rfl, (blk_cell BK289.out 1).trans rfl⟩ (fun hHeld => ?_)
    clear hK K
    refine norm_ (a' := ?_) ?_ ?_
    rotate_left
    ·
     show Act.put _ (some 29) _ = _
     exact put19_
    refine one_ (i := 3) (N := some 30) #[true, true, true, true, false] rfl rfl q19_22 (by decide) (fun K hK => ?_)
    refine goes_ Tryd.func16 q19_22 rfl #[.agg #[.int .i64 t298, .slice Ao30 t299.length co30], .agg #[.int .i64 t307, .slice Ao36 t308.length co36]] (by rfl) rfl rfl q19_11 ?_
    with_reducible refine (laws_eqContext.calls k t298 _ _ t299 t307 _ _ t308 true _ ?side1 ?side2 ?side3 ?side4 A14.out).mono ?_
    (case side1 => repeat (first | exact (Kd.R_reads' HO301.out).2.2 | (with_reducible refine Kd.C_alloc ?_ _) | (with_reducible refine Kd.C_drewN ?_ _) | (with_reducible refine Kd.C_drew ?_)))
    (case side2 => exact (Kd.R_reads' HO301.out).2.1)
    (case side3 => repeat (first | exact (Kd.R_reads' HO310.out).2.2 | (with_reducible refine Kd.C_alloc ?_ _) | (with_reducible refine Kd.C_drewN ?_ _) | (with_reducible refine Kd.C_drew ?_)))
    (case side4 => exact (Kd.R_reads' HO310.out).2.1)
    rintro e w37 ⟨rfl, hb⟩
    refine ⟨_, rfl, ?_⟩
    have n0_ := Aside0.mk (Kd.R_below q19_15 hb)
    have n1_ := Aside0.mk (Kd.R_below q19_16 hb)
    have n2_ := Aside0.mk (Kd.R_below q19_17 hb)
    have n3_ := Aside0.mk (Kd.R_below q19_18 hb)
    have n4_ := Aside0.mk (Kd.R_below (by (with_reducible repeat (first | apply Kd.R_alloc | apply Kd.R_drewN | apply Kd.R_drew)); exact HO310.out) hb)
    have n5_ := Aside0.mk (blk_below (g := gb289) (o := .cells #[.int .i64 a0_0, .slice A0_1 l0_1.length c0_1] 24 (0, 0)) q19_13 hb)
    have n6_ := Aside0.mk (blk_below (g := gb302) (o := .cells #[.int .i64 t298, .slice Ao30 t299.length co30] 27 (0, 0)) q19_14 hb)
    have n7_ := Aside0.mk (below_step q19_5 hb)
    clear HO294
    clear HO297
    clear HO301
    clear HO305
    clear HO310
    clear BK289
    clear BK302
    clear HB
    have HO294 := n0_
    have HO297 := n1_
    have HO301 := n2_
    have HO305 := n3_
    have HO310 := n4_
    have BK289 := n5_
    have BK302 := n6_
    have HB := n7_
    clear n0_ n1_ n2_ n3_ n4_ n5_ n6_ n7_
    (try clear hb)
    (try clear hb2)
    (try clear hk)
    (try clear hi)
    refine hK.out _ _ ⟨(blk_cell BK302.out 0).trans rfl, (blk_cell BK302.out 1).trans rfl, (blk_cell BK289.out 0).trans rfl, (blk_cell BK289.out 1).trans rfl⟩ (fun hHeld => ?_)
    clear hK K
    refine norm_ (a' := ?_) ?_ ?_
    rotate_left
    ·
     show Act.put _ (some 30) _ = _
     exact put19_
    refine pure_ (i := 4) (N := some 31) (v := ?_) (a' := ?_) #[true, true, true, true, true] rfl rfl q19_22 (fun _ _ _ h => h) (Or.inl ⟨by rfl, ?_⟩) ?_ ?_
    rotate_left
    ·
     intro w'
     go_simp
     with_reducible rfl
    rotate_left
    ·
     exact put19_
    refine done_ q19_22 ?_
    have hcz38_0 : w37.cell? ⟨gb302, 0, none⟩ = some (.int .i64 t298) := (blk_cell BK302.out 0).trans rfl
    have hcz38_1 : w37.cell? ⟨gb302, 1, none⟩ = some (.slice Ao30 t299.length co30) := (blk_cell BK302.out 1).trans rfl
    have hfz38_0 := blk_frozen BK302.out 0
    have hfz38_1 := blk_frozen BK302.out 1
    go_upto_region 14 with (first | ((with_reducible refine gate_callee (f := 28) rfl ?_); refine goesL_ (some 34) rfl rfl Tryd.func28 q19_22 rfl #[.agg #[.int .i64 t298, .slice Ao30 t299.length co30], .int .i64 1] rfl q19_11 ?_; (with_reducible refine (laws_markContext.calls k t298 (fun k_ => some k_ = (.slice Ao30 t299.length co30 : Value).ownBlock) (.slice Ao30 t299.length co30) t299 1 t312 t313 w _ ?side1 ?side2 A16.out).mono ?_); (case side1 => exact q19_5); (case side2 => exact Kd.R_tight rfl HO301.out); rintro e w39 ⟨rfl, hy0, hb, hkp⟩; refine ⟨_, rfl, ?_⟩; have n0_ := Aside0.mk (blk_kept q19_13 hkp (fun hs_ => (fun e_ => (Kd.R_ne HO301.out BK289.out (by decide)) e_) hs_)); have n1_ := Aside0.mk (Kd.R_mono (ok' := fun k_ => some k_ ≠ (.slice Ao33 t295.length co33 : Value).ownBlock ∧ some k_ ≠ (.slice Ao30 t299.length co30 : Value).ownBlock ∧ some k_ ≠ (.slice Ao32 t303.length co32 : Value).ownBlock ∧ some k_ ≠ (.slice Ao36 t308.length co36 : Value).ownBlock) (Kd.R_keptB (HO294.out) hkp (fun k_ hk_ hs_ => by first | exact hk_.1.1.2 hs_ | exact hk_.1.1 hs_ | exact hk_.1.2 hs_ | exact hk_.2 hs_ | exact hk_.1 hs_ | exact hk_.1.1.1 hs_ | exact hk_ hs_ | exact hk_.1.2.1 hs_ | exact hk_.1.2.2 hs_ | exact hk_.1.1.2.1 hs_ | exact hk_.1.1.2.2 hs_ | exact hk_.2.1 hs_ | exact hk_.2.2 hs_ | exact hk_.1.1.1.1 hs_ | exact hk_.1.1.1.2 hs_ | exact hk_.1.2.2.1 hs_ | exact hk_.1.2.2.2 hs_ | exact hk_.1.1.1.2.1 hs_ | exact hk_.1.1.1.2.2 hs_ | exact hk_.2.2.1 hs_ | exact hk_.2.2.2 hs_ | exact hk_.1.1.2.2.1 hs_ | exact hk_.1.1.2.2.2 hs_ | exact hk_.1.2.2.2.1 hs_ | exact hk_.1.2.2.2.2 hs_ | exact hk_.1.1.1.1.1 hs_ | exact hk_.1.1.1.1.2 hs_)) (fun k_ hk_ => ⟨by first | exact hk_.1.1.1.1.2 | exact hk_.1.1.2 | exact hk_.1.1 | exact hk_.1.2 | exact hk_.2 | exact hk_.1 | exact hk_.1.1.1 | exact hk_ | exact hk_.1.2.1 | exact hk_.1.2.2 | exact hk_.1.1.2.1 | exact hk_.1.1.2.2 | exact hk_.2.1 | exact hk_.2.2 | exact hk_.1.1.1.1 | exact hk_.1.1.1.2 | exact hk_.1.2.2.1 | exact hk_.1.2.2.2 | exact hk_.1.1.1.2.1 | exact hk_.1.1.1.2.2 | exact hk_.2.2.1 | exact hk_.2.2.2 | exact hk_.1.1.2.2.1 | exact hk_.1.1.2.2.2 | exact hk_.1.2.2.2.1 | exact hk_.1.2.2.2.2 | exact hk_.1.1.1.1.1, by first | exact hk_.1.1.1.2 | exact hk_.1.1.2 | exact hk_.1.1 | exact hk_.1.2 | exact hk_.2 | exact hk_.1 | exact hk_.1.1.1 | exact hk_ | exact hk_.1.2.1 | exact hk_.1.2.2 | exact hk_.1.1.2.1 | exact hk_.1.1.2.2 | exact hk_.2.1 | exact hk_.2.2 | exact hk_.1.1.1.1 | exact hk_.1.2.2.1 | exact hk_.1.2.2.2 | exact hk_.1.1.1.2.1 | exact hk_.1.1.1.2.2 | exact hk_.2.2.1 | exact hk_.2.2.2 | exact hk_.1.1.2.2.1 | exact hk_.1.1.2.2.2 | exact hk_.1.2.2.2.1 | exact hk_.1.2.2.2.2 | exact hk_.1.1.1.1.1 | exact hk_.1.1.1.1.2, by first | exact hk_.1.1.2 | exact hk_.1.1 | exact hk_.1.2 | exact hk_.2 | exact hk_.1 | exact hk_.1.1.1 | exact hk_ | exact hk_.1.2.1 | exact hk_.1.2.2 | exact hk_.1.1.2.1 | exact hk_.1.1.2.2 | exact hk_.2.1 | exact hk_.2.2 | exact hk_.1.1.1.1 | exact hk_.1.1.1.2 | exact hk_.1.2.2.1 | exact hk_.1.2.2.2 | exact hk_.1.1.1.2.1 | exact hk_.1.1.1.2.2 | exact hk_.2.2.1 | exact hk_.2.2.2 | exact hk_.1.1.2.2.1 | exact hk_.1.1.2.2.2 | exact hk_.1.2.2.2.1 | exact hk_.1.2.2.2.2 | exact hk_.1.1.1.1.1 | exact hk_.1.1.1.1.2, by first | exact hk_.1.2 | exact hk_.1.1.2 | exact hk_.1.1 | exact hk_.2 | exact hk_.1 | exact hk_.1.1.1 | exact hk_ | exact hk_.1.2.1 | exact hk_.1.2.2 | exact hk_.1.1.2.1 | exact hk_.1.1.2.2 | exact hk_.2.1 | exact hk_.2.2 | exact hk_.1.1.1.1 | exact hk_.1.1.1.2 | exact hk_.1.2.2.1 | exact hk_.1.2.2.2 | exact hk_.1.1.1.2.1 | exact hk_.1.1.1.2.2 | exact hk_.2.2.1 | exact hk_.2.2.2 | exact hk_.1.1.2.2.1 | exact hk_.1.1.2.2.2 | exact hk_.1.2.2.2.1 | exact hk_.1.2.2.2.2 | exact hk_.1.1.1.1.1 | exact hk_.1.1.1.1.2⟩)); have n2_ := Aside0.mk (Kd.R_mono (ok' := fun k_ => some k_ ≠ (.slice Ao23 t292.length co23 : Value).ownBlock ∧ some k_ ≠ (.slice Ao30 t299.length co30 : Value).ownBlock ∧ some k_ ≠ (.slice Ao32 t303.length co32 : Value).ownBlock ∧ some k_ ≠ (.slice Ao36 t308.length co36 : Value).ownBlock) (Kd.R_keptB (HO297.out) hkp (fun k_ hk_ hs_ => by first | exact hk_.1.1.2 hs_ | exact hk_.1.1 hs_ | exact hk_.1.2 hs_ | exact hk_.2 hs_ | exact hk_.1 hs_ | exact hk_.1.1.1 hs_ | exact hk_ hs_ | exact hk_.1.2.1 hs_ | exact hk_.1.2.2 hs_ | exact hk_.1.1.2.1 hs_ | exact hk_.1.1.2.2 hs_ | exact hk_.2.1 hs_ | exact hk_.2.2 hs_ | exact hk_.1.1.1.1 hs_ | exact hk_.1.1.1.2 hs_ | exact hk_.1.2.2.1 hs_ | exact hk_.1.2.2.2 hs_ | exact hk_.1.1.1.2.1 hs_ | exact hk_.1.1.1.2.2 hs_ | exact hk_.2.2.1 hs_ | exact hk_.2.2.2 hs_ | exact hk_.1.1.2.2.1 hs_ | exact hk_.1.1.2.2.2 hs_ | exact hk_.1.2.2.2.1 hs_ | exact hk_.1.2.2.2.2 hs_ | exact hk_.1.1.1.1.1 hs_ | exact hk_.1.1.1.1.2 hs_)) (fun k_ hk_ => ⟨by first | exact hk_.1.1.1.1.2 | exact hk_.1.1.2 | exact hk_.1.1 | exact hk_.1.2 | exact hk_.2 | exact hk_.1 | exact hk_.1.1.1 | exact hk_ | exact hk_.1.2.1 | exact hk_.1.2.2 | exact hk_.1.1.2.1 | exact hk_.1.1.2.2 | exact hk_.2.1 | exact hk_.2.2 | exact hk_.1.1.1.1 | exact hk_.1.1.1.2 | exact hk_.1.2.2.1 | exact hk_.1.2.2.2 | exact hk_.1.1.1.2.1 | exact hk_.1.1.1.2.2 | exact hk_.2.2.1 | exact hk_.2.2.2 | exact hk_.1.1.2.2.1 | exact hk_.1.1.2.2.2 | exact hk_.1.2.2.2.1 | exact hk_.1.2.2.2.2 | exact hk_.1.1.1.1.1, by first | exact hk_.1.1.1.2 | exact hk_.1.1.2 | exact hk_.1.1 | exact hk_.1.2 | exact hk_.2 | exact hk_.1 | exact hk_.1.1.1 | exact hk_ | exact hk_.1.2.1 | exact hk_.1.2.2 | exact hk_.1.1.2.1 | exact hk_.1.1.2.2 | exact hk_.2.1 | exact hk_.2.2 | exact hk_.1.1.1.1 | exact hk_.1.2.2.1 | exact hk_.1.2.2.2 | exact hk_.1.1.1.2.1 | exact hk_.1.1.1.2.2 | exact hk_.2.2.1 | exact hk_.2.2.2 | exact hk_.1.1.2.2.1 | exact hk_.1.1.2.2.2 | exact hk_.1.2.2.2.1 | exact hk_.1.2.2.2.2 | exact hk_.1.1.1.1.1 | exact hk_.1.1.1.1.2, by first | exact hk_.1.1.2 | exact hk_.1.1 | exact hk_.1.2 | exact hk_.2 | exact hk_.1 | exact hk_.1.1.1 | exact hk_ | exact hk_.1.2.1 | exact hk_.1.2.2 | exact hk_.1.1.2.1 | exact hk_.1.1.2.2 | exact hk_.2.1 | exact hk_.2.2 | exact hk_.1.1.1.1 | exact hk_.1.1.1.2 | exact hk_.1.2.2.1 | exact hk_.1.2.2.2 | exact hk_.1.1.1.2.1 | exact hk_.1.1.1.2.2 | exact hk_.2.2.1 | exact hk_.2.2.2 | exact hk_.1.1.2.2.1 | exact hk_.1.1.2.2.2 | exact hk_.1.2.2.2.1 | exact hk_.1.2.2.2.2 | exact hk_.1.1.1.1.1 | exact hk_.1.1.1.1.2, by first | exact hk_.1.2 | exact hk_.1.1.2 | exact hk_.1.1 | exact hk_.2 | exact hk_.1 | exact hk_.1.1.1 | exact hk_ | exact hk_.1.2.1 | exact hk_.1.2.2 | exact hk_.1.1.2.1 | exact hk_.1.1.2.2 | exact hk_.2.1 | exact hk_.2.2 | exact hk_.1.1.1.1 | exact hk_.1.1.1.2 | exact hk_.1.2.2.1 | exact hk_.1.2.2.2 | exact hk_.1.1.1.2.1 | exact hk_.1.1.1.2.2 | exact hk_.2.2.1 | exact hk_.2.2.2 | exact hk_.1.1.2.2.1 | exact hk_.1.1.2.2.2 | exact hk_.1.2.2.2.1 | exact hk_.1.2.2.2.2 | exact hk_.1.1.1.1.1 | exact hk_.1.1.1.1.2⟩)); have n3_ := Aside0.mk (Kd.R_reok rfl hy0 (fun k_ e_ => HO301.out.1 k_ e_)); have n4_ := Aside0.mk (blk_kept q19_14 hkp (fun hs_ => (fun e_ => (Kd.R_ne HO301.out BK302.out (by decide)) e_) hs_)); have n5_ := Aside0.mk (Kd.R_mono (ok' := fun k_ => some k_ ≠ (.slice Ao23 t292.length co23 : Value).ownBlock ∧ some k_ ≠ (.slice Ao33 t295.length co33 : Value).ownBlock ∧ some k_ ≠ (.slice Ao30 t299.length co30 : Value).ownBlock ∧ some k_ ≠ (.slice Ao36 t308.length co36 : Value).ownBlock) (Kd.R_keptB (HO305.out) hkp (fun k_ hk_ hs_ => by first | exact hk_.1.2 hs_ | exact hk_.1.1.2 hs_ | exact hk_.1.1 hs_ | exact hk_.2 hs_ | exact hk_.1 hs_ | exact hk_.1.1.1 hs_ | exact hk_ hs_ | exact hk_.1.2.1 hs_ | exact hk_.1.2.2 hs_ | exact hk_.1.1.2.1 hs_ | exact hk_.1.1.2.2 hs_ | exact hk_.2.1 hs_ | exact hk_.2.2 hs_ | exact hk_.1.1.1.1 hs_ | exact hk_.1.1.1.2 hs_ | exact hk_.1.2.2.1 hs_ | exact hk_.1.2.2.2 hs_ | exact hk_.1.1.1.2.1 hs_ | exact hk_.1.1.1.2.2 hs_ | exact hk_.2.2.1 hs_ | exact hk_.2.2.2 hs_ | exact hk_.1.1.2.2.1 hs_ | exact hk_.1.1.2.2.2 hs_ | exact hk_.1.2.2.2.1 hs_ | exact hk_.1.2.2.2.2 hs_ | exact hk_.1.1.1.1.1 hs_ | exact hk_.1.1.1.1.2 hs_)) (fun k_ hk_ => ⟨by first | exact hk_.1.1.1.1.2 | exact hk_.1.1.2 | exact hk_.1.1 | exact hk_.1.2 | exact hk_.2 | exact hk_.1 | exact hk_.1.1.1 | exact hk_ | exact hk_.1.2.1 | exact hk_.1.2.2 | exact hk_.1.1.2.1 | exact hk_.1.1.2.2 | exact hk_.2.1 | exact hk_.2.2 | exact hk_.1.1.1.1 | exact hk_.1.1.1.2 | exact hk_.1.2.2.1 | exact hk_.1.2.2.2 | exact hk_.1.1.1.2.1 | exact hk_.1.1.1.2.2 | exact hk_.2.2.1 | exact hk_.2.2.2 | exact hk_.1.1.2.2.1 | exact hk_.1.1.2.2.2 | exact hk_.1.2.2.2.1 | exact hk_.1.2.2.2.2 | exact hk_.1.1.1.1.1, by first | exact hk_.1.1.1.2 | exact hk_.1.1.2 | exact hk_.1.1 | exact hk_.1.2 | exact hk_.2 | exact hk_.1 | exact hk_.1.1.1 | exact hk_ | exact hk_.1.2.1 | exact hk_.1.2.2 | exact hk_.1.1.2.1 | exact hk_.1.1.2.2 | exact hk_.2.1 | exact hk_.2.2 | exact hk_.1.1.1.1 | exact hk_.1.2.2.1 | exact hk_.1.2.2.2 | exact hk_.1.1.1.2.1 | exact hk_.1.1.1.2.2 | exact hk_.2.2.1 | exact hk_.2.2.2 | exact hk_.1.1.2.2.1 | exact hk_.1.1.2.2.2 | exact hk_.1.2.2.2.1 | exact hk_.1.2.2.2.2 | exact hk_.1.1.1.1.1 | exact hk_.1.1.1.1.2, by first | exact hk_.1.1.2 | exact hk_.1.1 | exact hk_.1.2 | exact hk_.2 | exact hk_.1 | exact hk_.1.1.1 | exact hk_ | exact hk_.1.2.1 | exact hk_.1.2.2 | exact hk_.1.1.2.1 | exact hk_.1.1.2.2 | exact hk_.2.1 | exact hk_.2.2 | exact hk_.1.1.1.1 | exact hk_.1.1.1.2 | exact hk_.1.2.2.1 | exact hk_.1.2.2.2 | exact hk_.1.1.1.2.1 | exact hk_.1.1.1.2.2 | exact hk_.2.2.1 | exact hk_.2.2.2 | exact hk_.1.1.2.2.1 | exact hk_.1.1.2.2.2 | exact hk_.1.2.2.2.1 | exact hk_.1.2.2.2.2 | exact hk_.1.1.1.1.1 | exact hk_.1.1.1.1.2, by first | exact hk_.1.2 | exact hk_.1.1.2 | exact hk_.1.1 | exact hk_.2 | exact hk_.1 | exact hk_.1.1.1 | exact hk_ | exact hk_.1.2.1 | exact hk_.1.2.2 | exact hk_.1.1.2.1 | exact hk_.1.1.2.2 | exact hk_.2.1 | exact hk_.2.2 | exact hk_.1.1.1.1 | exact hk_.1.1.1.2 | exact hk_.1.2.2.1 | exact hk_.1.2.2.2 | exact hk_.1.1.1.2.1 | exact hk_.1.1.1.2.2 | exact hk_.2.2.1 | exact hk_.2.2.2 | exact hk_.1.1.2.2.1 | exact hk_.1.1.2.2.2 | exact hk_.1.2.2.2.1 | exact hk_.1.2.2.2.2 | exact hk_.1.1.1.1.1 | exact hk_.1.1.1.1.2⟩)); have n6_ := Aside0.mk (Kd.R_mono (ok' := fun k_ => some k_ ≠ (.slice Ao23 t292.length co23 : Value).ownBlock ∧ some k_ ≠ (.slice Ao33 t295.length co33 : Value).ownBlock ∧ some k_ ≠ (.slice Ao30 t299.length co30 : Value).ownBlock ∧ some k_ ≠ (.slice Ao32 t303.length co32 : Value).ownBlock) (Kd.R_keptB (HO310.out) hkp (fun k_ hk_ hs_ => by first | exact hk_.1.2 hs_ | exact hk_.1.1.2 hs_ | exact hk_.1.1 hs_ | exact hk_.2 hs_ | exact hk_.1 hs_ | exact hk_.1.1.1 hs_ | exact hk_ hs_ | exact hk_.1.2.1 hs_ | exact hk_.1.2.2 hs_ | exact hk_.1.1.2.1 hs_ | exact hk_.1.1.2.2 hs_ | exact hk_.2.1 hs_ | exact hk_.2.2 hs_ | exact hk_.1.1.1.1 hs_ | exact hk_.1.1.1.2 hs_ | exact hk_.1.2.2.1 hs_ | exact hk_.1.2.2.2 hs_ | exact hk_.1.1.1.2.1 hs_ | exact hk_.1.1.1.2.2 hs_ | exact hk_.2.2.1 hs_ | exact hk_.2.2.2 hs_ | exact hk_.1.1.2.2.1 hs_ | exact hk_.1.1.2.2.2 hs_ | exact hk_.1.2.2.2.1 hs_ | exact hk_.1.2.2.2.2 hs_ | exact hk_.1.1.1.1.1 hs_ | exact hk_.1.1.1.1.2 hs_)) (fun k_ hk_ => ⟨by first | exact hk_.1.1.1.1.2 | exact hk_.1.1.2 | exact hk_.1.1 | exact hk_.1.2 | exact hk_.2 | exact hk_.1 | exact hk_.1.1.1 | exact hk_ | exact hk_.1.2.1 | exact hk_.1.2.2 | exact hk_.1.1.2.1 | exact hk_.1.1.2.2 | exact hk_.2.1 | exact hk_.2.2 | exact hk_.1.1.1.1 | exact hk_.1.1.1.2 | exact hk_.1.2.2.1 | exact hk_.1.2.2.2 | exact hk_.1.1.1.2.1 | exact hk_.1.1.1.2.2 | exact hk_.2.2.1 | exact hk_.2.2.2 | exact hk_.1.1.2.2.1 | exact hk_.1.1.2.2.2 | exact hk_.1.2.2.2.1 | exact hk_.1.2.2.2.2 | exact hk_.1.1.1.1.1, by first | exact hk_.1.1.1.2 | exact hk_.1.1.2 | exact hk_.1.1 | exact hk_.1.2 | exact hk_.2 | exact hk_.1 | exact hk_.1.1.1 | exact hk_ | exact hk_.1.2.1 | exact hk_.1.2.2 | exact hk_.1.1.2.1 | exact hk_.1.1.2.2 | exact hk_.2.1 | exact hk_.2.2 | exact hk_.1.1.1.1 | exact hk_.1.2.2.1 | exact hk_.1.2.2.2 | exact hk_.1.1.1.2.1 | exact hk_.1.1.1.2.2 | exact hk_.2.2.1 | exact hk_.2.2.2 | exact hk_.1.1.2.2.1 | exact hk_.1.1.2.2.2 | exact hk_.1.2.2.2.1 | exact hk_.1.2.2.2.2 | exact hk_.1.1.1.1.1 | exact hk_.1.1.1.1.2, by first | exact hk_.1.1.2 | exact hk_.1.1 | exact hk_.1.2 | exact hk_.2 | exact hk_.1 | exact hk_.1.1.1 | exact hk_ | exact hk_.1.2.1 | exact hk_.1.2.2 | exact hk_.1.1.2.1 | exact hk_.1.1.2.2 | exact hk_.2.1 | exact hk_.2.2 | exact hk_.1.1.1.1 | exact hk_.1.1.1.2 | exact hk_.1.2.2.1 | exact hk_.1.2.2.2 | exact hk_.1.1.1.2.1 | exact hk_.1.1.1.2.2 | exact hk_.2.2.1 | exact hk_.2.2.2 | exact hk_.1.1.2.2.1 | exact hk_.1.1.2.2.2 | exact hk_.1.2.2.2.1 | exact hk_.1.2.2.2.2 | exact hk_.1.1.1.1.1 | exact hk_.1.1.1.1.2, by first | exact hk_.1.2 | exact hk_.1.1.2 | exact hk_.1.1 | exact hk_.2 | exact hk_.1 | exact hk_.1.1.1 | exact hk_ | exact hk_.1.2.1 | exact hk_.1.2.2 | exact hk_.1.1.2.1 | exact hk_.1.1.2.2 | exact hk_.2.1 | exact hk_.2.2 | exact hk_.1.1.1.1 | exact hk_.1.1.1.2 | exact hk_.1.2.2.1 | exact hk_.1.2.2.2 | exact hk_.1.1.1.2.1 | exact hk_.1.1.1.2.2 | exact hk_.2.2.1 | exact hk_.2.2.2 | exact hk_.1.1.2.2.1 | exact hk_.1.1.2.2.2 | exact hk_.1.2.2.2.1 | exact hk_.1.2.2.2.2 | exact hk_.1.1.1.1.1 | exact hk_.1.1.1.1.2⟩)); have n7_ := Aside0.mk (hb); clear BK289; clear HO294; clear HO297; clear HO301; clear BK302; clear HO305; clear HO310; clear HB; have BK289 := n0_; have HO294 := n1_; have HO297 := n2_; have HO301 := n3_; have BK302 := n4_; have HO305 := n5_; have HO310 := n6_; have HB := n7_; clear n0_ n1_ n2_ n3_ n4_ n5_ n6_ n7_; (try clear hb); (try clear hkp); (try clear hy0)))
    (try simp only [Act.put, List.setIfInBounds_toArray, List.set_cons_zero, List.set_cons_succ])
    go_cut [42] (fun v42 wc => ∃ (kq : Nat) (x42_16 : Bool), v42 = .bool x42_16 ∧ Aside0 (laws_FnExactPseudoIntents.j0 kq t295 t303 x42_16 a0_0 l0_1 = some r) ∧ Aside0 (kq ≤ k) ∧ Aside0 (Kd.R (Kd.int .i64) 3 wc w.heap.size (fun k_ => some k_ ≠ ((.slice Ao32 t303.length co32) : Value).ownBlock) (.slice Ao33 t295.length co33) t295) ∧ Aside0 (Kd.R (Kd.int .i64) 3 wc w.heap.size (fun k_ => some k_ ≠ ((.slice Ao33 t295.length co33) : Value).ownBlock) (.slice Ao32 t303.length co32) t303) ∧ Aside0 (wc.heap[gb289]? = some (.cells #[.int .i64 a0_0, (.slice A0_1 l0_1.length c0_1)] 24 (0, 0))) ∧ Aside0 (Below w.heap.size w wc))
    case first =>
     have H := HC17.out
     clear HC17
     by_cases c40 : t312 < 0
     ·
      rw [if_pos c40] at H
      refine absurd ?_ Bool.false_ne_true; revert H; generalize k = kq_; intro H; cases kq_ with | zero => exact absurd H (by simp only [laws_FnExactPseudoIntents.j0]; exact fun h => by cases h) | succ kq_ => simp only [laws_FnExactPseudoIntents.j0] at H; (try rw [if_pos rfl] at H); exact (Option.some.inj H).trans HRT.out
     ·
      rw [if_neg c40] at H
      have c40b0 : decide (t312 < 0) = false := decide_eq_false c40
      clear c40
      (first | rw [c40b0] | (simp only [i64_w, i32_w]; rw [c40b0]) | skip)
      replace H := Option.bind_eq_some_iff.mp H
      obtain ⟨t314, A410, H⟩ := H
      replace H : (laws_FnExactPseudoIntents.j0 k t295 t303 (!t314) a0_0 l0_1) = some r := H
      have A41 := Aside0.mk A410
      clear A410
      have H' := Aside0.mk H
      clear H
      go_wp2_with (first | (go_at_call 21; (with_reducible refine (laws_eqIntS.calls k _ _ t303 _ _ t295 t314 _ ?side1 ?side2 ?side3 ?side4 A41.out).mono ?_); (case side1 => exact q19_8); (case side2 => exact (Kd.R_reads' HO305.out).2.1); (case side3 => exact q19_7); (case side4 => exact (Kd.R_reads' HO297.out).2.1); rintro e w' ⟨rfl, ⟨nd, rfl⟩⟩))
      go_meet
      case rel => exact ⟨_, (!t314), (by first | rfl | (simp; done) | (simp [*]; done) | (simp [i64_w, i32_w]; done)), H', ⟨by first | omega | exact Nat.le_refl _⟩, ⟨by (with_reducible repeat (first | apply Kd.R_alloc | apply Kd.R_drewN | apply Kd.R_drew)); exact Kd.R_mono HO297.out (fun _ hk => hk.2.2.1)⟩, ⟨by (with_reducible repeat (first | apply Kd.R_alloc | apply Kd.R_drewN | apply Kd.R_drew)); exact Kd.R_mono HO305.out (fun _ hk => hk.2.1)⟩, ⟨by (with_reducible repeat (first | refine blk_drewN ?_ _ | refine blk_drew ?_ | refine blk_alloc ?_ _)); exact BK289.out⟩, ⟨by repeat (first | (with_reducible first | exact HB.out | apply below_alloc | apply pw_below_drewN | apply below_drew1 | refine below_set ?_ GE289.out | refine below_set ?_ GE302.out) | exact HB.out)⟩⟩
    case rest =>
     clear HC17
     try clear c1
     try clear c2
     try clear p2
     try clear c3
     try clear c3b0
     try clear c4
     try clear c10
     try clear c12
     try clear c14
     try clear c15
     try clear c16
     try clear c21
     try clear c28
     try clear c39
     try clear c40
     try clear c40b0
     try clear hcz19_0
     try clear hcz19_1
     try clear hcz21_0
     try clear hcz21_1
     try clear hcz25_0
     try clear hcz25_1
     try clear hcz29_0
     try clear hcz29_1
     try clear hcz38_0
     try clear hcz38_1
     try clear hcz5_0
     try clear hcz5_1
     try clear hfz19_0
     try clear hfz19_1
     try clear hfz21_0
     try clear hfz21_1
     try clear hfz25_0
     try clear hfz25_1
     try clear hfz29_0
     try clear hfz29_1
     try clear hfz38_0
     try clear hfz38_1
     try clear hfz5_0
     try clear hfz5_1
     obtain ⟨kq, x42_16, rfl, HA, HJ16, HO_4, HO_6, BK289, HB⟩ := hcut
     cases kq with
     | zero => exact absurd HA.out (by simp [laws_FnExactPseudoIntents.j0])
     | succ kj16 =>
      have H := HA.out
      clear HA
      simp only [laws_FnExactPseudoIntents.j0] at H
      by_cases c42 : x42_16 = true
      ·
       subst c42
       have H1 : (some false) = some r := by rw [if_pos rfl] at H; exact H
       clear H
       have H := H1
       clear H1
       exact absurd ((Option.some.inj H).trans HRT.out) Bool.false_ne_true
      ·
       replace c42 := Bool.eq_false_iff.mpr c42
       subst c42
       have H1 : ((laws_markIntS.f kj16 t303 1).bind fun bt315 => ((laws_heldIntS.f kj16 bt315.2 1).bind fun t317 => (if t317 < 0 then (some false) else (if t317 = bt315.1 then ((laws_toContext.f kj16 a0_0 l0_1).bind fun bt318 => ((impl_PseudoIntents.f bt318.1 bt318.2).bind fun t322 => ((laws_eqIntS.f kj16 t322 t295).bind fun t325 => (if t325 = true then ((laws_heldIntS.f kj16 bt315.2 1).bind fun t326 => (if t326 < 0 then (some false) else (if t326 = bt315.1 then (some true) else (some false)))) else (some false))))) else (some false))))) = some r := q19_21
       clear H
       have H := H1
       clear H1
       replace H := Option.bind_eq_some_iff.mp H
       obtain ⟨⟨t315, t316⟩, A430, H⟩ := H
       replace H : ((laws_heldIntS.f kj16 t316 1).bind fun t317 => (if t317 < 0 then (some false) else (if t317 = t315 then ((laws_toContext.f kj16 a0_0 l0_1).bind fun bt318 => ((impl_PseudoIntents.f bt318.1 bt318.2).bind fun t322 => ((laws_eqIntS.f kj16 t322 t295).bind fun t325 => (if t325 = true then ((laws_heldIntS.f kj16 t316 1).bind fun t326 => (if t326 < 0 then (some false) else (if t326 = t315 then (some true) else (some false)))) else (some false))))) else (some false)))) = some r := H
       have A43 := Aside0.mk A430
       clear A430
       replace H := Option.bind_eq_some_iff.mp H
       obtain ⟨t317, A440, H⟩ := H
       replace H : (if t317 < 0 then (some false) else (if t317 = t315 then ((laws_toContext.f kj16 a0_0 l0_1).bind fun bt318 => ((impl_PseudoIntents.f bt318.1 bt318.2).bind fun t322 => ((laws_eqIntS.f kj16 t322 t295).bind fun t325 => (if t325 = true then ((laws_heldIntS.f kj16 t316 1).bind fun t326 => (if t326 < 0 then (some false) else (if t326 = t315 then (some true) else (some false)))) else (some false))))) else (some false))) = some r := H
       have A44 := Aside0.mk A440
       clear A440
       by_cases c45 : t317 < 0
       ·
        rw [if_pos c45] at H
        exact absurd ((Option.some.inj H).trans HRT.out) Bool.false_ne_true
       ·
        rw [if_neg c45] at H
        have c45b0 : decide (t317 < 0) = false := decide_eq_false c45
        clear c45
        by_cases c46 : t317 = t315
        ·
         rw [if_pos c46] at H
         have c46b0 : (t317 == t315) = true := beq_iff_eq.mpr c46
         have c46b1 : (t317 != t315) = false := bne_eq_false_iff_eq.mpr c46
         clear c46
         replace H := Option.bind_eq_some_iff.mp H
         obtain ⟨⟨t318, t319⟩, A470, H⟩ := H
         replace H : ((impl_PseudoIntents.f t318 t319).bind fun t322 => ((laws_eqIntS.f kj16 t322 t295).bind fun t325 => (if t325 = true then ((laws_heldIntS.f kj16 t316 1).bind fun t326 => (if t326 < 0 then (some false) else (if t326 = t315 then (some true) else (some false)))) else (some false)))) = some r := H
         have A47 := Aside0.mk A470
         clear A470
         replace H := Option.bind_eq_some_iff.mp H
         obtain ⟨t322, A480, H⟩ := H
         replace H : ((laws_eqIntS.f kj16 t322 t295).bind fun t325 => (if t325 = true then ((laws_heldIntS.f kj16 t316 1).bind fun t326 => (if t326 < 0 then (some false) else (if t326 = t315 then (some true) else (some false)))) else (some false))) = some r := H
         have A48 := Aside0.mk A480
         clear A480
         replace H := Option.bind_eq_some_iff.mp H
         obtain ⟨t325, A490, H⟩ := H
         replace H : (if t325 = true then ((laws_heldIntS.f kj16 t316 1).bind fun t326 => (if t326 < 0 then (some false) else (if t326 = t315 then (some true) else (some false)))) else (some false)) = some r := H
         have A49 := Aside0.mk A490
         clear A490
         by_cases c50 : t325 = true
         ·
          subst c50
          have H1 : ((laws_heldIntS.f kj16 t316 1).bind fun t326 => (if t326 < 0 then (some false) else (if t326 = t315 then (some true) else (some false)))) = some r := by rw [if_pos rfl] at H; exact H
          clear H
          have H := H1
          clear H1
          replace H := Option.bind_eq_some_iff.mp H
          obtain ⟨t326, A510, H⟩ := H
          replace H : (if t326 < 0 then (some false) else (if t326 = t315 then (some true) else (some false))) = some r := H
          have A51 := Aside0.mk A510
          clear A510
          by_cases c52 : t326 < 0
          ·
           rw [if_pos c52] at H
           exact absurd ((Option.some.inj H).trans HRT.out) Bool.false_ne_true
          ·
           rw [if_neg c52] at H
           have c52b0 : decide (t326 < 0) = false := decide_eq_false c52
           clear c52
           by_cases c53 : t326 = t315
           ·
            rw [if_pos c53] at H
            have c53b0 : (t326 == t315) = true := beq_iff_eq.mpr c53
            have c53b1 : (t326 != t315) = false := bne_eq_false_iff_eq.mpr c53
            clear c53
            obtain rfl := Option.some.inj H
            go_wp2_with (first | ((with_reducible refine gate_callee (f := 24) rfl ?_); refine goesL_ (some 45) rfl rfl Tryd.func24 q19_22 rfl #[.slice Ao32 t303.length co32, .int .i64 1] rfl q19_11 ?_; (with_reducible refine (laws_markIntS.calls kj16 (fun k_ => some k_ = (.slice Ao32 t303.length co32 : Value).ownBlock) (.slice Ao32 t303.length co32) t303 1 t315 t316 w _ ?side1 ?side2 A43.out).mono ?_); (case side1 => exact q19_10); (case side2 => exact Kd.R_tight rfl HO_6.out); rintro e w54 ⟨rfl, hy0, hb, hkp⟩; refine ⟨_, rfl, ?_⟩; have n0_ := Aside0.mk (Kd.R_mono (ok' := fun k_ => some k_ ≠ (.slice Ao32 t303.length co32 : Value).ownBlock) (Kd.R_keptB (HO_4.out) hkp (fun k_ hk_ hs_ => by first | exact hk_ hs_ | exact hk_.1.1.2 hs_ | exact hk_.1.1 hs_ | exact hk_.1.2 hs_ | exact hk_.2 hs_ | exact hk_.1 hs_ | exact hk_.1.1.1 hs_ | exact hk_.1.2.1 hs_ | exact hk_.1.2.2 hs_ | exact hk_.1.1.2.1 hs_ | exact hk_.1.1.2.2 hs_ | exact hk_.2.1 hs_ | exact hk_.2.2 hs_ | exact hk_.1.1.1.1 hs_ | exact hk_.1.1.1.2 hs_ | exact hk_.1.2.2.1 hs_ | exact hk_.1.2.2.2 hs_ | exact hk_.1.1.1.2.1 hs_ | exact hk_.1.1.1.2.2 hs_ | exact hk_.2.2.1 hs_ | exact hk_.2.2.2 hs_ | exact hk_.1.1.2.2.1 hs_ | exact hk_.1.1.2.2.2 hs_ | exact hk_.1.2.2.2.1 hs_ | exact hk_.1.2.2.2.2 hs_ | exact hk_.1.1.1.1.1 hs_ | exact hk_.1.1.1.1.2 hs_)) (fun k_ hk_ => hk_.1)); have n1_ := Aside0.mk (Kd.R_reok rfl hy0 (fun k_ e_ => HO_6.out.1 k_ e_)); have n2_ := Aside0.mk (blk_kept q19_13 hkp (fun hs_ => (fun e_ => (Kd.R_ne HO_6.out BK289.out (by decide)) e_) hs_)); have n3_ := Aside0.mk (hb); clear HO_4; clear HO_6; clear BK289; clear HB; have HO_4 := n0_; have HO_6 := n1_; have BK289 := n2_; have HB := n3_; clear n0_ n1_ n2_ n3_; (try clear hb); (try clear hkp); (try clear hy0)) | ((with_reducible refine gate_callee (f := 25) rfl ?_); refine goesL_ (some 48) rfl rfl Tryd.func25 q19_22 rfl #[.slice Ao32 t316.length co32, .int .i64 1] rfl q19_4 ?_; (with_reducible refine (laws_heldIntS.calls kj16 _ _ t316 1 t317 _ ?side1 ?side2 A44.out).mono ?_); (case side1 => exact q19_9); (case side2 => rw [show t316.length = t303.length from (Kd.R_reads' HO_6.out).1.symm]; exact (Kd.R_reads' HO_6.out).2.1); rintro e w' ⟨rfl, ⟨nd, rfl⟩⟩; refine ⟨_, rfl, ?_⟩; have hcz55_0 : w54.cell? ⟨gb289, 0, none⟩ = some (.int .i64 a0_0) := (blk_cell BK289.out 0).trans rfl; have hcz55_1 : w54.cell? ⟨gb289, 1, none⟩ = some (.slice A0_1 l0_1.length c0_1) := (blk_cell BK289.out 1).trans rfl; have hfz55_0 := blk_frozen BK289.out 0; have hfz55_1 := blk_frozen BK289.out 1) | ((with_reducible refine gate_callee (f := 14) rfl ?_); refine goesL_ (some 55) rfl rfl Tryd.func14 q19_22 rfl #[.agg #[.int .i64 a0_0, .slice A0_1 l0_1.length c0_1]] rfl q19_11 ?_; (with_reducible refine (laws_toContext.calls kj16 a0_0 _ _ l0_1 t318 t319 _ ?side1 ?side2 A47.out).mono ?_); (case side1 => repeat (first | exact (Kd.C_below HR0_1.out q19_10) | (with_reducible refine Kd.C_alloc ?_ _) | (with_reducible refine Kd.C_drewN ?_ _) | (with_reducible refine Kd.C_drew ?_))); (case side2 => exact HC0_1.out); rintro e w56 ⟨v320, rfl, ho0, hb⟩; refine ⟨_, rfl, ?_⟩; have n0_ := Aside0.mk (Kd.R_elder' q19_19 (Kd.R_base ho0) hb); have n1_ := Aside0.mk (Kd.R_elder' q19_20 (Kd.R_base ho0) hb); have n2_ := Aside0.mk (Kd.R_lower (Kd.R_new' (Kd.R_new' ho0 (Kd.R_lt q19_19)) (Kd.R_lt q19_20)) (below_size q19_10)); have n3_ := Aside0.mk (blk_below (g := gb289) (o := .cells #[.int .i64 a0_0, .slice A0_1 l0_1.length c0_1] 24 (0, 0)) q19_13 hb); have n4_ := Aside0.mk (below_step q19_10 hb); clear HO_4; clear HO_6; clear BK289; clear HB; have HO_4 := n0_; have HO_6 := n1_; have HO321 := n2_; have BK289 := n3_; have HB := n4_; clear n0_ n1_ n2_ n3_ n4_; (try clear hb); (try clear hb2); (try clear hk); (try clear hi); (try clear ho0); obtain ⟨Ao57, co57, eo57⟩ := Kd.R_slice HO321.out; subst eo57) | ((with_reducible refine gate_callee (f := 40) rfl ?_); refine goesL_ (some 56) rfl rfl Tryd.func40 q19_22 rfl #[.agg #[.int .i64 t318, .slice Ao57 t319.length co57]] rfl q19_11 ?_; (with_reducible refine (impl_PseudoIntents.calls t318 _ _ t319 t322 _ ?side1 ?side2 ?tab A48.out).mono ?_); (case tab => first | exact HTB.out | (refine Tab64.below HTB.out ?_; repeat (first | (with_reducible first | exact HB.out | apply below_alloc | apply pw_below_drewN | apply below_drew1 | refine below_set ?_ GE289.out | refine below_set ?_ GE302.out) | exact HB.out)) | (repeat (first | exact HTB.out | apply Tab64.drewN | apply Tab64.drew | apply Tab64.alloc))); (case side1 => repeat (first | exact (Kd.R_reads' HO321.out).2.2 | (with_reducible refine Kd.C_alloc ?_ _) | (with_reducible refine Kd.C_drewN ?_ _) | (with_reducible refine Kd.C_drew ?_))); (case side2 => exact (Kd.R_reads' HO321.out).2.1); rintro e w58 ⟨v323, rfl, ho0, hb⟩; refine ⟨_, rfl, ?_⟩; have n0_ := Aside0.mk (Kd.R_elder' q19_19 (Kd.R_base ho0) hb); have n1_ := Aside0.mk (Kd.R_elder' q19_20 (Kd.R_base ho0) hb); have n2_ := Aside0.mk (Kd.R_elder' (by (with_reducible repeat (first | apply Kd.R_alloc | apply Kd.R_drewN | apply Kd.R_drew)); exact HO321.out) (Kd.R_base ho0) hb); have n3_ := Aside0.mk (Kd.R_lower (Kd.R_new' (Kd.R_new' (Kd.R_new' ho0 (Kd.R_lt q19_19)) (Kd.R_lt q19_20)) (Kd.R_lt (by (with_reducible repeat (first | apply Kd.R_alloc | apply Kd.R_drewN | apply Kd.R_drew)); exact HO321.out))) (below_size q19_10)); have n4_ := Aside0.mk (blk_below (g := gb289) (o := .cells #[.int .i64 a0_0, .slice A0_1 l0_1.length c0_1] 24 (0, 0)) q19_13 hb); have n5_ := Aside0.mk (below_step q19_10 hb); clear HO_4; clear HO_6; clear HO321; clear BK289; clear HB; have HO_4 := n0_; have HO_6 := n1_; have HO321 := n2_; have HO324 := n3_; have BK289 := n4_; have HB := n5_; clear n0_ n1_ n2_ n3_ n4_ n5_; (try clear hb); (try clear hb2); (try clear hk); (try clear hi); (try clear ho0); obtain ⟨Ao59, co59, eo59⟩ := Kd.R_slice HO324.out; subst eo59) | ((with_reducible refine gate_callee (f := 21) rfl ?_); refine goesL_ (some 59) rfl rfl Tryd.func21 q19_22 rfl #[.slice Ao59 t322.length co59, .slice Ao33 t295.length co33] rfl q19_11 ?_; (with_reducible refine (laws_eqIntS.calls kj16 _ _ t322 _ _ t295 true _ ?side1 ?side2 ?side3 ?side4 A49.out).mono ?_); (case side1 => repeat (first | exact (Kd.R_reads' HO324.out).2.2 | (with_reducible refine Kd.C_alloc ?_ _) | (with_reducible refine Kd.C_drewN ?_ _) | (with_reducible refine Kd.C_drew ?_))); (case side2 => exact (Kd.R_reads' HO324.out).2.1); (case side3 => repeat (first | exact (Kd.R_reads' HO_4.out).2.2 | (with_reducible refine Kd.C_alloc ?_ _) | (with_reducible refine Kd.C_drewN ?_ _) | (with_reducible refine Kd.C_drew ?_))); (case side4 => exact (Kd.R_reads' HO_4.out).2.1); rintro e w' ⟨rfl, ⟨nd, rfl⟩⟩; refine ⟨_, rfl, ?_⟩) | ((with_reducible refine gate_callee (f := 25) rfl ?_); refine goesL_ (some 63) rfl rfl Tryd.func25 q19_22 rfl #[.slice Ao32 t316.length co32, .int .i64 1] rfl q19_4 ?_; (with_reducible refine (laws_heldIntS.calls kj16 _ _ t316 1 t326 _ ?side1 ?side2 A51.out).mono ?_); (case side1 => exact q19_9); (case side2 => rw [show t316.length = t303.length from (Kd.R_reads' HO_6.out).1.symm]; exact (Kd.R_reads' HO_6.out).2.1); rintro e w' ⟨rfl, ⟨nd, rfl⟩⟩; refine ⟨_, rfl, ?_⟩))
            go_ret
            exact ⟨by first | rfl | (simp [errW_none, errW_some] <;> rfl) | (simp [*, errW_none, errW_some] <;> rfl), by repeat (first | (with_reducible first | exact HB.out | apply below_alloc | apply pw_below_drewN | apply below_drew1 | refine below_set ?_ GE289.out) | exact HB.out)⟩
           ·
            rw [if_neg c53] at H
            exact absurd ((Option.some.inj H).trans HRT.out) Bool.false_ne_true
         ·
          replace c50 := Bool.eq_false_iff.mpr c50
          subst c50
          have H1 : (some false) = some r := q19_21
          clear H
          have H := H1
          clear H1
          exact absurd ((Option.some.inj H).trans HRT.out) Bool.false_ne_true
        ·
         rw [if_neg c46] at H
         exact absurd ((Option.some.inj H).trans HRT.out) Bool.false_ne_true
   ·
    replace c15 := Bool.eq_false_iff.mpr c15
    subst c15
    have H1 : (some false) = some r := q19_21
    clear H
    have H := H1
    clear H1
    exact absurd ((Option.some.inj H).trans HRT.out) Bool.false_ne_true
  ·
   replace c12 := Bool.eq_false_iff.mpr c12
   subst c12
   have H1 : (some false) = some r := q19_21
   clear H
   have H := H1
   clear H1
   exact absurd ((Option.some.inj H).trans HRT.out) Bool.false_ne_true
end Go.Proofs.YtbflblmkdnhboaaDoor.Pr
