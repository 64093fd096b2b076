/- What the law needs of the program's functions as plain functions, of the proofs that their calls answer so, and of plain laws: gathered by a program of this place (pack.py) out of its printed texts. No condition beyond what each statement says. -/
import Derived.Test.YtbflblmkdnhboaaDoorZXDirectBase2
import Derived.Test.YtbflblmkdnhboaaDoorZXDirectBase3
import Derived.Test.YtbflblmkdnhboaaDoorZXDirectBase4
import Derived.Test.YtbflblmkdnhboaaDoorZXDirectBase6
import Derived.Test.YtbflblmkdnhboaaDoorZXDirectBase15
namespace Go.Proofs.YtbflblmkdnhboaaDoor.Pr
open Go.RowKit Go.Proofs.YtbflblmkdnhboaaDoorW.PrintWords Go.Proofs.YtbflblmkdnhboaaDoorW.PrintLast Go.Proofs.YtbflblmkdnhboaaDoorW.PrintMore
attribute [local go_sem] max2_int min2_int max_two min_two max_three min_three max_four min_four   -- for this text's walks alone
set_option linter.unusedVariables false
set_option linter.unusedSimpArgs false
theorem put11_ {P : Prop} (h : P := by simp only [Act.put, List.setIfInBounds_toArray, List.set_cons_zero, List.set_cons_succ, i64_w, i32_w]; rfl) : P := h
theorem q11_1 {P : Prop} (h : P := by (with_reducible repeat (first | apply Kd.R_alloc | apply Kd.R_drewN | apply Kd.R_drew)); exact (Kd.R_mono (Kd.R_far (p := ⟨gb338, 1, none⟩) (Kd.R_far (p := ⟨gb338, 0, none⟩) (Kd.R_types HO333.out BK338.out (by decide)) (fun _ hk => hk.2) (.int .i64 t334)) (fun _ hk => hk.2) (.slice Ao30 t335.length co30)) (fun _ h_ => h_.1))) : P := h
theorem q11_2 {P : Prop} (h : P := by (with_reducible repeat (first | apply Kd.R_alloc | apply Kd.R_drewN | apply Kd.R_drew)); exact (Kd.R_mono (Kd.R_far (p := ⟨gb338, 1, none⟩) (Kd.R_far (p := ⟨gb338, 0, none⟩) (Kd.R_types HO337.out BK338.out (by decide)) (fun _ hk => hk.2) (.int .i64 t334)) (fun _ hk => hk.2) (.slice Ao30 t335.length co30)) (fun _ h_ => h_.1))) : P := h
theorem q11_3 {P : Prop} (h : P := by (try simp only [List.map_toArray, List.map_cons, List.map_nil]); first | done | (rw [show t352.length = t339.length from (Kd.R_reads' HO_6.out).1.symm] <;> rfl) | rfl | (simp only [List.length_drop, List.length_take]; rfl)) : P := h
theorem q11_4 {P : Prop} (h : P := by repeat (first | (with_reducible first | exact HB.out | apply below_alloc | apply pw_below_drewN | apply below_drew1 | refine below_set ?_ GE325.out | refine below_set ?_ GE338.out) | exact HB.out)) : P := h
theorem q11_5 {P : Prop} (h : P := by repeat (first | exact (Kd.C_below HR0_1.out HB.out) | (with_reducible refine Kd.C_alloc ?_ _) | (with_reducible refine Kd.C_drewN ?_ _) | (with_reducible refine Kd.C_drew ?_))) : P := h
theorem q11_6 {P : Prop} (h : P := by repeat (first | exact (Kd.R_reads' HO333.out).2.2 | (with_reducible refine Kd.C_alloc ?_ _) | (with_reducible refine Kd.C_drewN ?_ _) | (with_reducible refine Kd.C_drew ?_))) : P := h
theorem q11_7 {P : Prop} (h : P := by repeat (first | exact (Kd.R_reads' HO341.out).2.2 | (with_reducible refine Kd.C_alloc ?_ _) | (with_reducible refine Kd.C_drewN ?_ _) | (with_reducible refine Kd.C_drew ?_))) : P := h
theorem q11_8 {P : Prop} (h : P := by repeat (first | exact (Kd.R_reads' HO_6.out).2.2 | (with_reducible refine Kd.C_alloc ?_ _) | (with_reducible refine Kd.C_drewN ?_ _) | (with_reducible refine Kd.C_drew ?_))) : P := h
theorem q11_9 {P : Prop} (h : P := by repeat (first | (with_reducible first | exact HB.out | apply below_alloc | apply pw_below_drewN | apply below_drew1 | refine below_set ?_ GE325.out) | exact HB.out)) : P := h
theorem q11_10 {P : Prop} (h : P := by (try simp only [List.map_toArray, List.map_cons, List.map_nil]); first | done | rfl | (simp only [List.length_drop, List.length_take]; rfl)) : P := h
theorem q11_11 {P : Prop} (h : P := by repeat (first | (with_reducible first | exact HB.out | apply below_alloc | apply pw_below_drewN | apply below_drew1) | exact HB.out)) : P := h
theorem q11_12 {P : Prop} (h : P := by (with_reducible repeat (first | refine blk_drewN ?_ _ | refine blk_drew ?_ | refine blk_alloc ?_ _)); exact BK325.out) : P := h
theorem q11_13 {P : Prop} (h : P := by (with_reducible repeat (first | refine blk_drewN ?_ _ | refine blk_drew ?_ | refine blk_alloc ?_ _)); exact BK338.out) : P := h
theorem q11_14 {P : Prop} (h : P := by (with_reducible repeat (first | apply Kd.R_alloc | apply Kd.R_drewN | apply Kd.R_drew)); exact HO330.out) : P := h
theorem q11_15 {P : Prop} (h : P := by (with_reducible repeat (first | apply Kd.R_alloc | apply Kd.R_drewN | apply Kd.R_drew)); exact HO333.out) : P := h
theorem q11_16 {P : Prop} (h : P := by (with_reducible repeat (first | apply Kd.R_alloc | apply Kd.R_drewN | apply Kd.R_drew)); exact HO337.out) : P := h
theorem q11_17 {P : Prop} (h : P := by (with_reducible repeat (first | apply Kd.R_alloc | apply Kd.R_drewN | apply Kd.R_drew)); exact HO341.out) : P := h
theorem q11_18 {P : Prop} (h : P := by (with_reducible repeat (first | apply Kd.R_alloc | apply Kd.R_drewN | apply Kd.R_drew)); exact HO_4.out) : P := h
theorem q11_19 {P : Prop} (h : P := by (with_reducible repeat (first | apply Kd.R_alloc | apply Kd.R_drewN | apply Kd.R_drew)); exact HO_6.out) : P := h
theorem q11_20 {P : Prop} (h : P := by rw [if_neg (show ¬ (false = true) by decide)] at H; exact H) : P := h
theorem q11_21 {P : Prop} (h : P := by kernel_rfl) : P := h
def laws_FnExactDirectBase.j0 : Nat → List (S58) → List (S58) → Bool → Int → List Int → Option (Bool)
 | 0, _, _, _, _, _ => none
 | k + 1, x4, x6, x42, x326000, x326001 => if x42 = true then (some false) else ((laws_markRuleS.f k x6 1).bind fun bt351 => ((laws_heldRuleS.f k bt351.2 1).bind fun t353 => (if t353 < 0 then (some false) else (if t353 = bt351.1 then ((laws_toContext.f k x326000 x326001).bind fun bt354 => ((impl_DirectBase.f k bt354.1 bt354.2).bind fun t358 => ((laws_eqRuleS.f k t358 x4).bind fun t361 => (if t361 = true then ((laws_heldRuleS.f k bt351.2 1).bind fun t362 => (if t362 < 0 then (some false) else (if t362 = bt351.1 then (some true) else (some false)))) else (some false))))) else (some false)))))
def laws_FnExactDirectBase.f (k : Nat) (a0_0 : Int) (l0_1 : List Int) : Option (Bool) := (laws_szContext.f a0_0 l0_1 1048576).bind fun t326 => (if t326 < 0 then (some true) else ((laws_toContext.f k a0_0 l0_1).bind fun bt327 => ((spec_DirectBase.f k bt327.1 bt327.2).bind fun t331 => ((laws_toContext.f k a0_0 l0_1).bind fun bt334 => ((impl_DirectBase.f k bt334.1 bt334.2).bind fun t339 => ((laws_eqRuleS.f k t339 t331).bind fun t342 => (if t342 = true then ((laws_toContext.f k a0_0 l0_1).bind fun bt343 => ((laws_eqContext.f k bt334.1 bt334.2 bt343.1 bt343.2).bind fun t347 => (if t347 = true then ((laws_markContext.f k bt334.1 bt334.2 1).bind fun bt348 => (if bt348.1 < 0 then (laws_FnExactDirectBase.j0 k t331 t339 true a0_0 l0_1) else ((laws_eqRuleS.f k t339 t331).bind fun t350 => (laws_FnExactDirectBase.j0 k t331 t339 (!t350) a0_0 l0_1)))) else (some false)))) else (some false))))))))
set_option maxHeartbeats 8000000 in
set_option maxRecDepth 100000 in
theorem laws_FnExactDirectBase.calls (k : Nat) (a0_0 : Int) (A0_1 : Option Addr) (c0_1 : Nat) (l0_1 : List Int) (r : Bool) (w : World) (hr0_1 : Kd.C (Kd.int .i64) w A0_1 l0_1.length l0_1) (hc0_1 : l0_1.length ≤ c0_1) (hrt : r = true) (htab : Tab64 w) (h : laws_FnExactDirectBase.f k a0_0 l0_1 = some r) :
  Calls Tryd.prog 8 #[.agg #[.int .i64 a0_0, .slice A0_1 l0_1.length c0_1]] w fun e w' => e = .returned (.bool r) ∧ Below w.heap.size w w' := by
 have HTB := Aside0.mk htab
 clear htab
 have hu24 := Tryd.underlying24
 have hu27 := Tryd.underlying27
 have HR0_1 := Aside0.mk hr0_1
 have HC0_1 := Aside0.mk hc0_1
 clear hr0_1 hc0_1
 have HB := Aside0.mk (Below.refl w.heap.size w)
 have HRT := Aside0.mk hrt
 clear hrt
 have H : ((laws_szContext.f a0_0 l0_1 1048576).bind fun t326 => (if t326 < 0 then (some true) else ((laws_toContext.f k a0_0 l0_1).bind fun bt327 => ((spec_DirectBase.f k bt327.1 bt327.2).bind fun t331 => ((laws_toContext.f k a0_0 l0_1).bind fun bt334 => ((impl_DirectBase.f k bt334.1 bt334.2).bind fun t339 => ((laws_eqRuleS.f k t339 t331).bind fun t342 => (if t342 = true then ((laws_toContext.f k a0_0 l0_1).bind fun bt343 => ((laws_eqContext.f k bt334.1 bt334.2 bt343.1 bt343.2).bind fun t347 => (if t347 = true then ((laws_markContext.f k bt334.1 bt334.2 1).bind fun bt348 => (if bt348.1 < 0 then (laws_FnExactDirectBase.j0 k t331 t339 true a0_0 l0_1) else ((laws_eqRuleS.f k t339 t331).bind fun t350 => (laws_FnExactDirectBase.j0 k t331 t339 (!t350) a0_0 l0_1)))) else (some false)))) else (some false))))))))) = some r := h
 clear h
 replace H := Option.bind_eq_some_iff.mp H
 obtain ⟨t326, A20, H⟩ := H
 replace H : (if t326 < 0 then (some true) else ((laws_toContext.f k a0_0 l0_1).bind fun bt327 => ((spec_DirectBase.f k bt327.1 bt327.2).bind fun t331 => ((laws_toContext.f k a0_0 l0_1).bind fun bt334 => ((impl_DirectBase.f k bt334.1 bt334.2).bind fun t339 => ((laws_eqRuleS.f k t339 t331).bind fun t342 => (if t342 = true then ((laws_toContext.f k a0_0 l0_1).bind fun bt343 => ((laws_eqContext.f k bt334.1 bt334.2 bt343.1 bt343.2).bind fun t347 => (if t347 = true then ((laws_markContext.f k bt334.1 bt334.2 1).bind fun bt348 => (if bt348.1 < 0 then (laws_FnExactDirectBase.j0 k t331 t339 true a0_0 l0_1) else ((laws_eqRuleS.f k t339 t331).bind fun t350 => (laws_FnExactDirectBase.j0 k t331 t339 (!t350) a0_0 l0_1)))) else (some false)))) else (some false)))))))) = some r := H
 have A2 := Aside0.mk A20
 clear A20
 by_cases c3 : t326 < 0
 ·
  rw [if_pos c3] at H
  have c3b0 : decide (t326 < 0) = true := decide_eq_true c3
  clear c3
  obtain rfl := Option.some.inj H
  go_enter Tryd.func8, Tryd.ntmps8
  go_wp2_with (first | ((with_reducible refine gate_dst (N := 1) rfl ?_); refine box_event ?hg (N := 1) ?hd (cs := #[.int .i64 a0_0, .slice A0_1 l0_1.length c0_1]) (t := 24) ?hr ?_; (case hd => rfl); (case hg => rfl); (case hr => first | (go_simp; done) | (go_simp; rfl)); intro gb325 hg w4 hbox hb; have n0_ := Aside0.mk (below_step q11_11 hb); have n1_ := Aside0.mk (hbox); have n2_ := Aside0.mk ((by rw [hg]; exact (below_size q11_11) : w.heap.size ≤ gb325)); have n3_ := Aside0.mk ((by rw [hg]; exact (below_size q11_11) : w.heap.size ≤ gb325)); clear HB; have HB := n0_; have BK325 := n1_; have GW325 := n2_; have GE325 := n3_; clear n0_ n1_ n2_ n3_; clear hb hbox hg; have hcz5_0 : w4.cell? ⟨gb325, 0, none⟩ = some (.int .i64 a0_0) := (blk_cell BK325.out 0).trans rfl; have hcz5_1 : w4.cell? ⟨gb325, 1, none⟩ = some (.slice A0_1 l0_1.length c0_1) := (blk_cell BK325.out 1).trans rfl; have hfz5_0 := blk_frozen BK325.out 0; have hfz5_1 := blk_frozen BK325.out 1) | ((with_reducible refine gate_callee (f := 12) rfl ?_); refine goesL_ (some 13) rfl rfl Tryd.func12 q11_21 rfl #[.agg #[.int .i64 a0_0, .slice A0_1 l0_1.length c0_1], .int .i64 1048576] rfl q11_10 ?_; (with_reducible refine (laws_szContext.calls a0_0 _ _ l0_1 1048576 t326 _ ?side1 ?side2 A2.out).mono ?_); (case side1 => exact q11_5); (case side2 => exact HC0_1.out); rintro e w6 ⟨rfl, hb⟩; refine ⟨_, rfl, ?_⟩; have n0_ := Aside0.mk (blk_below (g := gb325) (o := .cells #[.int .i64 a0_0, .slice A0_1 l0_1.length c0_1] 24 (0, 0)) q11_12 hb); have n1_ := Aside0.mk (below_step q11_9 hb); clear BK325; clear HB; have BK325 := n0_; have HB := n1_; clear n0_ n1_; (try clear hb); (try clear hb2); (try clear hk); (try clear hi)))
  go_ret
  exact ⟨by first | rfl | (simp [errW_none, errW_some] <;> rfl) | (simp [*, errW_none, errW_some] <;> rfl), by repeat (first | (with_reducible first | exact HB.out | apply below_alloc | apply pw_below_drewN | apply below_drew1 | refine below_set ?_ GE325.out) | exact HB.out)⟩
 ·
  rw [if_neg c3] at H
  have c3b0 : decide (t326 < 0) = false := decide_eq_false c3
  clear c3
  replace H := Option.bind_eq_some_iff.mp H
  obtain ⟨⟨t327, t328⟩, A70, H⟩ := H
  replace H : ((spec_DirectBase.f k t327 t328).bind fun t331 => ((laws_toContext.f k a0_0 l0_1).bind fun bt334 => ((impl_DirectBase.f k bt334.1 bt334.2).bind fun t339 => ((laws_eqRuleS.f k t339 t331).bind fun t342 => (if t342 = true then ((laws_toContext.f k a0_0 l0_1).bind fun bt343 => ((laws_eqContext.f k bt334.1 bt334.2 bt343.1 bt343.2).bind fun t347 => (if t347 = true then ((laws_markContext.f k bt334.1 bt334.2 1).bind fun bt348 => (if bt348.1 < 0 then (laws_FnExactDirectBase.j0 k t331 t339 true a0_0 l0_1) else ((laws_eqRuleS.f k t339 t331).bind fun t350 => (laws_FnExactDirectBase.j0 k t331 t339 (!t350) a0_0 l0_1)))) else (some false)))) else (some false)))))) = some r := H
  have A7 := Aside0.mk A70
  clear A70
  replace H := Option.bind_eq_some_iff.mp H
  obtain ⟨t331, A80, H⟩ := H
  replace H : ((laws_toContext.f k a0_0 l0_1).bind fun bt334 => ((impl_DirectBase.f k bt334.1 bt334.2).bind fun t339 => ((laws_eqRuleS.f k t339 t331).bind fun t342 => (if t342 = true then ((laws_toContext.f k a0_0 l0_1).bind fun bt343 => ((laws_eqContext.f k bt334.1 bt334.2 bt343.1 bt343.2).bind fun t347 => (if t347 = true then ((laws_markContext.f k bt334.1 bt334.2 1).bind fun bt348 => (if bt348.1 < 0 then (laws_FnExactDirectBase.j0 k t331 t339 true a0_0 l0_1) else ((laws_eqRuleS.f k t339 t331).bind fun t350 => (laws_FnExactDirectBase.j0 k t331 t339 (!t350) a0_0 l0_1)))) else (some false)))) else (some false))))) = some r := H
  have A8 := Aside0.mk A80
  clear A80
  replace H := Option.bind_eq_some_iff.mp H
  obtain ⟨⟨t334, t335⟩, A90, H⟩ := H
  replace H : ((impl_DirectBase.f k t334 t335).bind fun t339 => ((laws_eqRuleS.f k t339 t331).bind fun t342 => (if t342 = true then ((laws_toContext.f k a0_0 l0_1).bind fun bt343 => ((laws_eqContext.f k t334 t335 bt343.1 bt343.2).bind fun t347 => (if t347 = true then ((laws_markContext.f k t334 t335 1).bind fun bt348 => (if bt348.1 < 0 then (laws_FnExactDirectBase.j0 k t331 t339 true a0_0 l0_1) else ((laws_eqRuleS.f k t339 t331).bind fun t350 => (laws_FnExactDirectBase.j0 k t331 t339 (!t350) a0_0 l0_1)))) else (some false)))) else (some false)))) = some r := H
  have A9 := Aside0.mk A90
  clear A90
  replace H := Option.bind_eq_some_iff.mp H
  obtain ⟨t339, A100, H⟩ := H
  replace H : ((laws_eqRuleS.f k t339 t331).bind fun t342 => (if t342 = true then ((laws_toContext.f k a0_0 l0_1).bind fun bt343 => ((laws_eqContext.f k t334 t335 bt343.1 bt343.2).bind fun t347 => (if t347 = true then ((laws_markContext.f k t334 t335 1).bind fun bt348 => (if bt348.1 < 0 then (laws_FnExactDirectBase.j0 k t331 t339 true a0_0 l0_1) else ((laws_eqRuleS.f k t339 t331).bind fun t350 => (laws_FnExactDirectBase.j0 k t331 t339 (!t350) a0_0 l0_1)))) else (some false)))) else (some false))) = some r := H
  have A10 := Aside0.mk A100
  clear A100
  replace H := Option.bind_eq_some_iff.mp H
  obtain ⟨t342, A110, H⟩ := H
  replace H : (if t342 = true then ((laws_toContext.f k a0_0 l0_1).bind fun bt343 => ((laws_eqContext.f k t334 t335 bt343.1 bt343.2).bind fun t347 => (if t347 = true then ((laws_markContext.f k t334 t335 1).bind fun bt348 => (if bt348.1 < 0 then (laws_FnExactDirectBase.j0 k t331 t339 true a0_0 l0_1) else ((laws_eqRuleS.f k t339 t331).bind fun t350 => (laws_FnExactDirectBase.j0 k t331 t339 (!t350) a0_0 l0_1)))) else (some false)))) else (some false)) = some r := H
  have A11 := Aside0.mk A110
  clear A110
  by_cases c12 : t342 = true
  ·
   subst c12
   have H1 : ((laws_toContext.f k a0_0 l0_1).bind fun bt343 => ((laws_eqContext.f k t334 t335 bt343.1 bt343.2).bind fun t347 => (if t347 = true then ((laws_markContext.f k t334 t335 1).bind fun bt348 => (if bt348.1 < 0 then (laws_FnExactDirectBase.j0 k t331 t339 true a0_0 l0_1) else ((laws_eqRuleS.f k t339 t331).bind fun t350 => (laws_FnExactDirectBase.j0 k t331 t339 (!t350) a0_0 l0_1)))) else (some false)))) = some r := by rw [if_pos rfl] at H; exact H
   clear H
   have H := H1
   clear H1
   replace H := Option.bind_eq_some_iff.mp H
   obtain ⟨⟨t343, t344⟩, A130, H⟩ := H
   replace H : ((laws_eqContext.f k t334 t335 t343 t344).bind fun t347 => (if t347 = true then ((laws_markContext.f k t334 t335 1).bind fun bt348 => (if bt348.1 < 0 then (laws_FnExactDirectBase.j0 k t331 t339 true a0_0 l0_1) else ((laws_eqRuleS.f k t339 t331).bind fun t350 => (laws_FnExactDirectBase.j0 k t331 t339 (!t350) a0_0 l0_1)))) else (some false))) = some r := H
   have A13 := Aside0.mk A130
   clear A130
   replace H := Option.bind_eq_some_iff.mp H
   obtain ⟨t347, A140, H⟩ := H
   replace H : (if t347 = true then ((laws_markContext.f k t334 t335 1).bind fun bt348 => (if bt348.1 < 0 then (laws_FnExactDirectBase.j0 k t331 t339 true a0_0 l0_1) else ((laws_eqRuleS.f k t339 t331).bind fun t350 => (laws_FnExactDirectBase.j0 k t331 t339 (!t350) a0_0 l0_1)))) else (some false)) = some r := H
   have A14 := Aside0.mk A140
   clear A140
   by_cases c15 : t347 = true
   ·
    subst c15
    have H1 : ((laws_markContext.f k t334 t335 1).bind fun bt348 => (if bt348.1 < 0 then (laws_FnExactDirectBase.j0 k t331 t339 true a0_0 l0_1) else ((laws_eqRuleS.f k t339 t331).bind fun t350 => (laws_FnExactDirectBase.j0 k t331 t339 (!t350) a0_0 l0_1)))) = some r := by rw [if_pos rfl] at H; exact H
    clear H
    have H := H1
    clear H1
    replace H := Option.bind_eq_some_iff.mp H
    obtain ⟨⟨t348, t349⟩, A160, H⟩ := H
    replace H : (if t348 < 0 then (laws_FnExactDirectBase.j0 k t331 t339 true a0_0 l0_1) else ((laws_eqRuleS.f k t339 t331).bind fun t350 => (laws_FnExactDirectBase.j0 k t331 t339 (!t350) a0_0 l0_1))) = some r := H
    have A16 := Aside0.mk A160
    clear A160
    have HC17 := Aside0.mk H
    clear H
    go_enter Tryd.func8, Tryd.ntmps8
    try go_wp2_with (first | ((with_reducible refine gate_dst (N := 1) rfl ?_); refine box_event ?hg (N := 1) ?hd (cs := #[.int .i64 a0_0, .slice A0_1 l0_1.length c0_1]) (t := 24) ?hr ?_; (case hd => rfl); (case hg => rfl); (case hr => first | (go_simp; done) | (go_simp; rfl)); intro gb325 hg w18 hbox hb; have n0_ := Aside0.mk (below_step q11_11 hb); have n1_ := Aside0.mk (hbox); have n2_ := Aside0.mk ((by rw [hg]; exact (below_size q11_11) : w.heap.size ≤ gb325)); have n3_ := Aside0.mk ((by rw [hg]; exact (below_size q11_11) : w.heap.size ≤ gb325)); clear HB; have HB := n0_; have BK325 := n1_; have GW325 := n2_; have GE325 := n3_; clear n0_ n1_ n2_ n3_; clear hb hbox hg; have hcz19_0 : w18.cell? ⟨gb325, 0, none⟩ = some (.int .i64 a0_0) := (blk_cell BK325.out 0).trans rfl; have hcz19_1 : w18.cell? ⟨gb325, 1, none⟩ = some (.slice A0_1 l0_1.length c0_1) := (blk_cell BK325.out 1).trans rfl; have hfz19_0 := blk_frozen BK325.out 0; have hfz19_1 := blk_frozen BK325.out 1) | ((with_reducible refine gate_callee (f := 12) rfl ?_); refine goesL_ (some 13) rfl rfl Tryd.func12 q11_21 rfl #[.agg #[.int .i64 a0_0, .slice A0_1 l0_1.length c0_1], .int .i64 1048576] rfl q11_10 ?_; (with_reducible refine (laws_szContext.calls a0_0 _ _ l0_1 1048576 t326 _ ?side1 ?side2 A2.out).mono ?_); (case side1 => exact q11_5); (case side2 => exact HC0_1.out); rintro e w20 ⟨rfl, hb⟩; refine ⟨_, rfl, ?_⟩; have n0_ := Aside0.mk (blk_below (g := gb325) (o := .cells #[.int .i64 a0_0, .slice A0_1 l0_1.length c0_1] 24 (0, 0)) q11_12 hb); have n1_ := Aside0.mk (below_step q11_9 hb); clear BK325; clear HB; have BK325 := n0_; have HB := n1_; clear n0_ n1_; (try clear hb); (try clear hb2); (try clear hk); (try clear hi); have hcz21_0 : w20.cell? ⟨gb325, 0, none⟩ = some (.int .i64 a0_0) := (blk_cell BK325.out 0).trans rfl; have hcz21_1 : w20.cell? ⟨gb325, 1, none⟩ = some (.slice A0_1 l0_1.length c0_1) := (blk_cell BK325.out 1).trans rfl; have hfz21_0 := blk_frozen BK325.out 0; have hfz21_1 := blk_frozen BK325.out 1) | ((with_reducible refine gate_callee (f := 14) rfl ?_); refine goesL_ (some 17) rfl rfl Tryd.func14 q11_21 rfl #[.agg #[.int .i64 a0_0, .slice A0_1 l0_1.length c0_1]] rfl q11_10 ?_; (with_reducible refine (laws_toContext.calls k a0_0 _ _ l0_1 t327 t328 _ ?side1 ?side2 A7.out).mono ?_); (case side1 => exact q11_5); (case side2 => exact HC0_1.out); rintro e w22 ⟨v329, rfl, ho0, hb⟩; refine ⟨_, rfl, ?_⟩; have n0_ := Aside0.mk (Kd.R_lower ho0 (below_size q11_9)); have n1_ := Aside0.mk (blk_below (g := gb325) (o := .cells #[.int .i64 a0_0, .slice A0_1 l0_1.length c0_1] 24 (0, 0)) q11_12 hb); have n2_ := Aside0.mk (below_step q11_9 hb); clear BK325; clear HB; have HO330 := n0_; have BK325 := n1_; have HB := n2_; clear n0_ n1_ n2_; (try clear hb); (try clear hb2); (try clear hk); (try clear hi); (try clear ho0); obtain ⟨Ao23, co23, eo23⟩ := Kd.R_slice HO330.out; subst eo23) | ((with_reducible refine gate_callee (f := 34) rfl ?_); refine goesL_ (some 18) rfl rfl Tryd.func34 q11_21 rfl #[.agg #[.int .i64 t327, .slice Ao23 t328.length co23]] rfl q11_10 ?_; (with_reducible refine (spec_DirectBase.calls k t327 _ _ t328 t331 _ ?side1 ?side2 A8.out).mono ?_); (case side1 => repeat (first | exact (Kd.R_reads' HO330.out).2.2 | (with_reducible refine Kd.C_alloc ?_ _) | (with_reducible refine Kd.C_drewN ?_ _) | (with_reducible refine Kd.C_drew ?_))); (case side2 => exact (Kd.R_reads' HO330.out).2.1); rintro e w24 ⟨v332, rfl, ho0, hb⟩; refine ⟨_, rfl, ?_⟩; have n0_ := Aside0.mk (Kd.R_below q11_14 hb); have n1_ := Aside0.mk (Kd.R_lower ho0 (below_size q11_9)); have n2_ := Aside0.mk (blk_below (g := gb325) (o := .cells #[.int .i64 a0_0, .slice A0_1 l0_1.length c0_1] 24 (0, 0)) q11_12 hb); have n3_ := Aside0.mk (below_step q11_9 hb); clear HO330; clear BK325; clear HB; have HO330 := n0_; have HO333 := n1_; have BK325 := n2_; have HB := n3_; clear n0_ n1_ n2_ n3_; (try clear hb); (try clear hb2); (try clear hk); (try clear hi); (try clear ho0); have hcz25_0 : w24.cell? ⟨gb325, 0, none⟩ = some (.int .i64 a0_0) := (blk_cell BK325.out 0).trans rfl; have hcz25_1 : w24.cell? ⟨gb325, 1, none⟩ = some (.slice A0_1 l0_1.length c0_1) := (blk_cell BK325.out 1).trans rfl; have hfz25_0 := blk_frozen BK325.out 0; have hfz25_1 := blk_frozen BK325.out 1) | ((with_reducible refine gate_callee (f := 14) rfl ?_); refine goesL_ (some 20) rfl rfl Tryd.func14 q11_21 rfl #[.agg #[.int .i64 a0_0, .slice A0_1 l0_1.length c0_1]] rfl q11_10 ?_; (with_reducible refine (laws_toContext.calls k a0_0 _ _ l0_1 t334 t335 _ ?side1 ?side2 A9.out).mono ?_); (case side1 => exact q11_5); (case side2 => exact HC0_1.out); rintro e w26 ⟨v336, rfl, ho0, hb⟩; refine ⟨_, rfl, ?_⟩; have n0_ := Aside0.mk (Kd.R_elder' q11_14 (Kd.R_base ho0) hb); have n1_ := Aside0.mk (Kd.R_below q11_15 hb); have n2_ := Aside0.mk (Kd.R_lower (Kd.R_new' ho0 (Kd.R_lt q11_14)) (below_size q11_9)); have n3_ := Aside0.mk (blk_below (g := gb325) (o := .cells #[.int .i64 a0_0, .slice A0_1 l0_1.length c0_1] 24 (0, 0)) q11_12 hb); have n4_ := Aside0.mk (below_step q11_9 hb); clear HO330; clear HO333; clear BK325; clear HB; have HO330 := n0_; have HO333 := n1_; have HO337 := n2_; have BK325 := n3_; have HB := n4_; clear n0_ n1_ n2_ n3_ n4_; (try clear hb); (try clear hb2); (try clear hk); (try clear hi); (try clear ho0)) | ((with_reducible refine gate_dst (N := 5) rfl ?_); refine box_event ?hg (N := 5) ?hd (cs := #[.int .i64 0, .slice none 0 0]) (t := 27) ?hr ?_; (case hd => rfl); (case hg => rfl); (case hr => first | (go_simp; done) | (go_simp; rfl)); intro gb338 hg w27 hbox hb; have n0_ := Aside0.mk (Kd.R_below q11_14 hb); have n1_ := Aside0.mk (Kd.R_below q11_15 hb); have n2_ := Aside0.mk (Kd.R_below q11_16 hb); have n3_ := Aside0.mk (blk_below (g := gb325) (o := .cells #[.int .i64 a0_0, .slice A0_1 l0_1.length c0_1] 24 (0, 0)) q11_12 hb); have n4_ := Aside0.mk (below_step q11_9 hb); have n5_ := Aside0.mk (hbox); have n6_ := Aside0.mk ((by rw [hg]; exact (below_size q11_9) : w.heap.size ≤ gb338)); have n7_ := Aside0.mk ((by rw [hg]; exact (below_size q11_9) : w.heap.size ≤ gb338)); have n8_ := Aside0.mk ((by rw [hg]; exact Nat.ne_of_lt (blk_lt (g := gb325) (o := .cells #[.int .i64 a0_0, .slice A0_1 l0_1.length c0_1] 24 (0, 0)) q11_12) : gb325 ≠ gb338)); have n9_ := Aside0.mk ((by rw [hg]; exact Nat.ne_of_gt (blk_lt (g := gb325) (o := .cells #[.int .i64 a0_0, .slice A0_1 l0_1.length c0_1] 24 (0, 0)) q11_12) : gb338 ≠ gb325)); clear HO330; clear HO333; clear HO337; clear BK325; clear HB; have HO330 := n0_; have HO333 := n1_; have HO337 := n2_; have BK325 := n3_; have HB := n4_; have BK338 := n5_; have GW338 := n6_; have GE338 := n7_; have NB325_338 := n8_; have NB338_325 := n9_; clear n0_ n1_ n2_ n3_ n4_ n5_ n6_ n7_ n8_ n9_; clear hb hbox hg; have hnb28 := NB338_325.out; have hnc28 := NB325_338.out; have hcz29_0 : w27.cell? ⟨gb338, 0, none⟩ = some (.int .i64 0) := (blk_cell BK338.out 0).trans rfl; have hcz29_1 : w27.cell? ⟨gb338, 1, none⟩ = some (.slice none 0 0) := (blk_cell BK338.out 1).trans rfl; have hfz29_0 := blk_frozen BK338.out 0; have hfz29_1 := blk_frozen BK338.out 1; obtain ⟨Ao30, co30, eo30⟩ := Kd.R_slice HO337.out; subst eo30) | ((with_reducible refine gate_callee (f := 35) rfl ?_); refine goesL_ (some 22) rfl rfl Tryd.func35 q11_21 rfl #[.agg #[.int .i64 t334, .slice Ao30 t335.length co30]] rfl q11_10 ?_; (with_reducible refine (impl_DirectBase.calls k t334 _ _ t335 t339 _ ?side1 ?side2 ?tab A10.out).mono ?_); (case tab => first | exact HTB.out | (refine Tab64.below HTB.out ?_; repeat (first | (with_reducible first | exact HB.out | apply below_alloc | apply pw_below_drewN | apply below_drew1 | refine below_set ?_ GE325.out | refine below_set ?_ GE338.out) | exact HB.out)) | (repeat (first | exact HTB.out | apply Tab64.drewN | apply Tab64.drew | apply Tab64.alloc))); (case side1 => refine (Kd.R_reads' (e := 3) (base := w.heap.size) (ok := fun k_ => (True ∧ some k_ ≠ (.slice Ao23 t328.length co23 : Value).ownBlock)) (n := t335.length) (c := co30) ?_).2.2; exact q11_2); (case side2 => exact (Kd.R_reads' HO337.out).2.1); rintro e w31 ⟨v340, rfl, ho0, hb⟩; refine ⟨_, rfl, ?_⟩; have n0_ := Aside0.mk (Kd.R_below (by (with_reducible repeat (first | apply Kd.R_alloc | apply Kd.R_drewN | apply Kd.R_drew)); exact (Kd.R_mono (Kd.R_far (p := ⟨gb338, 1, none⟩) (Kd.R_far (p := ⟨gb338, 0, none⟩) (Kd.R_types HO330.out BK338.out (by decide)) (fun _ hk => hk.2) (.int .i64 t334)) (fun _ hk => hk.2) (.slice Ao30 t335.length co30)) (fun _ h_ => h_.1))) hb); have n1_ := Aside0.mk (Kd.R_elder' q11_1 (Kd.R_base ho0) hb); have n2_ := Aside0.mk (Kd.R_below q11_2 hb); have n3_ := Aside0.mk (Kd.R_lower (Kd.R_new' ho0 (Kd.R_lt q11_1)) (below_size q11_4)); have n4_ := Aside0.mk (blk_below (g := gb325) (o := .cells #[.int .i64 a0_0, .slice A0_1 l0_1.length c0_1] 24 (0, 0)) (by (with_reducible repeat (first | refine blk_drewN ?_ _ | refine blk_drew ?_ | refine blk_alloc ?_ _)); refine blk_far ?_ NB325_338.out _; (with_reducible repeat (first | refine blk_drewN ?_ _ | refine blk_drew ?_ | refine blk_alloc ?_ _)); refine blk_far ?_ NB325_338.out _; (with_reducible repeat (first | refine blk_drewN ?_ _ | refine blk_drew ?_ | refine blk_alloc ?_ _)); exact BK325.out) hb); have n5_ := Aside0.mk (blk_below (g := gb338) (o := .cells #[.int .i64 t334, .slice Ao30 t335.length co30] 27 (0, 0)) (by (with_reducible repeat (first | refine blk_drewN ?_ _ | refine blk_drew ?_ | refine blk_alloc ?_ _)); refine blk_put (cs := #[.int .i64 t334, .slice none 0 0]) ?_ 1 _ rfl; (with_reducible repeat (first | refine blk_drewN ?_ _ | refine blk_drew ?_ | refine blk_alloc ?_ _)); refine blk_put (cs := #[.int .i64 0, .slice none 0 0]) ?_ 0 _ rfl; (with_reducible repeat (first | refine blk_drewN ?_ _ | refine blk_drew ?_ | refine blk_alloc ?_ _)); exact BK338.out) hb); have n6_ := Aside0.mk (below_step q11_4 hb); clear HO330; clear HO333; clear HO337; clear BK325; clear BK338; clear HB; have HO330 := n0_; have HO333 := n1_; have HO337 := n2_; have HO341 := n3_; have BK325 := n4_; have BK338 := n5_; have HB := n6_; clear n0_ n1_ n2_ n3_ n4_ n5_ n6_; (try clear hb); (try clear hb2); (try clear hk); (try clear hi); (try clear ho0); obtain ⟨Ao32, co32, eo32⟩ := Kd.R_slice HO341.out; subst eo32; obtain ⟨Ao33, co33, eo33⟩ := Kd.R_slice HO333.out; subst eo33) | ((with_reducible refine gate_callee (f := 22) rfl ?_); refine goesL_ (some 25) rfl rfl Tryd.func22 q11_21 rfl #[.slice Ao32 t339.length co32, .slice Ao33 t331.length co33] rfl q11_10 ?_; (with_reducible refine (laws_eqRuleS.calls k _ _ t339 _ _ t331 true _ ?side1 ?side2 ?side3 ?side4 A11.out).mono ?_); (case side1 => exact q11_7); (case side2 => exact (Kd.R_reads' HO341.out).2.1); (case side3 => exact q11_6); (case side4 => exact (Kd.R_reads' HO333.out).2.1); rintro e w34 ⟨rfl, hb⟩; refine ⟨_, rfl, ?_⟩; have n0_ := Aside0.mk (Kd.R_below q11_14 hb); have n1_ := Aside0.mk (Kd.R_below q11_15 hb); have n2_ := Aside0.mk (Kd.R_below q11_16 hb); have n3_ := Aside0.mk (Kd.R_below q11_17 hb); have n4_ := Aside0.mk (blk_below (g := gb325) (o := .cells #[.int .i64 a0_0, .slice A0_1 l0_1.length c0_1] 24 (0, 0)) q11_12 hb); have n5_ := Aside0.mk (blk_below (g := gb338) (o := .cells #[.int .i64 t334, .slice Ao30 t335.length co30] 27 (0, 0)) q11_13 hb); have n6_ := Aside0.mk (below_step q11_4 hb); clear HO330; clear HO333; clear HO337; clear HO341; clear BK325; clear BK338; clear HB; have HO330 := n0_; have HO333 := n1_; have HO337 := n2_; have HO341 := n3_; have BK325 := n4_; have BK338 := n5_; have HB := n6_; clear n0_ n1_ n2_ n3_ n4_ n5_ n6_; (try clear hb); (try clear hb2); (try clear hk); (try clear hi)))
    have n0_ := Aside0.mk (Kd.R_drew HO330.out)
    have n1_ := Aside0.mk (Kd.R_drew HO333.out)
    have n2_ := Aside0.mk (Kd.R_drew HO337.out)
    have n3_ := Aside0.mk (Kd.R_drew HO341.out)
    have n4_ := Aside0.mk (blk_drew BK325.out)
    have n5_ := Aside0.mk (blk_drew BK338.out)
    have n6_ := Aside0.mk (below_drew1 HB.out)
    clear HO330
    clear HO333
    clear HO337
    clear HO341
    clear BK325
    clear BK338
    clear HB
    have HO330 := n0_
    have HO333 := n1_
    have HO337 := n2_
    have HO341 := n3_
    have BK325 := n4_
    have BK338 := n5_
    have HB := n6_
    clear n0_ n1_ n2_ n3_ n4_ n5_ n6_
    refine start_ (n := 5) (S := fun w' => w'.cell? ⟨gb338, 0, none⟩ = some (.int .i64 t334) ∧ w'.cell? ⟨gb338, 1, none⟩ = some (.slice Ao30 t335.length co30) ∧ w'.cell? ⟨gb325, 0, none⟩ = some (.int .i64 a0_0) ∧ w'.cell? ⟨gb325, 1, none⟩ = some (.slice A0_1 l0_1.length c0_1)) (ds := []) #[false, false, false, false, false] q11_21 rfl rfl ⟨(blk_cell BK338.out 0).trans rfl, (blk_cell BK338.out 1).trans rfl, (blk_cell BK325.out 0).trans rfl, (blk_cell BK325.out 1).trans rfl⟩ (fun hHeld => ?_)
    generalize w34.drew = w35 at HO330 HO333 HO337 HO341 BK325 BK338 HB hHeld ⊢
    refine take_ (i := 0) (N := some 27) (v := ?_) (a' := ?_) #[true, false, false, false, false] rfl rfl q11_21 (fun _ _ _ h => h) (Or.inl ⟨by rfl, ?_⟩) hHeld ?_ ?_
    rotate_left
    ·
     rintro w' ⟨s0, s1, s2, s3⟩
     go_simp
     with_reducible rfl
    rotate_left
    ·
     exact put11_
    refine take_ (i := 1) (N := some 28) (v := ?_) (a' := ?_) #[true, true, false, false, false] rfl rfl q11_21 (fun _ _ _ h => h) (Or.inl ⟨by rfl, ?_⟩) hHeld ?_ ?_
    rotate_left
    ·
     rintro w' ⟨s0, s1, s2, s3⟩
     go_simp
     with_reducible rfl
    rotate_left
    ·
     exact put11_
    refine one_ (i := 2) (N := some 29) #[true, true, true, false, false] rfl rfl q11_21 (by decide) (fun K hK => ?_)
    refine goes_ Tryd.func14 q11_21 rfl #[.agg #[.int .i64 a0_0, .slice A0_1 l0_1.length c0_1]] (by rfl) rfl rfl q11_10 ?_
    with_reducible refine (laws_toContext.calls k a0_0 _ _ l0_1 t343 t344 _ ?side1 ?side2 A13.out).mono ?_
    (case side1 => exact q11_5)
    (case side2 => exact HC0_1.out)
    rintro e w36 ⟨v345, rfl, ho0, hb⟩
    refine ⟨_, rfl, ?_⟩
    have n0_ := Aside0.mk (Kd.R_elder' q11_14 (Kd.R_base ho0) hb)
    have n1_ := Aside0.mk (Kd.R_below q11_15 hb)
    have n2_ := Aside0.mk (Kd.R_elder' q11_16 (Kd.R_base ho0) hb)
    have n3_ := Aside0.mk (Kd.R_below q11_17 hb)
    have n4_ := Aside0.mk (Kd.R_lower (Kd.R_new' (Kd.R_new' ho0 (Kd.R_lt q11_14)) (Kd.R_lt q11_16)) (below_size q11_4))
    have n5_ := Aside0.mk (blk_below (g := gb325) (o := .cells #[.int .i64 a0_0, .slice A0_1 l0_1.length c0_1] 24 (0, 0)) q11_12 hb)
    have n6_ := Aside0.mk (blk_below (g := gb338) (o := .cells #[.int .i64 t334, .slice Ao30 t335.length co30] 27 (0, 0)) q11_13 hb)
    have n7_ := Aside0.mk (below_step q11_4 hb)
    clear HO330
    clear HO333
    clear HO337
    clear HO341
    clear BK325
    clear BK338
    clear HB
    have HO330 := n0_
    have HO333 := n1_
    have HO337 := n2_
    have HO341 := n3_
    have HO346 := n4_
    have BK325 := n5_
    have BK338 := n6_
    have HB := n7_
    clear n0_ n1_ n2_ n3_ n4_ n5_ n6_ n7_
    (try clear hb)
    (try clear hb2)
    (try clear hk)
    (try clear hi)
    (try clear ho0)
    obtain ⟨Ao37, co37, eo37⟩ := Kd.R_slice HO346.out
    (first | subst eo37 | (injection eo37 with f1_ f2_ f3_; have f4_ := f1_.symm; have f5_ := f3_.symm; clear f1_ f2_ f3_; subst f4_; subst f5_))
    refine hK.out _ _ ⟨(blk_cell BK338.out 0).trans rfl, (blk_cell BK338.out 1).trans rfl, (blk_cell BK325.out 0).trans rfl, (blk_cell BK325.out 1).trans rfl⟩ (fun hHeld => ?_)
    clear hK K
    refine norm_ (a' := ?_) ?_ ?_
    rotate_left
    ·
     show Act.put _ (some 29) _ = _
     exact put11_
    refine one_ (i := 3) (N := some 30) #[true, true, true, true, false] rfl rfl q11_21 (by decide) (fun K hK => ?_)
    refine goes_ Tryd.func16 q11_21 rfl #[.agg #[.int .i64 t334, .slice Ao30 t335.length co30], .agg #[.int .i64 t343, .slice Ao37 t344.length co37]] (by rfl) rfl rfl q11_10 ?_
    with_reducible refine (laws_eqContext.calls k t334 _ _ t335 t343 _ _ t344 true _ ?side1 ?side2 ?side3 ?side4 A14.out).mono ?_
    (case side1 => repeat (first | exact (Kd.R_reads' HO337.out).2.2 | (with_reducible refine Kd.C_alloc ?_ _) | (with_reducible refine Kd.C_drewN ?_ _) | (with_reducible refine Kd.C_drew ?_)))
    (case side2 => exact (Kd.R_reads' HO337.out).2.1)
    (case side3 => repeat (first | exact (Kd.R_reads' HO346.out).2.2 | (with_reducible refine Kd.C_alloc ?_ _) | (with_reducible refine Kd.C_drewN ?_ _) | (with_reducible refine Kd.C_drew ?_)))
    (case side4 => exact (Kd.R_reads' HO346.out).2.1)
    rintro e w38 ⟨rfl, hb⟩
    refine ⟨_, rfl, ?_⟩
    have n0_ := Aside0.mk (Kd.R_below q11_14 hb)
    have n1_ := Aside0.mk (Kd.R_below q11_15 hb)
    have n2_ := Aside0.mk (Kd.R_below q11_16 hb)
    have n3_ := Aside0.mk (Kd.R_below q11_17 hb)
    have n4_ := Aside0.mk (Kd.R_below (by (with_reducible repeat (first | apply Kd.R_alloc | apply Kd.R_drewN | apply Kd.R_drew)); exact HO346.out) hb)
    have n5_ := Aside0.mk (blk_below (g := gb325) (o := .cells #[.int .i64 a0_0, .slice A0_1 l0_1.length c0_1] 24 (0, 0)) q11_12 hb)
    have n6_ := Aside0.mk (blk_below (g := gb338) (o := .cells #[.int .i64 t334, .slice Ao30 t335.length co30] 27 (0, 0)) q11_13 hb)
    have n7_ := Aside0.mk (below_step q11_4 hb)
    clear HO330
    clear HO333
    clear HO337
    clear HO341
    clear HO346
    clear BK325
    clear BK338
    clear HB
    have HO330 := n0_
    have HO333 := n1_
    have HO337 := n2_
    have HO341 := n3_
    have HO346 := n4_
    have BK325 := n5_
    have BK338 := n6_
    have HB := n7_
    clear n0_ n1_ n2_ n3_ n4_ n5_ n6_ n7_
    (try clear hb)
    (try clear hb2)
    (try clear hk)
    (try clear hi)
    refine hK.out _ _ ⟨(blk_cell BK338.out 0).trans rfl, (blk_cell BK338.out 1).trans rfl, (blk_cell BK325.out 0).trans rfl, (blk_cell BK325.out 1).trans rfl⟩ (fun hHeld => ?_)
    clear hK K
    refine norm_ (a' := ?_) ?_ ?_
    rotate_left
    ·
     show Act.put _ (some 30) _ = _
     exact put11_
    refine pure_ (i := 4) (N := some 31) (v := ?_) (a' := ?_) #[true, true, true, true, true] rfl rfl q11_21 (fun _ _ _ h => h) (Or.inl ⟨by rfl, ?_⟩) ?_ ?_
    rotate_left
    ·
     intro w'
     go_simp
     with_reducible rfl
    rotate_left
    ·
     exact put11_
    refine done_ q11_21 ?_
    have hcz39_0 : w38.cell? ⟨gb338, 0, none⟩ = some (.int .i64 t334) := (blk_cell BK338.out 0).trans rfl
    have hcz39_1 : w38.cell? ⟨gb338, 1, none⟩ = some (.slice Ao30 t335.length co30) := (blk_cell BK338.out 1).trans rfl
    have hfz39_0 := blk_frozen BK338.out 0
    have hfz39_1 := blk_frozen BK338.out 1
    go_upto_region 14 with (first | ((with_reducible refine gate_callee (f := 28) rfl ?_); refine goesL_ (some 34) rfl rfl Tryd.func28 q11_21 rfl #[.agg #[.int .i64 t334, .slice Ao30 t335.length co30], .int .i64 1] rfl q11_10 ?_; (with_reducible refine (laws_markContext.calls k t334 (fun k_ => some k_ = (.slice Ao30 t335.length co30 : Value).ownBlock) (.slice Ao30 t335.length co30) t335 1 t348 t349 w _ ?side1 ?side2 A16.out).mono ?_); (case side1 => exact q11_4); (case side2 => exact Kd.R_tight rfl HO337.out); rintro e w40 ⟨rfl, hy0, hb, hkp⟩; refine ⟨_, rfl, ?_⟩; have n0_ := Aside0.mk (blk_kept q11_12 hkp (fun hs_ => (fun e_ => (Kd.R_ne HO337.out BK325.out (by decide)) e_) hs_)); have n1_ := Aside0.mk (Kd.R_mono (ok' := fun k_ => some k_ ≠ (.slice Ao30 t335.length co30 : Value).ownBlock ∧ some k_ ≠ (.slice Ao37 t344.length co37 : Value).ownBlock) (Kd.R_keptB (HO330.out) hkp (fun k_ hk_ hs_ => by first | exact hk_.1.2 hs_ | exact hk_.1.1.2 hs_ | exact hk_.1.1 hs_ | exact hk_.2 hs_ | exact hk_.1 hs_ | exact hk_.1.1.1 hs_ | exact hk_ hs_ | exact hk_.1.2.1 hs_ | exact hk_.1.2.2 hs_ | exact hk_.1.1.2.1 hs_ | exact hk_.1.1.2.2 hs_ | exact hk_.2.1 hs_ | exact hk_.2.2 hs_ | exact hk_.1.1.1.1 hs_ | exact hk_.1.1.1.2 hs_ | exact hk_.1.2.2.1 hs_ | exact hk_.1.2.2.2 hs_ | exact hk_.1.1.1.2.1 hs_ | exact hk_.1.1.1.2.2 hs_ | exact hk_.2.2.1 hs_ | exact hk_.2.2.2 hs_ | exact hk_.1.1.2.2.1 hs_ | exact hk_.1.1.2.2.2 hs_ | exact hk_.1.2.2.2.1 hs_ | exact hk_.1.2.2.2.2 hs_ | exact hk_.1.1.1.1.1 hs_ | exact hk_.1.1.1.1.2 hs_)) (fun k_ hk_ => ⟨by first | exact hk_.1.1.2 | exact hk_.1.1 | exact hk_.1.2 | exact hk_.2 | exact hk_.1 | exact hk_.1.1.1 | exact hk_ | exact hk_.1.2.1 | exact hk_.1.2.2 | exact hk_.1.1.2.1 | exact hk_.1.1.2.2 | exact hk_.2.1 | exact hk_.2.2 | exact hk_.1.1.1.1 | exact hk_.1.1.1.2 | exact hk_.1.2.2.1 | exact hk_.1.2.2.2 | exact hk_.1.1.1.2.1 | exact hk_.1.1.1.2.2 | exact hk_.2.2.1 | exact hk_.2.2.2 | exact hk_.1.1.2.2.1 | exact hk_.1.1.2.2.2 | exact hk_.1.2.2.2.1 | exact hk_.1.2.2.2.2 | exact hk_.1.1.1.1.1 | exact hk_.1.1.1.1.2, by first | exact hk_.1.2 | exact hk_.1.1.2 | exact hk_.1.1 | exact hk_.2 | exact hk_.1 | exact hk_.1.1.1 | exact hk_ | exact hk_.1.2.1 | exact hk_.1.2.2 | exact hk_.1.1.2.1 | exact hk_.1.1.2.2 | exact hk_.2.1 | exact hk_.2.2 | exact hk_.1.1.1.1 | exact hk_.1.1.1.2 | exact hk_.1.2.2.1 | exact hk_.1.2.2.2 | exact hk_.1.1.1.2.1 | exact hk_.1.1.1.2.2 | exact hk_.2.2.1 | exact hk_.2.2.2 | exact hk_.1.1.2.2.1 | exact hk_.1.1.2.2.2 | exact hk_.1.2.2.2.1 | exact hk_.1.2.2.2.2 | exact hk_.1.1.1.1.1 | exact hk_.1.1.1.1.2⟩)); have n2_ := Aside0.mk (Kd.R_mono (ok' := fun k_ => some k_ ≠ (.slice Ao32 t339.length co32 : Value).ownBlock) (Kd.R_keptB ((Kd.R_apart' HO333.out (Kd.R_typed HO337.out) (by decide))) hkp (fun k_ hk_ hs_ => by first | exact hk_.2 hs_ | exact hk_.1.1.2 hs_ | exact hk_.1.1 hs_ | exact hk_.1.2 hs_ | exact hk_.1 hs_ | exact hk_.1.1.1 hs_ | exact hk_ hs_ | exact hk_.1.2.1 hs_ | exact hk_.1.2.2 hs_ | exact hk_.1.1.2.1 hs_ | exact hk_.1.1.2.2 hs_ | exact hk_.2.1 hs_ | exact hk_.2.2 hs_ | exact hk_.1.1.1.1 hs_ | exact hk_.1.1.1.2 hs_ | exact hk_.1.2.2.1 hs_ | exact hk_.1.2.2.2 hs_ | exact hk_.1.1.1.2.1 hs_ | exact hk_.1.1.1.2.2 hs_ | exact hk_.2.2.1 hs_ | exact hk_.2.2.2 hs_ | exact hk_.1.1.2.2.1 hs_ | exact hk_.1.1.2.2.2 hs_ | exact hk_.1.2.2.2.1 hs_ | exact hk_.1.2.2.2.2 hs_ | exact hk_.1.1.1.1.1 hs_ | exact hk_.1.1.1.1.2 hs_)) (fun k_ hk_ => by first | exact hk_.1.1.2 | exact hk_.1.1 | exact hk_.1.2 | exact hk_.2 | exact hk_.1 | exact hk_.1.1.1 | exact hk_ | exact hk_.1.2.1 | exact hk_.1.2.2 | exact hk_.1.1.2.1 | exact hk_.1.1.2.2 | exact hk_.2.1 | exact hk_.2.2 | exact hk_.1.1.1.1 | exact hk_.1.1.1.2 | exact hk_.1.2.2.1 | exact hk_.1.2.2.2 | exact hk_.1.1.1.2.1 | exact hk_.1.1.1.2.2 | exact hk_.2.2.1 | exact hk_.2.2.2 | exact hk_.1.1.2.2.1 | exact hk_.1.1.2.2.2 | exact hk_.1.2.2.2.1 | exact hk_.1.2.2.2.2 | exact hk_.1.1.1.1.1 | exact hk_.1.1.1.1.2)); have n3_ := Aside0.mk (Kd.R_reok rfl hy0 (fun k_ e_ => HO337.out.1 k_ e_)); have n4_ := Aside0.mk (blk_kept q11_13 hkp (fun hs_ => (fun e_ => (Kd.R_ne HO337.out BK338.out (by decide)) e_) hs_)); have n5_ := Aside0.mk (Kd.R_mono (ok' := fun k_ => some k_ ≠ (.slice Ao33 t331.length co33 : Value).ownBlock) (Kd.R_keptB ((Kd.R_apart' HO341.out (Kd.R_typed HO337.out) (by decide))) hkp (fun k_ hk_ hs_ => by first | exact hk_.2 hs_ | exact hk_.1.1.2 hs_ | exact hk_.1.1 hs_ | exact hk_.1.2 hs_ | exact hk_.1 hs_ | exact hk_.1.1.1 hs_ | exact hk_ hs_ | exact hk_.1.2.1 hs_ | exact hk_.1.2.2 hs_ | exact hk_.1.1.2.1 hs_ | exact hk_.1.1.2.2 hs_ | exact hk_.2.1 hs_ | exact hk_.2.2 hs_ | exact hk_.1.1.1.1 hs_ | exact hk_.1.1.1.2 hs_ | exact hk_.1.2.2.1 hs_ | exact hk_.1.2.2.2 hs_ | exact hk_.1.1.1.2.1 hs_ | exact hk_.1.1.1.2.2 hs_ | exact hk_.2.2.1 hs_ | exact hk_.2.2.2 hs_ | exact hk_.1.1.2.2.1 hs_ | exact hk_.1.1.2.2.2 hs_ | exact hk_.1.2.2.2.1 hs_ | exact hk_.1.2.2.2.2 hs_ | exact hk_.1.1.1.1.1 hs_ | exact hk_.1.1.1.1.2 hs_)) (fun k_ hk_ => by first | exact hk_.1.1.2 | exact hk_.1.1 | exact hk_.1.2 | exact hk_.2 | exact hk_.1 | exact hk_.1.1.1 | exact hk_ | exact hk_.1.2.1 | exact hk_.1.2.2 | exact hk_.1.1.2.1 | exact hk_.1.1.2.2 | exact hk_.2.1 | exact hk_.2.2 | exact hk_.1.1.1.1 | exact hk_.1.1.1.2 | exact hk_.1.2.2.1 | exact hk_.1.2.2.2 | exact hk_.1.1.1.2.1 | exact hk_.1.1.1.2.2 | exact hk_.2.2.1 | exact hk_.2.2.2 | exact hk_.1.1.2.2.1 | exact hk_.1.1.2.2.2 | exact hk_.1.2.2.2.1 | exact hk_.1.2.2.2.2 | exact hk_.1.1.1.1.1 | exact hk_.1.1.1.1.2)); have n6_ := Aside0.mk (Kd.R_mono (ok' := fun k_ => some k_ ≠ (.slice Ao23 t328.length co23 : Value).ownBlock ∧ some k_ ≠ (.slice Ao30 t335.length co30 : Value).ownBlock) (Kd.R_keptB (HO346.out) hkp (fun k_ hk_ hs_ => by first | exact hk_.2 hs_ | exact hk_.1.1.2 hs_ | exact hk_.1.1 hs_ | exact hk_.1.2 hs_ | exact hk_.1 hs_ | exact hk_.1.1.1 hs_ | exact hk_ hs_ | exact hk_.1.2.1 hs_ | exact hk_.1.2.2 hs_ | exact hk_.1.1.2.1 hs_ | exact hk_.1.1.2.2 hs_ | exact hk_.2.1 hs_ | exact hk_.2.2 hs_ | exact hk_.1.1.1.1 hs_ | exact hk_.1.1.1.2 hs_ | exact hk_.1.2.2.1 hs_ | exact hk_.1.2.2.2 hs_ | exact hk_.1.1.1.2.1 hs_ | exact hk_.1.1.1.2.2 hs_ | exact hk_.2.2.1 hs_ | exact hk_.2.2.2 hs_ | exact hk_.1.1.2.2.1 hs_ | exact hk_.1.1.2.2.2 hs_ | exact hk_.1.2.2.2.1 hs_ | exact hk_.1.2.2.2.2 hs_ | exact hk_.1.1.1.1.1 hs_ | exact hk_.1.1.1.1.2 hs_)) (fun k_ hk_ => ⟨by first | exact hk_.1.1.2 | exact hk_.1.1 | exact hk_.1.2 | exact hk_.2 | exact hk_.1 | exact hk_.1.1.1 | exact hk_ | exact hk_.1.2.1 | exact hk_.1.2.2 | exact hk_.1.1.2.1 | exact hk_.1.1.2.2 | exact hk_.2.1 | exact hk_.2.2 | exact hk_.1.1.1.1 | exact hk_.1.1.1.2 | exact hk_.1.2.2.1 | exact hk_.1.2.2.2 | exact hk_.1.1.1.2.1 | exact hk_.1.1.1.2.2 | exact hk_.2.2.1 | exact hk_.2.2.2 | exact hk_.1.1.2.2.1 | exact hk_.1.1.2.2.2 | exact hk_.1.2.2.2.1 | exact hk_.1.2.2.2.2 | exact hk_.1.1.1.1.1 | exact hk_.1.1.1.1.2, by first | exact hk_.1.2 | exact hk_.1.1.2 | exact hk_.1.1 | exact hk_.2 | exact hk_.1 | exact hk_.1.1.1 | exact hk_ | exact hk_.1.2.1 | exact hk_.1.2.2 | exact hk_.1.1.2.1 | exact hk_.1.1.2.2 | exact hk_.2.1 | exact hk_.2.2 | exact hk_.1.1.1.1 | exact hk_.1.1.1.2 | exact hk_.1.2.2.1 | exact hk_.1.2.2.2 | exact hk_.1.1.1.2.1 | exact hk_.1.1.1.2.2 | exact hk_.2.2.1 | exact hk_.2.2.2 | exact hk_.1.1.2.2.1 | exact hk_.1.1.2.2.2 | exact hk_.1.2.2.2.1 | exact hk_.1.2.2.2.2 | exact hk_.1.1.1.1.1 | exact hk_.1.1.1.1.2⟩)); have n7_ := Aside0.mk (hb); clear BK325; clear HO330; clear HO333; clear HO337; clear BK338; clear HO341; clear HO346; clear HB; have BK325 := n0_; have HO330 := n1_; have HO333 := n2_; have HO337 := n3_; have BK338 := n4_; have HO341 := n5_; have HO346 := n6_; have HB := n7_; clear n0_ n1_ n2_ n3_ n4_ n5_ n6_ n7_; (try clear hb); (try clear hkp); (try clear hy0)))
    (try simp only [Act.put, List.setIfInBounds_toArray, List.set_cons_zero, List.set_cons_succ])
    go_cut [42] (fun v42 wc => ∃ (kq : Nat) (x42_16 : Bool), v42 = .bool x42_16 ∧ Aside0 (laws_FnExactDirectBase.j0 kq t331 t339 x42_16 a0_0 l0_1 = some r) ∧ Aside0 (kq ≤ k) ∧ Aside0 (Kd.R k58 58 wc w.heap.size (fun k_ => some k_ ≠ ((.slice Ao32 t339.length co32) : Value).ownBlock) (.slice Ao33 t331.length co33) t331) ∧ Aside0 (Kd.R k58 58 wc w.heap.size (fun k_ => some k_ ≠ ((.slice Ao33 t331.length co33) : Value).ownBlock) (.slice Ao32 t339.length co32) t339) ∧ Aside0 (wc.heap[gb325]? = some (.cells #[.int .i64 a0_0, (.slice A0_1 l0_1.length c0_1)] 24 (0, 0))) ∧ Aside0 (Below w.heap.size w wc))
    case first =>
     have H := HC17.out
     clear HC17
     by_cases c41 : t348 < 0
     ·
      rw [if_pos c41] at H
      refine absurd ?_ Bool.false_ne_true; revert H; generalize k = kq_; intro H; cases kq_ with | zero => exact absurd H (by simp only [laws_FnExactDirectBase.j0]; exact fun h => by cases h) | succ kq_ => simp only [laws_FnExactDirectBase.j0] at H; (try rw [if_pos rfl] at H); exact (Option.some.inj H).trans HRT.out
     ·
      rw [if_neg c41] at H
      have c41b0 : decide (t348 < 0) = false := decide_eq_false c41
      clear c41
      (first | rw [c41b0] | (simp only [i64_w, i32_w]; rw [c41b0]) | skip)
      replace H := Option.bind_eq_some_iff.mp H
      obtain ⟨t350, A420, H⟩ := H
      replace H : (laws_FnExactDirectBase.j0 k t331 t339 (!t350) a0_0 l0_1) = some r := H
      have A42 := Aside0.mk A420
      clear A420
      have H' := Aside0.mk H
      clear H
      go_wp2_with (first | (go_at_call 22; (with_reducible refine (laws_eqRuleS.calls k _ _ t339 _ _ t331 t350 _ ?side1 ?side2 ?side3 ?side4 A42.out).mono ?_); (case side1 => exact q11_7); (case side2 => exact (Kd.R_reads' HO341.out).2.1); (case side3 => exact q11_6); (case side4 => exact (Kd.R_reads' HO333.out).2.1); rintro e w43 ⟨rfl, hb⟩; have n0_ := Aside0.mk (Kd.R_below q11_14 hb); have n1_ := Aside0.mk (Kd.R_below q11_15 hb); have n2_ := Aside0.mk (Kd.R_below q11_16 hb); have n3_ := Aside0.mk (Kd.R_below q11_17 hb); have n4_ := Aside0.mk (Kd.R_below (by (with_reducible repeat (first | apply Kd.R_alloc | apply Kd.R_drewN | apply Kd.R_drew)); exact HO346.out) hb); have n5_ := Aside0.mk (blk_below (g := gb325) (o := .cells #[.int .i64 a0_0, .slice A0_1 l0_1.length c0_1] 24 (0, 0)) q11_12 hb); have n6_ := Aside0.mk (blk_below (g := gb338) (o := .cells #[.int .i64 t334, .slice Ao30 t335.length co30] 27 (0, 0)) q11_13 hb); have n7_ := Aside0.mk (below_step q11_4 hb); clear HO330; clear HO333; clear HO337; clear HO341; clear HO346; clear BK325; clear BK338; clear HB; have HO330 := n0_; have HO333 := n1_; have HO337 := n2_; have HO341 := n3_; have HO346 := n4_; have BK325 := n5_; have BK338 := n6_; have HB := n7_; clear n0_ n1_ n2_ n3_ n4_ n5_ n6_ n7_; (try clear hb); (try clear hb2); (try clear hk); (try clear hi)))
      go_meet
      case rel => exact ⟨_, (!t350), (by first | rfl | (simp; done) | (simp [*]; done) | (simp [i64_w, i32_w]; done)), H', ⟨by first | omega | exact Nat.le_refl _⟩, ⟨by (with_reducible repeat (first | apply Kd.R_alloc | apply Kd.R_drewN | apply Kd.R_drew)); exact HO333.out⟩, ⟨by (with_reducible repeat (first | apply Kd.R_alloc | apply Kd.R_drewN | apply Kd.R_drew)); exact HO341.out⟩, ⟨by (with_reducible repeat (first | refine blk_drewN ?_ _ | refine blk_drew ?_ | refine blk_alloc ?_ _)); exact BK325.out⟩, ⟨by repeat (first | (with_reducible first | exact HB.out | apply below_alloc | apply pw_below_drewN | apply below_drew1 | refine below_set ?_ GE325.out | refine below_set ?_ GE338.out) | exact HB.out)⟩⟩
    case rest =>
     clear HC17
     try clear c1
     try clear c2
     try clear p2
     try clear c3
     try clear c3b0
     try clear c4
     try clear c8
     try clear c12
     try clear c14
     try clear c15
     try clear c16
     try clear c22
     try clear c28
     try clear c34
     try clear c35
     try clear c41
     try clear c41b0
     try clear hcz19_0
     try clear hcz19_1
     try clear hcz21_0
     try clear hcz21_1
     try clear hcz25_0
     try clear hcz25_1
     try clear hcz29_0
     try clear hcz29_1
     try clear hcz39_0
     try clear hcz39_1
     try clear hcz5_0
     try clear hcz5_1
     try clear hfz19_0
     try clear hfz19_1
     try clear hfz21_0
     try clear hfz21_1
     try clear hfz25_0
     try clear hfz25_1
     try clear hfz29_0
     try clear hfz29_1
     try clear hfz39_0
     try clear hfz39_1
     try clear hfz5_0
     try clear hfz5_1
     obtain ⟨kq, x42_16, rfl, HA, HJ16, HO_4, HO_6, BK325, HB⟩ := hcut
     cases kq with
     | zero => exact absurd HA.out (by simp [laws_FnExactDirectBase.j0])
     | succ kj16 =>
      have H := HA.out
      clear HA
      simp only [laws_FnExactDirectBase.j0] at H
      by_cases c44 : x42_16 = true
      ·
       subst c44
       have H1 : (some false) = some r := by rw [if_pos rfl] at H; exact H
       clear H
       have H := H1
       clear H1
       exact absurd ((Option.some.inj H).trans HRT.out) Bool.false_ne_true
      ·
       replace c44 := Bool.eq_false_iff.mpr c44
       subst c44
       have H1 : ((laws_markRuleS.f kj16 t339 1).bind fun bt351 => ((laws_heldRuleS.f kj16 bt351.2 1).bind fun t353 => (if t353 < 0 then (some false) else (if t353 = bt351.1 then ((laws_toContext.f kj16 a0_0 l0_1).bind fun bt354 => ((impl_DirectBase.f kj16 bt354.1 bt354.2).bind fun t358 => ((laws_eqRuleS.f kj16 t358 t331).bind fun t361 => (if t361 = true then ((laws_heldRuleS.f kj16 bt351.2 1).bind fun t362 => (if t362 < 0 then (some false) else (if t362 = bt351.1 then (some true) else (some false)))) else (some false))))) else (some false))))) = some r := q11_20
       clear H
       have H := H1
       clear H1
       replace H := Option.bind_eq_some_iff.mp H
       obtain ⟨⟨t351, t352⟩, A450, H⟩ := H
       replace H : ((laws_heldRuleS.f kj16 t352 1).bind fun t353 => (if t353 < 0 then (some false) else (if t353 = t351 then ((laws_toContext.f kj16 a0_0 l0_1).bind fun bt354 => ((impl_DirectBase.f kj16 bt354.1 bt354.2).bind fun t358 => ((laws_eqRuleS.f kj16 t358 t331).bind fun t361 => (if t361 = true then ((laws_heldRuleS.f kj16 t352 1).bind fun t362 => (if t362 < 0 then (some false) else (if t362 = t351 then (some true) else (some false)))) else (some false))))) else (some false)))) = some r := H
       have A45 := Aside0.mk A450
       clear A450
       replace H := Option.bind_eq_some_iff.mp H
       obtain ⟨t353, A460, H⟩ := H
       replace H : (if t353 < 0 then (some false) else (if t353 = t351 then ((laws_toContext.f kj16 a0_0 l0_1).bind fun bt354 => ((impl_DirectBase.f kj16 bt354.1 bt354.2).bind fun t358 => ((laws_eqRuleS.f kj16 t358 t331).bind fun t361 => (if t361 = true then ((laws_heldRuleS.f kj16 t352 1).bind fun t362 => (if t362 < 0 then (some false) else (if t362 = t351 then (some true) else (some false)))) else (some false))))) else (some false))) = some r := H
       have A46 := Aside0.mk A460
       clear A460
       by_cases c47 : t353 < 0
       ·
        rw [if_pos c47] at H
        exact absurd ((Option.some.inj H).trans HRT.out) Bool.false_ne_true
       ·
        rw [if_neg c47] at H
        have c47b0 : decide (t353 < 0) = false := decide_eq_false c47
        clear c47
        by_cases c48 : t353 = t351
        ·
         rw [if_pos c48] at H
         have c48b0 : (t353 == t351) = true := beq_iff_eq.mpr c48
         have c48b1 : (t353 != t351) = false := bne_eq_false_iff_eq.mpr c48
         clear c48
         replace H := Option.bind_eq_some_iff.mp H
         obtain ⟨⟨t354, t355⟩, A490, H⟩ := H
         replace H : ((impl_DirectBase.f kj16 t354 t355).bind fun t358 => ((laws_eqRuleS.f kj16 t358 t331).bind fun t361 => (if t361 = true then ((laws_heldRuleS.f kj16 t352 1).bind fun t362 => (if t362 < 0 then (some false) else (if t362 = t351 then (some true) else (some false)))) else (some false)))) = some r := H
         have A49 := Aside0.mk A490
         clear A490
         replace H := Option.bind_eq_some_iff.mp H
         obtain ⟨t358, A500, H⟩ := H
         replace H : ((laws_eqRuleS.f kj16 t358 t331).bind fun t361 => (if t361 = true then ((laws_heldRuleS.f kj16 t352 1).bind fun t362 => (if t362 < 0 then (some false) else (if t362 = t351 then (some true) else (some false)))) else (some false))) = some r := H
         have A50 := Aside0.mk A500
         clear A500
         replace H := Option.bind_eq_some_iff.mp H
         obtain ⟨t361, A510, H⟩ := H
         replace H : (if t361 = true then ((laws_heldRuleS.f kj16 t352 1).bind fun t362 => (if t362 < 0 then (some false) else (if t362 = t351 then (some true) else (some false)))) else (some false)) = some r := H
         have A51 := Aside0.mk A510
         clear A510
         by_cases c52 : t361 = true
         ·
          subst c52
          have H1 : ((laws_heldRuleS.f kj16 t352 1).bind fun t362 => (if t362 < 0 then (some false) else (if t362 = t351 then (some true) else (some false)))) = some r := by rw [if_pos rfl] at H; exact H
          clear H
          have H := H1
          clear H1
          replace H := Option.bind_eq_some_iff.mp H
          obtain ⟨t362, A530, H⟩ := H
          replace H : (if t362 < 0 then (some false) else (if t362 = t351 then (some true) else (some false))) = some r := H
          have A53 := Aside0.mk A530
          clear A530
          by_cases c54 : t362 < 0
          ·
           rw [if_pos c54] at H
           exact absurd ((Option.some.inj H).trans HRT.out) Bool.false_ne_true
          ·
           rw [if_neg c54] at H
           have c54b0 : decide (t362 < 0) = false := decide_eq_false c54
           clear c54
           by_cases c55 : t362 = t351
           ·
            rw [if_pos c55] at H
            have c55b0 : (t362 == t351) = true := beq_iff_eq.mpr c55
            have c55b1 : (t362 != t351) = false := bne_eq_false_iff_eq.mpr c55
            clear c55
            obtain rfl := Option.some.inj H
            go_wp2_with (first | ((with_reducible refine gate_callee (f := 23) rfl ?_); refine goesL_ (some 45) rfl rfl Tryd.func23 q11_21 rfl #[.slice Ao32 t339.length co32, .int .i64 1] rfl q11_10 ?_; (with_reducible refine (laws_markRuleS.calls kj16 (fun k_ => some k_ = (.slice Ao32 t339.length co32 : Value).ownBlock) (.slice Ao32 t339.length co32) t339 1 t351 t352 w _ ?side1 ?side2 A45.out).mono ?_); (case side1 => exact q11_9); (case side2 => exact Kd.R_tight rfl HO_6.out); rintro e w56 ⟨rfl, hy0, hb, hkp⟩; refine ⟨_, rfl, ?_⟩; have n0_ := Aside0.mk (Kd.R_mono (ok' := fun k_ => some k_ ≠ (.slice Ao32 t339.length co32 : Value).ownBlock) (Kd.R_keptB (HO_4.out) hkp (fun k_ hk_ hs_ => by first | exact hk_ hs_ | exact hk_.1.1.2 hs_ | exact hk_.1.1 hs_ | exact hk_.1.2 hs_ | exact hk_.2 hs_ | exact hk_.1 hs_ | exact hk_.1.1.1 hs_ | exact hk_.1.2.1 hs_ | exact hk_.1.2.2 hs_ | exact hk_.1.1.2.1 hs_ | exact hk_.1.1.2.2 hs_ | exact hk_.2.1 hs_ | exact hk_.2.2 hs_ | exact hk_.1.1.1.1 hs_ | exact hk_.1.1.1.2 hs_ | exact hk_.1.2.2.1 hs_ | exact hk_.1.2.2.2 hs_ | exact hk_.1.1.1.2.1 hs_ | exact hk_.1.1.1.2.2 hs_ | exact hk_.2.2.1 hs_ | exact hk_.2.2.2 hs_ | exact hk_.1.1.2.2.1 hs_ | exact hk_.1.1.2.2.2 hs_ | exact hk_.1.2.2.2.1 hs_ | exact hk_.1.2.2.2.2 hs_ | exact hk_.1.1.1.1.1 hs_ | exact hk_.1.1.1.1.2 hs_)) (fun k_ hk_ => hk_.1)); have n1_ := Aside0.mk (Kd.R_reok rfl hy0 (fun k_ e_ => HO_6.out.1 k_ e_)); have n2_ := Aside0.mk (blk_kept q11_12 hkp (fun hs_ => (fun e_ => (Kd.R_ne HO_6.out BK325.out (by decide)) e_) hs_)); have n3_ := Aside0.mk (hb); clear HO_4; clear HO_6; clear BK325; clear HB; have HO_4 := n0_; have HO_6 := n1_; have BK325 := n2_; have HB := n3_; clear n0_ n1_ n2_ n3_; (try clear hb); (try clear hkp); (try clear hy0)) | ((with_reducible refine gate_callee (f := 36) rfl ?_); refine goesL_ (some 48) rfl rfl Tryd.func36 q11_21 rfl #[.slice Ao32 t352.length co32, .int .i64 1] rfl q11_3 ?_; (with_reducible refine (laws_heldRuleS.calls kj16 _ _ t352 1 t353 _ ?side1 ?side2 A46.out).mono ?_); (case side1 => exact q11_8); (case side2 => rw [show t352.length = t339.length from (Kd.R_reads' HO_6.out).1.symm]; exact (Kd.R_reads' HO_6.out).2.1); rintro e w' ⟨rfl, ⟨nd, rfl⟩⟩; refine ⟨_, rfl, ?_⟩; have hcz57_0 : w56.cell? ⟨gb325, 0, none⟩ = some (.int .i64 a0_0) := (blk_cell BK325.out 0).trans rfl; have hcz57_1 : w56.cell? ⟨gb325, 1, none⟩ = some (.slice A0_1 l0_1.length c0_1) := (blk_cell BK325.out 1).trans rfl; have hfz57_0 := blk_frozen BK325.out 0; have hfz57_1 := blk_frozen BK325.out 1) | ((with_reducible refine gate_callee (f := 14) rfl ?_); refine goesL_ (some 55) rfl rfl Tryd.func14 q11_21 rfl #[.agg #[.int .i64 a0_0, .slice A0_1 l0_1.length c0_1]] rfl q11_10 ?_; (with_reducible refine (laws_toContext.calls kj16 a0_0 _ _ l0_1 t354 t355 _ ?side1 ?side2 A49.out).mono ?_); (case side1 => repeat (first | exact (Kd.C_below HR0_1.out q11_9) | (with_reducible refine Kd.C_alloc ?_ _) | (with_reducible refine Kd.C_drewN ?_ _) | (with_reducible refine Kd.C_drew ?_))); (case side2 => exact HC0_1.out); rintro e w58 ⟨v356, rfl, ho0, hb⟩; refine ⟨_, rfl, ?_⟩; have n0_ := Aside0.mk (Kd.R_below q11_18 hb); have n1_ := Aside0.mk (Kd.R_below q11_19 hb); have n2_ := Aside0.mk (Kd.R_lower ho0 (below_size q11_9)); have n3_ := Aside0.mk (blk_below (g := gb325) (o := .cells #[.int .i64 a0_0, .slice A0_1 l0_1.length c0_1] 24 (0, 0)) q11_12 hb); have n4_ := Aside0.mk (below_step q11_9 hb); clear HO_4; clear HO_6; clear BK325; clear HB; have HO_4 := n0_; have HO_6 := n1_; have HO357 := n2_; have BK325 := n3_; have HB := n4_; clear n0_ n1_ n2_ n3_ n4_; (try clear hb); (try clear hb2); (try clear hk); (try clear hi); (try clear ho0); obtain ⟨Ao59, co59, eo59⟩ := Kd.R_slice HO357.out; subst eo59) | ((with_reducible refine gate_callee (f := 35) rfl ?_); refine goesL_ (some 56) rfl rfl Tryd.func35 q11_21 rfl #[.agg #[.int .i64 t354, .slice Ao59 t355.length co59]] rfl q11_10 ?_; (with_reducible refine (impl_DirectBase.calls kj16 t354 _ _ t355 t358 _ ?side1 ?side2 ?tab A50.out).mono ?_); (case tab => first | exact HTB.out | (refine Tab64.below HTB.out ?_; repeat (first | (with_reducible first | exact HB.out | apply below_alloc | apply pw_below_drewN | apply below_drew1 | refine below_set ?_ GE325.out | refine below_set ?_ GE338.out) | exact HB.out)) | (repeat (first | exact HTB.out | apply Tab64.drewN | apply Tab64.drew | apply Tab64.alloc))); (case side1 => repeat (first | exact (Kd.R_reads' HO357.out).2.2 | (with_reducible refine Kd.C_alloc ?_ _) | (with_reducible refine Kd.C_drewN ?_ _) | (with_reducible refine Kd.C_drew ?_))); (case side2 => exact (Kd.R_reads' HO357.out).2.1); rintro e w60 ⟨v359, rfl, ho0, hb⟩; refine ⟨_, rfl, ?_⟩; have n0_ := Aside0.mk (Kd.R_elder' q11_18 (Kd.R_base ho0) hb); have n1_ := Aside0.mk (Kd.R_elder' q11_19 (Kd.R_base ho0) hb); have n2_ := Aside0.mk (Kd.R_below (by (with_reducible repeat (first | apply Kd.R_alloc | apply Kd.R_drewN | apply Kd.R_drew)); exact HO357.out) hb); have n3_ := Aside0.mk (Kd.R_lower (Kd.R_new' (Kd.R_new' ho0 (Kd.R_lt q11_18)) (Kd.R_lt q11_19)) (below_size q11_9)); have n4_ := Aside0.mk (blk_below (g := gb325) (o := .cells #[.int .i64 a0_0, .slice A0_1 l0_1.length c0_1] 24 (0, 0)) q11_12 hb); have n5_ := Aside0.mk (below_step q11_9 hb); clear HO_4; clear HO_6; clear HO357; clear BK325; clear HB; have HO_4 := n0_; have HO_6 := n1_; have HO357 := n2_; have HO360 := n3_; have BK325 := n4_; have HB := n5_; clear n0_ n1_ n2_ n3_ n4_ n5_; (try clear hb); (try clear hb2); (try clear hk); (try clear hi); (try clear ho0); obtain ⟨Ao61, co61, eo61⟩ := Kd.R_slice HO360.out; subst eo61) | ((with_reducible refine gate_callee (f := 22) rfl ?_); refine goesL_ (some 59) rfl rfl Tryd.func22 q11_21 rfl #[.slice Ao61 t358.length co61, .slice Ao33 t331.length co33] rfl q11_10 ?_; (with_reducible refine (laws_eqRuleS.calls kj16 _ _ t358 _ _ t331 true _ ?side1 ?side2 ?side3 ?side4 A51.out).mono ?_); (case side1 => repeat (first | exact (Kd.R_reads' HO360.out).2.2 | (with_reducible refine Kd.C_alloc ?_ _) | (with_reducible refine Kd.C_drewN ?_ _) | (with_reducible refine Kd.C_drew ?_))); (case side2 => exact (Kd.R_reads' HO360.out).2.1); (case side3 => repeat (first | exact (Kd.R_reads' HO_4.out).2.2 | (with_reducible refine Kd.C_alloc ?_ _) | (with_reducible refine Kd.C_drewN ?_ _) | (with_reducible refine Kd.C_drew ?_))); (case side4 => exact (Kd.R_reads' HO_4.out).2.1); rintro e w62 ⟨rfl, hb⟩; refine ⟨_, rfl, ?_⟩; have n0_ := Aside0.mk (Kd.R_below q11_18 hb); have n1_ := Aside0.mk (Kd.R_below q11_19 hb); have n2_ := Aside0.mk (Kd.R_below (by (with_reducible repeat (first | apply Kd.R_alloc | apply Kd.R_drewN | apply Kd.R_drew)); exact HO357.out) hb); have n3_ := Aside0.mk (Kd.R_below (by (with_reducible repeat (first | apply Kd.R_alloc | apply Kd.R_drewN | apply Kd.R_drew)); exact HO360.out) hb); have n4_ := Aside0.mk (blk_below (g := gb325) (o := .cells #[.int .i64 a0_0, .slice A0_1 l0_1.length c0_1] 24 (0, 0)) q11_12 hb); have n5_ := Aside0.mk (below_step q11_9 hb); clear HO_4; clear HO_6; clear HO357; clear HO360; clear BK325; clear HB; have HO_4 := n0_; have HO_6 := n1_; have HO357 := n2_; have HO360 := n3_; have BK325 := n4_; have HB := n5_; clear n0_ n1_ n2_ n3_ n4_ n5_; (try clear hb); (try clear hb2); (try clear hk); (try clear hi)) | ((with_reducible refine gate_callee (f := 36) rfl ?_); refine goesL_ (some 63) rfl rfl Tryd.func36 q11_21 rfl #[.slice Ao32 t352.length co32, .int .i64 1] rfl q11_3 ?_; (with_reducible refine (laws_heldRuleS.calls kj16 _ _ t352 1 t362 _ ?side1 ?side2 A53.out).mono ?_); (case side1 => exact q11_8); (case side2 => rw [show t352.length = t339.length from (Kd.R_reads' HO_6.out).1.symm]; exact (Kd.R_reads' HO_6.out).2.1); rintro e w' ⟨rfl, ⟨nd, rfl⟩⟩; refine ⟨_, rfl, ?_⟩))
            go_ret
            exact ⟨by first | rfl | (simp [errW_none, errW_some] <;> rfl) | (simp [*, errW_none, errW_some] <;> rfl), by repeat (first | (with_reducible first | exact HB.out | apply below_alloc | apply pw_below_drewN | apply below_drew1 | refine below_set ?_ GE325.out) | exact HB.out)⟩
           ·
            rw [if_neg c55] at H
            exact absurd ((Option.some.inj H).trans HRT.out) Bool.false_ne_true
         ·
          replace c52 := Bool.eq_false_iff.mpr c52
          subst c52
          have H1 : (some false) = some r := q11_20
          clear H
          have H := H1
          clear H1
          exact absurd ((Option.some.inj H).trans HRT.out) Bool.false_ne_true
        ·
         rw [if_neg c48] at H
         exact absurd ((Option.some.inj H).trans HRT.out) Bool.false_ne_true
   ·
    replace c15 := Bool.eq_false_iff.mpr c15
    subst c15
    have H1 : (some false) = some r := q11_20
    clear H
    have H := H1
    clear H1
    exact absurd ((Option.some.inj H).trans HRT.out) Bool.false_ne_true
  ·
   replace c12 := Bool.eq_false_iff.mpr c12
   subst c12
   have H1 : (some false) = some r := q11_20
   clear H
   have H := H1
   clear H1
   exact absurd ((Option.some.inj H).trans HRT.out) Bool.false_ne_true
end Go.Proofs.YtbflblmkdnhboaaDoor.Pr
