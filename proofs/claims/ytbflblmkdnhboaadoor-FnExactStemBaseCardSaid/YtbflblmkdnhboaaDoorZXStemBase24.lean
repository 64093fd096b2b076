/- What the law needs of the program's functions as plain functions, of the proofs that their calls answer so, and of plain laws: gathered by a program of this place (pack.py) out of its printed texts. No condition beyond what each statement says. -/
import Derived.Test.YtbflblmkdnhboaaDoorZXStemBase2
import Derived.Test.YtbflblmkdnhboaaDoorZXStemBase3
import Derived.Test.YtbflblmkdnhboaaDoorZXStemBase4
import Derived.Test.YtbflblmkdnhboaaDoorZXStemBase8
import Derived.Test.YtbflblmkdnhboaaDoorZXStemBase23
namespace Go.Proofs.YtbflblmkdnhboaaDoor.Pr
open Go.RowKit Go.Proofs.YtbflblmkdnhboaaDoorW.PrintWords Go.Proofs.YtbflblmkdnhboaaDoorW.PrintLast Go.Proofs.YtbflblmkdnhboaaDoorW.PrintMore
attribute [local go_sem] max2_int min2_int max_two min_two max_three min_three max_four min_four   -- for this text's walks alone
set_option linter.unusedVariables false
set_option linter.unusedSimpArgs false
theorem put16_ {P : Prop} (h : P := by simp only [Act.put, List.setIfInBounds_toArray, List.set_cons_zero, List.set_cons_succ, i64_w, i32_w]; rfl) : P := h
theorem q16_1 {P : Prop} (h : P := by (with_reducible repeat (first | apply Kd.R_alloc | apply Kd.R_drewN | apply Kd.R_drew)); exact (Kd.R_mono (Kd.R_far (p := ⟨gb330, 1, none⟩) (Kd.R_far (p := ⟨gb330, 0, none⟩) (Kd.R_types HO325.out BK330.out (by decide)) (fun _ hk => hk.2) (.int .i64 t326)) (fun _ hk => hk.2) (.slice Ao30 t327.length co30)) (fun _ h_ => h_.1))) : P := h
theorem q16_2 {P : Prop} (h : P := by (with_reducible repeat (first | apply Kd.R_alloc | apply Kd.R_drewN | apply Kd.R_drew)); exact (Kd.R_mono (Kd.R_far (p := ⟨gb330, 1, none⟩) (Kd.R_far (p := ⟨gb330, 0, none⟩) (Kd.R_types HO329.out BK330.out (by decide)) (fun _ hk => hk.2) (.int .i64 t326)) (fun _ hk => hk.2) (.slice Ao30 t327.length co30)) (fun _ h_ => h_.1))) : P := h
theorem q16_3 {P : Prop} (h : P := by (try simp only [List.map_toArray, List.map_cons, List.map_nil]); first | done | (rw [show t344.length = t331.length from (Kd.R_reads' HO_6.out).1.symm] <;> rfl) | rfl | (simp only [List.length_drop, List.length_take]; rfl)) : P := h
theorem q16_4 {P : Prop} (h : P := by repeat (first | (with_reducible first | exact HB.out | apply below_alloc | apply pw_below_drewN | apply below_drew1 | refine below_set ?_ GE317.out | refine below_set ?_ GE330.out) | exact HB.out)) : P := h
theorem q16_5 {P : Prop} (h : P := by repeat (first | exact (Kd.C_below HR0_1.out HB.out) | (with_reducible refine Kd.C_alloc ?_ _) | (with_reducible refine Kd.C_drewN ?_ _) | (with_reducible refine Kd.C_drew ?_))) : P := h
theorem q16_6 {P : Prop} (h : P := by repeat (first | exact (Kd.R_reads' HO325.out).2.2 | (with_reducible refine Kd.C_alloc ?_ _) | (with_reducible refine Kd.C_drewN ?_ _) | (with_reducible refine Kd.C_drew ?_))) : P := h
theorem q16_7 {P : Prop} (h : P := by repeat (first | exact (Kd.R_reads' HO333.out).2.2 | (with_reducible refine Kd.C_alloc ?_ _) | (with_reducible refine Kd.C_drewN ?_ _) | (with_reducible refine Kd.C_drew ?_))) : P := h
theorem q16_8 {P : Prop} (h : P := by repeat (first | exact (Kd.R_reads' HO_6.out).2.2 | (with_reducible refine Kd.C_alloc ?_ _) | (with_reducible refine Kd.C_drewN ?_ _) | (with_reducible refine Kd.C_drew ?_))) : P := h
theorem q16_9 {P : Prop} (h : P := by repeat (first | (with_reducible first | exact HB.out | apply below_alloc | apply pw_below_drewN | apply below_drew1 | refine below_set ?_ GE317.out) | exact HB.out)) : P := h
theorem q16_10 {P : Prop} (h : P := by (try simp only [List.map_toArray, List.map_cons, List.map_nil]); first | done | rfl | (simp only [List.length_drop, List.length_take]; rfl)) : P := h
theorem q16_11 {P : Prop} (h : P := by repeat (first | (with_reducible first | exact HB.out | apply below_alloc | apply pw_below_drewN | apply below_drew1) | exact HB.out)) : P := h
theorem q16_12 {P : Prop} (h : P := by (with_reducible repeat (first | refine blk_drewN ?_ _ | refine blk_drew ?_ | refine blk_alloc ?_ _)); exact BK317.out) : P := h
theorem q16_13 {P : Prop} (h : P := by (with_reducible repeat (first | refine blk_drewN ?_ _ | refine blk_drew ?_ | refine blk_alloc ?_ _)); exact BK330.out) : P := h
theorem q16_14 {P : Prop} (h : P := by (with_reducible repeat (first | apply Kd.R_alloc | apply Kd.R_drewN | apply Kd.R_drew)); exact HO322.out) : P := h
theorem q16_15 {P : Prop} (h : P := by (with_reducible repeat (first | apply Kd.R_alloc | apply Kd.R_drewN | apply Kd.R_drew)); exact HO325.out) : P := h
theorem q16_16 {P : Prop} (h : P := by (with_reducible repeat (first | apply Kd.R_alloc | apply Kd.R_drewN | apply Kd.R_drew)); exact HO329.out) : P := h
theorem q16_17 {P : Prop} (h : P := by (with_reducible repeat (first | apply Kd.R_alloc | apply Kd.R_drewN | apply Kd.R_drew)); exact HO333.out) : P := h
theorem q16_18 {P : Prop} (h : P := by (with_reducible repeat (first | apply Kd.R_alloc | apply Kd.R_drewN | apply Kd.R_drew)); exact HO_4.out) : P := h
theorem q16_19 {P : Prop} (h : P := by (with_reducible repeat (first | apply Kd.R_alloc | apply Kd.R_drewN | apply Kd.R_drew)); exact HO_6.out) : P := h
theorem q16_20 {P : Prop} (h : P := by rw [if_neg (show ¬ (false = true) by decide)] at H; exact H) : P := h
theorem q16_21 {P : Prop} (h : P := by kernel_rfl) : P := h
def laws_FnExactStemBase.j0 : Nat → List (S58) → List (S58) → Bool → Int → List Int → Option (Bool)
 | 0, _, _, _, _, _ => none
 | k + 1, x4, x6, x42, x318000, x318001 => if x42 = true then (some false) else ((laws_markRuleS.f k x6 1).bind fun bt343 => ((laws_heldRuleS.f k bt343.2 1).bind fun t345 => (if t345 < 0 then (some false) else (if t345 = bt343.1 then ((laws_toContext.f k x318000 x318001).bind fun bt346 => ((impl_StemBase.f bt346.1 bt346.2).bind fun t350 => ((laws_eqRuleS.f k t350 x4).bind fun t353 => (if t353 = true then ((laws_heldRuleS.f k bt343.2 1).bind fun t354 => (if t354 < 0 then (some false) else (if t354 = bt343.1 then (some true) else (some false)))) else (some false))))) else (some false)))))
def laws_FnExactStemBase.f (k : Nat) (a0_0 : Int) (l0_1 : List Int) : Option (Bool) := (laws_szContext.f a0_0 l0_1 1048576).bind fun t318 => (if t318 < 0 then (some true) else ((laws_toContext.f k a0_0 l0_1).bind fun bt319 => ((spec_StemBase.f k bt319.1 bt319.2).bind fun t323 => ((laws_toContext.f k a0_0 l0_1).bind fun bt326 => ((impl_StemBase.f bt326.1 bt326.2).bind fun t331 => ((laws_eqRuleS.f k t331 t323).bind fun t334 => (if t334 = true then ((laws_toContext.f k a0_0 l0_1).bind fun bt335 => ((laws_eqContext.f k bt326.1 bt326.2 bt335.1 bt335.2).bind fun t339 => (if t339 = true then ((laws_markContext.f k bt326.1 bt326.2 1).bind fun bt340 => (if bt340.1 < 0 then (laws_FnExactStemBase.j0 k t323 t331 true a0_0 l0_1) else ((laws_eqRuleS.f k t331 t323).bind fun t342 => (laws_FnExactStemBase.j0 k t323 t331 (!t342) a0_0 l0_1)))) else (some false)))) else (some false))))))))
set_option maxHeartbeats 8000000 in
set_option maxRecDepth 100000 in
theorem laws_FnExactStemBase.calls (k : Nat) (a0_0 : Int) (A0_1 : Option Addr) (c0_1 : Nat) (l0_1 : List Int) (r : Bool) (w : World) (hr0_1 : Kd.C (Kd.int .i64) w A0_1 l0_1.length l0_1) (hc0_1 : l0_1.length ≤ c0_1) (hrt : r = true) (htab : Tab64 w) (h : laws_FnExactStemBase.f k a0_0 l0_1 = some r) :
  Calls Tryd.prog 11 #[.agg #[.int .i64 a0_0, .slice A0_1 l0_1.length c0_1]] w fun e w' => e = .returned (.bool r) ∧ Below w.heap.size w w' := by
 have HTB := Aside0.mk htab
 clear htab
 have hu24 := Tryd.underlying24
 have hu27 := Tryd.underlying27
 have HR0_1 := Aside0.mk hr0_1
 have HC0_1 := Aside0.mk hc0_1
 clear hr0_1 hc0_1
 have HB := Aside0.mk (Below.refl w.heap.size w)
 have HRT := Aside0.mk hrt
 clear hrt
 have H : ((laws_szContext.f a0_0 l0_1 1048576).bind fun t318 => (if t318 < 0 then (some true) else ((laws_toContext.f k a0_0 l0_1).bind fun bt319 => ((spec_StemBase.f k bt319.1 bt319.2).bind fun t323 => ((laws_toContext.f k a0_0 l0_1).bind fun bt326 => ((impl_StemBase.f bt326.1 bt326.2).bind fun t331 => ((laws_eqRuleS.f k t331 t323).bind fun t334 => (if t334 = true then ((laws_toContext.f k a0_0 l0_1).bind fun bt335 => ((laws_eqContext.f k bt326.1 bt326.2 bt335.1 bt335.2).bind fun t339 => (if t339 = true then ((laws_markContext.f k bt326.1 bt326.2 1).bind fun bt340 => (if bt340.1 < 0 then (laws_FnExactStemBase.j0 k t323 t331 true a0_0 l0_1) else ((laws_eqRuleS.f k t331 t323).bind fun t342 => (laws_FnExactStemBase.j0 k t323 t331 (!t342) a0_0 l0_1)))) else (some false)))) else (some false))))))))) = some r := h
 clear h
 replace H := Option.bind_eq_some_iff.mp H
 obtain ⟨t318, A20, H⟩ := H
 replace H : (if t318 < 0 then (some true) else ((laws_toContext.f k a0_0 l0_1).bind fun bt319 => ((spec_StemBase.f k bt319.1 bt319.2).bind fun t323 => ((laws_toContext.f k a0_0 l0_1).bind fun bt326 => ((impl_StemBase.f bt326.1 bt326.2).bind fun t331 => ((laws_eqRuleS.f k t331 t323).bind fun t334 => (if t334 = true then ((laws_toContext.f k a0_0 l0_1).bind fun bt335 => ((laws_eqContext.f k bt326.1 bt326.2 bt335.1 bt335.2).bind fun t339 => (if t339 = true then ((laws_markContext.f k bt326.1 bt326.2 1).bind fun bt340 => (if bt340.1 < 0 then (laws_FnExactStemBase.j0 k t323 t331 true a0_0 l0_1) else ((laws_eqRuleS.f k t331 t323).bind fun t342 => (laws_FnExactStemBase.j0 k t323 t331 (!t342) a0_0 l0_1)))) else (some false)))) else (some false)))))))) = some r := H
 have A2 := Aside0.mk A20
 clear A20
 by_cases c3 : t318 < 0
 ·
  rw [if_pos c3] at H
  have c3b0 : decide (t318 < 0) = true := decide_eq_true c3
  clear c3
  obtain rfl := Option.some.inj H
  go_enter Tryd.func11, Tryd.ntmps11
  go_wp2_with (first | ((with_reducible refine gate_dst (N := 1) rfl ?_); refine box_event ?hg (N := 1) ?hd (cs := #[.int .i64 a0_0, .slice A0_1 l0_1.length c0_1]) (t := 24) ?hr ?_; (case hd => rfl); (case hg => rfl); (case hr => first | (go_simp; done) | (go_simp; rfl)); intro gb317 hg w4 hbox hb; have n0_ := Aside0.mk (below_step q16_11 hb); have n1_ := Aside0.mk (hbox); have n2_ := Aside0.mk ((by rw [hg]; exact (below_size q16_11) : w.heap.size ≤ gb317)); have n3_ := Aside0.mk ((by rw [hg]; exact (below_size q16_11) : w.heap.size ≤ gb317)); clear HB; have HB := n0_; have BK317 := n1_; have GW317 := n2_; have GE317 := n3_; clear n0_ n1_ n2_ n3_; clear hb hbox hg; have hcz5_0 : w4.cell? ⟨gb317, 0, none⟩ = some (.int .i64 a0_0) := (blk_cell BK317.out 0).trans rfl; have hcz5_1 : w4.cell? ⟨gb317, 1, none⟩ = some (.slice A0_1 l0_1.length c0_1) := (blk_cell BK317.out 1).trans rfl; have hfz5_0 := blk_frozen BK317.out 0; have hfz5_1 := blk_frozen BK317.out 1) | ((with_reducible refine gate_callee (f := 12) rfl ?_); refine goesL_ (some 13) rfl rfl Tryd.func12 q16_21 rfl #[.agg #[.int .i64 a0_0, .slice A0_1 l0_1.length c0_1], .int .i64 1048576] rfl q16_10 ?_; (with_reducible refine (laws_szContext.calls a0_0 _ _ l0_1 1048576 t318 _ ?side1 ?side2 A2.out).mono ?_); (case side1 => exact q16_5); (case side2 => exact HC0_1.out); rintro e w6 ⟨rfl, hb⟩; refine ⟨_, rfl, ?_⟩; have n0_ := Aside0.mk (blk_below (g := gb317) (o := .cells #[.int .i64 a0_0, .slice A0_1 l0_1.length c0_1] 24 (0, 0)) q16_12 hb); have n1_ := Aside0.mk (below_step q16_9 hb); clear BK317; clear HB; have BK317 := n0_; have HB := n1_; clear n0_ n1_; (try clear hb); (try clear hb2); (try clear hk); (try clear hi)))
  go_ret
  exact ⟨by first | rfl | (simp [errW_none, errW_some] <;> rfl) | (simp [*, errW_none, errW_some] <;> rfl), by repeat (first | (with_reducible first | exact HB.out | apply below_alloc | apply pw_below_drewN | apply below_drew1 | refine below_set ?_ GE317.out) | exact HB.out)⟩
 ·
  rw [if_neg c3] at H
  have c3b0 : decide (t318 < 0) = false := decide_eq_false c3
  clear c3
  replace H := Option.bind_eq_some_iff.mp H
  obtain ⟨⟨t319, t320⟩, A70, H⟩ := H
  replace H : ((spec_StemBase.f k t319 t320).bind fun t323 => ((laws_toContext.f k a0_0 l0_1).bind fun bt326 => ((impl_StemBase.f bt326.1 bt326.2).bind fun t331 => ((laws_eqRuleS.f k t331 t323).bind fun t334 => (if t334 = true then ((laws_toContext.f k a0_0 l0_1).bind fun bt335 => ((laws_eqContext.f k bt326.1 bt326.2 bt335.1 bt335.2).bind fun t339 => (if t339 = true then ((laws_markContext.f k bt326.1 bt326.2 1).bind fun bt340 => (if bt340.1 < 0 then (laws_FnExactStemBase.j0 k t323 t331 true a0_0 l0_1) else ((laws_eqRuleS.f k t331 t323).bind fun t342 => (laws_FnExactStemBase.j0 k t323 t331 (!t342) a0_0 l0_1)))) else (some false)))) else (some false)))))) = some r := H
  have A7 := Aside0.mk A70
  clear A70
  replace H := Option.bind_eq_some_iff.mp H
  obtain ⟨t323, A80, H⟩ := H
  replace H : ((laws_toContext.f k a0_0 l0_1).bind fun bt326 => ((impl_StemBase.f bt326.1 bt326.2).bind fun t331 => ((laws_eqRuleS.f k t331 t323).bind fun t334 => (if t334 = true then ((laws_toContext.f k a0_0 l0_1).bind fun bt335 => ((laws_eqContext.f k bt326.1 bt326.2 bt335.1 bt335.2).bind fun t339 => (if t339 = true then ((laws_markContext.f k bt326.1 bt326.2 1).bind fun bt340 => (if bt340.1 < 0 then (laws_FnExactStemBase.j0 k t323 t331 true a0_0 l0_1) else ((laws_eqRuleS.f k t331 t323).bind fun t342 => (laws_FnExactStemBase.j0 k t323 t331 (!t342) a0_0 l0_1)))) else (some false)))) else (some false))))) = some r := H
  have A8 := Aside0.mk A80
  clear A80
  replace H := Option.bind_eq_some_iff.mp H
  obtain ⟨⟨t326, t327⟩, A90, H⟩ := H
  replace H : ((impl_StemBase.f t326 t327).bind fun t331 => ((laws_eqRuleS.f k t331 t323).bind fun t334 => (if t334 = true then ((laws_toContext.f k a0_0 l0_1).bind fun bt335 => ((laws_eqContext.f k t326 t327 bt335.1 bt335.2).bind fun t339 => (if t339 = true then ((laws_markContext.f k t326 t327 1).bind fun bt340 => (if bt340.1 < 0 then (laws_FnExactStemBase.j0 k t323 t331 true a0_0 l0_1) else ((laws_eqRuleS.f k t331 t323).bind fun t342 => (laws_FnExactStemBase.j0 k t323 t331 (!t342) a0_0 l0_1)))) else (some false)))) else (some false)))) = some r := H
  have A9 := Aside0.mk A90
  clear A90
  replace H := Option.bind_eq_some_iff.mp H
  obtain ⟨t331, A100, H⟩ := H
  replace H : ((laws_eqRuleS.f k t331 t323).bind fun t334 => (if t334 = true then ((laws_toContext.f k a0_0 l0_1).bind fun bt335 => ((laws_eqContext.f k t326 t327 bt335.1 bt335.2).bind fun t339 => (if t339 = true then ((laws_markContext.f k t326 t327 1).bind fun bt340 => (if bt340.1 < 0 then (laws_FnExactStemBase.j0 k t323 t331 true a0_0 l0_1) else ((laws_eqRuleS.f k t331 t323).bind fun t342 => (laws_FnExactStemBase.j0 k t323 t331 (!t342) a0_0 l0_1)))) else (some false)))) else (some false))) = some r := H
  have A10 := Aside0.mk A100
  clear A100
  replace H := Option.bind_eq_some_iff.mp H
  obtain ⟨t334, A110, H⟩ := H
  replace H : (if t334 = true then ((laws_toContext.f k a0_0 l0_1).bind fun bt335 => ((laws_eqContext.f k t326 t327 bt335.1 bt335.2).bind fun t339 => (if t339 = true then ((laws_markContext.f k t326 t327 1).bind fun bt340 => (if bt340.1 < 0 then (laws_FnExactStemBase.j0 k t323 t331 true a0_0 l0_1) else ((laws_eqRuleS.f k t331 t323).bind fun t342 => (laws_FnExactStemBase.j0 k t323 t331 (!t342) a0_0 l0_1)))) else (some false)))) else (some false)) = some r := H
  have A11 := Aside0.mk A110
  clear A110
  by_cases c12 : t334 = true
  ·
   subst c12
   have H1 : ((laws_toContext.f k a0_0 l0_1).bind fun bt335 => ((laws_eqContext.f k t326 t327 bt335.1 bt335.2).bind fun t339 => (if t339 = true then ((laws_markContext.f k t326 t327 1).bind fun bt340 => (if bt340.1 < 0 then (laws_FnExactStemBase.j0 k t323 t331 true a0_0 l0_1) else ((laws_eqRuleS.f k t331 t323).bind fun t342 => (laws_FnExactStemBase.j0 k t323 t331 (!t342) a0_0 l0_1)))) else (some false)))) = some r := by rw [if_pos rfl] at H; exact H
   clear H
   have H := H1
   clear H1
   replace H := Option.bind_eq_some_iff.mp H
   obtain ⟨⟨t335, t336⟩, A130, H⟩ := H
   replace H : ((laws_eqContext.f k t326 t327 t335 t336).bind fun t339 => (if t339 = true then ((laws_markContext.f k t326 t327 1).bind fun bt340 => (if bt340.1 < 0 then (laws_FnExactStemBase.j0 k t323 t331 true a0_0 l0_1) else ((laws_eqRuleS.f k t331 t323).bind fun t342 => (laws_FnExactStemBase.j0 k t323 t331 (!t342) a0_0 l0_1)))) else (some false))) = some r := H
   have A13 := Aside0.mk A130
   clear A130
   replace H := Option.bind_eq_some_iff.mp H
   obtain ⟨t339, A140, H⟩ := H
   replace H : (if t339 = true then ((laws_markContext.f k t326 t327 1).bind fun bt340 => (if bt340.1 < 0 then (laws_FnExactStemBase.j0 k t323 t331 true a0_0 l0_1) else ((laws_eqRuleS.f k t331 t323).bind fun t342 => (laws_FnExactStemBase.j0 k t323 t331 (!t342) a0_0 l0_1)))) else (some false)) = some r := H
   have A14 := Aside0.mk A140
   clear A140
   by_cases c15 : t339 = true
   ·
    subst c15
    have H1 : ((laws_markContext.f k t326 t327 1).bind fun bt340 => (if bt340.1 < 0 then (laws_FnExactStemBase.j0 k t323 t331 true a0_0 l0_1) else ((laws_eqRuleS.f k t331 t323).bind fun t342 => (laws_FnExactStemBase.j0 k t323 t331 (!t342) a0_0 l0_1)))) = some r := by rw [if_pos rfl] at H; exact H
    clear H
    have H := H1
    clear H1
    replace H := Option.bind_eq_some_iff.mp H
    obtain ⟨⟨t340, t341⟩, A160, H⟩ := H
    replace H : (if t340 < 0 then (laws_FnExactStemBase.j0 k t323 t331 true a0_0 l0_1) else ((laws_eqRuleS.f k t331 t323).bind fun t342 => (laws_FnExactStemBase.j0 k t323 t331 (!t342) a0_0 l0_1))) = some r := H
    have A16 := Aside0.mk A160
    clear A160
    have HC17 := Aside0.mk H
    clear H
    go_enter Tryd.func11, Tryd.ntmps11
    try go_wp2_with (first | ((with_reducible refine gate_dst (N := 1) rfl ?_); refine box_event ?hg (N := 1) ?hd (cs := #[.int .i64 a0_0, .slice A0_1 l0_1.length c0_1]) (t := 24) ?hr ?_; (case hd => rfl); (case hg => rfl); (case hr => first | (go_simp; done) | (go_simp; rfl)); intro gb317 hg w18 hbox hb; have n0_ := Aside0.mk (below_step q16_11 hb); have n1_ := Aside0.mk (hbox); have n2_ := Aside0.mk ((by rw [hg]; exact (below_size q16_11) : w.heap.size ≤ gb317)); have n3_ := Aside0.mk ((by rw [hg]; exact (below_size q16_11) : w.heap.size ≤ gb317)); clear HB; have HB := n0_; have BK317 := n1_; have GW317 := n2_; have GE317 := n3_; clear n0_ n1_ n2_ n3_; clear hb hbox hg; have hcz19_0 : w18.cell? ⟨gb317, 0, none⟩ = some (.int .i64 a0_0) := (blk_cell BK317.out 0).trans rfl; have hcz19_1 : w18.cell? ⟨gb317, 1, none⟩ = some (.slice A0_1 l0_1.length c0_1) := (blk_cell BK317.out 1).trans rfl; have hfz19_0 := blk_frozen BK317.out 0; have hfz19_1 := blk_frozen BK317.out 1) | ((with_reducible refine gate_callee (f := 12) rfl ?_); refine goesL_ (some 13) rfl rfl Tryd.func12 q16_21 rfl #[.agg #[.int .i64 a0_0, .slice A0_1 l0_1.length c0_1], .int .i64 1048576] rfl q16_10 ?_; (with_reducible refine (laws_szContext.calls a0_0 _ _ l0_1 1048576 t318 _ ?side1 ?side2 A2.out).mono ?_); (case side1 => exact q16_5); (case side2 => exact HC0_1.out); rintro e w20 ⟨rfl, hb⟩; refine ⟨_, rfl, ?_⟩; have n0_ := Aside0.mk (blk_below (g := gb317) (o := .cells #[.int .i64 a0_0, .slice A0_1 l0_1.length c0_1] 24 (0, 0)) q16_12 hb); have n1_ := Aside0.mk (below_step q16_9 hb); clear BK317; clear HB; have BK317 := n0_; have HB := n1_; clear n0_ n1_; (try clear hb); (try clear hb2); (try clear hk); (try clear hi); have hcz21_0 : w20.cell? ⟨gb317, 0, none⟩ = some (.int .i64 a0_0) := (blk_cell BK317.out 0).trans rfl; have hcz21_1 : w20.cell? ⟨gb317, 1, none⟩ = some (.slice A0_1 l0_1.length c0_1) := (blk_cell BK317.out 1).trans rfl; have hfz21_0 := blk_frozen BK317.out 0; have hfz21_1 := blk_frozen BK317.out 1) | ((with_reducible refine gate_callee (f := 14) rfl ?_); refine goesL_ (some 17) rfl rfl Tryd.func14 q16_21 rfl #[.agg #[.int .i64 a0_0, .slice A0_1 l0_1.length c0_1]] rfl q16_10 ?_; (with_reducible refine (laws_toContext.calls k a0_0 _ _ l0_1 t319 t320 _ ?side1 ?side2 A7.out).mono ?_); (case side1 => exact q16_5); (case side2 => exact HC0_1.out); rintro e w22 ⟨v321, rfl, ho0, hb⟩; refine ⟨_, rfl, ?_⟩; have n0_ := Aside0.mk (Kd.R_lower ho0 (below_size q16_9)); have n1_ := Aside0.mk (blk_below (g := gb317) (o := .cells #[.int .i64 a0_0, .slice A0_1 l0_1.length c0_1] 24 (0, 0)) q16_12 hb); have n2_ := Aside0.mk (below_step q16_9 hb); clear BK317; clear HB; have HO322 := n0_; have BK317 := n1_; have HB := n2_; clear n0_ n1_ n2_; (try clear hb); (try clear hb2); (try clear hk); (try clear hi); (try clear ho0); obtain ⟨Ao23, co23, eo23⟩ := Kd.R_slice HO322.out; subst eo23) | ((with_reducible refine gate_callee (f := 41) rfl ?_); refine goesL_ (some 18) rfl rfl Tryd.func41 q16_21 rfl #[.agg #[.int .i64 t319, .slice Ao23 t320.length co23]] rfl q16_10 ?_; (with_reducible refine (spec_StemBase.calls k t319 _ _ t320 t323 _ ?side1 ?side2 A8.out).mono ?_); (case side1 => repeat (first | exact (Kd.R_reads' HO322.out).2.2 | (with_reducible refine Kd.C_alloc ?_ _) | (with_reducible refine Kd.C_drewN ?_ _) | (with_reducible refine Kd.C_drew ?_))); (case side2 => exact (Kd.R_reads' HO322.out).2.1); rintro e w24 ⟨v324, rfl, ho0, hb⟩; refine ⟨_, rfl, ?_⟩; have n0_ := Aside0.mk (Kd.R_below q16_14 hb); have n1_ := Aside0.mk (Kd.R_lower ho0 (below_size q16_9)); have n2_ := Aside0.mk (blk_below (g := gb317) (o := .cells #[.int .i64 a0_0, .slice A0_1 l0_1.length c0_1] 24 (0, 0)) q16_12 hb); have n3_ := Aside0.mk (below_step q16_9 hb); clear HO322; clear BK317; clear HB; have HO322 := n0_; have HO325 := n1_; have BK317 := n2_; have HB := n3_; clear n0_ n1_ n2_ n3_; (try clear hb); (try clear hb2); (try clear hk); (try clear hi); (try clear ho0); have hcz25_0 : w24.cell? ⟨gb317, 0, none⟩ = some (.int .i64 a0_0) := (blk_cell BK317.out 0).trans rfl; have hcz25_1 : w24.cell? ⟨gb317, 1, none⟩ = some (.slice A0_1 l0_1.length c0_1) := (blk_cell BK317.out 1).trans rfl; have hfz25_0 := blk_frozen BK317.out 0; have hfz25_1 := blk_frozen BK317.out 1) | ((with_reducible refine gate_callee (f := 14) rfl ?_); refine goesL_ (some 20) rfl rfl Tryd.func14 q16_21 rfl #[.agg #[.int .i64 a0_0, .slice A0_1 l0_1.length c0_1]] rfl q16_10 ?_; (with_reducible refine (laws_toContext.calls k a0_0 _ _ l0_1 t326 t327 _ ?side1 ?side2 A9.out).mono ?_); (case side1 => exact q16_5); (case side2 => exact HC0_1.out); rintro e w26 ⟨v328, rfl, ho0, hb⟩; refine ⟨_, rfl, ?_⟩; have n0_ := Aside0.mk (Kd.R_elder' q16_14 (Kd.R_base ho0) hb); have n1_ := Aside0.mk (Kd.R_below q16_15 hb); have n2_ := Aside0.mk (Kd.R_lower (Kd.R_new' ho0 (Kd.R_lt q16_14)) (below_size q16_9)); have n3_ := Aside0.mk (blk_below (g := gb317) (o := .cells #[.int .i64 a0_0, .slice A0_1 l0_1.length c0_1] 24 (0, 0)) q16_12 hb); have n4_ := Aside0.mk (below_step q16_9 hb); clear HO322; clear HO325; clear BK317; clear HB; have HO322 := n0_; have HO325 := n1_; have HO329 := n2_; have BK317 := n3_; have HB := n4_; clear n0_ n1_ n2_ n3_ n4_; (try clear hb); (try clear hb2); (try clear hk); (try clear hi); (try clear ho0)) | ((with_reducible refine gate_dst (N := 5) rfl ?_); refine box_event ?hg (N := 5) ?hd (cs := #[.int .i64 0, .slice none 0 0]) (t := 27) ?hr ?_; (case hd => rfl); (case hg => rfl); (case hr => first | (go_simp; done) | (go_simp; rfl)); intro gb330 hg w27 hbox hb; have n0_ := Aside0.mk (Kd.R_below q16_14 hb); have n1_ := Aside0.mk (Kd.R_below q16_15 hb); have n2_ := Aside0.mk (Kd.R_below q16_16 hb); have n3_ := Aside0.mk (blk_below (g := gb317) (o := .cells #[.int .i64 a0_0, .slice A0_1 l0_1.length c0_1] 24 (0, 0)) q16_12 hb); have n4_ := Aside0.mk (below_step q16_9 hb); have n5_ := Aside0.mk (hbox); have n6_ := Aside0.mk ((by rw [hg]; exact (below_size q16_9) : w.heap.size ≤ gb330)); have n7_ := Aside0.mk ((by rw [hg]; exact (below_size q16_9) : w.heap.size ≤ gb330)); have n8_ := Aside0.mk ((by rw [hg]; exact Nat.ne_of_lt (blk_lt (g := gb317) (o := .cells #[.int .i64 a0_0, .slice A0_1 l0_1.length c0_1] 24 (0, 0)) q16_12) : gb317 ≠ gb330)); have n9_ := Aside0.mk ((by rw [hg]; exact Nat.ne_of_gt (blk_lt (g := gb317) (o := .cells #[.int .i64 a0_0, .slice A0_1 l0_1.length c0_1] 24 (0, 0)) q16_12) : gb330 ≠ gb317)); clear HO322; clear HO325; clear HO329; clear BK317; clear HB; have HO322 := n0_; have HO325 := n1_; have HO329 := n2_; have BK317 := n3_; have HB := n4_; have BK330 := n5_; have GW330 := n6_; have GE330 := n7_; have NB317_330 := n8_; have NB330_317 := n9_; clear n0_ n1_ n2_ n3_ n4_ n5_ n6_ n7_ n8_ n9_; clear hb hbox hg; have hnb28 := NB330_317.out; have hnc28 := NB317_330.out; have hcz29_0 : w27.cell? ⟨gb330, 0, none⟩ = some (.int .i64 0) := (blk_cell BK330.out 0).trans rfl; have hcz29_1 : w27.cell? ⟨gb330, 1, none⟩ = some (.slice none 0 0) := (blk_cell BK330.out 1).trans rfl; have hfz29_0 := blk_frozen BK330.out 0; have hfz29_1 := blk_frozen BK330.out 1; obtain ⟨Ao30, co30, eo30⟩ := Kd.R_slice HO329.out; subst eo30) | ((with_reducible refine gate_callee (f := 42) rfl ?_); refine goesL_ (some 22) rfl rfl Tryd.func42 q16_21 rfl #[.agg #[.int .i64 t326, .slice Ao30 t327.length co30]] rfl q16_10 ?_; (with_reducible refine (impl_StemBase.calls t326 _ _ t327 t331 _ ?side1 ?side2 ?tab A10.out).mono ?_); (case tab => first | exact HTB.out | (refine Tab64.below HTB.out ?_; repeat (first | (with_reducible first | exact HB.out | apply below_alloc | apply pw_below_drewN | apply below_drew1 | refine below_set ?_ GE317.out | refine below_set ?_ GE330.out) | exact HB.out)) | (repeat (first | exact HTB.out | apply Tab64.drewN | apply Tab64.drew | apply Tab64.alloc))); (case side1 => refine (Kd.R_reads' (e := 3) (base := w.heap.size) (ok := fun k_ => (True ∧ some k_ ≠ (.slice Ao23 t320.length co23 : Value).ownBlock)) (n := t327.length) (c := co30) ?_).2.2; exact q16_2); (case side2 => exact (Kd.R_reads' HO329.out).2.1); rintro e w31 ⟨v332, rfl, ho0, hb⟩; refine ⟨_, rfl, ?_⟩; have n0_ := Aside0.mk (Kd.R_below (by (with_reducible repeat (first | apply Kd.R_alloc | apply Kd.R_drewN | apply Kd.R_drew)); exact (Kd.R_mono (Kd.R_far (p := ⟨gb330, 1, none⟩) (Kd.R_far (p := ⟨gb330, 0, none⟩) (Kd.R_types HO322.out BK330.out (by decide)) (fun _ hk => hk.2) (.int .i64 t326)) (fun _ hk => hk.2) (.slice Ao30 t327.length co30)) (fun _ h_ => h_.1))) hb); have n1_ := Aside0.mk (Kd.R_elder' q16_1 (Kd.R_base ho0) hb); have n2_ := Aside0.mk (Kd.R_below q16_2 hb); have n3_ := Aside0.mk (Kd.R_lower (Kd.R_new' ho0 (Kd.R_lt q16_1)) (below_size q16_4)); have n4_ := Aside0.mk (blk_below (g := gb317) (o := .cells #[.int .i64 a0_0, .slice A0_1 l0_1.length c0_1] 24 (0, 0)) (by (with_reducible repeat (first | refine blk_drewN ?_ _ | refine blk_drew ?_ | refine blk_alloc ?_ _)); refine blk_far ?_ NB317_330.out _; (with_reducible repeat (first | refine blk_drewN ?_ _ | refine blk_drew ?_ | refine blk_alloc ?_ _)); refine blk_far ?_ NB317_330.out _; (with_reducible repeat (first | refine blk_drewN ?_ _ | refine blk_drew ?_ | refine blk_alloc ?_ _)); exact BK317.out) hb); have n5_ := Aside0.mk (blk_below (g := gb330) (o := .cells #[.int .i64 t326, .slice Ao30 t327.length co30] 27 (0, 0)) (by (with_reducible repeat (first | refine blk_drewN ?_ _ | refine blk_drew ?_ | refine blk_alloc ?_ _)); refine blk_put (cs := #[.int .i64 t326, .slice none 0 0]) ?_ 1 _ rfl; (with_reducible repeat (first | refine blk_drewN ?_ _ | refine blk_drew ?_ | refine blk_alloc ?_ _)); refine blk_put (cs := #[.int .i64 0, .slice none 0 0]) ?_ 0 _ rfl; (with_reducible repeat (first | refine blk_drewN ?_ _ | refine blk_drew ?_ | refine blk_alloc ?_ _)); exact BK330.out) hb); have n6_ := Aside0.mk (below_step q16_4 hb); clear HO322; clear HO325; clear HO329; clear BK317; clear BK330; clear HB; have HO322 := n0_; have HO325 := n1_; have HO329 := n2_; have HO333 := n3_; have BK317 := n4_; have BK330 := n5_; have HB := n6_; clear n0_ n1_ n2_ n3_ n4_ n5_ n6_; (try clear hb); (try clear hb2); (try clear hk); (try clear hi); (try clear ho0); obtain ⟨Ao32, co32, eo32⟩ := Kd.R_slice HO333.out; subst eo32; obtain ⟨Ao33, co33, eo33⟩ := Kd.R_slice HO325.out; subst eo33) | ((with_reducible refine gate_callee (f := 22) rfl ?_); refine goesL_ (some 25) rfl rfl Tryd.func22 q16_21 rfl #[.slice Ao32 t331.length co32, .slice Ao33 t323.length co33] rfl q16_10 ?_; (with_reducible refine (laws_eqRuleS.calls k _ _ t331 _ _ t323 true _ ?side1 ?side2 ?side3 ?side4 A11.out).mono ?_); (case side1 => exact q16_7); (case side2 => exact (Kd.R_reads' HO333.out).2.1); (case side3 => exact q16_6); (case side4 => exact (Kd.R_reads' HO325.out).2.1); rintro e w34 ⟨rfl, hb⟩; refine ⟨_, rfl, ?_⟩; have n0_ := Aside0.mk (Kd.R_below q16_14 hb); have n1_ := Aside0.mk (Kd.R_below q16_15 hb); have n2_ := Aside0.mk (Kd.R_below q16_16 hb); have n3_ := Aside0.mk (Kd.R_below q16_17 hb); have n4_ := Aside0.mk (blk_below (g := gb317) (o := .cells #[.int .i64 a0_0, .slice A0_1 l0_1.length c0_1] 24 (0, 0)) q16_12 hb); have n5_ := Aside0.mk (blk_below (g := gb330) (o := .cells #[.int .i64 t326, .slice Ao30 t327.length co30] 27 (0, 0)) q16_13 hb); have n6_ := Aside0.mk (below_step q16_4 hb); clear HO322; clear HO325; clear HO329; clear HO333; clear BK317; clear BK330; clear HB; have HO322 := n0_; have HO325 := n1_; have HO329 := n2_; have HO333 := n3_; have BK317 := n4_; have BK330 := n5_; have HB := n6_; clear n0_ n1_ n2_ n3_ n4_ n5_ n6_; (try clear hb); (try clear hb2); (try clear hk); (try clear hi)))
    have n0_ := Aside0.mk (Kd.R_drew HO322.out)
    have n1_ := Aside0.mk (Kd.R_drew HO325.out)
    have n2_ := Aside0.mk (Kd.R_drew HO329.out)
    have n3_ := Aside0.mk (Kd.R_drew HO333.out)
    have n4_ := Aside0.mk (blk_drew BK317.out)
    have n5_ := Aside0.mk (blk_drew BK330.out)
    have n6_ := Aside0.mk (below_drew1 HB.out)
    clear HO322
    clear HO325
    clear HO329
    clear HO333
    clear BK317
    clear BK330
    clear HB
    have HO322 := n0_
    have HO325 := n1_
    have HO329 := n2_
    have HO333 := n3_
    have BK317 := n4_
    have BK330 := n5_
    have HB := n6_
    clear n0_ n1_ n2_ n3_ n4_ n5_ n6_
    refine start_ (n := 5) (S := fun w' => w'.cell? ⟨gb330, 0, none⟩ = some (.int .i64 t326) ∧ w'.cell? ⟨gb330, 1, none⟩ = some (.slice Ao30 t327.length co30) ∧ w'.cell? ⟨gb317, 0, none⟩ = some (.int .i64 a0_0) ∧ w'.cell? ⟨gb317, 1, none⟩ = some (.slice A0_1 l0_1.length c0_1)) (ds := []) #[false, false, false, false, false] q16_21 rfl rfl ⟨(blk_cell BK330.out 0).trans rfl, (blk_cell BK330.out 1).trans rfl, (blk_cell BK317.out 0).trans rfl, (blk_cell BK317.out 1).trans rfl⟩ (fun hHeld => ?_)
    generalize w34.drew = w35 at HO322 HO325 HO329 HO333 BK317 BK330 HB hHeld ⊢
    refine take_ (i := 0) (N := some 27) (v := ?_) (a' := ?_) #[true, false, false, false, false] rfl rfl q16_21 (fun _ _ _ h => h) (Or.inl ⟨by rfl, ?_⟩) hHeld ?_ ?_
    rotate_left
    ·
     rintro w' ⟨s0, s1, s2, s3⟩
     go_simp
     with_reducible rfl
    rotate_left
    ·
     exact put16_
    refine take_ (i := 1) (N := some 28) (v := ?_) (a' := ?_) #[true, true, false, false, false] rfl rfl q16_21 (fun _ _ _ h => h) (Or.inl ⟨by rfl, ?_⟩) hHeld ?_ ?_
    rotate_left
    ·
     rintro w' ⟨s0, s1, s2, s3⟩
     go_simp
     with_reducible rfl
    rotate_left
    ·
     exact put16_
    refine one_ (i := 2) (N := some 29) #[true, true, true, false, false] rfl rfl q16_21 (by decide) (fun K hK => ?_)
    refine goes_ Tryd.func14 q16_21 rfl #[.agg #[.int .i64 a0_0, .slice A0_1 l0_1.length c0_1]] (by rfl) rfl rfl q16_10 ?_
    with_reducible refine (laws_toContext.calls k a0_0 _ _ l0_1 t335 t336 _ ?side1 ?side2 A13.out).mono ?_
    (case side1 => exact q16_5)
    (case side2 => exact HC0_1.out)
    rintro e w36 ⟨v337, rfl, ho0, hb⟩
    refine ⟨_, rfl, ?_⟩
    have n0_ := Aside0.mk (Kd.R_elder' q16_14 (Kd.R_base ho0) hb)
    have n1_ := Aside0.mk (Kd.R_below q16_15 hb)
    have n2_ := Aside0.mk (Kd.R_elder' q16_16 (Kd.R_base ho0) hb)
    have n3_ := Aside0.mk (Kd.R_below q16_17 hb)
    have n4_ := Aside0.mk (Kd.R_lower (Kd.R_new' (Kd.R_new' ho0 (Kd.R_lt q16_14)) (Kd.R_lt q16_16)) (below_size q16_4))
    have n5_ := Aside0.mk (blk_below (g := gb317) (o := .cells #[.int .i64 a0_0, .slice A0_1 l0_1.length c0_1] 24 (0, 0)) q16_12 hb)
    have n6_ := Aside0.mk (blk_below (g := gb330) (o := .cells #[.int .i64 t326, .slice Ao30 t327.length co30] 27 (0, 0)) q16_13 hb)
    have n7_ := Aside0.mk (below_step q16_4 hb)
    clear HO322
    clear HO325
    clear HO329
    clear HO333
    clear BK317
    clear BK330
    clear HB
    have HO322 := n0_
    have HO325 := n1_
    have HO329 := n2_
    have HO333 := n3_
    have HO338 := n4_
    have BK317 := n5_
    have BK330 := n6_
    have HB := n7_
    clear n0_ n1_ n2_ n3_ n4_ n5_ n6_ n7_
    (try clear hb)
    (try clear hb2)
    (try clear hk)
    (try clear hi)
    (try clear ho0)
    obtain ⟨Ao37, co37, eo37⟩ := Kd.R_slice HO338.out
    (first | subst eo37 | (injection eo37 with f1_ f2_ f3_; have f4_ := f1_.symm; have f5_ := f3_.symm; clear f1_ f2_ f3_; subst f4_; subst f5_))
    refine hK.out _ _ ⟨(blk_cell BK330.out 0).trans rfl, (blk_cell BK330.out 1).trans rfl, (blk_cell BK317.out 0).trans rfl, (blk_cell BK317.out 1).trans rfl⟩ (fun hHeld => ?_)
    clear hK K
    refine norm_ (a' := ?_) ?_ ?_
    rotate_left
    ·
     show Act.put _ (some 29) _ = _
     exact put16_
    refine one_ (i := 3) (N := some 30) #[true, true, true, true, false] rfl rfl q16_21 (by decide) (fun K hK => ?_)
    refine goes_ Tryd.func16 q16_21 rfl #[.agg #[.int .i64 t326, .slice Ao30 t327.length co30], .agg #[.int .i64 t335, .slice Ao37 t336.length co37]] (by rfl) rfl rfl q16_10 ?_
    with_reducible refine (laws_eqContext.calls k t326 _ _ t327 t335 _ _ t336 true _ ?side1 ?side2 ?side3 ?side4 A14.out).mono ?_
    (case side1 => repeat (first | exact (Kd.R_reads' HO329.out).2.2 | (with_reducible refine Kd.C_alloc ?_ _) | (with_reducible refine Kd.C_drewN ?_ _) | (with_reducible refine Kd.C_drew ?_)))
    (case side2 => exact (Kd.R_reads' HO329.out).2.1)
    (case side3 => repeat (first | exact (Kd.R_reads' HO338.out).2.2 | (with_reducible refine Kd.C_alloc ?_ _) | (with_reducible refine Kd.C_drewN ?_ _) | (with_reducible refine Kd.C_drew ?_)))
    (case side4 => exact (Kd.R_reads' HO338.out).2.1)
    rintro e w38 ⟨rfl, hb⟩
    refine ⟨_, rfl, ?_⟩
    have n0_ := Aside0.mk (Kd.R_below q16_14 hb)
    have n1_ := Aside0.mk (Kd.R_below q16_15 hb)
    have n2_ := Aside0.mk (Kd.R_below q16_16 hb)
    have n3_ := Aside0.mk (Kd.R_below q16_17 hb)
    have n4_ := Aside0.mk (Kd.R_below (by (with_reducible repeat (first | apply Kd.R_alloc | apply Kd.R_drewN | apply Kd.R_drew)); exact HO338.out) hb)
    have n5_ := Aside0.mk (blk_below (g := gb317) (o := .cells #[.int .i64 a0_0, .slice A0_1 l0_1.length c0_1] 24 (0, 0)) q16_12 hb)
    have n6_ := Aside0.mk (blk_below (g := gb330) (o := .cells #[.int .i64 t326, .slice Ao30 t327.length co30] 27 (0, 0)) q16_13 hb)
    have n7_ := Aside0.mk (below_step q16_4 hb)
    clear HO322
    clear HO325
    clear HO329
    clear HO333
    clear HO338
    clear BK317
    clear BK330
    clear HB
    have HO322 := n0_
    have HO325 := n1_
    have HO329 := n2_
    have HO333 := n3_
    have HO338 := n4_
    have BK317 := n5_
    have BK330 := n6_
    have HB := n7_
    clear n0_ n1_ n2_ n3_ n4_ n5_ n6_ n7_
    (try clear hb)
    (try clear hb2)
    (try clear hk)
    (try clear hi)
    refine hK.out _ _ ⟨(blk_cell BK330.out 0).trans rfl, (blk_cell BK330.out 1).trans rfl, (blk_cell BK317.out 0).trans rfl, (blk_cell BK317.out 1).trans rfl⟩ (fun hHeld => ?_)
    clear hK K
    refine norm_ (a' := ?_) ?_ ?_
    rotate_left
    ·
     show Act.put _ (some 30) _ = _
     exact put16_
    refine pure_ (i := 4) (N := some 31) (v := ?_) (a' := ?_) #[true, true, true, true, true] rfl rfl q16_21 (fun _ _ _ h => h) (Or.inl ⟨by rfl, ?_⟩) ?_ ?_
    rotate_left
    ·
     intro w'
     go_simp
     with_reducible rfl
    rotate_left
    ·
     exact put16_
    refine done_ q16_21 ?_
    have hcz39_0 : w38.cell? ⟨gb330, 0, none⟩ = some (.int .i64 t326) := (blk_cell BK330.out 0).trans rfl
    have hcz39_1 : w38.cell? ⟨gb330, 1, none⟩ = some (.slice Ao30 t327.length co30) := (blk_cell BK330.out 1).trans rfl
    have hfz39_0 := blk_frozen BK330.out 0
    have hfz39_1 := blk_frozen BK330.out 1
    go_upto_region 14 with (first | ((with_reducible refine gate_callee (f := 28) rfl ?_); refine goesL_ (some 34) rfl rfl Tryd.func28 q16_21 rfl #[.agg #[.int .i64 t326, .slice Ao30 t327.length co30], .int .i64 1] rfl q16_10 ?_; (with_reducible refine (laws_markContext.calls k t326 (fun k_ => some k_ = (.slice Ao30 t327.length co30 : Value).ownBlock) (.slice Ao30 t327.length co30) t327 1 t340 t341 w _ ?side1 ?side2 A16.out).mono ?_); (case side1 => exact q16_4); (case side2 => exact Kd.R_tight rfl HO329.out); rintro e w40 ⟨rfl, hy0, hb, hkp⟩; refine ⟨_, rfl, ?_⟩; have n0_ := Aside0.mk (blk_kept q16_12 hkp (fun hs_ => (fun e_ => (Kd.R_ne HO329.out BK317.out (by decide)) e_) hs_)); have n1_ := Aside0.mk (Kd.R_mono (ok' := fun k_ => some k_ ≠ (.slice Ao30 t327.length co30 : Value).ownBlock ∧ some k_ ≠ (.slice Ao37 t336.length co37 : Value).ownBlock) (Kd.R_keptB (HO322.out) hkp (fun k_ hk_ hs_ => by first | exact hk_.1.2 hs_ | exact hk_.1.1.2 hs_ | exact hk_.1.1 hs_ | exact hk_.2 hs_ | exact hk_.1 hs_ | exact hk_.1.1.1 hs_ | exact hk_ hs_ | exact hk_.1.2.1 hs_ | exact hk_.1.2.2 hs_ | exact hk_.1.1.2.1 hs_ | exact hk_.1.1.2.2 hs_ | exact hk_.2.1 hs_ | exact hk_.2.2 hs_ | exact hk_.1.1.1.1 hs_ | exact hk_.1.1.1.2 hs_ | exact hk_.1.2.2.1 hs_ | exact hk_.1.2.2.2 hs_ | exact hk_.1.1.1.2.1 hs_ | exact hk_.1.1.1.2.2 hs_ | exact hk_.2.2.1 hs_ | exact hk_.2.2.2 hs_ | exact hk_.1.1.2.2.1 hs_ | exact hk_.1.1.2.2.2 hs_ | exact hk_.1.2.2.2.1 hs_ | exact hk_.1.2.2.2.2 hs_ | exact hk_.1.1.1.1.1 hs_ | exact hk_.1.1.1.1.2 hs_)) (fun k_ hk_ => ⟨by first | exact hk_.1.1.2 | exact hk_.1.1 | exact hk_.1.2 | exact hk_.2 | exact hk_.1 | exact hk_.1.1.1 | exact hk_ | exact hk_.1.2.1 | exact hk_.1.2.2 | exact hk_.1.1.2.1 | exact hk_.1.1.2.2 | exact hk_.2.1 | exact hk_.2.2 | exact hk_.1.1.1.1 | exact hk_.1.1.1.2 | exact hk_.1.2.2.1 | exact hk_.1.2.2.2 | exact hk_.1.1.1.2.1 | exact hk_.1.1.1.2.2 | exact hk_.2.2.1 | exact hk_.2.2.2 | exact hk_.1.1.2.2.1 | exact hk_.1.1.2.2.2 | exact hk_.1.2.2.2.1 | exact hk_.1.2.2.2.2 | exact hk_.1.1.1.1.1 | exact hk_.1.1.1.1.2, by first | exact hk_.1.2 | exact hk_.1.1.2 | exact hk_.1.1 | exact hk_.2 | exact hk_.1 | exact hk_.1.1.1 | exact hk_ | exact hk_.1.2.1 | exact hk_.1.2.2 | exact hk_.1.1.2.1 | exact hk_.1.1.2.2 | exact hk_.2.1 | exact hk_.2.2 | exact hk_.1.1.1.1 | exact hk_.1.1.1.2 | exact hk_.1.2.2.1 | exact hk_.1.2.2.2 | exact hk_.1.1.1.2.1 | exact hk_.1.1.1.2.2 | exact hk_.2.2.1 | exact hk_.2.2.2 | exact hk_.1.1.2.2.1 | exact hk_.1.1.2.2.2 | exact hk_.1.2.2.2.1 | exact hk_.1.2.2.2.2 | exact hk_.1.1.1.1.1 | exact hk_.1.1.1.1.2⟩)); have n2_ := Aside0.mk (Kd.R_mono (ok' := fun k_ => some k_ ≠ (.slice Ao32 t331.length co32 : Value).ownBlock) (Kd.R_keptB ((Kd.R_apart' HO325.out (Kd.R_typed HO329.out) (by decide))) hkp (fun k_ hk_ hs_ => by first | exact hk_.2 hs_ | exact hk_.1.1.2 hs_ | exact hk_.1.1 hs_ | exact hk_.1.2 hs_ | exact hk_.1 hs_ | exact hk_.1.1.1 hs_ | exact hk_ hs_ | exact hk_.1.2.1 hs_ | exact hk_.1.2.2 hs_ | exact hk_.1.1.2.1 hs_ | exact hk_.1.1.2.2 hs_ | exact hk_.2.1 hs_ | exact hk_.2.2 hs_ | exact hk_.1.1.1.1 hs_ | exact hk_.1.1.1.2 hs_ | exact hk_.1.2.2.1 hs_ | exact hk_.1.2.2.2 hs_ | exact hk_.1.1.1.2.1 hs_ | exact hk_.1.1.1.2.2 hs_ | exact hk_.2.2.1 hs_ | exact hk_.2.2.2 hs_ | exact hk_.1.1.2.2.1 hs_ | exact hk_.1.1.2.2.2 hs_ | exact hk_.1.2.2.2.1 hs_ | exact hk_.1.2.2.2.2 hs_ | exact hk_.1.1.1.1.1 hs_ | exact hk_.1.1.1.1.2 hs_)) (fun k_ hk_ => by first | exact hk_.1.1.2 | exact hk_.1.1 | exact hk_.1.2 | exact hk_.2 | exact hk_.1 | exact hk_.1.1.1 | exact hk_ | exact hk_.1.2.1 | exact hk_.1.2.2 | exact hk_.1.1.2.1 | exact hk_.1.1.2.2 | exact hk_.2.1 | exact hk_.2.2 | exact hk_.1.1.1.1 | exact hk_.1.1.1.2 | exact hk_.1.2.2.1 | exact hk_.1.2.2.2 | exact hk_.1.1.1.2.1 | exact hk_.1.1.1.2.2 | exact hk_.2.2.1 | exact hk_.2.2.2 | exact hk_.1.1.2.2.1 | exact hk_.1.1.2.2.2 | exact hk_.1.2.2.2.1 | exact hk_.1.2.2.2.2 | exact hk_.1.1.1.1.1 | exact hk_.1.1.1.1.2)); have n3_ := Aside0.mk (Kd.R_reok rfl hy0 (fun k_ e_ => HO329.out.1 k_ e_)); have n4_ := Aside0.mk (blk_kept q16_13 hkp (fun hs_ => (fun e_ => (Kd.R_ne HO329.out BK330.out (by decide)) e_) hs_)); have n5_ := Aside0.mk (Kd.R_mono (ok' := fun k_ => some k_ ≠ (.slice Ao33 t323.length co33 : Value).ownBlock) (Kd.R_keptB ((Kd.R_apart' HO333.out (Kd.R_typed HO329.out) (by decide))) hkp (fun k_ hk_ hs_ => by first | exact hk_.2 hs_ | exact hk_.1.1.2 hs_ | exact hk_.1.1 hs_ | exact hk_.1.2 hs_ | exact hk_.1 hs_ | exact hk_.1.1.1 hs_ | exact hk_ hs_ | exact hk_.1.2.1 hs_ | exact hk_.1.2.2 hs_ | exact hk_.1.1.2.1 hs_ | exact hk_.1.1.2.2 hs_ | exact hk_.2.1 hs_ | exact hk_.2.2 hs_ | exact hk_.1.1.1.1 hs_ | exact hk_.1.1.1.2 hs_ | exact hk_.1.2.2.1 hs_ | exact hk_.1.2.2.2 hs_ | exact hk_.1.1.1.2.1 hs_ | exact hk_.1.1.1.2.2 hs_ | exact hk_.2.2.1 hs_ | exact hk_.2.2.2 hs_ | exact hk_.1.1.2.2.1 hs_ | exact hk_.1.1.2.2.2 hs_ | exact hk_.1.2.2.2.1 hs_ | exact hk_.1.2.2.2.2 hs_ | exact hk_.1.1.1.1.1 hs_ | exact hk_.1.1.1.1.2 hs_)) (fun k_ hk_ => by first | exact hk_.1.1.2 | exact hk_.1.1 | exact hk_.1.2 | exact hk_.2 | exact hk_.1 | exact hk_.1.1.1 | exact hk_ | exact hk_.1.2.1 | exact hk_.1.2.2 | exact hk_.1.1.2.1 | exact hk_.1.1.2.2 | exact hk_.2.1 | exact hk_.2.2 | exact hk_.1.1.1.1 | exact hk_.1.1.1.2 | exact hk_.1.2.2.1 | exact hk_.1.2.2.2 | exact hk_.1.1.1.2.1 | exact hk_.1.1.1.2.2 | exact hk_.2.2.1 | exact hk_.2.2.2 | exact hk_.1.1.2.2.1 | exact hk_.1.1.2.2.2 | exact hk_.1.2.2.2.1 | exact hk_.1.2.2.2.2 | exact hk_.1.1.1.1.1 | exact hk_.1.1.1.1.2)); have n6_ := Aside0.mk (Kd.R_mono (ok' := fun k_ => some k_ ≠ (.slice Ao23 t320.length co23 : Value).ownBlock ∧ some k_ ≠ (.slice Ao30 t327.length co30 : Value).ownBlock) (Kd.R_keptB (HO338.out) hkp (fun k_ hk_ hs_ => by first | exact hk_.2 hs_ | exact hk_.1.1.2 hs_ | exact hk_.1.1 hs_ | exact hk_.1.2 hs_ | exact hk_.1 hs_ | exact hk_.1.1.1 hs_ | exact hk_ hs_ | exact hk_.1.2.1 hs_ | exact hk_.1.2.2 hs_ | exact hk_.1.1.2.1 hs_ | exact hk_.1.1.2.2 hs_ | exact hk_.2.1 hs_ | exact hk_.2.2 hs_ | exact hk_.1.1.1.1 hs_ | exact hk_.1.1.1.2 hs_ | exact hk_.1.2.2.1 hs_ | exact hk_.1.2.2.2 hs_ | exact hk_.1.1.1.2.1 hs_ | exact hk_.1.1.1.2.2 hs_ | exact hk_.2.2.1 hs_ | exact hk_.2.2.2 hs_ | exact hk_.1.1.2.2.1 hs_ | exact hk_.1.1.2.2.2 hs_ | exact hk_.1.2.2.2.1 hs_ | exact hk_.1.2.2.2.2 hs_ | exact hk_.1.1.1.1.1 hs_ | exact hk_.1.1.1.1.2 hs_)) (fun k_ hk_ => ⟨by first | exact hk_.1.1.2 | exact hk_.1.1 | exact hk_.1.2 | exact hk_.2 | exact hk_.1 | exact hk_.1.1.1 | exact hk_ | exact hk_.1.2.1 | exact hk_.1.2.2 | exact hk_.1.1.2.1 | exact hk_.1.1.2.2 | exact hk_.2.1 | exact hk_.2.2 | exact hk_.1.1.1.1 | exact hk_.1.1.1.2 | exact hk_.1.2.2.1 | exact hk_.1.2.2.2 | exact hk_.1.1.1.2.1 | exact hk_.1.1.1.2.2 | exact hk_.2.2.1 | exact hk_.2.2.2 | exact hk_.1.1.2.2.1 | exact hk_.1.1.2.2.2 | exact hk_.1.2.2.2.1 | exact hk_.1.2.2.2.2 | exact hk_.1.1.1.1.1 | exact hk_.1.1.1.1.2, by first | exact hk_.1.2 | exact hk_.1.1.2 | exact hk_.1.1 | exact hk_.2 | exact hk_.1 | exact hk_.1.1.1 | exact hk_ | exact hk_.1.2.1 | exact hk_.1.2.2 | exact hk_.1.1.2.1 | exact hk_.1.1.2.2 | exact hk_.2.1 | exact hk_.2.2 | exact hk_.1.1.1.1 | exact hk_.1.1.1.2 | exact hk_.1.2.2.1 | exact hk_.1.2.2.2 | exact hk_.1.1.1.2.1 | exact hk_.1.1.1.2.2 | exact hk_.2.2.1 | exact hk_.2.2.2 | exact hk_.1.1.2.2.1 | exact hk_.1.1.2.2.2 | exact hk_.1.2.2.2.1 | exact hk_.1.2.2.2.2 | exact hk_.1.1.1.1.1 | exact hk_.1.1.1.1.2⟩)); have n7_ := Aside0.mk (hb); clear BK317; clear HO322; clear HO325; clear HO329; clear BK330; clear HO333; clear HO338; clear HB; have BK317 := n0_; have HO322 := n1_; have HO325 := n2_; have HO329 := n3_; have BK330 := n4_; have HO333 := n5_; have HO338 := n6_; have HB := n7_; clear n0_ n1_ n2_ n3_ n4_ n5_ n6_ n7_; (try clear hb); (try clear hkp); (try clear hy0)))
    (try simp only [Act.put, List.setIfInBounds_toArray, List.set_cons_zero, List.set_cons_succ])
    go_cut [42] (fun v42 wc => ∃ (kq : Nat) (x42_16 : Bool), v42 = .bool x42_16 ∧ Aside0 (laws_FnExactStemBase.j0 kq t323 t331 x42_16 a0_0 l0_1 = some r) ∧ Aside0 (kq ≤ k) ∧ Aside0 (Kd.R k58 58 wc w.heap.size (fun k_ => some k_ ≠ ((.slice Ao32 t331.length co32) : Value).ownBlock) (.slice Ao33 t323.length co33) t323) ∧ Aside0 (Kd.R k58 58 wc w.heap.size (fun k_ => some k_ ≠ ((.slice Ao33 t323.length co33) : Value).ownBlock) (.slice Ao32 t331.length co32) t331) ∧ Aside0 (wc.heap[gb317]? = some (.cells #[.int .i64 a0_0, (.slice A0_1 l0_1.length c0_1)] 24 (0, 0))) ∧ Aside0 (Below w.heap.size w wc))
    case first =>
     have H := HC17.out
     clear HC17
     by_cases c41 : t340 < 0
     ·
      rw [if_pos c41] at H
      refine absurd ?_ Bool.false_ne_true; revert H; generalize k = kq_; intro H; cases kq_ with | zero => exact absurd H (by simp only [laws_FnExactStemBase.j0]; exact fun h => by cases h) | succ kq_ => simp only [laws_FnExactStemBase.j0] at H; (try rw [if_pos rfl] at H); exact (Option.some.inj H).trans HRT.out
     ·
      rw [if_neg c41] at H
      have c41b0 : decide (t340 < 0) = false := decide_eq_false c41
      clear c41
      (first | rw [c41b0] | (simp only [i64_w, i32_w]; rw [c41b0]) | skip)
      replace H := Option.bind_eq_some_iff.mp H
      obtain ⟨t342, A420, H⟩ := H
      replace H : (laws_FnExactStemBase.j0 k t323 t331 (!t342) a0_0 l0_1) = some r := H
      have A42 := Aside0.mk A420
      clear A420
      have H' := Aside0.mk H
      clear H
      go_wp2_with (first | (go_at_call 22; (with_reducible refine (laws_eqRuleS.calls k _ _ t331 _ _ t323 t342 _ ?side1 ?side2 ?side3 ?side4 A42.out).mono ?_); (case side1 => exact q16_7); (case side2 => exact (Kd.R_reads' HO333.out).2.1); (case side3 => exact q16_6); (case side4 => exact (Kd.R_reads' HO325.out).2.1); rintro e w43 ⟨rfl, hb⟩; have n0_ := Aside0.mk (Kd.R_below q16_14 hb); have n1_ := Aside0.mk (Kd.R_below q16_15 hb); have n2_ := Aside0.mk (Kd.R_below q16_16 hb); have n3_ := Aside0.mk (Kd.R_below q16_17 hb); have n4_ := Aside0.mk (Kd.R_below (by (with_reducible repeat (first | apply Kd.R_alloc | apply Kd.R_drewN | apply Kd.R_drew)); exact HO338.out) hb); have n5_ := Aside0.mk (blk_below (g := gb317) (o := .cells #[.int .i64 a0_0, .slice A0_1 l0_1.length c0_1] 24 (0, 0)) q16_12 hb); have n6_ := Aside0.mk (blk_below (g := gb330) (o := .cells #[.int .i64 t326, .slice Ao30 t327.length co30] 27 (0, 0)) q16_13 hb); have n7_ := Aside0.mk (below_step q16_4 hb); clear HO322; clear HO325; clear HO329; clear HO333; clear HO338; clear BK317; clear BK330; clear HB; have HO322 := n0_; have HO325 := n1_; have HO329 := n2_; have HO333 := n3_; have HO338 := n4_; have BK317 := n5_; have BK330 := n6_; have HB := n7_; clear n0_ n1_ n2_ n3_ n4_ n5_ n6_ n7_; (try clear hb); (try clear hb2); (try clear hk); (try clear hi)))
      go_meet
      case rel => exact ⟨_, (!t342), (by first | rfl | (simp; done) | (simp [*]; done) | (simp [i64_w, i32_w]; done)), H', ⟨by first | omega | exact Nat.le_refl _⟩, ⟨by (with_reducible repeat (first | apply Kd.R_alloc | apply Kd.R_drewN | apply Kd.R_drew)); exact HO325.out⟩, ⟨by (with_reducible repeat (first | apply Kd.R_alloc | apply Kd.R_drewN | apply Kd.R_drew)); exact HO333.out⟩, ⟨by (with_reducible repeat (first | refine blk_drewN ?_ _ | refine blk_drew ?_ | refine blk_alloc ?_ _)); exact BK317.out⟩, ⟨by repeat (first | (with_reducible first | exact HB.out | apply below_alloc | apply pw_below_drewN | apply below_drew1 | refine below_set ?_ GE317.out | refine below_set ?_ GE330.out) | exact HB.out)⟩⟩
    case rest =>
     clear HC17
     try clear c1
     try clear c2
     try clear p2
     try clear c3
     try clear c3b0
     try clear c4
     try clear c11
     try clear c12
     try clear c14
     try clear c15
     try clear c16
     try clear c22
     try clear c28
     try clear c41
     try clear c41b0
     try clear c42
     try clear hcz19_0
     try clear hcz19_1
     try clear hcz21_0
     try clear hcz21_1
     try clear hcz25_0
     try clear hcz25_1
     try clear hcz29_0
     try clear hcz29_1
     try clear hcz39_0
     try clear hcz39_1
     try clear hcz5_0
     try clear hcz5_1
     try clear hfz19_0
     try clear hfz19_1
     try clear hfz21_0
     try clear hfz21_1
     try clear hfz25_0
     try clear hfz25_1
     try clear hfz29_0
     try clear hfz29_1
     try clear hfz39_0
     try clear hfz39_1
     try clear hfz5_0
     try clear hfz5_1
     obtain ⟨kq, x42_16, rfl, HA, HJ16, HO_4, HO_6, BK317, HB⟩ := hcut
     cases kq with
     | zero => exact absurd HA.out (by simp [laws_FnExactStemBase.j0])
     | succ kj16 =>
      have H := HA.out
      clear HA
      simp only [laws_FnExactStemBase.j0] at H
      by_cases c44 : x42_16 = true
      ·
       subst c44
       have H1 : (some false) = some r := by rw [if_pos rfl] at H; exact H
       clear H
       have H := H1
       clear H1
       exact absurd ((Option.some.inj H).trans HRT.out) Bool.false_ne_true
      ·
       replace c44 := Bool.eq_false_iff.mpr c44
       subst c44
       have H1 : ((laws_markRuleS.f kj16 t331 1).bind fun bt343 => ((laws_heldRuleS.f kj16 bt343.2 1).bind fun t345 => (if t345 < 0 then (some false) else (if t345 = bt343.1 then ((laws_toContext.f kj16 a0_0 l0_1).bind fun bt346 => ((impl_StemBase.f bt346.1 bt346.2).bind fun t350 => ((laws_eqRuleS.f kj16 t350 t323).bind fun t353 => (if t353 = true then ((laws_heldRuleS.f kj16 bt343.2 1).bind fun t354 => (if t354 < 0 then (some false) else (if t354 = bt343.1 then (some true) else (some false)))) else (some false))))) else (some false))))) = some r := q16_20
       clear H
       have H := H1
       clear H1
       replace H := Option.bind_eq_some_iff.mp H
       obtain ⟨⟨t343, t344⟩, A450, H⟩ := H
       replace H : ((laws_heldRuleS.f kj16 t344 1).bind fun t345 => (if t345 < 0 then (some false) else (if t345 = t343 then ((laws_toContext.f kj16 a0_0 l0_1).bind fun bt346 => ((impl_StemBase.f bt346.1 bt346.2).bind fun t350 => ((laws_eqRuleS.f kj16 t350 t323).bind fun t353 => (if t353 = true then ((laws_heldRuleS.f kj16 t344 1).bind fun t354 => (if t354 < 0 then (some false) else (if t354 = t343 then (some true) else (some false)))) else (some false))))) else (some false)))) = some r := H
       have A45 := Aside0.mk A450
       clear A450
       replace H := Option.bind_eq_some_iff.mp H
       obtain ⟨t345, A460, H⟩ := H
       replace H : (if t345 < 0 then (some false) else (if t345 = t343 then ((laws_toContext.f kj16 a0_0 l0_1).bind fun bt346 => ((impl_StemBase.f bt346.1 bt346.2).bind fun t350 => ((laws_eqRuleS.f kj16 t350 t323).bind fun t353 => (if t353 = true then ((laws_heldRuleS.f kj16 t344 1).bind fun t354 => (if t354 < 0 then (some false) else (if t354 = t343 then (some true) else (some false)))) else (some false))))) else (some false))) = some r := H
       have A46 := Aside0.mk A460
       clear A460
       by_cases c47 : t345 < 0
       ·
        rw [if_pos c47] at H
        exact absurd ((Option.some.inj H).trans HRT.out) Bool.false_ne_true
       ·
        rw [if_neg c47] at H
        have c47b0 : decide (t345 < 0) = false := decide_eq_false c47
        clear c47
        by_cases c48 : t345 = t343
        ·
         rw [if_pos c48] at H
         have c48b0 : (t345 == t343) = true := beq_iff_eq.mpr c48
         have c48b1 : (t345 != t343) = false := bne_eq_false_iff_eq.mpr c48
         clear c48
         replace H := Option.bind_eq_some_iff.mp H
         obtain ⟨⟨t346, t347⟩, A490, H⟩ := H
         replace H : ((impl_StemBase.f t346 t347).bind fun t350 => ((laws_eqRuleS.f kj16 t350 t323).bind fun t353 => (if t353 = true then ((laws_heldRuleS.f kj16 t344 1).bind fun t354 => (if t354 < 0 then (some false) else (if t354 = t343 then (some true) else (some false)))) else (some false)))) = some r := H
         have A49 := Aside0.mk A490
         clear A490
         replace H := Option.bind_eq_some_iff.mp H
         obtain ⟨t350, A500, H⟩ := H
         replace H : ((laws_eqRuleS.f kj16 t350 t323).bind fun t353 => (if t353 = true then ((laws_heldRuleS.f kj16 t344 1).bind fun t354 => (if t354 < 0 then (some false) else (if t354 = t343 then (some true) else (some false)))) else (some false))) = some r := H
         have A50 := Aside0.mk A500
         clear A500
         replace H := Option.bind_eq_some_iff.mp H
         obtain ⟨t353, A510, H⟩ := H
         replace H : (if t353 = true then ((laws_heldRuleS.f kj16 t344 1).bind fun t354 => (if t354 < 0 then (some false) else (if t354 = t343 then (some true) else (some false)))) else (some false)) = some r := H
         have A51 := Aside0.mk A510
         clear A510
         by_cases c52 : t353 = true
         ·
          subst c52
          have H1 : ((laws_heldRuleS.f kj16 t344 1).bind fun t354 => (if t354 < 0 then (some false) else (if t354 = t343 then (some true) else (some false)))) = some r := by rw [if_pos rfl] at H; exact H
          clear H
          have H := H1
          clear H1
          replace H := Option.bind_eq_some_iff.mp H
          obtain ⟨t354, A530, H⟩ := H
          replace H : (if t354 < 0 then (some false) else (if t354 = t343 then (some true) else (some false))) = some r := H
          have A53 := Aside0.mk A530
          clear A530
          by_cases c54 : t354 < 0
          ·
           rw [if_pos c54] at H
           exact absurd ((Option.some.inj H).trans HRT.out) Bool.false_ne_true
          ·
           rw [if_neg c54] at H
           have c54b0 : decide (t354 < 0) = false := decide_eq_false c54
           clear c54
           by_cases c55 : t354 = t343
           ·
            rw [if_pos c55] at H
            have c55b0 : (t354 == t343) = true := beq_iff_eq.mpr c55
            have c55b1 : (t354 != t343) = false := bne_eq_false_iff_eq.mpr c55
            clear c55
            obtain rfl := Option.some.inj H
            go_wp2_with (first | ((with_reducible refine gate_callee (f := 23) rfl ?_); refine goesL_ (some 45) rfl rfl Tryd.func23 q16_21 rfl #[.slice Ao32 t331.length co32, .int .i64 1] rfl q16_10 ?_; (with_reducible refine (laws_markRuleS.calls kj16 (fun k_ => some k_ = (.slice Ao32 t331.length co32 : Value).ownBlock) (.slice Ao32 t331.length co32) t331 1 t343 t344 w _ ?side1 ?side2 A45.out).mono ?_); (case side1 => exact q16_9); (case side2 => exact Kd.R_tight rfl HO_6.out); rintro e w56 ⟨rfl, hy0, hb, hkp⟩; refine ⟨_, rfl, ?_⟩; have n0_ := Aside0.mk (Kd.R_mono (ok' := fun k_ => some k_ ≠ (.slice Ao32 t331.length co32 : Value).ownBlock) (Kd.R_keptB (HO_4.out) hkp (fun k_ hk_ hs_ => by first | exact hk_ hs_ | exact hk_.1.1.2 hs_ | exact hk_.1.1 hs_ | exact hk_.1.2 hs_ | exact hk_.2 hs_ | exact hk_.1 hs_ | exact hk_.1.1.1 hs_ | exact hk_.1.2.1 hs_ | exact hk_.1.2.2 hs_ | exact hk_.1.1.2.1 hs_ | exact hk_.1.1.2.2 hs_ | exact hk_.2.1 hs_ | exact hk_.2.2 hs_ | exact hk_.1.1.1.1 hs_ | exact hk_.1.1.1.2 hs_ | exact hk_.1.2.2.1 hs_ | exact hk_.1.2.2.2 hs_ | exact hk_.1.1.1.2.1 hs_ | exact hk_.1.1.1.2.2 hs_ | exact hk_.2.2.1 hs_ | exact hk_.2.2.2 hs_ | exact hk_.1.1.2.2.1 hs_ | exact hk_.1.1.2.2.2 hs_ | exact hk_.1.2.2.2.1 hs_ | exact hk_.1.2.2.2.2 hs_ | exact hk_.1.1.1.1.1 hs_ | exact hk_.1.1.1.1.2 hs_)) (fun k_ hk_ => hk_.1)); have n1_ := Aside0.mk (Kd.R_reok rfl hy0 (fun k_ e_ => HO_6.out.1 k_ e_)); have n2_ := Aside0.mk (blk_kept q16_12 hkp (fun hs_ => (fun e_ => (Kd.R_ne HO_6.out BK317.out (by decide)) e_) hs_)); have n3_ := Aside0.mk (hb); clear HO_4; clear HO_6; clear BK317; clear HB; have HO_4 := n0_; have HO_6 := n1_; have BK317 := n2_; have HB := n3_; clear n0_ n1_ n2_ n3_; (try clear hb); (try clear hkp); (try clear hy0)) | ((with_reducible refine gate_callee (f := 36) rfl ?_); refine goesL_ (some 48) rfl rfl Tryd.func36 q16_21 rfl #[.slice Ao32 t344.length co32, .int .i64 1] rfl q16_3 ?_; (with_reducible refine (laws_heldRuleS.calls kj16 _ _ t344 1 t345 _ ?side1 ?side2 A46.out).mono ?_); (case side1 => exact q16_8); (case side2 => rw [show t344.length = t331.length from (Kd.R_reads' HO_6.out).1.symm]; exact (Kd.R_reads' HO_6.out).2.1); rintro e w' ⟨rfl, ⟨nd, rfl⟩⟩; refine ⟨_, rfl, ?_⟩; have hcz57_0 : w56.cell? ⟨gb317, 0, none⟩ = some (.int .i64 a0_0) := (blk_cell BK317.out 0).trans rfl; have hcz57_1 : w56.cell? ⟨gb317, 1, none⟩ = some (.slice A0_1 l0_1.length c0_1) := (blk_cell BK317.out 1).trans rfl; have hfz57_0 := blk_frozen BK317.out 0; have hfz57_1 := blk_frozen BK317.out 1) | ((with_reducible refine gate_callee (f := 14) rfl ?_); refine goesL_ (some 55) rfl rfl Tryd.func14 q16_21 rfl #[.agg #[.int .i64 a0_0, .slice A0_1 l0_1.length c0_1]] rfl q16_10 ?_; (with_reducible refine (laws_toContext.calls kj16 a0_0 _ _ l0_1 t346 t347 _ ?side1 ?side2 A49.out).mono ?_); (case side1 => repeat (first | exact (Kd.C_below HR0_1.out q16_9) | (with_reducible refine Kd.C_alloc ?_ _) | (with_reducible refine Kd.C_drewN ?_ _) | (with_reducible refine Kd.C_drew ?_))); (case side2 => exact HC0_1.out); rintro e w58 ⟨v348, rfl, ho0, hb⟩; refine ⟨_, rfl, ?_⟩; have n0_ := Aside0.mk (Kd.R_below q16_18 hb); have n1_ := Aside0.mk (Kd.R_below q16_19 hb); have n2_ := Aside0.mk (Kd.R_lower ho0 (below_size q16_9)); have n3_ := Aside0.mk (blk_below (g := gb317) (o := .cells #[.int .i64 a0_0, .slice A0_1 l0_1.length c0_1] 24 (0, 0)) q16_12 hb); have n4_ := Aside0.mk (below_step q16_9 hb); clear HO_4; clear HO_6; clear BK317; clear HB; have HO_4 := n0_; have HO_6 := n1_; have HO349 := n2_; have BK317 := n3_; have HB := n4_; clear n0_ n1_ n2_ n3_ n4_; (try clear hb); (try clear hb2); (try clear hk); (try clear hi); (try clear ho0); obtain ⟨Ao59, co59, eo59⟩ := Kd.R_slice HO349.out; subst eo59) | ((with_reducible refine gate_callee (f := 42) rfl ?_); refine goesL_ (some 56) rfl rfl Tryd.func42 q16_21 rfl #[.agg #[.int .i64 t346, .slice Ao59 t347.length co59]] rfl q16_10 ?_; (with_reducible refine (impl_StemBase.calls t346 _ _ t347 t350 _ ?side1 ?side2 ?tab A50.out).mono ?_); (case tab => first | exact HTB.out | (refine Tab64.below HTB.out ?_; repeat (first | (with_reducible first | exact HB.out | apply below_alloc | apply pw_below_drewN | apply below_drew1 | refine below_set ?_ GE317.out | refine below_set ?_ GE330.out) | exact HB.out)) | (repeat (first | exact HTB.out | apply Tab64.drewN | apply Tab64.drew | apply Tab64.alloc))); (case side1 => repeat (first | exact (Kd.R_reads' HO349.out).2.2 | (with_reducible refine Kd.C_alloc ?_ _) | (with_reducible refine Kd.C_drewN ?_ _) | (with_reducible refine Kd.C_drew ?_))); (case side2 => exact (Kd.R_reads' HO349.out).2.1); rintro e w60 ⟨v351, rfl, ho0, hb⟩; refine ⟨_, rfl, ?_⟩; have n0_ := Aside0.mk (Kd.R_elder' q16_18 (Kd.R_base ho0) hb); have n1_ := Aside0.mk (Kd.R_elder' q16_19 (Kd.R_base ho0) hb); have n2_ := Aside0.mk (Kd.R_below (by (with_reducible repeat (first | apply Kd.R_alloc | apply Kd.R_drewN | apply Kd.R_drew)); exact HO349.out) hb); have n3_ := Aside0.mk (Kd.R_lower (Kd.R_new' (Kd.R_new' ho0 (Kd.R_lt q16_18)) (Kd.R_lt q16_19)) (below_size q16_9)); have n4_ := Aside0.mk (blk_below (g := gb317) (o := .cells #[.int .i64 a0_0, .slice A0_1 l0_1.length c0_1] 24 (0, 0)) q16_12 hb); have n5_ := Aside0.mk (below_step q16_9 hb); clear HO_4; clear HO_6; clear HO349; clear BK317; clear HB; have HO_4 := n0_; have HO_6 := n1_; have HO349 := n2_; have HO352 := n3_; have BK317 := n4_; have HB := n5_; clear n0_ n1_ n2_ n3_ n4_ n5_; (try clear hb); (try clear hb2); (try clear hk); (try clear hi); (try clear ho0); obtain ⟨Ao61, co61, eo61⟩ := Kd.R_slice HO352.out; subst eo61) | ((with_reducible refine gate_callee (f := 22) rfl ?_); refine goesL_ (some 59) rfl rfl Tryd.func22 q16_21 rfl #[.slice Ao61 t350.length co61, .slice Ao33 t323.length co33] rfl q16_10 ?_; (with_reducible refine (laws_eqRuleS.calls kj16 _ _ t350 _ _ t323 true _ ?side1 ?side2 ?side3 ?side4 A51.out).mono ?_); (case side1 => repeat (first | exact (Kd.R_reads' HO352.out).2.2 | (with_reducible refine Kd.C_alloc ?_ _) | (with_reducible refine Kd.C_drewN ?_ _) | (with_reducible refine Kd.C_drew ?_))); (case side2 => exact (Kd.R_reads' HO352.out).2.1); (case side3 => repeat (first | exact (Kd.R_reads' HO_4.out).2.2 | (with_reducible refine Kd.C_alloc ?_ _) | (with_reducible refine Kd.C_drewN ?_ _) | (with_reducible refine Kd.C_drew ?_))); (case side4 => exact (Kd.R_reads' HO_4.out).2.1); rintro e w62 ⟨rfl, hb⟩; refine ⟨_, rfl, ?_⟩; have n0_ := Aside0.mk (Kd.R_below q16_18 hb); have n1_ := Aside0.mk (Kd.R_below q16_19 hb); have n2_ := Aside0.mk (Kd.R_below (by (with_reducible repeat (first | apply Kd.R_alloc | apply Kd.R_drewN | apply Kd.R_drew)); exact HO349.out) hb); have n3_ := Aside0.mk (Kd.R_below (by (with_reducible repeat (first | apply Kd.R_alloc | apply Kd.R_drewN | apply Kd.R_drew)); exact HO352.out) hb); have n4_ := Aside0.mk (blk_below (g := gb317) (o := .cells #[.int .i64 a0_0, .slice A0_1 l0_1.length c0_1] 24 (0, 0)) q16_12 hb); have n5_ := Aside0.mk (below_step q16_9 hb); clear HO_4; clear HO_6; clear HO349; clear HO352; clear BK317; clear HB; have HO_4 := n0_; have HO_6 := n1_; have HO349 := n2_; have HO352 := n3_; have BK317 := n4_; have HB := n5_; clear n0_ n1_ n2_ n3_ n4_ n5_; (try clear hb); (try clear hb2); (try clear hk); (try clear hi)) | ((with_reducible refine gate_callee (f := 36) rfl ?_); refine goesL_ (some 63) rfl rfl Tryd.func36 q16_21 rfl #[.slice Ao32 t344.length co32, .int .i64 1] rfl q16_3 ?_; (with_reducible refine (laws_heldRuleS.calls kj16 _ _ t344 1 t354 _ ?side1 ?side2 A53.out).mono ?_); (case side1 => exact q16_8); (case side2 => rw [show t344.length = t331.length from (Kd.R_reads' HO_6.out).1.symm]; exact (Kd.R_reads' HO_6.out).2.1); rintro e w' ⟨rfl, ⟨nd, rfl⟩⟩; refine ⟨_, rfl, ?_⟩))
            go_ret
            exact ⟨by first | rfl | (simp [errW_none, errW_some] <;> rfl) | (simp [*, errW_none, errW_some] <;> rfl), by repeat (first | (with_reducible first | exact HB.out | apply below_alloc | apply pw_below_drewN | apply below_drew1 | refine below_set ?_ GE317.out) | exact HB.out)⟩
           ·
            rw [if_neg c55] at H
            exact absurd ((Option.some.inj H).trans HRT.out) Bool.false_ne_true
         ·
          replace c52 := Bool.eq_false_iff.mpr c52
          subst c52
          have H1 : (some false) = some r := q16_20
          clear H
          have H := H1
          clear H1
          exact absurd ((Option.some.inj H).trans HRT.out) Bool.false_ne_true
        ·
         rw [if_neg c48] at H
         exact absurd ((Option.some.inj H).trans HRT.out) Bool.false_ne_true
   ·
    replace c15 := Bool.eq_false_iff.mpr c15
    subst c15
    have H1 : (some false) = some r := q16_20
    clear H
    have H := H1
    clear H1
    exact absurd ((Option.some.inj H).trans HRT.out) Bool.false_ne_true
  ·
   replace c12 := Bool.eq_false_iff.mpr c12
   subst c12
   have H1 : (some false) = some r := q16_20
   clear H
   have H := H1
   clear H1
   exact absurd ((Option.some.inj H).trans HRT.out) Bool.false_ne_true
end Go.Proofs.YtbflblmkdnhboaaDoor.Pr
