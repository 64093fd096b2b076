/- What the law needs of the program's functions as plain functions, of the proofs that their calls answer so, and of plain laws: gathered by a program of this place (pack.py) out of its printed texts. No condition beyond what each statement says. -/
import Derived.Test.YtamjnninbdnjhaaZXRulesText2
import Derived.Test.YtamjnninbdnjhaaZXRulesText3
import Derived.Test.YtamjnninbdnjhaaZXRulesText4
import Derived.Test.YtamjnninbdnjhaaZXRulesText7
namespace Go.Proofs.Ytamjnninbdnjhaa.Pr
open Go.RowKit Go.Proofs.YtamjnninbdnjhaaW.PrintWords Go.Proofs.YtamjnninbdnjhaaW.PrintLast Go.Proofs.YtamjnninbdnjhaaW.PrintMore
attribute [local go_sem] max2_int min2_int max_two min_two max_three min_three max_four min_four   -- for this text's walks alone
set_option linter.unusedVariables false
set_option linter.unusedSimpArgs false
theorem q6_1 {P : Prop} (h : P := by repeat (first | exact (Kd.C_below HR0.out HB.out) | (with_reducible refine Kd.C_alloc ?_ _) | (with_reducible refine Kd.C_drewN ?_ _) | (with_reducible refine Kd.C_drew ?_))) : P := h
theorem q6_2 {P : Prop} (h : P := by repeat (first | exact (Kd.R_reads' HO213.out).2.2 | (with_reducible refine Kd.C_alloc ?_ _) | (with_reducible refine Kd.C_drewN ?_ _) | (with_reducible refine Kd.C_drew ?_))) : P := h
theorem q6_3 {P : Prop} (h : P := by repeat (first | exact HR0.out | (with_reducible refine Kd.C_alloc ?_ _) | (with_reducible refine Kd.C_drewN ?_ _) | (with_reducible refine Kd.C_drew ?_))) : P := h
theorem q6_4 {P : Prop} (h : P := by (try simp only [List.map_toArray, List.map_cons, List.map_nil]); first | done | rfl | (simp only [List.length_drop, List.length_take]; rfl)) : P := h
theorem q6_5 {P : Prop} (h : P := by repeat (first | (with_reducible first | exact HB.out | apply below_alloc | apply pw_below_drewN | apply below_drew1) | exact HB.out)) : P := h
theorem q6_6 {P : Prop} (h : P := by (with_reducible repeat (first | apply Kd.R_alloc | apply Kd.R_drewN | apply Kd.R_drew)); exact HO209.out) : P := h
theorem q6_7 {P : Prop} (h : P := by (with_reducible repeat (first | apply Kd.R_alloc | apply Kd.R_drewN | apply Kd.R_drew)); exact HO213.out) : P := h
def laws_FnExactRulesText.f (k : Nat) (l0 : List (S40)) : Option (Bool) := (laws_szRuleS.f l0 1048576).bind fun t206 => (if t206 < 0 then (some true) else ((laws_toRuleS.f k l0).bind fun t207 => ((spec_RulesText.f k t207).bind fun t210 => ((laws_toRuleS.f k l0).bind fun t211 => ((impl_RulesText.f k t211).bind fun t214 => (if t214.toList = t210.toList then ((laws_toRuleS.f k l0).bind fun t215 => ((laws_eqRuleS.f k t211 t215).bind fun t218 => (if t218 = true then (some true) else (some false)))) else (some false)))))))
set_option maxHeartbeats 8000000 in
set_option maxRecDepth 100000 in
theorem laws_FnExactRulesText.calls (k : Nat) (A0 : Option Addr) (c0 : Nat) (l0 : List (S40)) (r : Bool) (w : World) (hr0 : Kd.C k40 w A0 l0.length l0) (hc0 : l0.length ≤ c0) (hrt : r = true) (h : laws_FnExactRulesText.f k l0 = some r) :
  Calls Try.prog 6 #[.slice A0 l0.length c0] w fun e w' => e = .returned (.bool r) ∧ Below w.heap.size w w' := by
 have HR0 := Aside0.mk hr0
 have HC0 := Aside0.mk hc0
 clear hr0 hc0
 have HB := Aside0.mk (Below.refl w.heap.size w)
 have HRT := Aside0.mk hrt
 clear hrt
 have H : ((laws_szRuleS.f l0 1048576).bind fun t206 => (if t206 < 0 then (some true) else ((laws_toRuleS.f k l0).bind fun t207 => ((spec_RulesText.f k t207).bind fun t210 => ((laws_toRuleS.f k l0).bind fun t211 => ((impl_RulesText.f k t211).bind fun t214 => (if t214.toList = t210.toList then ((laws_toRuleS.f k l0).bind fun t215 => ((laws_eqRuleS.f k t211 t215).bind fun t218 => (if t218 = true then (some true) else (some false)))) else (some false)))))))) = some r := h
 clear h
 replace H := Option.bind_eq_some_iff.mp H
 obtain ⟨t206, A20, H⟩ := H
 replace H : (if t206 < 0 then (some true) else ((laws_toRuleS.f k l0).bind fun t207 => ((spec_RulesText.f k t207).bind fun t210 => ((laws_toRuleS.f k l0).bind fun t211 => ((impl_RulesText.f k t211).bind fun t214 => (if t214.toList = t210.toList then ((laws_toRuleS.f k l0).bind fun t215 => ((laws_eqRuleS.f k t211 t215).bind fun t218 => (if t218 = true then (some true) else (some false)))) else (some false))))))) = some r := H
 have A2 := Aside0.mk A20
 clear A20
 by_cases c3 : t206 < 0
 ·
  rw [if_pos c3] at H
  have c3b0 : decide (t206 < 0) = true := decide_eq_true c3
  clear c3
  obtain rfl := Option.some.inj H
  go_enter Try.func6, Try.ntmps6
  go_wp2_with (first | ((with_reducible refine gate_callee (f := 13) rfl ?_); refine goesL_ (some 9) rfl rfl Try.func13 (by kernel_rfl) rfl #[.slice A0 l0.length c0, .int .i64 1048576] rfl q6_4 ?_; (with_reducible refine (laws_szRuleS.calls _ _ l0 1048576 t206 _ ?side1 ?side2 A2.out).mono ?_); (case side1 => exact q6_3); (case side2 => exact HC0.out); rintro e w' ⟨rfl, ⟨nd, rfl⟩⟩; refine ⟨_, rfl, ?_⟩))
  go_ret
  exact ⟨by first | rfl | (simp [errW_none, errW_some] <;> rfl) | (simp [*, errW_none, errW_some] <;> rfl), by repeat (first | (with_reducible first | exact HB.out | apply below_alloc | apply pw_below_drewN | apply below_drew1) | exact HB.out)⟩
 ·
  rw [if_neg c3] at H
  have c3b0 : decide (t206 < 0) = false := decide_eq_false c3
  clear c3
  replace H := Option.bind_eq_some_iff.mp H
  obtain ⟨t207, A40, H⟩ := H
  replace H : ((spec_RulesText.f k t207).bind fun t210 => ((laws_toRuleS.f k l0).bind fun t211 => ((impl_RulesText.f k t211).bind fun t214 => (if t214.toList = t210.toList then ((laws_toRuleS.f k l0).bind fun t215 => ((laws_eqRuleS.f k t211 t215).bind fun t218 => (if t218 = true then (some true) else (some false)))) else (some false))))) = some r := H
  have A4 := Aside0.mk A40
  clear A40
  replace H := Option.bind_eq_some_iff.mp H
  obtain ⟨t210, A50, H⟩ := H
  replace H : ((laws_toRuleS.f k l0).bind fun t211 => ((impl_RulesText.f k t211).bind fun t214 => (if t214.toList = t210.toList then ((laws_toRuleS.f k l0).bind fun t215 => ((laws_eqRuleS.f k t211 t215).bind fun t218 => (if t218 = true then (some true) else (some false)))) else (some false)))) = some r := H
  have A5 := Aside0.mk A50
  clear A50
  replace H := Option.bind_eq_some_iff.mp H
  obtain ⟨t211, A60, H⟩ := H
  replace H : ((impl_RulesText.f k t211).bind fun t214 => (if t214.toList = t210.toList then ((laws_toRuleS.f k l0).bind fun t215 => ((laws_eqRuleS.f k t211 t215).bind fun t218 => (if t218 = true then (some true) else (some false)))) else (some false))) = some r := H
  have A6 := Aside0.mk A60
  clear A60
  replace H := Option.bind_eq_some_iff.mp H
  obtain ⟨t214, A70, H⟩ := H
  replace H : (if t214.toList = t210.toList then ((laws_toRuleS.f k l0).bind fun t215 => ((laws_eqRuleS.f k t211 t215).bind fun t218 => (if t218 = true then (some true) else (some false)))) else (some false)) = some r := H
  have A7 := Aside0.mk A70
  clear A70
  by_cases c8 : t214.toList = t210.toList
  ·
   rw [if_pos c8] at H
   have c8b0 : (t214.toList == t210.toList) = true := beq_iff_eq.mpr c8
   have c8b1 : (t214.toList != t210.toList) = false := bne_eq_false_iff_eq.mpr c8
   clear c8
   replace H := Option.bind_eq_some_iff.mp H
   obtain ⟨t215, A90, H⟩ := H
   replace H : ((laws_eqRuleS.f k t211 t215).bind fun t218 => (if t218 = true then (some true) else (some false))) = some r := H
   have A9 := Aside0.mk A90
   clear A90
   replace H := Option.bind_eq_some_iff.mp H
   obtain ⟨t218, A100, H⟩ := H
   replace H : (if t218 = true then (some true) else (some false)) = some r := H
   have A10 := Aside0.mk A100
   clear A100
   by_cases c11 : t218 = true
   ·
    subst c11
    have H1 : (some true) = some r := by rw [if_pos rfl] at H; exact H
    clear H
    have H := H1
    clear H1
    obtain rfl := Option.some.inj H
    go_enter Try.func6, Try.ntmps6
    go_wp2_with (first | ((with_reducible refine gate_callee (f := 13) rfl ?_); refine goesL_ (some 9) rfl rfl Try.func13 (by kernel_rfl) rfl #[.slice A0 l0.length c0, .int .i64 1048576] rfl q6_4 ?_; (with_reducible refine (laws_szRuleS.calls _ _ l0 1048576 t206 _ ?side1 ?side2 A2.out).mono ?_); (case side1 => exact q6_3); (case side2 => exact HC0.out); rintro e w' ⟨rfl, ⟨nd, rfl⟩⟩; refine ⟨_, rfl, ?_⟩) | ((with_reducible refine gate_callee (f := 15) rfl ?_); refine goesL_ (some 13) rfl rfl Try.func15 (by kernel_rfl) rfl #[.slice A0 l0.length c0] rfl q6_4 ?_; (with_reducible refine (laws_toRuleS.calls k _ _ l0 t207 _ ?side1 ?side2 A4.out).mono ?_); (case side1 => exact q6_3); (case side2 => exact HC0.out); rintro e w12 ⟨v208, rfl, ho0, hb⟩; refine ⟨_, rfl, ?_⟩; have n0_ := Aside0.mk (Kd.R_lower ho0 (below_size q6_5)); have n1_ := Aside0.mk (below_step q6_5 hb); clear HB; have HO209 := n0_; have HB := n1_; clear n0_ n1_; (try clear hb); (try clear hb2); (try clear hk); (try clear hi); (try clear ho0); obtain ⟨Ao13, co13, eo13⟩ := Kd.R_slice HO209.out; subst eo13) | ((with_reducible refine gate_callee (f := 26) rfl ?_); refine goesL_ (some 14) rfl rfl Try.func26 (by kernel_rfl) rfl #[.slice Ao13 t207.length co13] rfl q6_4 ?_; (with_reducible refine (spec_RulesText.calls k _ _ t207 t210 _ ?side1 ?side2 A5.out).mono ?_); (case side1 => repeat (first | exact (Kd.R_reads' HO209.out).2.2 | (with_reducible refine Kd.C_alloc ?_ _) | (with_reducible refine Kd.C_drewN ?_ _) | (with_reducible refine Kd.C_drew ?_))); (case side2 => exact (Kd.R_reads' HO209.out).2.1); rintro e w14 ⟨rfl, hb⟩; refine ⟨_, rfl, ?_⟩; have n0_ := Aside0.mk (Kd.R_below q6_6 hb); have n1_ := Aside0.mk (below_step q6_5 hb); clear HO209; clear HB; have HO209 := n0_; have HB := n1_; clear n0_ n1_; (try clear hb); (try clear hb2); (try clear hk); (try clear hi)) | ((with_reducible refine gate_callee (f := 15) rfl ?_); refine goesL_ (some 16) rfl rfl Try.func15 (by kernel_rfl) rfl #[.slice A0 l0.length c0] rfl q6_4 ?_; (with_reducible refine (laws_toRuleS.calls k _ _ l0 t211 _ ?side1 ?side2 A6.out).mono ?_); (case side1 => exact q6_1); (case side2 => exact HC0.out); rintro e w15 ⟨v212, rfl, ho0, hb⟩; refine ⟨_, rfl, ?_⟩; have n0_ := Aside0.mk (Kd.R_elder' q6_6 (Kd.R_base ho0) hb); have n1_ := Aside0.mk (Kd.R_lower (Kd.R_new' ho0 (Kd.R_lt q6_6)) (below_size q6_5)); have n2_ := Aside0.mk (below_step q6_5 hb); clear HO209; clear HB; have HO209 := n0_; have HO213 := n1_; have HB := n2_; clear n0_ n1_ n2_; (try clear hb); (try clear hb2); (try clear hk); (try clear hi); (try clear ho0); obtain ⟨Ao16, co16, eo16⟩ := Kd.R_slice HO213.out; subst eo16) | ((with_reducible refine gate_callee (f := 27) rfl ?_); refine goesL_ (some 18) rfl rfl Try.func27 (by kernel_rfl) rfl #[.slice Ao16 t211.length co16] rfl q6_4 ?_; (with_reducible refine (impl_RulesText.calls k _ _ t211 t214 _ ?side1 ?side2 A7.out).mono ?_); (case side1 => exact q6_2); (case side2 => exact (Kd.R_reads' HO213.out).2.1); rintro e w17 ⟨rfl, hb⟩; refine ⟨_, rfl, ?_⟩; have n0_ := Aside0.mk (Kd.R_below q6_6 hb); have n1_ := Aside0.mk (Kd.R_below q6_7 hb); have n2_ := Aside0.mk (below_step q6_5 hb); clear HO209; clear HO213; clear HB; have HO209 := n0_; have HO213 := n1_; have HB := n2_; clear n0_ n1_ n2_; (try clear hb); (try clear hb2); (try clear hk); (try clear hi)) | ((with_reducible refine gate_callee (f := 15) rfl ?_); refine goesL_ (some 24) rfl rfl Try.func15 (by kernel_rfl) rfl #[.slice A0 l0.length c0] rfl q6_4 ?_; (with_reducible refine (laws_toRuleS.calls k _ _ l0 t215 _ ?side1 ?side2 A9.out).mono ?_); (case side1 => exact q6_1); (case side2 => exact HC0.out); rintro e w18 ⟨v216, rfl, ho0, hb⟩; refine ⟨_, rfl, ?_⟩; have n0_ := Aside0.mk (Kd.R_elder' q6_6 (Kd.R_base ho0) hb); have n1_ := Aside0.mk (Kd.R_elder' q6_7 (Kd.R_base ho0) hb); have n2_ := Aside0.mk (Kd.R_lower (Kd.R_new' (Kd.R_new' ho0 (Kd.R_lt q6_6)) (Kd.R_lt q6_7)) (below_size q6_5)); have n3_ := Aside0.mk (below_step q6_5 hb); clear HO209; clear HO213; clear HB; have HO209 := n0_; have HO213 := n1_; have HO217 := n2_; have HB := n3_; clear n0_ n1_ n2_ n3_; (try clear hb); (try clear hb2); (try clear hk); (try clear hi); (try clear ho0); obtain ⟨Ao19, co19, eo19⟩ := Kd.R_slice HO217.out; subst eo19) | ((with_reducible refine gate_callee (f := 19) rfl ?_); refine goesL_ (some 25) rfl rfl Try.func19 (by kernel_rfl) rfl #[.slice Ao16 t211.length co16, .slice Ao19 t215.length co19] rfl q6_4 ?_; (with_reducible refine (laws_eqRuleS.calls k _ _ t211 _ _ t215 true _ ?side1 ?side2 ?side3 ?side4 A10.out).mono ?_); (case side1 => exact q6_2); (case side2 => exact (Kd.R_reads' HO213.out).2.1); (case side3 => repeat (first | exact (Kd.R_reads' HO217.out).2.2 | (with_reducible refine Kd.C_alloc ?_ _) | (with_reducible refine Kd.C_drewN ?_ _) | (with_reducible refine Kd.C_drew ?_))); (case side4 => exact (Kd.R_reads' HO217.out).2.1); rintro e w20 ⟨rfl, hb⟩; refine ⟨_, rfl, ?_⟩; have n0_ := Aside0.mk (Kd.R_below q6_6 hb); have n1_ := Aside0.mk (Kd.R_below q6_7 hb); have n2_ := Aside0.mk (Kd.R_below (by (with_reducible repeat (first | apply Kd.R_alloc | apply Kd.R_drewN | apply Kd.R_drew)); exact HO217.out) hb); have n3_ := Aside0.mk (below_step q6_5 hb); clear HO209; clear HO213; clear HO217; clear HB; have HO209 := n0_; have HO213 := n1_; have HO217 := n2_; have HB := n3_; clear n0_ n1_ n2_ n3_; (try clear hb); (try clear hb2); (try clear hk); (try clear hi)))
    go_ret
    exact ⟨by first | rfl | (simp [errW_none, errW_some] <;> rfl) | (simp [*, errW_none, errW_some] <;> rfl), by repeat (first | (with_reducible first | exact HB.out | apply below_alloc | apply pw_below_drewN | apply below_drew1) | exact HB.out)⟩
   ·
    replace c11 := Bool.eq_false_iff.mpr c11
    subst c11
    have H1 : (some false) = some r := by rw [if_neg (show ¬ (false = true) by decide)] at H; exact H
    clear H
    have H := H1
    clear H1
    exact absurd ((Option.some.inj H).trans HRT.out) Bool.false_ne_true
  ·
   rw [if_neg c8] at H
   exact absurd ((Option.some.inj H).trans HRT.out) Bool.false_ne_true
end Go.Proofs.Ytamjnninbdnjhaa.Pr
