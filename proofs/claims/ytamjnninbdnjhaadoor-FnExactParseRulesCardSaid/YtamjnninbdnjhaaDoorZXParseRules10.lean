/- What the law needs of the program's functions as plain functions, of the proofs that their calls answer so, and of plain laws: gathered by a program of this place (pack.py) out of its printed texts. No condition beyond what each statement says. -/
import Derived.Test.YtamjnninbdnjhaaDoorZXParseRules2
import Derived.Test.YtamjnninbdnjhaaDoorZXParseRules4
import Derived.Test.YtamjnninbdnjhaaDoorZXParseRules5
import Derived.Test.YtamjnninbdnjhaaDoorZXParseRules9
namespace Go.Proofs.YtamjnninbdnjhaaDoor.Pr
open Go.RowKit Go.Proofs.YtamjnninbdnjhaaDoorW.PrintWords Go.Proofs.YtamjnninbdnjhaaDoorW.PrintLast Go.Proofs.YtamjnninbdnjhaaDoorW.PrintMore
attribute [local go_sem] max2_int min2_int max_two min_two max_three min_three max_four min_four   -- for this text's walks alone
set_option linter.unusedVariables false
set_option linter.unusedSimpArgs false
theorem q6_1 {P : Prop} (h : P := by repeat (first | exact (Kd.R_reads' HO_5.out).2.2 | (with_reducible refine Kd.C_alloc ?_ _) | (with_reducible refine Kd.C_drewN ?_ _) | (with_reducible refine Kd.C_drew ?_))) : P := h
theorem q6_2 {P : Prop} (h : P := by (try simp only [List.map_toArray, List.map_cons, List.map_nil]); first | done | rfl | (simp only [List.length_drop, List.length_take]; rfl)) : P := h
theorem q6_3 {P : Prop} (h : P := by repeat (first | (with_reducible first | exact HB.out | apply below_alloc | apply pw_below_drewN | apply below_drew1) | exact HB.out)) : P := h
theorem q6_4 {P : Prop} (h : P := by (with_reducible repeat (first | apply Kd.R_alloc | apply Kd.R_drewN | apply Kd.R_drew)); exact HO215.out) : P := h
theorem q6_5 {P : Prop} (h : P := by (with_reducible repeat (first | apply Kd.R_alloc | apply Kd.R_drewN | apply Kd.R_drew)); exact HO_3.out) : P := h
theorem q6_6 {P : Prop} (h : P := by (with_reducible repeat (first | apply Kd.R_alloc | apply Kd.R_drewN | apply Kd.R_drew)); exact HO_5.out) : P := h
theorem q6_7 {P : Prop} (h : P := by rw [if_neg (show ¬ (false = true) by decide)] at H; exact H) : P := h
mutual
def laws_FnExactParseRules.j0 : Nat → ByteArray → List (S27) → Bool → List (S27) → Bool → Option (Bool)
 | 0, _, _, _, _, _ => none
 | k + 1, x0, x3, x4, x5, x32 => if x32 = true then (some false) else ((laws_markRuleS.f k x5 1).bind fun bt221 => ((laws_heldRuleS.f k bt221.2 1).bind fun t223 => (if t223 < 0 then (some false) else (if t223 = bt221.1 then ((impl_ParseRules.f k x0).bind fun bt224 => ((laws_eqRuleS.f k bt224.1 x3).bind fun t228 => (if t228 = true then (laws_FnExactParseRules.j1 k bt221.2 bt221.1 (bt224.2 != x4)) else (laws_FnExactParseRules.j1 k bt221.2 bt221.1 true)))) else (some false)))))
def laws_FnExactParseRules.j1 : Nat → List (S27) → Int → Bool → Option (Bool)
 | 0, _, _, _ => none
 | k + 1, x5, x7, x57 => if x57 = true then (some false) else ((laws_heldRuleS.f k x5 1).bind fun t229 => (if t229 < 0 then (some false) else (if t229 = x7 then (some true) else (some false))))
end
def laws_FnExactParseRules.f (k : Nat) (a0 : ByteArray) : Option (Bool) := if (a0.size : Int) > 1048576 then (some true) else ((spec_ParseRules.f k a0).bind fun bt212 => ((impl_ParseRules.f k a0).bind fun bt216 => ((laws_eqRuleS.f k bt216.1 bt212.1).bind fun t220 => (if t220 = true then (laws_FnExactParseRules.j0 k a0 bt212.1 bt212.2 bt216.1 (bt216.2 != bt212.2)) else (laws_FnExactParseRules.j0 k a0 bt212.1 bt212.2 bt216.1 true)))))
set_option maxHeartbeats 8000000 in
set_option maxRecDepth 100000 in
theorem laws_FnExactParseRules.calls (k : Nat) (a0 : ByteArray) (r : Bool) (w : World) (hrt : r = true) (htab : TabMax w) (h : laws_FnExactParseRules.f k a0 = some r) :
  Calls Tryd.prog 4 #[.string a0] w fun e w' => e = .returned (.bool r) ∧ Below w.heap.size w w' := by
 have HTB := Aside0.mk htab
 clear htab
 have HB := Aside0.mk (Below.refl w.heap.size w)
 have HRT := Aside0.mk hrt
 clear hrt
 have H : (if (a0.size : Int) > 1048576 then (some true) else ((spec_ParseRules.f k a0).bind fun bt212 => ((impl_ParseRules.f k a0).bind fun bt216 => ((laws_eqRuleS.f k bt216.1 bt212.1).bind fun t220 => (if t220 = true then (laws_FnExactParseRules.j0 k a0 bt212.1 bt212.2 bt216.1 (bt216.2 != bt212.2)) else (laws_FnExactParseRules.j0 k a0 bt212.1 bt212.2 bt216.1 true)))))) = some r := h
 clear h
 by_cases c2 : (a0.size : Int) > 1048576
 ·
  rw [if_pos c2] at H
  have c2b0 : decide (1048576 < (a0.size : Int)) = true := decide_eq_true c2
  have c2b1 : decide (1048576 < a0.size) = true := decide_eq_true (by omega)
  clear c2
  obtain rfl := Option.some.inj H
  go_enter Tryd.func4, Tryd.ntmps4
  go_wp2
  go_ret
  exact ⟨by first | rfl | (simp [errW_none, errW_some] <;> rfl) | (simp [*, errW_none, errW_some] <;> rfl), by repeat (first | (with_reducible first | exact HB.out | apply below_alloc | apply pw_below_drewN | apply below_drew1) | exact HB.out)⟩
 ·
  rw [if_neg c2] at H
  have c2b0 : decide (1048576 < (a0.size : Int)) = false := decide_eq_false c2
  have c2b1 : decide (1048576 < a0.size) = false := decide_eq_false (by omega)
  clear c2
  replace H := Option.bind_eq_some_iff.mp H
  obtain ⟨⟨t212, t213⟩, A30, H⟩ := H
  replace H : ((impl_ParseRules.f k a0).bind fun bt216 => ((laws_eqRuleS.f k bt216.1 t212).bind fun t220 => (if t220 = true then (laws_FnExactParseRules.j0 k a0 t212 t213 bt216.1 (bt216.2 != t213)) else (laws_FnExactParseRules.j0 k a0 t212 t213 bt216.1 true)))) = some r := H
  have A3 := Aside0.mk A30
  clear A30
  replace H := Option.bind_eq_some_iff.mp H
  obtain ⟨⟨t216, t217⟩, A40, H⟩ := H
  replace H : ((laws_eqRuleS.f k t216 t212).bind fun t220 => (if t220 = true then (laws_FnExactParseRules.j0 k a0 t212 t213 t216 (t217 != t213)) else (laws_FnExactParseRules.j0 k a0 t212 t213 t216 true))) = some r := H
  have A4 := Aside0.mk A40
  clear A40
  have HC5 := Aside0.mk H
  clear H
  go_enter Tryd.func4, Tryd.ntmps4
  go_upto_region 5 with (first | ((with_reducible refine gate_callee (f := 10) rfl ?_); refine goesL_ (some 16) rfl rfl Tryd.func10 (by kernel_rfl) rfl #[.string a0] rfl q6_2 ?_; (with_reducible refine (spec_ParseRules.calls k a0 t212 t213 _ A3.out).mono ?_); rintro e w6 ⟨v214, rfl, ho0, hb⟩; refine ⟨_, rfl, ?_⟩; have n0_ := Aside0.mk (Kd.R_lower ho0 (below_size q6_3)); have n1_ := Aside0.mk (below_step q6_3 hb); clear HB; have HO215 := n0_; have HB := n1_; clear n0_ n1_; (try clear hb); (try clear hb2); (try clear hk); (try clear hi); (try clear ho0)) | ((with_reducible refine gate_callee (f := 11) rfl ?_); refine goesL_ (some 21) rfl rfl Tryd.func11 (by kernel_rfl) rfl #[.string a0] rfl q6_2 ?_; (with_reducible refine (impl_ParseRules.calls k a0 t216 t217 _ ?tab A4.out).mono ?_); (case tab => first | exact HTB.out | (refine TabMax.below HTB.out ?_; repeat (first | (with_reducible first | exact HB.out | apply below_alloc | apply pw_below_drewN | apply below_drew1) | exact HB.out)) | (repeat (first | exact HTB.out | apply TabMax.drewN | apply TabMax.drew | apply TabMax.alloc))); rintro e w7 ⟨v218, rfl, ho0, hb⟩; refine ⟨_, rfl, ?_⟩; have n0_ := Aside0.mk (Kd.R_elder' q6_4 (Kd.R_base ho0) hb); have n1_ := Aside0.mk (Kd.R_lower (Kd.R_new' ho0 (Kd.R_lt q6_4)) (below_size q6_3)); have n2_ := Aside0.mk (below_step q6_3 hb); clear HO215; clear HB; have HO215 := n0_; have HO219 := n1_; have HB := n2_; clear n0_ n1_ n2_; (try clear hb); (try clear hb2); (try clear hk); (try clear hi); (try clear ho0)))
  (try simp only [Act.put, List.setIfInBounds_toArray, List.set_cons_zero, List.set_cons_succ])
  go_cut [32] (fun v32 wc => ∃ (kq : Nat) (x32_4 : Bool), v32 = .bool x32_4 ∧ Aside0 (laws_FnExactParseRules.j0 kq a0 t212 t213 t216 x32_4 = some r) ∧ Aside0 (kq ≤ k) ∧ Aside0 (Kd.R k27 27 wc w.heap.size (fun k_ => some k_ ≠ (v218 : Value).ownBlock) v214 t212) ∧ Aside0 (Kd.R k27 27 wc w.heap.size (fun k_ => some k_ ≠ (v214 : Value).ownBlock) v218 t216) ∧ Aside0 (Below w.heap.size w wc))
  case first =>
   have H := HC5.out
   clear HC5
   replace H := Option.bind_eq_some_iff.mp H
   obtain ⟨t220, A80, H⟩ := H
   replace H : (if t220 = true then (laws_FnExactParseRules.j0 k a0 t212 t213 t216 (t217 != t213)) else (laws_FnExactParseRules.j0 k a0 t212 t213 t216 true)) = some r := H
   have A8 := Aside0.mk A80
   clear A80
   by_cases c9 : t220 = true
   ·
    subst c9
    have H1 : (laws_FnExactParseRules.j0 k a0 t212 t213 t216 (t217 != t213)) = some r := by rw [if_pos rfl] at H; exact H
    clear H
    have H := H1
    clear H1
    have H' := Aside0.mk H
    clear H
    obtain ⟨Ao10, co10, eo10⟩ := Kd.R_slice HO219.out
    subst eo10
    obtain ⟨Ao11, co11, eo11⟩ := Kd.R_slice HO215.out
    subst eo11
    go_wp2_with (first | ((with_reducible refine gate_callee (f := 12) rfl ?_); refine goesL_ (some 26) rfl rfl Tryd.func12 (by kernel_rfl) rfl #[.slice Ao10 t216.length co10, .slice Ao11 t212.length co11] rfl q6_2 ?_; (with_reducible refine (laws_eqRuleS.calls k _ _ t216 _ _ t212 true _ ?side1 ?side2 ?side3 ?side4 A8.out).mono ?_); (case side1 => repeat (first | exact (Kd.R_reads' HO219.out).2.2 | (with_reducible refine Kd.C_alloc ?_ _) | (with_reducible refine Kd.C_drewN ?_ _) | (with_reducible refine Kd.C_drew ?_))); (case side2 => exact (Kd.R_reads' HO219.out).2.1); (case side3 => repeat (first | exact (Kd.R_reads' HO215.out).2.2 | (with_reducible refine Kd.C_alloc ?_ _) | (with_reducible refine Kd.C_drewN ?_ _) | (with_reducible refine Kd.C_drew ?_))); (case side4 => exact (Kd.R_reads' HO215.out).2.1); rintro e w12 ⟨rfl, hb⟩; refine ⟨_, rfl, ?_⟩; have n0_ := Aside0.mk (Kd.R_below q6_4 hb); have n1_ := Aside0.mk (Kd.R_below (by (with_reducible repeat (first | apply Kd.R_alloc | apply Kd.R_drewN | apply Kd.R_drew)); exact HO219.out) hb); have n2_ := Aside0.mk (below_step q6_3 hb); clear HO215; clear HO219; clear HB; have HO215 := n0_; have HO219 := n1_; have HB := n2_; clear n0_ n1_ n2_; (try clear hb); (try clear hb2); (try clear hk); (try clear hi)))
    go_meet
    case rel => exact ⟨_, ((t217 != t213)), (by first | rfl | (simp; done) | (simp [*]; done) | (simp [i64_w, i32_w]; done)), H', ⟨by first | omega | exact Nat.le_refl _⟩, ⟨by (with_reducible repeat (first | apply Kd.R_alloc | apply Kd.R_drewN | apply Kd.R_drew)); exact Kd.R_mono HO215.out (fun _ hk => hk.2)⟩, ⟨by (with_reducible repeat (first | apply Kd.R_alloc | apply Kd.R_drewN | apply Kd.R_drew)); exact Kd.R_mono HO219.out (fun _ hk => hk.2)⟩, ⟨by repeat (first | (with_reducible first | exact HB.out | apply below_alloc | apply pw_below_drewN | apply below_drew1) | exact HB.out)⟩⟩
   ·
    replace c9 := Bool.eq_false_iff.mpr c9
    subst c9
    have H1 : (laws_FnExactParseRules.j0 k a0 t212 t213 t216 true) = some r := q6_7
    clear H
    have H := H1
    clear H1
    refine absurd ?_ Bool.false_ne_true; revert H; generalize k = kq_; intro H; cases kq_ with | zero => exact absurd H (by simp only [laws_FnExactParseRules.j0]; exact fun h => by cases h) | succ kq_ => simp only [laws_FnExactParseRules.j0] at H; (try rw [if_pos rfl] at H); exact (Option.some.inj H).trans HRT.out
  case rest =>
   clear HC5
   try clear c1
   try clear c2
   try clear c2b0
   try clear c2b1
   try clear p2
   try clear c4
   try clear c9
   try clear c10
   try clear c11
   try clear c12
   obtain ⟨kq, x32_4, rfl, HA, HJ4, HO_3, HO_5, HB⟩ := hcut
   cases kq with
   | zero => exact absurd HA.out (by simp [laws_FnExactParseRules.j0])
   | succ kj4 =>
    have H := HA.out
    clear HA
    simp only [laws_FnExactParseRules.j0] at H
    by_cases c13 : x32_4 = true
    ·
     subst c13
     have H1 : (some false) = some r := by rw [if_pos rfl] at H; exact H
     clear H
     have H := H1
     clear H1
     exact absurd ((Option.some.inj H).trans HRT.out) Bool.false_ne_true
    ·
     replace c13 := Bool.eq_false_iff.mpr c13
     subst c13
     have H1 : ((laws_markRuleS.f kj4 t216 1).bind fun bt221 => ((laws_heldRuleS.f kj4 bt221.2 1).bind fun t223 => (if t223 < 0 then (some false) else (if t223 = bt221.1 then ((impl_ParseRules.f kj4 a0).bind fun bt224 => ((laws_eqRuleS.f kj4 bt224.1 t212).bind fun t228 => (if t228 = true then (laws_FnExactParseRules.j1 kj4 bt221.2 bt221.1 (bt224.2 != t213)) else (laws_FnExactParseRules.j1 kj4 bt221.2 bt221.1 true)))) else (some false))))) = some r := q6_7
     clear H
     have H := H1
     clear H1
     replace H := Option.bind_eq_some_iff.mp H
     obtain ⟨⟨t221, t222⟩, A140, H⟩ := H
     replace H : ((laws_heldRuleS.f kj4 t222 1).bind fun t223 => (if t223 < 0 then (some false) else (if t223 = t221 then ((impl_ParseRules.f kj4 a0).bind fun bt224 => ((laws_eqRuleS.f kj4 bt224.1 t212).bind fun t228 => (if t228 = true then (laws_FnExactParseRules.j1 kj4 t222 t221 (bt224.2 != t213)) else (laws_FnExactParseRules.j1 kj4 t222 t221 true)))) else (some false)))) = some r := H
     have A14 := Aside0.mk A140
     clear A140
     replace H := Option.bind_eq_some_iff.mp H
     obtain ⟨t223, A150, H⟩ := H
     replace H : (if t223 < 0 then (some false) else (if t223 = t221 then ((impl_ParseRules.f kj4 a0).bind fun bt224 => ((laws_eqRuleS.f kj4 bt224.1 t212).bind fun t228 => (if t228 = true then (laws_FnExactParseRules.j1 kj4 t222 t221 (bt224.2 != t213)) else (laws_FnExactParseRules.j1 kj4 t222 t221 true)))) else (some false))) = some r := H
     have A15 := Aside0.mk A150
     clear A150
     by_cases c16 : t223 < 0
     ·
      rw [if_pos c16] at H
      exact absurd ((Option.some.inj H).trans HRT.out) Bool.false_ne_true
     ·
      rw [if_neg c16] at H
      have c16b0 : decide (t223 < 0) = false := decide_eq_false c16
      clear c16
      by_cases c17 : t223 = t221
      ·
       rw [if_pos c17] at H
       have c17b0 : (t223 == t221) = true := beq_iff_eq.mpr c17
       have c17b1 : (t223 != t221) = false := bne_eq_false_iff_eq.mpr c17
       clear c17
       replace H := Option.bind_eq_some_iff.mp H
       obtain ⟨⟨t224, t225⟩, A180, H⟩ := H
       replace H : ((laws_eqRuleS.f kj4 t224 t212).bind fun t228 => (if t228 = true then (laws_FnExactParseRules.j1 kj4 t222 t221 (t225 != t213)) else (laws_FnExactParseRules.j1 kj4 t222 t221 true))) = some r := H
       have A18 := Aside0.mk A180
       clear A180
       have HC19 := Aside0.mk H
       clear H
       obtain ⟨Ao20, co20, eo20⟩ := Kd.R_slice HO_5.out
       subst eo20
       go_upto_region 16 with (first | ((with_reducible refine gate_callee (f := 13) rfl ?_); refine goesL_ (some 35) rfl rfl Tryd.func13 (by kernel_rfl) rfl #[.slice Ao20 t216.length co20, .int .i64 1] rfl q6_2 ?_; (with_reducible refine (laws_markRuleS.calls kj4 (fun k_ => some k_ = (.slice Ao20 t216.length co20 : Value).ownBlock) (.slice Ao20 t216.length co20) t216 1 t221 t222 w _ ?side1 ?side2 A14.out).mono ?_); (case side1 => exact q6_3); (case side2 => exact Kd.R_tight rfl HO_5.out); rintro e w21 ⟨rfl, hy0, hb, hkp⟩; refine ⟨_, rfl, ?_⟩; have n0_ := Aside0.mk (Kd.R_mono (ok' := fun k_ => some k_ ≠ (.slice Ao20 t216.length co20 : Value).ownBlock) (Kd.R_keptB (HO_3.out) hkp (fun k_ hk_ hs_ => by first | exact hk_ hs_ | exact hk_.1.1.2 hs_ | exact hk_.1.1 hs_ | exact hk_.1.2 hs_ | exact hk_.2 hs_ | exact hk_.1 hs_ | exact hk_.1.1.1 hs_ | exact hk_.1.2.1 hs_ | exact hk_.1.2.2 hs_ | exact hk_.1.1.2.1 hs_ | exact hk_.1.1.2.2 hs_ | exact hk_.2.1 hs_ | exact hk_.2.2 hs_ | exact hk_.1.1.1.1 hs_ | exact hk_.1.1.1.2 hs_ | exact hk_.1.2.2.1 hs_ | exact hk_.1.2.2.2 hs_ | exact hk_.1.1.1.2.1 hs_ | exact hk_.1.1.1.2.2 hs_ | exact hk_.2.2.1 hs_ | exact hk_.2.2.2 hs_ | exact hk_.1.1.2.2.1 hs_ | exact hk_.1.1.2.2.2 hs_ | exact hk_.1.2.2.2.1 hs_ | exact hk_.1.2.2.2.2 hs_ | exact hk_.1.1.1.1.1 hs_ | exact hk_.1.1.1.1.2 hs_)) (fun k_ hk_ => hk_.1)); have n1_ := Aside0.mk (Kd.R_reok rfl hy0 (fun k_ e_ => HO_5.out.1 k_ e_)); have n2_ := Aside0.mk (hb); clear HO_3; clear HO_5; clear HB; have HO_3 := n0_; have HO_5 := n1_; have HB := n2_; clear n0_ n1_ n2_; (try clear hb); (try clear hkp); (try clear hy0)) | ((with_reducible refine gate_callee (f := 14) rfl ?_); refine goesL_ (some 38) rfl rfl Tryd.func14 (by kernel_rfl) rfl #[.slice Ao20 t222.length co20, .int .i64 1] rfl (by (try simp only [List.map_toArray, List.map_cons, List.map_nil]); first | done | (rw [show t222.length = t216.length from (Kd.R_reads' HO_5.out).1.symm] <;> rfl) | rfl | (simp only [List.length_drop, List.length_take]; rfl)) ?_; (with_reducible refine (laws_heldRuleS.calls kj4 _ _ t222 1 t223 _ ?side1 ?side2 A15.out).mono ?_); (case side1 => exact q6_1); (case side2 => rw [show t222.length = t216.length from (Kd.R_reads' HO_5.out).1.symm]; exact (Kd.R_reads' HO_5.out).2.1); rintro e w' ⟨rfl, ⟨nd, rfl⟩⟩; refine ⟨_, rfl, ?_⟩) | ((with_reducible refine gate_callee (f := 11) rfl ?_); refine goesL_ (some 46) rfl rfl Tryd.func11 (by kernel_rfl) rfl #[.string a0] rfl q6_2 ?_; (with_reducible refine (impl_ParseRules.calls kj4 a0 t224 t225 _ ?tab A18.out).mono ?_); (case tab => first | exact HTB.out | (refine TabMax.below HTB.out ?_; repeat (first | (with_reducible first | exact HB.out | apply below_alloc | apply pw_below_drewN | apply below_drew1) | exact HB.out)) | (repeat (first | exact HTB.out | apply TabMax.drewN | apply TabMax.drew | apply TabMax.alloc))); rintro e w22 ⟨v226, rfl, ho0, hb⟩; refine ⟨_, rfl, ?_⟩; have n0_ := Aside0.mk (Kd.R_elder' q6_5 (Kd.R_base ho0) hb); have n1_ := Aside0.mk (Kd.R_elder' q6_6 (Kd.R_base ho0) hb); have n2_ := Aside0.mk (Kd.R_lower (Kd.R_new' (Kd.R_new' ho0 (Kd.R_lt q6_5)) (Kd.R_lt q6_6)) (below_size q6_3)); have n3_ := Aside0.mk (below_step q6_3 hb); clear HO_3; clear HO_5; clear HB; have HO_3 := n0_; have HO_5 := n1_; have HO227 := n2_; have HB := n3_; clear n0_ n1_ n2_ n3_; (try clear hb); (try clear hb2); (try clear hk); (try clear hi); (try clear ho0)))
       (try simp only [Act.put, List.setIfInBounds_toArray, List.set_cons_zero, List.set_cons_succ])
       go_cut [57] (fun v57 wc => ∃ (kq : Nat) (x57_18 : Bool), v57 = .bool x57_18 ∧ Aside0 (laws_FnExactParseRules.j1 kq t222 t221 x57_18 = some r) ∧ Aside0 (kq ≤ kj4) ∧ Aside0 (Kd.R k27 27 wc w.heap.size (fun _ => True) (.slice Ao20 t216.length co20) t222) ∧ Aside0 (Below w.heap.size w wc))
       case first =>
        have H := HC19.out
        clear HC19
        replace H := Option.bind_eq_some_iff.mp H
        obtain ⟨t228, A230, H⟩ := H
        replace H : (if t228 = true then (laws_FnExactParseRules.j1 kj4 t222 t221 (t225 != t213)) else (laws_FnExactParseRules.j1 kj4 t222 t221 true)) = some r := H
        have A23 := Aside0.mk A230
        clear A230
        by_cases c24 : t228 = true
        ·
         subst c24
         have H1 : (laws_FnExactParseRules.j1 kj4 t222 t221 (t225 != t213)) = some r := by rw [if_pos rfl] at H; exact H
         clear H
         have H := H1
         clear H1
         have H' := Aside0.mk H
         clear H
         obtain ⟨Ao25, co25, eo25⟩ := Kd.R_slice HO227.out
         subst eo25
         obtain ⟨Ao26, co26, eo26⟩ := Kd.R_slice HO_3.out
         subst eo26
         go_wp2_with (first | ((with_reducible refine gate_callee (f := 12) rfl ?_); refine goesL_ (some 51) rfl rfl Tryd.func12 (by kernel_rfl) rfl #[.slice Ao25 t224.length co25, .slice Ao26 t212.length co26] rfl q6_2 ?_; (with_reducible refine (laws_eqRuleS.calls kj4 _ _ t224 _ _ t212 true _ ?side1 ?side2 ?side3 ?side4 A23.out).mono ?_); (case side1 => repeat (first | exact (Kd.R_reads' HO227.out).2.2 | (with_reducible refine Kd.C_alloc ?_ _) | (with_reducible refine Kd.C_drewN ?_ _) | (with_reducible refine Kd.C_drew ?_))); (case side2 => exact (Kd.R_reads' HO227.out).2.1); (case side3 => repeat (first | exact (Kd.R_reads' HO_3.out).2.2 | (with_reducible refine Kd.C_alloc ?_ _) | (with_reducible refine Kd.C_drewN ?_ _) | (with_reducible refine Kd.C_drew ?_))); (case side4 => exact (Kd.R_reads' HO_3.out).2.1); rintro e w27 ⟨rfl, hb⟩; refine ⟨_, rfl, ?_⟩; have n0_ := Aside0.mk (Kd.R_below q6_5 hb); have n1_ := Aside0.mk (Kd.R_below q6_6 hb); have n2_ := Aside0.mk (Kd.R_below (by (with_reducible repeat (first | apply Kd.R_alloc | apply Kd.R_drewN | apply Kd.R_drew)); exact HO227.out) hb); have n3_ := Aside0.mk (below_step q6_3 hb); clear HO_3; clear HO_5; clear HO227; clear HB; have HO_3 := n0_; have HO_5 := n1_; have HO227 := n2_; have HB := n3_; clear n0_ n1_ n2_ n3_; (try clear hb); (try clear hb2); (try clear hk); (try clear hi)))
         go_meet
         case rel => exact ⟨_, ((t225 != t213)), (by first | rfl | (simp; done) | (simp [*]; done) | (simp [i64_w, i32_w]; done)), H', ⟨by have := HJ4.out; first | omega | exact Nat.le_refl _⟩, ⟨by (with_reducible repeat (first | apply Kd.R_alloc | apply Kd.R_drewN | apply Kd.R_drew)); exact Kd.R_mono HO_5.out (fun _ hk => trivial)⟩, ⟨by repeat (first | (with_reducible first | exact HB.out | apply below_alloc | apply pw_below_drewN | apply below_drew1) | exact HB.out)⟩⟩
        ·
         replace c24 := Bool.eq_false_iff.mpr c24
         subst c24
         have H1 : (laws_FnExactParseRules.j1 kj4 t222 t221 true) = some r := q6_7
         clear H
         have H := H1
         clear H1
         refine absurd ?_ Bool.false_ne_true; revert H; generalize kj4 = kq_; intro H; cases kq_ with | zero => exact absurd H (by simp only [laws_FnExactParseRules.j1]; exact fun h => by cases h) | succ kq_ => simp only [laws_FnExactParseRules.j1] at H; (try rw [if_pos rfl] at H); exact (Option.some.inj H).trans HRT.out
       case rest =>
        clear HC19
        try clear c1
        try clear c2
        try clear c2b0
        try clear c2b1
        try clear p2
        try clear c4
        try clear c9
        try clear c10
        try clear c11
        try clear c12
        try clear c13
        try clear c14
        try clear c16
        try clear c16b0
        try clear c17
        try clear c17b0
        try clear c17b1
        try clear c24
        try clear p2
        obtain ⟨kq, x57_18, rfl, HA, HJ18, HO_5, HB⟩ := hcut
        have hl5_18 := (Kd.R_reads' HO_5.out).1
        rw [hl5_18] at HO_5
        (try simp only [hl5_18])
        cases kq with
        | zero => exact absurd HA.out (by simp [laws_FnExactParseRules.j1])
        | succ kj18 =>
         have H := HA.out
         clear HA
         simp only [laws_FnExactParseRules.j1] at H
         by_cases c28 : x57_18 = true
         ·
          subst c28
          have H1 : (some false) = some r := by rw [if_pos rfl] at H; exact H
          clear H
          have H := H1
          clear H1
          exact absurd ((Option.some.inj H).trans HRT.out) Bool.false_ne_true
         ·
          replace c28 := Bool.eq_false_iff.mpr c28
          subst c28
          have H1 : ((laws_heldRuleS.f kj18 t222 1).bind fun t229 => (if t229 < 0 then (some false) else (if t229 = t221 then (some true) else (some false)))) = some r := q6_7
          clear H
          have H := H1
          clear H1
          replace H := Option.bind_eq_some_iff.mp H
          obtain ⟨t229, A290, H⟩ := H
          replace H : (if t229 < 0 then (some false) else (if t229 = t221 then (some true) else (some false))) = some r := H
          have A29 := Aside0.mk A290
          clear A290
          by_cases c30 : t229 < 0
          ·
           rw [if_pos c30] at H
           exact absurd ((Option.some.inj H).trans HRT.out) Bool.false_ne_true
          ·
           rw [if_neg c30] at H
           have c30b0 : decide (t229 < 0) = false := decide_eq_false c30
           clear c30
           by_cases c31 : t229 = t221
           ·
            rw [if_pos c31] at H
            have c31b0 : (t229 == t221) = true := beq_iff_eq.mpr c31
            have c31b1 : (t229 != t221) = false := bne_eq_false_iff_eq.mpr c31
            clear c31
            obtain rfl := Option.some.inj H
            go_wp2_with (first | ((with_reducible refine gate_callee (f := 14) rfl ?_); refine goesL_ (some 60) rfl rfl Tryd.func14 (by kernel_rfl) rfl #[.slice Ao20 t222.length co20, .int .i64 1] rfl q6_2 ?_; (with_reducible refine (laws_heldRuleS.calls kj18 _ _ t222 1 t229 _ ?side1 ?side2 A29.out).mono ?_); (case side1 => exact q6_1); (case side2 => exact (Kd.R_reads' HO_5.out).2.1); rintro e w' ⟨rfl, ⟨nd, rfl⟩⟩; refine ⟨_, rfl, ?_⟩))
            go_ret
            exact ⟨by first | rfl | (simp [errW_none, errW_some] <;> rfl) | (simp [*, errW_none, errW_some] <;> rfl), by repeat (first | (with_reducible first | exact HB.out | apply below_alloc | apply pw_below_drewN | apply below_drew1) | exact HB.out)⟩
           ·
            rw [if_neg c31] at H
            exact absurd ((Option.some.inj H).trans HRT.out) Bool.false_ne_true
      ·
       rw [if_neg c17] at H
       exact absurd ((Option.some.inj H).trans HRT.out) Bool.false_ne_true
end Go.Proofs.YtamjnninbdnjhaaDoor.Pr
