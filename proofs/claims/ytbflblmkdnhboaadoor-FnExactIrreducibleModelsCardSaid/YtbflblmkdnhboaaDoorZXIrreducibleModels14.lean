/- What the law needs of the program's functions as plain functions, of the proofs that their calls answer so, and of plain laws: gathered by a program of this place (pack.py) out of its printed texts. No condition beyond what each statement says. -/
import Derived.Test.YtbflblmkdnhboaaDoorZXIrreducibleModels2
import Derived.Test.YtbflblmkdnhboaaDoorZXIrreducibleModels3
import Derived.Test.YtbflblmkdnhboaaDoorZXIrreducibleModels6
import Derived.Test.YtbflblmkdnhboaaDoorZXIrreducibleModels7
import Derived.Test.YtbflblmkdnhboaaDoorZXIrreducibleModels8
import Derived.Test.YtbflblmkdnhboaaDoorZXIrreducibleModels13
namespace Go.Proofs.YtbflblmkdnhboaaDoor.Pr
open Go.RowKit Go.Proofs.YtbflblmkdnhboaaDoorW.PrintWords Go.Proofs.YtbflblmkdnhboaaDoorW.PrintLast Go.Proofs.YtbflblmkdnhboaaDoorW.PrintMore
attribute [local go_sem] max2_int min2_int max_two min_two max_three min_three max_four min_four   -- for this text's walks alone
set_option linter.unusedVariables false
set_option linter.unusedSimpArgs false
theorem q26_1 {P : Prop} (h : P := by repeat (first | exact (Kd.C_below HR1.out HB.out) | (with_reducible refine Kd.C_alloc ?_ _) | (with_reducible refine Kd.C_drewN ?_ _) | (with_reducible refine Kd.C_drew ?_))) : P := h
theorem q26_2 {P : Prop} (h : P := by repeat (first | exact (Kd.R_reads' HO_6.out).2.2 | (with_reducible refine Kd.C_alloc ?_ _) | (with_reducible refine Kd.C_drewN ?_ _) | (with_reducible refine Kd.C_drew ?_))) : P := h
theorem q26_3 {P : Prop} (h : P := by repeat (first | exact (Kd.R_reads' HO_9.out).2.2 | (with_reducible refine Kd.C_alloc ?_ _) | (with_reducible refine Kd.C_drewN ?_ _) | (with_reducible refine Kd.C_drew ?_))) : P := h
theorem q26_4 {P : Prop} (h : P := by repeat (first | exact HR1.out | (with_reducible refine Kd.C_alloc ?_ _) | (with_reducible refine Kd.C_drewN ?_ _) | (with_reducible refine Kd.C_drew ?_))) : P := h
theorem q26_5 {P : Prop} (h : P := by (try simp only [List.map_toArray, List.map_cons, List.map_nil]); first | done | rfl | (simp only [List.length_drop, List.length_take]; rfl)) : P := h
theorem q26_6 {P : Prop} (h : P := by repeat (first | (with_reducible first | exact HB.out | apply below_alloc | apply pw_below_drewN | apply below_drew1) | exact HB.out)) : P := h
theorem q26_7 {P : Prop} (h : P := by (with_reducible repeat (first | apply Kd.R_alloc | apply Kd.R_drewN | apply Kd.R_drew)); exact HO531.out) : P := h
theorem q26_8 {P : Prop} (h : P := by (with_reducible repeat (first | apply Kd.R_alloc | apply Kd.R_drewN | apply Kd.R_drew)); exact HO535.out) : P := h
theorem q26_9 {P : Prop} (h : P := by (with_reducible repeat (first | apply Kd.R_alloc | apply Kd.R_drewN | apply Kd.R_drew)); exact HO_6.out) : P := h
theorem q26_10 {P : Prop} (h : P := by (with_reducible repeat (first | apply Kd.R_alloc | apply Kd.R_drewN | apply Kd.R_drew)); exact HO_8.out) : P := h
theorem q26_11 {P : Prop} (h : P := by (with_reducible repeat (first | apply Kd.R_alloc | apply Kd.R_drewN | apply Kd.R_drew)); exact HO_9.out) : P := h
theorem q26_12 {P : Prop} (h : P := by first | rfl | (simp; done) | (simp [*]; done) | (simp [i64_w, i32_w]; done)) : P := h
theorem q26_13 {P : Prop} (h : P := by rw [if_neg (show ¬ (false = true) by decide)] at H; exact H) : P := h
theorem q26_14 {P : Prop} (h : P := by rw [if_pos rfl] at H; exact H) : P := h
theorem q26_15 {P : Prop} (h : P := by kernel_rfl) : P := h
mutual
def laws_FnExactIrreducibleModels.j0 : Nat → Int → List (S60) → List Int → Bool → List (S58) → List Int → Bool → Bool → Option (Bool)
 | 0, _, _, _, _, _, _, _, _ => none
 | k + 1, x0, x1, x6, x7, x8, x9, x10, x44 => if x44 = true then (some false) else ((laws_toRuleS.f k x1).bind fun t544 => ((laws_eqRuleS.f k x8 t544).bind fun t547 => (if t547 = true then ((laws_markRuleS.f k x8 1).bind fun bt548 => (if bt548.1 < 0 then (laws_FnExactIrreducibleModels.j1 k x0 x1 x6 x7 x9 true) else ((laws_eqIntS.f k x9 x6).bind fun t550 => (if t550 = true then (laws_FnExactIrreducibleModels.j1 k x0 x1 x6 x7 x9 (x10 != x7)) else (laws_FnExactIrreducibleModels.j1 k x0 x1 x6 x7 x9 true))))) else (some false))))
def laws_FnExactIrreducibleModels.j1 : Nat → Int → List (S60) → List Int → Bool → List Int → Bool → Option (Bool)
 | 0, _, _, _, _, _, _ => none
 | k + 1, x0, x1, x6, x7, x9, x65 => if x65 = true then (some false) else ((laws_markIntS.f k x9 1).bind fun bt551 => ((laws_heldIntS.f k bt551.2 1).bind fun t553 => (if t553 < 0 then (some false) else (if t553 = bt551.1 then ((laws_toRuleS.f k x1).bind fun t554 => ((impl_IrreducibleModels.f k x0 t554).bind fun bt557 => ((laws_eqIntS.f k bt557.1 x6).bind fun t561 => (if t561 = true then (laws_FnExactIrreducibleModels.j2 k bt551.2 bt551.1 (bt557.2 != x7)) else (laws_FnExactIrreducibleModels.j2 k bt551.2 bt551.1 true))))) else (some false)))))
def laws_FnExactIrreducibleModels.j2 : Nat → List Int → Int → Bool → Option (Bool)
 | 0, _, _, _ => none
 | k + 1, x9, x12, x92 => if x92 = true then (some false) else ((laws_heldIntS.f k x9 1).bind fun t562 => (if t562 < 0 then (some false) else (if t562 = x12 then (some true) else (some false))))
end
def laws_FnExactIrreducibleModels.f (k : Nat) (a0 : Int) (l1 : List (S60)) : Option (Bool) := (laws_szRuleS.f l1 1048576).bind fun t528 => (if t528 < 0 then (some true) else ((laws_toRuleS.f k l1).bind fun t529 => ((spec_IrreducibleModels.f k a0 t529).bind fun bt532 => ((laws_toRuleS.f k l1).bind fun t536 => ((impl_IrreducibleModels.f k a0 t536).bind fun bt539 => ((laws_eqIntS.f k bt539.1 bt532.1).bind fun t543 => (if t543 = true then (laws_FnExactIrreducibleModels.j0 k a0 l1 bt532.1 bt532.2 t536 bt539.1 bt539.2 (bt539.2 != bt532.2)) else (laws_FnExactIrreducibleModels.j0 k a0 l1 bt532.1 bt532.2 t536 bt539.1 bt539.2 true))))))))
set_option maxHeartbeats 8000000 in
set_option maxRecDepth 100000 in
theorem laws_FnExactIrreducibleModels.calls (k : Nat) (a0 : Int) (A1 : Option Addr) (c1 : Nat) (l1 : List (S60)) (r : Bool) (w : World) (hr1 : Kd.C k60 w A1 l1.length l1) (hc1 : l1.length ≤ c1) (hrt : r = true) (htab : Tab64 w) (h : laws_FnExactIrreducibleModels.f k a0 l1 = some r) :
  Calls Tryd.prog 6 #[.int .i64 a0, .slice A1 l1.length c1] w fun e w' => e = .returned (.bool r) ∧ Below w.heap.size w w' := by
 have HTB := Aside0.mk htab
 clear htab
 have HR1 := Aside0.mk hr1
 have HC1 := Aside0.mk hc1
 clear hr1 hc1
 have HB := Aside0.mk (Below.refl w.heap.size w)
 have HRT := Aside0.mk hrt
 clear hrt
 have H : ((laws_szRuleS.f l1 1048576).bind fun t528 => (if t528 < 0 then (some true) else ((laws_toRuleS.f k l1).bind fun t529 => ((spec_IrreducibleModels.f k a0 t529).bind fun bt532 => ((laws_toRuleS.f k l1).bind fun t536 => ((impl_IrreducibleModels.f k a0 t536).bind fun bt539 => ((laws_eqIntS.f k bt539.1 bt532.1).bind fun t543 => (if t543 = true then (laws_FnExactIrreducibleModels.j0 k a0 l1 bt532.1 bt532.2 t536 bt539.1 bt539.2 (bt539.2 != bt532.2)) else (laws_FnExactIrreducibleModels.j0 k a0 l1 bt532.1 bt532.2 t536 bt539.1 bt539.2 true))))))))) = some r := h
 clear h
 replace H := Option.bind_eq_some_iff.mp H
 obtain ⟨t528, A30, H⟩ := H
 replace H : (if t528 < 0 then (some true) else ((laws_toRuleS.f k l1).bind fun t529 => ((spec_IrreducibleModels.f k a0 t529).bind fun bt532 => ((laws_toRuleS.f k l1).bind fun t536 => ((impl_IrreducibleModels.f k a0 t536).bind fun bt539 => ((laws_eqIntS.f k bt539.1 bt532.1).bind fun t543 => (if t543 = true then (laws_FnExactIrreducibleModels.j0 k a0 l1 bt532.1 bt532.2 t536 bt539.1 bt539.2 (bt539.2 != bt532.2)) else (laws_FnExactIrreducibleModels.j0 k a0 l1 bt532.1 bt532.2 t536 bt539.1 bt539.2 true)))))))) = some r := H
 have A3 := Aside0.mk A30
 clear A30
 by_cases c4 : t528 < 0
 ·
  rw [if_pos c4] at H
  have c4b0 : decide (t528 < 0) = true := decide_eq_true c4
  clear c4
  obtain rfl := Option.some.inj H
  go_enter Tryd.func6, Tryd.ntmps6
  go_wp2_with (first | ((with_reducible refine gate_callee (f := 17) rfl ?_); refine goesL_ (some 18) rfl rfl Tryd.func17 q26_15 rfl #[.slice A1 l1.length c1, .int .i64 1048576] rfl q26_5 ?_; (with_reducible refine (laws_szRuleS.calls _ _ l1 1048576 t528 _ ?side1 ?side2 A3.out).mono ?_); (case side1 => exact q26_4); (case side2 => exact HC1.out); rintro e w' ⟨rfl, ⟨nd, rfl⟩⟩; refine ⟨_, rfl, ?_⟩))
  go_ret
  exact ⟨by first | rfl | (simp [errW_none, errW_some] <;> rfl) | (simp [*, errW_none, errW_some] <;> rfl), by repeat (first | (with_reducible first | exact HB.out | apply below_alloc | apply pw_below_drewN | apply below_drew1) | exact HB.out)⟩
 ·
  rw [if_neg c4] at H
  have c4b0 : decide (t528 < 0) = false := decide_eq_false c4
  clear c4
  replace H := Option.bind_eq_some_iff.mp H
  obtain ⟨t529, A50, H⟩ := H
  replace H : ((spec_IrreducibleModels.f k a0 t529).bind fun bt532 => ((laws_toRuleS.f k l1).bind fun t536 => ((impl_IrreducibleModels.f k a0 t536).bind fun bt539 => ((laws_eqIntS.f k bt539.1 bt532.1).bind fun t543 => (if t543 = true then (laws_FnExactIrreducibleModels.j0 k a0 l1 bt532.1 bt532.2 t536 bt539.1 bt539.2 (bt539.2 != bt532.2)) else (laws_FnExactIrreducibleModels.j0 k a0 l1 bt532.1 bt532.2 t536 bt539.1 bt539.2 true)))))) = some r := H
  have A5 := Aside0.mk A50
  clear A50
  replace H := Option.bind_eq_some_iff.mp H
  obtain ⟨⟨t532, t533⟩, A60, H⟩ := H
  replace H : ((laws_toRuleS.f k l1).bind fun t536 => ((impl_IrreducibleModels.f k a0 t536).bind fun bt539 => ((laws_eqIntS.f k bt539.1 t532).bind fun t543 => (if t543 = true then (laws_FnExactIrreducibleModels.j0 k a0 l1 t532 t533 t536 bt539.1 bt539.2 (bt539.2 != t533)) else (laws_FnExactIrreducibleModels.j0 k a0 l1 t532 t533 t536 bt539.1 bt539.2 true))))) = some r := H
  have A6 := Aside0.mk A60
  clear A60
  replace H := Option.bind_eq_some_iff.mp H
  obtain ⟨t536, A70, H⟩ := H
  replace H : ((impl_IrreducibleModels.f k a0 t536).bind fun bt539 => ((laws_eqIntS.f k bt539.1 t532).bind fun t543 => (if t543 = true then (laws_FnExactIrreducibleModels.j0 k a0 l1 t532 t533 t536 bt539.1 bt539.2 (bt539.2 != t533)) else (laws_FnExactIrreducibleModels.j0 k a0 l1 t532 t533 t536 bt539.1 bt539.2 true)))) = some r := H
  have A7 := Aside0.mk A70
  clear A70
  replace H := Option.bind_eq_some_iff.mp H
  obtain ⟨⟨t539, t540⟩, A80, H⟩ := H
  replace H : ((laws_eqIntS.f k t539 t532).bind fun t543 => (if t543 = true then (laws_FnExactIrreducibleModels.j0 k a0 l1 t532 t533 t536 t539 t540 (t540 != t533)) else (laws_FnExactIrreducibleModels.j0 k a0 l1 t532 t533 t536 t539 t540 true))) = some r := H
  have A8 := Aside0.mk A80
  clear A80
  have HC9 := Aside0.mk H
  clear H
  go_enter Tryd.func6, Tryd.ntmps6
  go_upto_region 8 with (first | ((with_reducible refine gate_callee (f := 17) rfl ?_); refine goesL_ (some 18) rfl rfl Tryd.func17 q26_15 rfl #[.slice A1 l1.length c1, .int .i64 1048576] rfl q26_5 ?_; (with_reducible refine (laws_szRuleS.calls _ _ l1 1048576 t528 _ ?side1 ?side2 A3.out).mono ?_); (case side1 => exact q26_4); (case side2 => exact HC1.out); rintro e w' ⟨rfl, ⟨nd, rfl⟩⟩; refine ⟨_, rfl, ?_⟩) | ((with_reducible refine gate_callee (f := 19) rfl ?_); refine goesL_ (some 24) rfl rfl Tryd.func19 q26_15 rfl #[.slice A1 l1.length c1] rfl q26_5 ?_; (with_reducible refine (laws_toRuleS.calls k _ _ l1 t529 _ ?side1 ?side2 A5.out).mono ?_); (case side1 => exact q26_4); (case side2 => exact HC1.out); rintro e w10 ⟨v530, rfl, ho0, hb⟩; refine ⟨_, rfl, ?_⟩; have n0_ := Aside0.mk (Kd.R_lower ho0 (below_size q26_6)); have n1_ := Aside0.mk (below_step q26_6 hb); clear HB; have HO531 := n0_; have HB := n1_; clear n0_ n1_; (try clear hb); (try clear hb2); (try clear hk); (try clear hi); (try clear ho0); obtain ⟨Ao11, co11, eo11⟩ := Kd.R_slice HO531.out; subst eo11) | ((with_reducible refine gate_callee (f := 29) rfl ?_); refine goesL_ (some 25) rfl rfl Tryd.func29 q26_15 rfl #[.int .i64 a0, .slice Ao11 t529.length co11] rfl q26_5 ?_; (with_reducible refine (spec_IrreducibleModels.calls k a0 _ _ t529 t532 t533 _ ?side1 ?side2 A6.out).mono ?_); (case side1 => repeat (first | exact (Kd.R_reads' HO531.out).2.2 | (with_reducible refine Kd.C_alloc ?_ _) | (with_reducible refine Kd.C_drewN ?_ _) | (with_reducible refine Kd.C_drew ?_))); (case side2 => exact (Kd.R_reads' HO531.out).2.1); rintro e w12 ⟨v534, rfl, ho0, hb⟩; refine ⟨_, rfl, ?_⟩; have n0_ := Aside0.mk (Kd.R_below q26_7 hb); have n1_ := Aside0.mk (Kd.R_lower ho0 (below_size q26_6)); have n2_ := Aside0.mk (below_step q26_6 hb); clear HO531; clear HB; have HO531 := n0_; have HO535 := n1_; have HB := n2_; clear n0_ n1_ n2_; (try clear hb); (try clear hb2); (try clear hk); (try clear hi); (try clear ho0)) | ((with_reducible refine gate_callee (f := 19) rfl ?_); refine goesL_ (some 29) rfl rfl Tryd.func19 q26_15 rfl #[.slice A1 l1.length c1] rfl q26_5 ?_; (with_reducible refine (laws_toRuleS.calls k _ _ l1 t536 _ ?side1 ?side2 A7.out).mono ?_); (case side1 => exact q26_1); (case side2 => exact HC1.out); rintro e w13 ⟨v537, rfl, ho0, hb⟩; refine ⟨_, rfl, ?_⟩; have n0_ := Aside0.mk (Kd.R_elder' q26_7 (Kd.R_base ho0) hb); have n1_ := Aside0.mk (Kd.R_below q26_8 hb); have n2_ := Aside0.mk (Kd.R_lower (Kd.R_new' ho0 (Kd.R_lt q26_7)) (below_size q26_6)); have n3_ := Aside0.mk (below_step q26_6 hb); clear HO531; clear HO535; clear HB; have HO531 := n0_; have HO535 := n1_; have HO538 := n2_; have HB := n3_; clear n0_ n1_ n2_ n3_; (try clear hb); (try clear hb2); (try clear hk); (try clear hi); (try clear ho0); obtain ⟨Ao14, co14, eo14⟩ := Kd.R_slice HO538.out; subst eo14) | ((with_reducible refine gate_callee (f := 30) rfl ?_); refine goesL_ (some 33) rfl rfl Tryd.func30 q26_15 rfl #[.int .i64 a0, .slice Ao14 t536.length co14] rfl q26_5 ?_; (with_reducible refine (impl_IrreducibleModels.calls k a0 _ _ t536 t539 t540 _ ?side1 ?side2 ?tab A8.out).mono ?_); (case tab => first | exact HTB.out | (refine Tab64.below HTB.out ?_; repeat (first | (with_reducible first | exact HB.out | apply below_alloc | apply pw_below_drewN | apply below_drew1) | exact HB.out)) | (repeat (first | exact HTB.out | apply Tab64.drewN | apply Tab64.drew | apply Tab64.alloc))); (case side1 => repeat (first | exact (Kd.R_reads' HO538.out).2.2 | (with_reducible refine Kd.C_alloc ?_ _) | (with_reducible refine Kd.C_drewN ?_ _) | (with_reducible refine Kd.C_drew ?_))); (case side2 => exact (Kd.R_reads' HO538.out).2.1); rintro e w15 ⟨v541, rfl, ho0, hb⟩; refine ⟨_, rfl, ?_⟩; have n0_ := Aside0.mk (Kd.R_below q26_7 hb); have n1_ := Aside0.mk (Kd.R_elder' q26_8 (Kd.R_base ho0) hb); have n2_ := Aside0.mk (Kd.R_below (by (with_reducible repeat (first | apply Kd.R_alloc | apply Kd.R_drewN | apply Kd.R_drew)); exact HO538.out) hb); have n3_ := Aside0.mk (Kd.R_lower (Kd.R_new' ho0 (Kd.R_lt q26_8)) (below_size q26_6)); have n4_ := Aside0.mk (below_step q26_6 hb); clear HO531; clear HO535; clear HO538; clear HB; have HO531 := n0_; have HO535 := n1_; have HO538 := n2_; have HO542 := n3_; have HB := n4_; clear n0_ n1_ n2_ n3_ n4_; (try clear hb); (try clear hb2); (try clear hk); (try clear hi); (try clear ho0)))
  (try simp only [Act.put, List.setIfInBounds_toArray, List.set_cons_zero, List.set_cons_succ])
  go_cut [44] (fun v44 wc => ∃ (kq : Nat) (x44_8 : Bool), v44 = .bool x44_8 ∧ Aside0 (laws_FnExactIrreducibleModels.j0 kq a0 l1 t532 t533 t536 t539 t540 x44_8 = some r) ∧ Aside0 (kq ≤ k) ∧ Aside0 (Kd.R (Kd.int .i64) 3 wc w.heap.size (fun k_ => some k_ ≠ (v541 : Value).ownBlock) v534 t532) ∧ Aside0 (Kd.R k58 58 wc w.heap.size (fun _ => True) (.slice Ao14 t536.length co14) t536) ∧ Aside0 (Kd.R (Kd.int .i64) 3 wc w.heap.size (fun k_ => some k_ ≠ (v534 : Value).ownBlock) v541 t539) ∧ Aside0 (Below w.heap.size w wc))
  case first =>
   have H := HC9.out
   clear HC9
   replace H := Option.bind_eq_some_iff.mp H
   obtain ⟨t543, A160, H⟩ := H
   replace H : (if t543 = true then (laws_FnExactIrreducibleModels.j0 k a0 l1 t532 t533 t536 t539 t540 (t540 != t533)) else (laws_FnExactIrreducibleModels.j0 k a0 l1 t532 t533 t536 t539 t540 true)) = some r := H
   have A16 := Aside0.mk A160
   clear A160
   by_cases c17 : t543 = true
   ·
    subst c17
    have H1 : (laws_FnExactIrreducibleModels.j0 k a0 l1 t532 t533 t536 t539 t540 (t540 != t533)) = some r := q26_14
    clear H
    have H := H1
    clear H1
    have H' := Aside0.mk H
    clear H
    obtain ⟨Ao18, co18, eo18⟩ := Kd.R_slice HO542.out
    subst eo18
    obtain ⟨Ao19, co19, eo19⟩ := Kd.R_slice HO535.out
    subst eo19
    go_wp2_with (first | ((with_reducible refine gate_callee (f := 21) rfl ?_); refine goesL_ (some 38) rfl rfl Tryd.func21 q26_15 rfl #[.slice Ao18 t539.length co18, .slice Ao19 t532.length co19] rfl q26_5 ?_; (with_reducible refine (laws_eqIntS.calls k _ _ t539 _ _ t532 true _ ?side1 ?side2 ?side3 ?side4 A16.out).mono ?_); (case side1 => repeat (first | exact (Kd.R_reads' HO542.out).2.2 | (with_reducible refine Kd.C_alloc ?_ _) | (with_reducible refine Kd.C_drewN ?_ _) | (with_reducible refine Kd.C_drew ?_))); (case side2 => exact (Kd.R_reads' HO542.out).2.1); (case side3 => repeat (first | exact (Kd.R_reads' HO535.out).2.2 | (with_reducible refine Kd.C_alloc ?_ _) | (with_reducible refine Kd.C_drewN ?_ _) | (with_reducible refine Kd.C_drew ?_))); (case side4 => exact (Kd.R_reads' HO535.out).2.1); rintro e w' ⟨rfl, ⟨nd, rfl⟩⟩; refine ⟨_, rfl, ?_⟩))
    go_meet
    case rel => exact ⟨_, ((t540 != t533)), q26_12, H', ⟨by first | omega | exact Nat.le_refl _⟩, ⟨by (with_reducible repeat (first | apply Kd.R_alloc | apply Kd.R_drewN | apply Kd.R_drew)); exact Kd.R_mono HO535.out (fun _ hk => hk.2)⟩, ⟨by (with_reducible repeat (first | apply Kd.R_alloc | apply Kd.R_drewN | apply Kd.R_drew)); exact Kd.R_mono HO538.out (fun _ hk => trivial)⟩, ⟨by (with_reducible repeat (first | apply Kd.R_alloc | apply Kd.R_drewN | apply Kd.R_drew)); exact Kd.R_mono HO542.out (fun _ hk => hk.2)⟩, ⟨by repeat (first | (with_reducible first | exact HB.out | apply below_alloc | apply pw_below_drewN | apply below_drew1) | exact HB.out)⟩⟩
   ·
    replace c17 := Bool.eq_false_iff.mpr c17
    subst c17
    have H1 : (laws_FnExactIrreducibleModels.j0 k a0 l1 t532 t533 t536 t539 t540 true) = some r := q26_13
    clear H
    have H := H1
    clear H1
    refine absurd ?_ Bool.false_ne_true; revert H; generalize k = kq_; intro H; cases kq_ with | zero => exact absurd H (by simp only [laws_FnExactIrreducibleModels.j0]; exact fun h => by cases h) | succ kq_ => simp only [laws_FnExactIrreducibleModels.j0] at H; (try rw [if_pos rfl] at H); exact (Option.some.inj H).trans HRT.out
  case rest =>
   clear HC9
   try clear c1
   try clear c2
   try clear p2
   try clear c3
   try clear c4
   try clear c4b0
   try clear c6
   try clear c17
   try clear c19
   obtain ⟨kq, x44_8, rfl, HA, HJ8, HO_6, HO_8, HO_9, HB⟩ := hcut
   cases kq with
   | zero => exact absurd HA.out (by simp [laws_FnExactIrreducibleModels.j0])
   | succ kj8 =>
    have H := HA.out
    clear HA
    simp only [laws_FnExactIrreducibleModels.j0] at H
    by_cases c20 : x44_8 = true
    ·
     subst c20
     have H1 : (some false) = some r := q26_14
     clear H
     have H := H1
     clear H1
     exact absurd ((Option.some.inj H).trans HRT.out) Bool.false_ne_true
    ·
     replace c20 := Bool.eq_false_iff.mpr c20
     subst c20
     have H1 : ((laws_toRuleS.f kj8 l1).bind fun t544 => ((laws_eqRuleS.f kj8 t536 t544).bind fun t547 => (if t547 = true then ((laws_markRuleS.f kj8 t536 1).bind fun bt548 => (if bt548.1 < 0 then (laws_FnExactIrreducibleModels.j1 kj8 a0 l1 t532 t533 t539 true) else ((laws_eqIntS.f kj8 t539 t532).bind fun t550 => (if t550 = true then (laws_FnExactIrreducibleModels.j1 kj8 a0 l1 t532 t533 t539 (t540 != t533)) else (laws_FnExactIrreducibleModels.j1 kj8 a0 l1 t532 t533 t539 true))))) else (some false)))) = some r := q26_13
     clear H
     have H := H1
     clear H1
     replace H := Option.bind_eq_some_iff.mp H
     obtain ⟨t544, A210, H⟩ := H
     replace H : ((laws_eqRuleS.f kj8 t536 t544).bind fun t547 => (if t547 = true then ((laws_markRuleS.f kj8 t536 1).bind fun bt548 => (if bt548.1 < 0 then (laws_FnExactIrreducibleModels.j1 kj8 a0 l1 t532 t533 t539 true) else ((laws_eqIntS.f kj8 t539 t532).bind fun t550 => (if t550 = true then (laws_FnExactIrreducibleModels.j1 kj8 a0 l1 t532 t533 t539 (t540 != t533)) else (laws_FnExactIrreducibleModels.j1 kj8 a0 l1 t532 t533 t539 true))))) else (some false))) = some r := H
     have A21 := Aside0.mk A210
     clear A210
     replace H := Option.bind_eq_some_iff.mp H
     obtain ⟨t547, A220, H⟩ := H
     replace H : (if t547 = true then ((laws_markRuleS.f kj8 t536 1).bind fun bt548 => (if bt548.1 < 0 then (laws_FnExactIrreducibleModels.j1 kj8 a0 l1 t532 t533 t539 true) else ((laws_eqIntS.f kj8 t539 t532).bind fun t550 => (if t550 = true then (laws_FnExactIrreducibleModels.j1 kj8 a0 l1 t532 t533 t539 (t540 != t533)) else (laws_FnExactIrreducibleModels.j1 kj8 a0 l1 t532 t533 t539 true))))) else (some false)) = some r := H
     have A22 := Aside0.mk A220
     clear A220
     by_cases c23 : t547 = true
     ·
      subst c23
      have H1 : ((laws_markRuleS.f kj8 t536 1).bind fun bt548 => (if bt548.1 < 0 then (laws_FnExactIrreducibleModels.j1 kj8 a0 l1 t532 t533 t539 true) else ((laws_eqIntS.f kj8 t539 t532).bind fun t550 => (if t550 = true then (laws_FnExactIrreducibleModels.j1 kj8 a0 l1 t532 t533 t539 (t540 != t533)) else (laws_FnExactIrreducibleModels.j1 kj8 a0 l1 t532 t533 t539 true))))) = some r := q26_14
      clear H
      have H := H1
      clear H1
      replace H := Option.bind_eq_some_iff.mp H
      obtain ⟨⟨t548, t549⟩, A240, H⟩ := H
      replace H : (if t548 < 0 then (laws_FnExactIrreducibleModels.j1 kj8 a0 l1 t532 t533 t539 true) else ((laws_eqIntS.f kj8 t539 t532).bind fun t550 => (if t550 = true then (laws_FnExactIrreducibleModels.j1 kj8 a0 l1 t532 t533 t539 (t540 != t533)) else (laws_FnExactIrreducibleModels.j1 kj8 a0 l1 t532 t533 t539 true)))) = some r := H
      have A24 := Aside0.mk A240
      clear A240
      have HC25 := Aside0.mk H
      clear H
      go_upto_region 14 with (first | ((with_reducible refine gate_callee (f := 19) rfl ?_); refine goesL_ (some 47) rfl rfl Tryd.func19 q26_15 rfl #[.slice A1 l1.length c1] rfl q26_5 ?_; (with_reducible refine (laws_toRuleS.calls kj8 _ _ l1 t544 _ ?side1 ?side2 A21.out).mono ?_); (case side1 => exact q26_1); (case side2 => exact HC1.out); rintro e w26 ⟨v545, rfl, ho0, hb⟩; refine ⟨_, rfl, ?_⟩; have n0_ := Aside0.mk (Kd.R_below q26_9 hb); have n1_ := Aside0.mk (Kd.R_elder' q26_10 (Kd.R_base ho0) hb); have n2_ := Aside0.mk (Kd.R_below q26_11 hb); have n3_ := Aside0.mk (Kd.R_lower (Kd.R_new' ho0 (Kd.R_lt q26_10)) (below_size q26_6)); have n4_ := Aside0.mk (below_step q26_6 hb); clear HO_6; clear HO_8; clear HO_9; clear HB; have HO_6 := n0_; have HO_8 := n1_; have HO_9 := n2_; have HO546 := n3_; have HB := n4_; clear n0_ n1_ n2_ n3_ n4_; (try clear hb); (try clear hb2); (try clear hk); (try clear hi); (try clear ho0); obtain ⟨Ao27, co27, eo27⟩ := Kd.R_slice HO546.out; subst eo27) | ((with_reducible refine gate_callee (f := 22) rfl ?_); refine goesL_ (some 48) rfl rfl Tryd.func22 q26_15 rfl #[.slice Ao14 t536.length co14, .slice Ao27 t544.length co27] rfl q26_5 ?_; (with_reducible refine (laws_eqRuleS.calls kj8 _ _ t536 _ _ t544 true _ ?side1 ?side2 ?side3 ?side4 A22.out).mono ?_); (case side1 => repeat (first | exact (Kd.R_reads' HO_8.out).2.2 | (with_reducible refine Kd.C_alloc ?_ _) | (with_reducible refine Kd.C_drewN ?_ _) | (with_reducible refine Kd.C_drew ?_))); (case side2 => exact (Kd.R_reads' HO_8.out).2.1); (case side3 => repeat (first | exact (Kd.R_reads' HO546.out).2.2 | (with_reducible refine Kd.C_alloc ?_ _) | (with_reducible refine Kd.C_drewN ?_ _) | (with_reducible refine Kd.C_drew ?_))); (case side4 => exact (Kd.R_reads' HO546.out).2.1); rintro e w28 ⟨rfl, hb⟩; refine ⟨_, rfl, ?_⟩; have n0_ := Aside0.mk (Kd.R_below q26_9 hb); have n1_ := Aside0.mk (Kd.R_below q26_10 hb); have n2_ := Aside0.mk (Kd.R_below q26_11 hb); have n3_ := Aside0.mk (Kd.R_below (by (with_reducible repeat (first | apply Kd.R_alloc | apply Kd.R_drewN | apply Kd.R_drew)); exact HO546.out) hb); have n4_ := Aside0.mk (below_step q26_6 hb); clear HO_6; clear HO_8; clear HO_9; clear HO546; clear HB; have HO_6 := n0_; have HO_8 := n1_; have HO_9 := n2_; have HO546 := n3_; have HB := n4_; clear n0_ n1_ n2_ n3_ n4_; (try clear hb); (try clear hb2); (try clear hk); (try clear hi)) | ((with_reducible refine gate_callee (f := 23) rfl ?_); refine goesL_ (some 52) rfl rfl Tryd.func23 q26_15 rfl #[.slice Ao14 t536.length co14, .int .i64 1] rfl q26_5 ?_; (with_reducible refine (laws_markRuleS.calls kj8 (fun k_ => some k_ = (.slice Ao14 t536.length co14 : Value).ownBlock) (.slice Ao14 t536.length co14) t536 1 t548 t549 w _ ?side1 ?side2 A24.out).mono ?_); (case side1 => exact q26_6); (case side2 => exact Kd.R_tight rfl HO_8.out); rintro e w29 ⟨rfl, hy0, hb, hkp⟩; refine ⟨_, rfl, ?_⟩; have n0_ := Aside0.mk (Kd.R_mono (ok' := fun k_ => some k_ ≠ (v541 : Value).ownBlock) (Kd.R_keptB ((Kd.R_apart' HO_6.out (Kd.R_typed HO_8.out) (by decide))) hkp (fun k_ hk_ hs_ => by first | exact hk_.2 hs_ | exact hk_.1.1.2 hs_ | exact hk_.1.1 hs_ | exact hk_.1.2 hs_ | exact hk_.1 hs_ | exact hk_.1.1.1 hs_ | exact hk_ hs_ | exact hk_.1.2.1 hs_ | exact hk_.1.2.2 hs_ | exact hk_.1.1.2.1 hs_ | exact hk_.1.1.2.2 hs_ | exact hk_.2.1 hs_ | exact hk_.2.2 hs_ | exact hk_.1.1.1.1 hs_ | exact hk_.1.1.1.2 hs_ | exact hk_.1.2.2.1 hs_ | exact hk_.1.2.2.2 hs_ | exact hk_.1.1.1.2.1 hs_ | exact hk_.1.1.1.2.2 hs_ | exact hk_.2.2.1 hs_ | exact hk_.2.2.2 hs_ | exact hk_.1.1.2.2.1 hs_ | exact hk_.1.1.2.2.2 hs_ | exact hk_.1.2.2.2.1 hs_ | exact hk_.1.2.2.2.2 hs_ | exact hk_.1.1.1.1.1 hs_ | exact hk_.1.1.1.1.2 hs_)) (fun k_ hk_ => hk_.1.1)); have n1_ := Aside0.mk (Kd.R_reok rfl hy0 (fun k_ e_ => HO_8.out.1 k_ e_)); have n2_ := Aside0.mk (Kd.R_mono (ok' := fun k_ => some k_ ≠ (v534 : Value).ownBlock) (Kd.R_keptB ((Kd.R_apart' HO_9.out (Kd.R_typed HO_8.out) (by decide))) hkp (fun k_ hk_ hs_ => by first | exact hk_.2 hs_ | exact hk_.1.1.2 hs_ | exact hk_.1.1 hs_ | exact hk_.1.2 hs_ | exact hk_.1 hs_ | exact hk_.1.1.1 hs_ | exact hk_ hs_ | exact hk_.1.2.1 hs_ | exact hk_.1.2.2 hs_ | exact hk_.1.1.2.1 hs_ | exact hk_.1.1.2.2 hs_ | exact hk_.2.1 hs_ | exact hk_.2.2 hs_ | exact hk_.1.1.1.1 hs_ | exact hk_.1.1.1.2 hs_ | exact hk_.1.2.2.1 hs_ | exact hk_.1.2.2.2 hs_ | exact hk_.1.1.1.2.1 hs_ | exact hk_.1.1.1.2.2 hs_ | exact hk_.2.2.1 hs_ | exact hk_.2.2.2 hs_ | exact hk_.1.1.2.2.1 hs_ | exact hk_.1.1.2.2.2 hs_ | exact hk_.1.2.2.2.1 hs_ | exact hk_.1.2.2.2.2 hs_ | exact hk_.1.1.1.1.1 hs_ | exact hk_.1.1.1.1.2 hs_)) (fun k_ hk_ => hk_.1.1)); have n3_ := Aside0.mk (Kd.R_mono (ok' := fun k_ => some k_ ≠ (.slice Ao14 t536.length co14 : Value).ownBlock) (Kd.R_keptB (HO546.out) hkp (fun k_ hk_ hs_ => by first | exact hk_.2 hs_ | exact hk_.1.1.2 hs_ | exact hk_.1.1 hs_ | exact hk_.1.2 hs_ | exact hk_.1 hs_ | exact hk_.1.1.1 hs_ | exact hk_ hs_ | exact hk_.1.2.1 hs_ | exact hk_.1.2.2 hs_ | exact hk_.1.1.2.1 hs_ | exact hk_.1.1.2.2 hs_ | exact hk_.2.1 hs_ | exact hk_.2.2 hs_ | exact hk_.1.1.1.1 hs_ | exact hk_.1.1.1.2 hs_ | exact hk_.1.2.2.1 hs_ | exact hk_.1.2.2.2 hs_ | exact hk_.1.1.1.2.1 hs_ | exact hk_.1.1.1.2.2 hs_ | exact hk_.2.2.1 hs_ | exact hk_.2.2.2 hs_ | exact hk_.1.1.2.2.1 hs_ | exact hk_.1.1.2.2.2 hs_ | exact hk_.1.2.2.2.1 hs_ | exact hk_.1.2.2.2.2 hs_ | exact hk_.1.1.1.1.1 hs_ | exact hk_.1.1.1.1.2 hs_)) (fun k_ hk_ => hk_.1.2)); have n4_ := Aside0.mk (hb); clear HO_6; clear HO_8; clear HO_9; clear HO546; clear HB; have HO_6 := n0_; have HO_8 := n1_; have HO_9 := n2_; have HO546 := n3_; have HB := n4_; clear n0_ n1_ n2_ n3_ n4_; (try clear hb); (try clear hkp); (try clear hy0)))
      (try simp only [Act.put, List.setIfInBounds_toArray, List.set_cons_zero, List.set_cons_succ])
      go_cut [65] (fun v65 wc => ∃ (kq : Nat) (x65_24 : Bool), v65 = .bool x65_24 ∧ Aside0 (laws_FnExactIrreducibleModels.j1 kq a0 l1 t532 t533 t539 x65_24 = some r) ∧ Aside0 (kq ≤ kj8) ∧ Aside0 (Kd.R (Kd.int .i64) 3 wc w.heap.size (fun k_ => some k_ ≠ (v541 : Value).ownBlock) v534 t532) ∧ Aside0 (Kd.R (Kd.int .i64) 3 wc w.heap.size (fun k_ => some k_ ≠ (v534 : Value).ownBlock) v541 t539) ∧ Aside0 (Below w.heap.size w wc))
      case first =>
       have H := HC25.out
       clear HC25
       by_cases c30 : t548 < 0
       ·
        rw [if_pos c30] at H
        refine absurd ?_ Bool.false_ne_true; revert H; generalize kj8 = kq_; intro H; cases kq_ with | zero => exact absurd H (by simp only [laws_FnExactIrreducibleModels.j1]; exact fun h => by cases h) | succ kq_ => simp only [laws_FnExactIrreducibleModels.j1] at H; (try rw [if_pos rfl] at H); exact (Option.some.inj H).trans HRT.out
       ·
        rw [if_neg c30] at H
        have c30b0 : decide (t548 < 0) = false := decide_eq_false c30
        clear c30
        (first | rw [c30b0] | (simp only [i64_w, i32_w]; rw [c30b0]) | skip)
        replace H := Option.bind_eq_some_iff.mp H
        obtain ⟨t550, A310, H⟩ := H
        replace H : (if t550 = true then (laws_FnExactIrreducibleModels.j1 kj8 a0 l1 t532 t533 t539 (t540 != t533)) else (laws_FnExactIrreducibleModels.j1 kj8 a0 l1 t532 t533 t539 true)) = some r := H
        have A31 := Aside0.mk A310
        clear A310
        by_cases c32 : t550 = true
        ·
         subst c32
         have H1 : (laws_FnExactIrreducibleModels.j1 kj8 a0 l1 t532 t533 t539 (t540 != t533)) = some r := q26_14
         clear H
         have H := H1
         clear H1
         have H' := Aside0.mk H
         clear H
         obtain ⟨Ao33, co33, eo33⟩ := Kd.R_slice HO_9.out
         subst eo33
         obtain ⟨Ao34, co34, eo34⟩ := Kd.R_slice HO_6.out
         subst eo34
         go_wp2_with (first | (go_at_call 21; (with_reducible refine (laws_eqIntS.calls kj8 _ _ t539 _ _ t532 true _ ?side1 ?side2 ?side3 ?side4 A31.out).mono ?_); (case side1 => exact q26_3); (case side2 => exact (Kd.R_reads' HO_9.out).2.1); (case side3 => exact q26_2); (case side4 => exact (Kd.R_reads' HO_6.out).2.1); rintro e w' ⟨rfl, ⟨nd, rfl⟩⟩))
         go_meet
         case rel => exact ⟨_, ((t540 != t533)), q26_12, H', ⟨by have := HJ8.out; first | omega | exact Nat.le_refl _⟩, ⟨by (with_reducible repeat (first | apply Kd.R_alloc | apply Kd.R_drewN | apply Kd.R_drew)); exact HO_6.out⟩, ⟨by (with_reducible repeat (first | apply Kd.R_alloc | apply Kd.R_drewN | apply Kd.R_drew)); exact HO_9.out⟩, ⟨by repeat (first | (with_reducible first | exact HB.out | apply below_alloc | apply pw_below_drewN | apply below_drew1) | exact HB.out)⟩⟩
        ·
         replace c32 := Bool.eq_false_iff.mpr c32
         subst c32
         have H1 : (laws_FnExactIrreducibleModels.j1 kj8 a0 l1 t532 t533 t539 true) = some r := q26_13
         clear H
         have H := H1
         clear H1
         refine absurd ?_ Bool.false_ne_true; revert H; generalize kj8 = kq_; intro H; cases kq_ with | zero => exact absurd H (by simp only [laws_FnExactIrreducibleModels.j1]; exact fun h => by cases h) | succ kq_ => simp only [laws_FnExactIrreducibleModels.j1] at H; (try rw [if_pos rfl] at H); exact (Option.some.inj H).trans HRT.out
      case rest =>
       clear HC25
       try clear c1
       try clear c2
       try clear p2
       try clear c3
       try clear c4
       try clear c4b0
       try clear c6
       try clear c17
       try clear c19
       try clear c20
       try clear c21
       try clear c22
       try clear c23
       try clear c29
       try clear c30
       try clear c30b0
       try clear c32
       try clear p2
       obtain ⟨kq, x65_24, rfl, HA, HJ24, HO_6, HO_9, HB⟩ := hcut
       cases kq with
       | zero => exact absurd HA.out (by simp [laws_FnExactIrreducibleModels.j1])
       | succ kj24 =>
        have H := HA.out
        clear HA
        simp only [laws_FnExactIrreducibleModels.j1] at H
        by_cases c35 : x65_24 = true
        ·
         subst c35
         have H1 : (some false) = some r := q26_14
         clear H
         have H := H1
         clear H1
         exact absurd ((Option.some.inj H).trans HRT.out) Bool.false_ne_true
        ·
         replace c35 := Bool.eq_false_iff.mpr c35
         subst c35
         have H1 : ((laws_markIntS.f kj24 t539 1).bind fun bt551 => ((laws_heldIntS.f kj24 bt551.2 1).bind fun t553 => (if t553 < 0 then (some false) else (if t553 = bt551.1 then ((laws_toRuleS.f kj24 l1).bind fun t554 => ((impl_IrreducibleModels.f kj24 a0 t554).bind fun bt557 => ((laws_eqIntS.f kj24 bt557.1 t532).bind fun t561 => (if t561 = true then (laws_FnExactIrreducibleModels.j2 kj24 bt551.2 bt551.1 (bt557.2 != t533)) else (laws_FnExactIrreducibleModels.j2 kj24 bt551.2 bt551.1 true))))) else (some false))))) = some r := q26_13
         clear H
         have H := H1
         clear H1
         replace H := Option.bind_eq_some_iff.mp H
         obtain ⟨⟨t551, t552⟩, A360, H⟩ := H
         replace H : ((laws_heldIntS.f kj24 t552 1).bind fun t553 => (if t553 < 0 then (some false) else (if t553 = t551 then ((laws_toRuleS.f kj24 l1).bind fun t554 => ((impl_IrreducibleModels.f kj24 a0 t554).bind fun bt557 => ((laws_eqIntS.f kj24 bt557.1 t532).bind fun t561 => (if t561 = true then (laws_FnExactIrreducibleModels.j2 kj24 t552 t551 (bt557.2 != t533)) else (laws_FnExactIrreducibleModels.j2 kj24 t552 t551 true))))) else (some false)))) = some r := H
         have A36 := Aside0.mk A360
         clear A360
         replace H := Option.bind_eq_some_iff.mp H
         obtain ⟨t553, A370, H⟩ := H
         replace H : (if t553 < 0 then (some false) else (if t553 = t551 then ((laws_toRuleS.f kj24 l1).bind fun t554 => ((impl_IrreducibleModels.f kj24 a0 t554).bind fun bt557 => ((laws_eqIntS.f kj24 bt557.1 t532).bind fun t561 => (if t561 = true then (laws_FnExactIrreducibleModels.j2 kj24 t552 t551 (bt557.2 != t533)) else (laws_FnExactIrreducibleModels.j2 kj24 t552 t551 true))))) else (some false))) = some r := H
         have A37 := Aside0.mk A370
         clear A370
         by_cases c38 : t553 < 0
         ·
          rw [if_pos c38] at H
          exact absurd ((Option.some.inj H).trans HRT.out) Bool.false_ne_true
         ·
          rw [if_neg c38] at H
          have c38b0 : decide (t553 < 0) = false := decide_eq_false c38
          clear c38
          by_cases c39 : t553 = t551
          ·
           rw [if_pos c39] at H
           have c39b0 : (t553 == t551) = true := beq_iff_eq.mpr c39
           have c39b1 : (t553 != t551) = false := bne_eq_false_iff_eq.mpr c39
           clear c39
           replace H := Option.bind_eq_some_iff.mp H
           obtain ⟨t554, A400, H⟩ := H
           replace H : ((impl_IrreducibleModels.f kj24 a0 t554).bind fun bt557 => ((laws_eqIntS.f kj24 bt557.1 t532).bind fun t561 => (if t561 = true then (laws_FnExactIrreducibleModels.j2 kj24 t552 t551 (bt557.2 != t533)) else (laws_FnExactIrreducibleModels.j2 kj24 t552 t551 true)))) = some r := H
           have A40 := Aside0.mk A400
           clear A400
           replace H := Option.bind_eq_some_iff.mp H
           obtain ⟨⟨t557, t558⟩, A410, H⟩ := H
           replace H : ((laws_eqIntS.f kj24 t557 t532).bind fun t561 => (if t561 = true then (laws_FnExactIrreducibleModels.j2 kj24 t552 t551 (t558 != t533)) else (laws_FnExactIrreducibleModels.j2 kj24 t552 t551 true))) = some r := H
           have A41 := Aside0.mk A410
           clear A410
           have HC42 := Aside0.mk H
           clear H
           obtain ⟨Ao43, co43, eo43⟩ := Kd.R_slice HO_9.out
           subst eo43
           go_upto_region 25 with (first | ((with_reducible refine gate_callee (f := 24) rfl ?_); refine goesL_ (some 68) rfl rfl Tryd.func24 q26_15 rfl #[.slice Ao43 t539.length co43, .int .i64 1] rfl q26_5 ?_; (with_reducible refine (laws_markIntS.calls kj24 (fun k_ => some k_ = (.slice Ao43 t539.length co43 : Value).ownBlock) (.slice Ao43 t539.length co43) t539 1 t551 t552 w _ ?side1 ?side2 A36.out).mono ?_); (case side1 => exact q26_6); (case side2 => exact Kd.R_tight rfl HO_9.out); rintro e w44 ⟨rfl, hy0, hb, hkp⟩; refine ⟨_, rfl, ?_⟩; have n0_ := Aside0.mk (Kd.R_mono (ok' := fun k_ => some k_ ≠ (.slice Ao43 t539.length co43 : Value).ownBlock) (Kd.R_keptB (HO_6.out) hkp (fun k_ hk_ hs_ => by first | exact hk_ hs_ | exact hk_.1.1.2 hs_ | exact hk_.1.1 hs_ | exact hk_.1.2 hs_ | exact hk_.2 hs_ | exact hk_.1 hs_ | exact hk_.1.1.1 hs_ | exact hk_.1.2.1 hs_ | exact hk_.1.2.2 hs_ | exact hk_.1.1.2.1 hs_ | exact hk_.1.1.2.2 hs_ | exact hk_.2.1 hs_ | exact hk_.2.2 hs_ | exact hk_.1.1.1.1 hs_ | exact hk_.1.1.1.2 hs_ | exact hk_.1.2.2.1 hs_ | exact hk_.1.2.2.2 hs_ | exact hk_.1.1.1.2.1 hs_ | exact hk_.1.1.1.2.2 hs_ | exact hk_.2.2.1 hs_ | exact hk_.2.2.2 hs_ | exact hk_.1.1.2.2.1 hs_ | exact hk_.1.1.2.2.2 hs_ | exact hk_.1.2.2.2.1 hs_ | exact hk_.1.2.2.2.2 hs_ | exact hk_.1.1.1.1.1 hs_ | exact hk_.1.1.1.1.2 hs_)) (fun k_ hk_ => hk_.1)); have n1_ := Aside0.mk (Kd.R_reok rfl hy0 (fun k_ e_ => HO_9.out.1 k_ e_)); have n2_ := Aside0.mk (hb); clear HO_6; clear HO_9; clear HB; have HO_6 := n0_; have HO_9 := n1_; have HB := n2_; clear n0_ n1_ n2_; (try clear hb); (try clear hkp); (try clear hy0)) | ((with_reducible refine gate_callee (f := 25) rfl ?_); refine goesL_ (some 71) rfl rfl Tryd.func25 q26_15 rfl #[.slice Ao43 t552.length co43, .int .i64 1] rfl (by (try simp only [List.map_toArray, List.map_cons, List.map_nil]); first | done | (rw [show t552.length = t539.length from (Kd.R_reads' HO_9.out).1.symm] <;> rfl) | rfl | (simp only [List.length_drop, List.length_take]; rfl)) ?_; (with_reducible refine (laws_heldIntS.calls kj24 _ _ t552 1 t553 _ ?side1 ?side2 A37.out).mono ?_); (case side1 => exact q26_3); (case side2 => rw [show t552.length = t539.length from (Kd.R_reads' HO_9.out).1.symm]; exact (Kd.R_reads' HO_9.out).2.1); rintro e w' ⟨rfl, ⟨nd, rfl⟩⟩; refine ⟨_, rfl, ?_⟩) | ((with_reducible refine gate_callee (f := 19) rfl ?_); refine goesL_ (some 80) rfl rfl Tryd.func19 q26_15 rfl #[.slice A1 l1.length c1] rfl q26_5 ?_; (with_reducible refine (laws_toRuleS.calls kj24 _ _ l1 t554 _ ?side1 ?side2 A40.out).mono ?_); (case side1 => repeat (first | exact (Kd.C_below HR1.out q26_6) | (with_reducible refine Kd.C_alloc ?_ _) | (with_reducible refine Kd.C_drewN ?_ _) | (with_reducible refine Kd.C_drew ?_))); (case side2 => exact HC1.out); rintro e w45 ⟨v555, rfl, ho0, hb⟩; refine ⟨_, rfl, ?_⟩; have n0_ := Aside0.mk (Kd.R_below q26_9 hb); have n1_ := Aside0.mk (Kd.R_below q26_11 hb); have n2_ := Aside0.mk (Kd.R_lower ho0 (below_size q26_6)); have n3_ := Aside0.mk (below_step q26_6 hb); clear HO_6; clear HO_9; clear HB; have HO_6 := n0_; have HO_9 := n1_; have HO556 := n2_; have HB := n3_; clear n0_ n1_ n2_ n3_; (try clear hb); (try clear hb2); (try clear hk); (try clear hi); (try clear ho0); obtain ⟨Ao46, co46, eo46⟩ := Kd.R_slice HO556.out; subst eo46) | ((with_reducible refine gate_callee (f := 30) rfl ?_); refine goesL_ (some 81) rfl rfl Tryd.func30 q26_15 rfl #[.int .i64 a0, .slice Ao46 t554.length co46] rfl q26_5 ?_; (with_reducible refine (impl_IrreducibleModels.calls kj24 a0 _ _ t554 t557 t558 _ ?side1 ?side2 ?tab A41.out).mono ?_); (case tab => first | exact HTB.out | (refine Tab64.below HTB.out ?_; repeat (first | (with_reducible first | exact HB.out | apply below_alloc | apply pw_below_drewN | apply below_drew1) | exact HB.out)) | (repeat (first | exact HTB.out | apply Tab64.drewN | apply Tab64.drew | apply Tab64.alloc))); (case side1 => repeat (first | exact (Kd.R_reads' HO556.out).2.2 | (with_reducible refine Kd.C_alloc ?_ _) | (with_reducible refine Kd.C_drewN ?_ _) | (with_reducible refine Kd.C_drew ?_))); (case side2 => exact (Kd.R_reads' HO556.out).2.1); rintro e w47 ⟨v559, rfl, ho0, hb⟩; refine ⟨_, rfl, ?_⟩; have n0_ := Aside0.mk (Kd.R_elder' q26_9 (Kd.R_base ho0) hb); have n1_ := Aside0.mk (Kd.R_elder' q26_11 (Kd.R_base ho0) hb); have n2_ := Aside0.mk (Kd.R_below (by (with_reducible repeat (first | apply Kd.R_alloc | apply Kd.R_drewN | apply Kd.R_drew)); exact HO556.out) hb); have n3_ := Aside0.mk (Kd.R_lower (Kd.R_new' (Kd.R_new' ho0 (Kd.R_lt q26_9)) (Kd.R_lt q26_11)) (below_size q26_6)); have n4_ := Aside0.mk (below_step q26_6 hb); clear HO_6; clear HO_9; clear HO556; clear HB; have HO_6 := n0_; have HO_9 := n1_; have HO556 := n2_; have HO560 := n3_; have HB := n4_; clear n0_ n1_ n2_ n3_ n4_; (try clear hb); (try clear hb2); (try clear hk); (try clear hi); (try clear ho0)))
           (try simp only [Act.put, List.setIfInBounds_toArray, List.set_cons_zero, List.set_cons_succ])
           go_cut [92] (fun v92 wc => ∃ (kq : Nat) (x92_41 : Bool), v92 = .bool x92_41 ∧ Aside0 (laws_FnExactIrreducibleModels.j2 kq t552 t551 x92_41 = some r) ∧ Aside0 (kq ≤ kj24) ∧ Aside0 (Kd.R (Kd.int .i64) 3 wc w.heap.size (fun _ => True) (.slice Ao43 t539.length co43) t552) ∧ Aside0 (Below w.heap.size w wc))
           case first =>
            have H := HC42.out
            clear HC42
            replace H := Option.bind_eq_some_iff.mp H
            obtain ⟨t561, A480, H⟩ := H
            replace H : (if t561 = true then (laws_FnExactIrreducibleModels.j2 kj24 t552 t551 (t558 != t533)) else (laws_FnExactIrreducibleModels.j2 kj24 t552 t551 true)) = some r := H
            have A48 := Aside0.mk A480
            clear A480
            by_cases c49 : t561 = true
            ·
             subst c49
             have H1 : (laws_FnExactIrreducibleModels.j2 kj24 t552 t551 (t558 != t533)) = some r := q26_14
             clear H
             have H := H1
             clear H1
             have H' := Aside0.mk H
             clear H
             obtain ⟨Ao50, co50, eo50⟩ := Kd.R_slice HO560.out
             subst eo50
             obtain ⟨Ao51, co51, eo51⟩ := Kd.R_slice HO_6.out
             subst eo51
             go_wp2_with (first | ((with_reducible refine gate_callee (f := 21) rfl ?_); refine goesL_ (some 86) rfl rfl Tryd.func21 q26_15 rfl #[.slice Ao50 t557.length co50, .slice Ao51 t532.length co51] rfl q26_5 ?_; (with_reducible refine (laws_eqIntS.calls kj24 _ _ t557 _ _ t532 true _ ?side1 ?side2 ?side3 ?side4 A48.out).mono ?_); (case side1 => repeat (first | exact (Kd.R_reads' HO560.out).2.2 | (with_reducible refine Kd.C_alloc ?_ _) | (with_reducible refine Kd.C_drewN ?_ _) | (with_reducible refine Kd.C_drew ?_))); (case side2 => exact (Kd.R_reads' HO560.out).2.1); (case side3 => exact q26_2); (case side4 => exact (Kd.R_reads' HO_6.out).2.1); rintro e w' ⟨rfl, ⟨nd, rfl⟩⟩; refine ⟨_, rfl, ?_⟩))
             go_meet
             case rel => exact ⟨_, ((t558 != t533)), q26_12, H', ⟨by have := HJ8.out; have := HJ24.out; first | omega | exact Nat.le_refl _⟩, ⟨by (with_reducible repeat (first | apply Kd.R_alloc | apply Kd.R_drewN | apply Kd.R_drew)); exact Kd.R_mono HO_9.out (fun _ hk => trivial)⟩, ⟨by repeat (first | (with_reducible first | exact HB.out | apply below_alloc | apply pw_below_drewN | apply below_drew1) | exact HB.out)⟩⟩
            ·
             replace c49 := Bool.eq_false_iff.mpr c49
             subst c49
             have H1 : (laws_FnExactIrreducibleModels.j2 kj24 t552 t551 true) = some r := q26_13
             clear H
             have H := H1
             clear H1
             refine absurd ?_ Bool.false_ne_true; revert H; generalize kj24 = kq_; intro H; cases kq_ with | zero => exact absurd H (by simp only [laws_FnExactIrreducibleModels.j2]; exact fun h => by cases h) | succ kq_ => simp only [laws_FnExactIrreducibleModels.j2] at H; (try rw [if_pos rfl] at H); exact (Option.some.inj H).trans HRT.out
           case rest =>
            clear HC42
            try clear c1
            try clear c2
            try clear p2
            try clear c3
            try clear c4
            try clear c4b0
            try clear c6
            try clear c17
            try clear c19
            try clear c20
            try clear c21
            try clear c22
            try clear c23
            try clear c24
            try clear c25
            try clear c29
            try clear c30
            try clear c30b0
            try clear c32
            try clear c35
            try clear c38
            try clear c38b0
            try clear c39
            try clear c39b0
            try clear c39b1
            try clear c49
            try clear p2
            obtain ⟨kq, x92_41, rfl, HA, HJ41, HO_9, HB⟩ := hcut
            have hl9_41 := (Kd.R_reads' HO_9.out).1
            rw [hl9_41] at HO_9
            (try simp only [hl9_41])
            cases kq with
            | zero => exact absurd HA.out (by simp [laws_FnExactIrreducibleModels.j2])
            | succ kj41 =>
             have H := HA.out
             clear HA
             simp only [laws_FnExactIrreducibleModels.j2] at H
             by_cases c52 : x92_41 = true
             ·
              subst c52
              have H1 : (some false) = some r := q26_14
              clear H
              have H := H1
              clear H1
              exact absurd ((Option.some.inj H).trans HRT.out) Bool.false_ne_true
             ·
              replace c52 := Bool.eq_false_iff.mpr c52
              subst c52
              have H1 : ((laws_heldIntS.f kj41 t552 1).bind fun t562 => (if t562 < 0 then (some false) else (if t562 = t551 then (some true) else (some false)))) = some r := q26_13
              clear H
              have H := H1
              clear H1
              replace H := Option.bind_eq_some_iff.mp H
              obtain ⟨t562, A530, H⟩ := H
              replace H : (if t562 < 0 then (some false) else (if t562 = t551 then (some true) else (some false))) = some r := H
              have A53 := Aside0.mk A530
              clear A530
              by_cases c54 : t562 < 0
              ·
               rw [if_pos c54] at H
               exact absurd ((Option.some.inj H).trans HRT.out) Bool.false_ne_true
              ·
               rw [if_neg c54] at H
               have c54b0 : decide (t562 < 0) = false := decide_eq_false c54
               clear c54
               by_cases c55 : t562 = t551
               ·
                rw [if_pos c55] at H
                have c55b0 : (t562 == t551) = true := beq_iff_eq.mpr c55
                have c55b1 : (t562 != t551) = false := bne_eq_false_iff_eq.mpr c55
                clear c55
                obtain rfl := Option.some.inj H
                go_wp2_with (first | ((with_reducible refine gate_callee (f := 25) rfl ?_); refine goesL_ (some 95) rfl rfl Tryd.func25 q26_15 rfl #[.slice Ao43 t552.length co43, .int .i64 1] rfl q26_5 ?_; (with_reducible refine (laws_heldIntS.calls kj41 _ _ t552 1 t562 _ ?side1 ?side2 A53.out).mono ?_); (case side1 => exact q26_3); (case side2 => exact (Kd.R_reads' HO_9.out).2.1); rintro e w' ⟨rfl, ⟨nd, rfl⟩⟩; refine ⟨_, rfl, ?_⟩))
                go_ret
                exact ⟨by first | rfl | (simp [errW_none, errW_some] <;> rfl) | (simp [*, errW_none, errW_some] <;> rfl), by repeat (first | (with_reducible first | exact HB.out | apply below_alloc | apply pw_below_drewN | apply below_drew1) | exact HB.out)⟩
               ·
                rw [if_neg c55] at H
                exact absurd ((Option.some.inj H).trans HRT.out) Bool.false_ne_true
          ·
           rw [if_neg c39] at H
           exact absurd ((Option.some.inj H).trans HRT.out) Bool.false_ne_true
     ·
      replace c23 := Bool.eq_false_iff.mpr c23
      subst c23
      have H1 : (some false) = some r := q26_13
      clear H
      have H := H1
      clear H1
      exact absurd ((Option.some.inj H).trans HRT.out) Bool.false_ne_true
end Go.Proofs.YtbflblmkdnhboaaDoor.Pr
