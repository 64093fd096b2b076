/- What the law needs of the program's functions as plain functions, of the proofs that their calls answer so, and of plain laws: gathered by a program of this place (pack.py) out of its printed texts. No condition beyond what each statement says. -/
import Derived.Test.YtbflblmkdnhboaaDoorZXShortRules2
import Derived.Test.YtbflblmkdnhboaaDoorZXShortRules3
import Derived.Test.YtbflblmkdnhboaaDoorZXShortRules4
import Derived.Test.YtbflblmkdnhboaaDoorZXShortRules7
import Derived.Test.YtbflblmkdnhboaaDoorZXShortRules20
namespace Go.Proofs.YtbflblmkdnhboaaDoor.Pr
open Go.RowKit Go.Proofs.YtbflblmkdnhboaaDoorW.PrintWords Go.Proofs.YtbflblmkdnhboaaDoorW.PrintLast Go.Proofs.YtbflblmkdnhboaaDoorW.PrintMore
attribute [local go_sem] max2_int min2_int max_two min_two max_three min_three max_four min_four   -- for this text's walks alone
set_option linter.unusedVariables false
set_option linter.unusedSimpArgs false
theorem q17_1 {P : Prop} (h : P := by repeat (first | exact (Kd.C_below HR1.out HB.out) | (with_reducible refine Kd.C_alloc ?_ _) | (with_reducible refine Kd.C_drewN ?_ _) | (with_reducible refine Kd.C_drew ?_))) : P := h
theorem q17_2 {P : Prop} (h : P := by repeat (first | exact (Kd.R_reads' HO_6.out).2.2 | (with_reducible refine Kd.C_alloc ?_ _) | (with_reducible refine Kd.C_drewN ?_ _) | (with_reducible refine Kd.C_drew ?_))) : P := h
theorem q17_3 {P : Prop} (h : P := by repeat (first | exact (Kd.R_reads' HO_9.out).2.2 | (with_reducible refine Kd.C_alloc ?_ _) | (with_reducible refine Kd.C_drewN ?_ _) | (with_reducible refine Kd.C_drew ?_))) : P := h
theorem q17_4 {P : Prop} (h : P := by repeat (first | exact HR1.out | (with_reducible refine Kd.C_alloc ?_ _) | (with_reducible refine Kd.C_drewN ?_ _) | (with_reducible refine Kd.C_drew ?_))) : P := h
theorem q17_5 {P : Prop} (h : P := by (try simp only [List.map_toArray, List.map_cons, List.map_nil]); first | done | rfl | (simp only [List.length_drop, List.length_take]; rfl)) : P := h
theorem q17_6 {P : Prop} (h : P := by repeat (first | (with_reducible first | exact HB.out | apply below_alloc | apply pw_below_drewN | apply below_drew1) | exact HB.out)) : P := h
theorem q17_7 {P : Prop} (h : P := by (with_reducible repeat (first | apply Kd.R_alloc | apply Kd.R_drewN | apply Kd.R_drew)); exact HO424.out) : P := h
theorem q17_8 {P : Prop} (h : P := by (with_reducible repeat (first | apply Kd.R_alloc | apply Kd.R_drewN | apply Kd.R_drew)); exact HO428.out) : P := h
theorem q17_9 {P : Prop} (h : P := by (with_reducible repeat (first | apply Kd.R_alloc | apply Kd.R_drewN | apply Kd.R_drew)); exact HO431.out) : P := h
theorem q17_10 {P : Prop} (h : P := by (with_reducible repeat (first | apply Kd.R_alloc | apply Kd.R_drewN | apply Kd.R_drew)); exact HO449.out) : P := h
theorem q17_11 {P : Prop} (h : P := by (with_reducible repeat (first | apply Kd.R_alloc | apply Kd.R_drewN | apply Kd.R_drew)); exact HO_6.out) : P := h
theorem q17_12 {P : Prop} (h : P := by (with_reducible repeat (first | apply Kd.R_alloc | apply Kd.R_drewN | apply Kd.R_drew)); exact HO_8.out) : P := h
theorem q17_13 {P : Prop} (h : P := by (with_reducible repeat (first | apply Kd.R_alloc | apply Kd.R_drewN | apply Kd.R_drew)); exact HO_9.out) : P := h
theorem q17_14 {P : Prop} (h : P := by first | rfl | (simp; done) | (simp [*]; done) | (simp [i64_w, i32_w]; done)) : P := h
theorem q17_15 {P : Prop} (h : P := by rw [if_neg (show ¬ (false = true) by decide)] at H; exact H) : P := h
theorem q17_16 {P : Prop} (h : P := by rw [if_pos rfl] at H; exact H) : P := h
theorem q17_17 {P : Prop} (h : P := by kernel_rfl) : P := h
mutual
def laws_FnExactShortRules.j0 : Nat → Int → List (S60) → List (S58) → Bool → List (S58) → List (S58) → Bool → Bool → Option (Bool)
 | 0, _, _, _, _, _, _, _, _ => none
 | k + 1, x0, x1, x6, x7, x8, x9, x10, x44 => if x44 = true then (some false) else ((laws_toRuleS.f k x1).bind fun t437 => ((laws_eqRuleS.f k x8 t437).bind fun t440 => (if t440 = true then ((laws_markRuleS.f k x8 1).bind fun bt441 => (if bt441.1 < 0 then (laws_FnExactShortRules.j1 k x0 x1 x6 x7 x9 true) else ((laws_eqRuleS.f k x9 x6).bind fun t443 => (if t443 = true then (laws_FnExactShortRules.j1 k x0 x1 x6 x7 x9 (x10 != x7)) else (laws_FnExactShortRules.j1 k x0 x1 x6 x7 x9 true))))) else (some false))))
def laws_FnExactShortRules.j1 : Nat → Int → List (S60) → List (S58) → Bool → List (S58) → Bool → Option (Bool)
 | 0, _, _, _, _, _, _ => none
 | k + 1, x0, x1, x6, x7, x9, x65 => if x65 = true then (some false) else ((laws_markRuleS.f k x9 1).bind fun bt444 => ((laws_heldRuleS.f k bt444.2 1).bind fun t446 => (if t446 < 0 then (some false) else (if t446 = bt444.1 then ((laws_toRuleS.f k x1).bind fun t447 => ((impl_ShortRules.f x0 t447).bind fun bt450 => ((laws_eqRuleS.f k bt450.1 x6).bind fun t454 => (if t454 = true then (laws_FnExactShortRules.j2 k bt444.2 bt444.1 (bt450.2 != x7)) else (laws_FnExactShortRules.j2 k bt444.2 bt444.1 true))))) else (some false)))))
def laws_FnExactShortRules.j2 : Nat → List (S58) → Int → Bool → Option (Bool)
 | 0, _, _, _ => none
 | k + 1, x9, x12, x92 => if x92 = true then (some false) else ((laws_heldRuleS.f k x9 1).bind fun t455 => (if t455 < 0 then (some false) else (if t455 = x12 then (some true) else (some false))))
end
def laws_FnExactShortRules.f (k : Nat) (a0 : Int) (l1 : List (S60)) : Option (Bool) := (laws_szRuleS.f l1 1048576).bind fun t421 => (if t421 < 0 then (some true) else ((laws_toRuleS.f k l1).bind fun t422 => ((spec_ShortRules.f k a0 t422).bind fun bt425 => ((laws_toRuleS.f k l1).bind fun t429 => ((impl_ShortRules.f a0 t429).bind fun bt432 => ((laws_eqRuleS.f k bt432.1 bt425.1).bind fun t436 => (if t436 = true then (laws_FnExactShortRules.j0 k a0 l1 bt425.1 bt425.2 t429 bt432.1 bt432.2 (bt432.2 != bt425.2)) else (laws_FnExactShortRules.j0 k a0 l1 bt425.1 bt425.2 t429 bt432.1 bt432.2 true))))))))
set_option maxHeartbeats 8000000 in
set_option maxRecDepth 100000 in
theorem laws_FnExactShortRules.calls (k : Nat) (a0 : Int) (A1 : Option Addr) (c1 : Nat) (l1 : List (S60)) (r : Bool) (w : World) (hr1 : Kd.C k60 w A1 l1.length l1) (hc1 : l1.length ≤ c1) (hrt : r = true) (htab : Tab64 w) (h : laws_FnExactShortRules.f k a0 l1 = some r) :
  Calls Tryd.prog 9 #[.int .i64 a0, .slice A1 l1.length c1] w fun e w' => e = .returned (.bool r) ∧ Below w.heap.size w w' := by
 have HTB := Aside0.mk htab
 clear htab
 have HR1 := Aside0.mk hr1
 have HC1 := Aside0.mk hc1
 clear hr1 hc1
 have HB := Aside0.mk (Below.refl w.heap.size w)
 have HRT := Aside0.mk hrt
 clear hrt
 have H : ((laws_szRuleS.f l1 1048576).bind fun t421 => (if t421 < 0 then (some true) else ((laws_toRuleS.f k l1).bind fun t422 => ((spec_ShortRules.f k a0 t422).bind fun bt425 => ((laws_toRuleS.f k l1).bind fun t429 => ((impl_ShortRules.f a0 t429).bind fun bt432 => ((laws_eqRuleS.f k bt432.1 bt425.1).bind fun t436 => (if t436 = true then (laws_FnExactShortRules.j0 k a0 l1 bt425.1 bt425.2 t429 bt432.1 bt432.2 (bt432.2 != bt425.2)) else (laws_FnExactShortRules.j0 k a0 l1 bt425.1 bt425.2 t429 bt432.1 bt432.2 true))))))))) = some r := h
 clear h
 replace H := Option.bind_eq_some_iff.mp H
 obtain ⟨t421, A30, H⟩ := H
 replace H : (if t421 < 0 then (some true) else ((laws_toRuleS.f k l1).bind fun t422 => ((spec_ShortRules.f k a0 t422).bind fun bt425 => ((laws_toRuleS.f k l1).bind fun t429 => ((impl_ShortRules.f a0 t429).bind fun bt432 => ((laws_eqRuleS.f k bt432.1 bt425.1).bind fun t436 => (if t436 = true then (laws_FnExactShortRules.j0 k a0 l1 bt425.1 bt425.2 t429 bt432.1 bt432.2 (bt432.2 != bt425.2)) else (laws_FnExactShortRules.j0 k a0 l1 bt425.1 bt425.2 t429 bt432.1 bt432.2 true)))))))) = some r := H
 have A3 := Aside0.mk A30
 clear A30
 by_cases c4 : t421 < 0
 ·
  rw [if_pos c4] at H
  have c4b0 : decide (t421 < 0) = true := decide_eq_true c4
  clear c4
  obtain rfl := Option.some.inj H
  go_enter Tryd.func9, Tryd.ntmps9
  go_wp2_with (first | ((with_reducible refine gate_callee (f := 17) rfl ?_); refine goesL_ (some 18) rfl rfl Tryd.func17 q17_17 rfl #[.slice A1 l1.length c1, .int .i64 1048576] rfl q17_5 ?_; (with_reducible refine (laws_szRuleS.calls _ _ l1 1048576 t421 _ ?side1 ?side2 A3.out).mono ?_); (case side1 => exact q17_4); (case side2 => exact HC1.out); rintro e w' ⟨rfl, ⟨nd, rfl⟩⟩; refine ⟨_, rfl, ?_⟩))
  go_ret
  exact ⟨by first | rfl | (simp [errW_none, errW_some] <;> rfl) | (simp [*, errW_none, errW_some] <;> rfl), by repeat (first | (with_reducible first | exact HB.out | apply below_alloc | apply pw_below_drewN | apply below_drew1) | exact HB.out)⟩
 ·
  rw [if_neg c4] at H
  have c4b0 : decide (t421 < 0) = false := decide_eq_false c4
  clear c4
  replace H := Option.bind_eq_some_iff.mp H
  obtain ⟨t422, A50, H⟩ := H
  replace H : ((spec_ShortRules.f k a0 t422).bind fun bt425 => ((laws_toRuleS.f k l1).bind fun t429 => ((impl_ShortRules.f a0 t429).bind fun bt432 => ((laws_eqRuleS.f k bt432.1 bt425.1).bind fun t436 => (if t436 = true then (laws_FnExactShortRules.j0 k a0 l1 bt425.1 bt425.2 t429 bt432.1 bt432.2 (bt432.2 != bt425.2)) else (laws_FnExactShortRules.j0 k a0 l1 bt425.1 bt425.2 t429 bt432.1 bt432.2 true)))))) = some r := H
  have A5 := Aside0.mk A50
  clear A50
  replace H := Option.bind_eq_some_iff.mp H
  obtain ⟨⟨t425, t426⟩, A60, H⟩ := H
  replace H : ((laws_toRuleS.f k l1).bind fun t429 => ((impl_ShortRules.f a0 t429).bind fun bt432 => ((laws_eqRuleS.f k bt432.1 t425).bind fun t436 => (if t436 = true then (laws_FnExactShortRules.j0 k a0 l1 t425 t426 t429 bt432.1 bt432.2 (bt432.2 != t426)) else (laws_FnExactShortRules.j0 k a0 l1 t425 t426 t429 bt432.1 bt432.2 true))))) = some r := H
  have A6 := Aside0.mk A60
  clear A60
  replace H := Option.bind_eq_some_iff.mp H
  obtain ⟨t429, A70, H⟩ := H
  replace H : ((impl_ShortRules.f a0 t429).bind fun bt432 => ((laws_eqRuleS.f k bt432.1 t425).bind fun t436 => (if t436 = true then (laws_FnExactShortRules.j0 k a0 l1 t425 t426 t429 bt432.1 bt432.2 (bt432.2 != t426)) else (laws_FnExactShortRules.j0 k a0 l1 t425 t426 t429 bt432.1 bt432.2 true)))) = some r := H
  have A7 := Aside0.mk A70
  clear A70
  replace H := Option.bind_eq_some_iff.mp H
  obtain ⟨⟨t432, t433⟩, A80, H⟩ := H
  replace H : ((laws_eqRuleS.f k t432 t425).bind fun t436 => (if t436 = true then (laws_FnExactShortRules.j0 k a0 l1 t425 t426 t429 t432 t433 (t433 != t426)) else (laws_FnExactShortRules.j0 k a0 l1 t425 t426 t429 t432 t433 true))) = some r := H
  have A8 := Aside0.mk A80
  clear A80
  have HC9 := Aside0.mk H
  clear H
  go_enter Tryd.func9, Tryd.ntmps9
  go_upto_region 8 with (first | ((with_reducible refine gate_callee (f := 17) rfl ?_); refine goesL_ (some 18) rfl rfl Tryd.func17 q17_17 rfl #[.slice A1 l1.length c1, .int .i64 1048576] rfl q17_5 ?_; (with_reducible refine (laws_szRuleS.calls _ _ l1 1048576 t421 _ ?side1 ?side2 A3.out).mono ?_); (case side1 => exact q17_4); (case side2 => exact HC1.out); rintro e w' ⟨rfl, ⟨nd, rfl⟩⟩; refine ⟨_, rfl, ?_⟩) | ((with_reducible refine gate_callee (f := 19) rfl ?_); refine goesL_ (some 24) rfl rfl Tryd.func19 q17_17 rfl #[.slice A1 l1.length c1] rfl q17_5 ?_; (with_reducible refine (laws_toRuleS.calls k _ _ l1 t422 _ ?side1 ?side2 A5.out).mono ?_); (case side1 => exact q17_4); (case side2 => exact HC1.out); rintro e w10 ⟨v423, rfl, ho0, hb⟩; refine ⟨_, rfl, ?_⟩; have n0_ := Aside0.mk (Kd.R_lower ho0 (below_size q17_6)); have n1_ := Aside0.mk (below_step q17_6 hb); clear HB; have HO424 := n0_; have HB := n1_; clear n0_ n1_; (try clear hb); (try clear hb2); (try clear hk); (try clear hi); (try clear ho0); obtain ⟨Ao11, co11, eo11⟩ := Kd.R_slice HO424.out; subst eo11) | ((with_reducible refine gate_callee (f := 37) rfl ?_); refine goesL_ (some 25) rfl rfl Tryd.func37 q17_17 rfl #[.int .i64 a0, .slice Ao11 t422.length co11] rfl q17_5 ?_; (with_reducible refine (spec_ShortRules.calls k a0 _ _ t422 t425 t426 _ ?side1 ?side2 A6.out).mono ?_); (case side1 => repeat (first | exact (Kd.R_reads' HO424.out).2.2 | (with_reducible refine Kd.C_alloc ?_ _) | (with_reducible refine Kd.C_drewN ?_ _) | (with_reducible refine Kd.C_drew ?_))); (case side2 => exact (Kd.R_reads' HO424.out).2.1); rintro e w12 ⟨v427, rfl, ho0, hb⟩; refine ⟨_, rfl, ?_⟩; have n0_ := Aside0.mk (Kd.R_elder' q17_7 (Kd.R_base ho0) hb); have n1_ := Aside0.mk (Kd.R_lower (Kd.R_new' ho0 (Kd.R_lt q17_7)) (below_size q17_6)); have n2_ := Aside0.mk (below_step q17_6 hb); clear HO424; clear HB; have HO424 := n0_; have HO428 := n1_; have HB := n2_; clear n0_ n1_ n2_; (try clear hb); (try clear hb2); (try clear hk); (try clear hi); (try clear ho0)) | ((with_reducible refine gate_callee (f := 19) rfl ?_); refine goesL_ (some 29) rfl rfl Tryd.func19 q17_17 rfl #[.slice A1 l1.length c1] rfl q17_5 ?_; (with_reducible refine (laws_toRuleS.calls k _ _ l1 t429 _ ?side1 ?side2 A7.out).mono ?_); (case side1 => exact q17_1); (case side2 => exact HC1.out); rintro e w13 ⟨v430, rfl, ho0, hb⟩; refine ⟨_, rfl, ?_⟩; have n0_ := Aside0.mk (Kd.R_elder' q17_7 (Kd.R_base ho0) hb); have n1_ := Aside0.mk (Kd.R_elder' q17_8 (Kd.R_base ho0) hb); have n2_ := Aside0.mk (Kd.R_lower (Kd.R_new' (Kd.R_new' ho0 (Kd.R_lt q17_7)) (Kd.R_lt q17_8)) (below_size q17_6)); have n3_ := Aside0.mk (below_step q17_6 hb); clear HO424; clear HO428; clear HB; have HO424 := n0_; have HO428 := n1_; have HO431 := n2_; have HB := n3_; clear n0_ n1_ n2_ n3_; (try clear hb); (try clear hb2); (try clear hk); (try clear hi); (try clear ho0); obtain ⟨Ao14, co14, eo14⟩ := Kd.R_slice HO431.out; subst eo14) | ((with_reducible refine gate_callee (f := 38) rfl ?_); refine goesL_ (some 33) rfl rfl Tryd.func38 q17_17 rfl #[.int .i64 a0, .slice Ao14 t429.length co14] rfl q17_5 ?_; (with_reducible refine (impl_ShortRules.calls a0 _ _ t429 t432 t433 _ ?side1 ?side2 ?tab A8.out).mono ?_); (case tab => first | exact HTB.out | (refine Tab64.below HTB.out ?_; repeat (first | (with_reducible first | exact HB.out | apply below_alloc | apply pw_below_drewN | apply below_drew1) | exact HB.out)) | (repeat (first | exact HTB.out | apply Tab64.drewN | apply Tab64.drew | apply Tab64.alloc))); (case side1 => repeat (first | exact (Kd.R_reads' HO431.out).2.2 | (with_reducible refine Kd.C_alloc ?_ _) | (with_reducible refine Kd.C_drewN ?_ _) | (with_reducible refine Kd.C_drew ?_))); (case side2 => exact (Kd.R_reads' HO431.out).2.1); rintro e w15 ⟨v434, rfl, ho0, hb⟩; refine ⟨_, rfl, ?_⟩; have n0_ := Aside0.mk (Kd.R_elder' q17_7 (Kd.R_base ho0) hb); have n1_ := Aside0.mk (Kd.R_elder' q17_8 (Kd.R_base ho0) hb); have n2_ := Aside0.mk (Kd.R_elder' q17_9 (Kd.R_base ho0) hb); have n3_ := Aside0.mk (Kd.R_lower (Kd.R_new' (Kd.R_new' (Kd.R_new' ho0 (Kd.R_lt q17_7)) (Kd.R_lt q17_8)) (Kd.R_lt q17_9)) (below_size q17_6)); have n4_ := Aside0.mk (below_step q17_6 hb); clear HO424; clear HO428; clear HO431; clear HB; have HO424 := n0_; have HO428 := n1_; have HO431 := n2_; have HO435 := n3_; have HB := n4_; clear n0_ n1_ n2_ n3_ n4_; (try clear hb); (try clear hb2); (try clear hk); (try clear hi); (try clear ho0)))
  (try simp only [Act.put, List.setIfInBounds_toArray, List.set_cons_zero, List.set_cons_succ])
  go_cut [44] (fun v44 wc => ∃ (kq : Nat) (x44_8 : Bool), v44 = .bool x44_8 ∧ Aside0 (laws_FnExactShortRules.j0 kq a0 l1 t425 t426 t429 t432 t433 x44_8 = some r) ∧ Aside0 (kq ≤ k) ∧ Aside0 (Kd.R k58 58 wc w.heap.size (fun k_ => some k_ ≠ ((.slice Ao14 t429.length co14) : Value).ownBlock ∧ some k_ ≠ (v434 : Value).ownBlock) v427 t425) ∧ Aside0 (Kd.R k58 58 wc w.heap.size (fun k_ => some k_ ≠ (v427 : Value).ownBlock ∧ some k_ ≠ (v434 : Value).ownBlock) (.slice Ao14 t429.length co14) t429) ∧ Aside0 (Kd.R k58 58 wc w.heap.size (fun k_ => some k_ ≠ (v427 : Value).ownBlock ∧ some k_ ≠ ((.slice Ao14 t429.length co14) : Value).ownBlock) v434 t432) ∧ Aside0 (Below w.heap.size w wc))
  case first =>
   have H := HC9.out
   clear HC9
   replace H := Option.bind_eq_some_iff.mp H
   obtain ⟨t436, A160, H⟩ := H
   replace H : (if t436 = true then (laws_FnExactShortRules.j0 k a0 l1 t425 t426 t429 t432 t433 (t433 != t426)) else (laws_FnExactShortRules.j0 k a0 l1 t425 t426 t429 t432 t433 true)) = some r := H
   have A16 := Aside0.mk A160
   clear A160
   by_cases c17 : t436 = true
   ·
    subst c17
    have H1 : (laws_FnExactShortRules.j0 k a0 l1 t425 t426 t429 t432 t433 (t433 != t426)) = some r := q17_16
    clear H
    have H := H1
    clear H1
    have H' := Aside0.mk H
    clear H
    obtain ⟨Ao18, co18, eo18⟩ := Kd.R_slice HO435.out
    subst eo18
    obtain ⟨Ao19, co19, eo19⟩ := Kd.R_slice HO428.out
    subst eo19
    go_wp2_with (first | ((with_reducible refine gate_callee (f := 22) rfl ?_); refine goesL_ (some 38) rfl rfl Tryd.func22 q17_17 rfl #[.slice Ao18 t432.length co18, .slice Ao19 t425.length co19] rfl q17_5 ?_; (with_reducible refine (laws_eqRuleS.calls k _ _ t432 _ _ t425 true _ ?side1 ?side2 ?side3 ?side4 A16.out).mono ?_); (case side1 => repeat (first | exact (Kd.R_reads' HO435.out).2.2 | (with_reducible refine Kd.C_alloc ?_ _) | (with_reducible refine Kd.C_drewN ?_ _) | (with_reducible refine Kd.C_drew ?_))); (case side2 => exact (Kd.R_reads' HO435.out).2.1); (case side3 => repeat (first | exact (Kd.R_reads' HO428.out).2.2 | (with_reducible refine Kd.C_alloc ?_ _) | (with_reducible refine Kd.C_drewN ?_ _) | (with_reducible refine Kd.C_drew ?_))); (case side4 => exact (Kd.R_reads' HO428.out).2.1); rintro e w20 ⟨rfl, hb⟩; refine ⟨_, rfl, ?_⟩; have n0_ := Aside0.mk (Kd.R_below q17_7 hb); have n1_ := Aside0.mk (Kd.R_below q17_8 hb); have n2_ := Aside0.mk (Kd.R_below q17_9 hb); have n3_ := Aside0.mk (Kd.R_below (by (with_reducible repeat (first | apply Kd.R_alloc | apply Kd.R_drewN | apply Kd.R_drew)); exact HO435.out) hb); have n4_ := Aside0.mk (below_step q17_6 hb); clear HO424; clear HO428; clear HO431; clear HO435; clear HB; have HO424 := n0_; have HO428 := n1_; have HO431 := n2_; have HO435 := n3_; have HB := n4_; clear n0_ n1_ n2_ n3_ n4_; (try clear hb); (try clear hb2); (try clear hk); (try clear hi)))
    go_meet
    case rel => exact ⟨_, ((t433 != t426)), q17_14, H', ⟨by first | omega | exact Nat.le_refl _⟩, ⟨by (with_reducible repeat (first | apply Kd.R_alloc | apply Kd.R_drewN | apply Kd.R_drew)); exact Kd.R_mono HO428.out (fun _ hk => ⟨by first | exact hk.1.2 | exact hk.1.1.2 | exact hk.1.1 | exact hk.2 | exact hk.1 | exact hk.1.1.1 | exact hk | exact hk.1.2.1 | exact hk.1.2.2 | exact hk.1.1.2.1 | exact hk.1.1.2.2 | exact hk.2.1 | exact hk.2.2 | exact hk.1.1.1.1 | exact hk.1.1.1.2 | exact hk.1.2.2.1 | exact hk.1.2.2.2 | exact hk.1.1.1.2.1 | exact hk.1.1.1.2.2 | exact hk.2.2.1 | exact hk.2.2.2 | exact hk.1.1.2.2.1 | exact hk.1.1.2.2.2 | exact hk.1.2.2.2.1 | exact hk.1.2.2.2.2 | exact hk.1.1.1.1.1 | exact hk.1.1.1.1.2, by first | exact hk.2 | exact hk.1.1.2 | exact hk.1.1 | exact hk.1.2 | exact hk.1 | exact hk.1.1.1 | exact hk | exact hk.1.2.1 | exact hk.1.2.2 | exact hk.1.1.2.1 | exact hk.1.1.2.2 | exact hk.2.1 | exact hk.2.2 | exact hk.1.1.1.1 | exact hk.1.1.1.2 | exact hk.1.2.2.1 | exact hk.1.2.2.2 | exact hk.1.1.1.2.1 | exact hk.1.1.1.2.2 | exact hk.2.2.1 | exact hk.2.2.2 | exact hk.1.1.2.2.1 | exact hk.1.1.2.2.2 | exact hk.1.2.2.2.1 | exact hk.1.2.2.2.2 | exact hk.1.1.1.1.1 | exact hk.1.1.1.1.2⟩)⟩, ⟨by (with_reducible repeat (first | apply Kd.R_alloc | apply Kd.R_drewN | apply Kd.R_drew)); exact Kd.R_mono HO431.out (fun _ hk => ⟨by first | exact hk.1.2 | exact hk.1.1.2 | exact hk.1.1 | exact hk.2 | exact hk.1 | exact hk.1.1.1 | exact hk | exact hk.1.2.1 | exact hk.1.2.2 | exact hk.1.1.2.1 | exact hk.1.1.2.2 | exact hk.2.1 | exact hk.2.2 | exact hk.1.1.1.1 | exact hk.1.1.1.2 | exact hk.1.2.2.1 | exact hk.1.2.2.2 | exact hk.1.1.1.2.1 | exact hk.1.1.1.2.2 | exact hk.2.2.1 | exact hk.2.2.2 | exact hk.1.1.2.2.1 | exact hk.1.1.2.2.2 | exact hk.1.2.2.2.1 | exact hk.1.2.2.2.2 | exact hk.1.1.1.1.1 | exact hk.1.1.1.1.2, by first | exact hk.2 | exact hk.1.1.2 | exact hk.1.1 | exact hk.1.2 | exact hk.1 | exact hk.1.1.1 | exact hk | exact hk.1.2.1 | exact hk.1.2.2 | exact hk.1.1.2.1 | exact hk.1.1.2.2 | exact hk.2.1 | exact hk.2.2 | exact hk.1.1.1.1 | exact hk.1.1.1.2 | exact hk.1.2.2.1 | exact hk.1.2.2.2 | exact hk.1.1.1.2.1 | exact hk.1.1.1.2.2 | exact hk.2.2.1 | exact hk.2.2.2 | exact hk.1.1.2.2.1 | exact hk.1.1.2.2.2 | exact hk.1.2.2.2.1 | exact hk.1.2.2.2.2 | exact hk.1.1.1.1.1 | exact hk.1.1.1.1.2⟩)⟩, ⟨by (with_reducible repeat (first | apply Kd.R_alloc | apply Kd.R_drewN | apply Kd.R_drew)); exact Kd.R_mono HO435.out (fun _ hk => ⟨by first | exact hk.1.2 | exact hk.1.1.2 | exact hk.1.1 | exact hk.2 | exact hk.1 | exact hk.1.1.1 | exact hk | exact hk.1.2.1 | exact hk.1.2.2 | exact hk.1.1.2.1 | exact hk.1.1.2.2 | exact hk.2.1 | exact hk.2.2 | exact hk.1.1.1.1 | exact hk.1.1.1.2 | exact hk.1.2.2.1 | exact hk.1.2.2.2 | exact hk.1.1.1.2.1 | exact hk.1.1.1.2.2 | exact hk.2.2.1 | exact hk.2.2.2 | exact hk.1.1.2.2.1 | exact hk.1.1.2.2.2 | exact hk.1.2.2.2.1 | exact hk.1.2.2.2.2 | exact hk.1.1.1.1.1 | exact hk.1.1.1.1.2, by first | exact hk.2 | exact hk.1.1.2 | exact hk.1.1 | exact hk.1.2 | exact hk.1 | exact hk.1.1.1 | exact hk | exact hk.1.2.1 | exact hk.1.2.2 | exact hk.1.1.2.1 | exact hk.1.1.2.2 | exact hk.2.1 | exact hk.2.2 | exact hk.1.1.1.1 | exact hk.1.1.1.2 | exact hk.1.2.2.1 | exact hk.1.2.2.2 | exact hk.1.1.1.2.1 | exact hk.1.1.1.2.2 | exact hk.2.2.1 | exact hk.2.2.2 | exact hk.1.1.2.2.1 | exact hk.1.1.2.2.2 | exact hk.1.2.2.2.1 | exact hk.1.2.2.2.2 | exact hk.1.1.1.1.1 | exact hk.1.1.1.1.2⟩)⟩, ⟨by repeat (first | (with_reducible first | exact HB.out | apply below_alloc | apply pw_below_drewN | apply below_drew1) | exact HB.out)⟩⟩
   ·
    replace c17 := Bool.eq_false_iff.mpr c17
    subst c17
    have H1 : (laws_FnExactShortRules.j0 k a0 l1 t425 t426 t429 t432 t433 true) = some r := q17_15
    clear H
    have H := H1
    clear H1
    refine absurd ?_ Bool.false_ne_true; revert H; generalize k = kq_; intro H; cases kq_ with | zero => exact absurd H (by simp only [laws_FnExactShortRules.j0]; exact fun h => by cases h) | succ kq_ => simp only [laws_FnExactShortRules.j0] at H; (try rw [if_pos rfl] at H); exact (Option.some.inj H).trans HRT.out
  case rest =>
   clear HC9
   try clear c1
   try clear c2
   try clear p2
   try clear c3
   try clear c4
   try clear c4b0
   try clear c9
   try clear c17
   try clear c19
   obtain ⟨kq, x44_8, rfl, HA, HJ8, HO_6, HO_8, HO_9, HB⟩ := hcut
   cases kq with
   | zero => exact absurd HA.out (by simp [laws_FnExactShortRules.j0])
   | succ kj8 =>
    have H := HA.out
    clear HA
    simp only [laws_FnExactShortRules.j0] at H
    by_cases c21 : x44_8 = true
    ·
     subst c21
     have H1 : (some false) = some r := q17_16
     clear H
     have H := H1
     clear H1
     exact absurd ((Option.some.inj H).trans HRT.out) Bool.false_ne_true
    ·
     replace c21 := Bool.eq_false_iff.mpr c21
     subst c21
     have H1 : ((laws_toRuleS.f kj8 l1).bind fun t437 => ((laws_eqRuleS.f kj8 t429 t437).bind fun t440 => (if t440 = true then ((laws_markRuleS.f kj8 t429 1).bind fun bt441 => (if bt441.1 < 0 then (laws_FnExactShortRules.j1 kj8 a0 l1 t425 t426 t432 true) else ((laws_eqRuleS.f kj8 t432 t425).bind fun t443 => (if t443 = true then (laws_FnExactShortRules.j1 kj8 a0 l1 t425 t426 t432 (t433 != t426)) else (laws_FnExactShortRules.j1 kj8 a0 l1 t425 t426 t432 true))))) else (some false)))) = some r := q17_15
     clear H
     have H := H1
     clear H1
     replace H := Option.bind_eq_some_iff.mp H
     obtain ⟨t437, A220, H⟩ := H
     replace H : ((laws_eqRuleS.f kj8 t429 t437).bind fun t440 => (if t440 = true then ((laws_markRuleS.f kj8 t429 1).bind fun bt441 => (if bt441.1 < 0 then (laws_FnExactShortRules.j1 kj8 a0 l1 t425 t426 t432 true) else ((laws_eqRuleS.f kj8 t432 t425).bind fun t443 => (if t443 = true then (laws_FnExactShortRules.j1 kj8 a0 l1 t425 t426 t432 (t433 != t426)) else (laws_FnExactShortRules.j1 kj8 a0 l1 t425 t426 t432 true))))) else (some false))) = some r := H
     have A22 := Aside0.mk A220
     clear A220
     replace H := Option.bind_eq_some_iff.mp H
     obtain ⟨t440, A230, H⟩ := H
     replace H : (if t440 = true then ((laws_markRuleS.f kj8 t429 1).bind fun bt441 => (if bt441.1 < 0 then (laws_FnExactShortRules.j1 kj8 a0 l1 t425 t426 t432 true) else ((laws_eqRuleS.f kj8 t432 t425).bind fun t443 => (if t443 = true then (laws_FnExactShortRules.j1 kj8 a0 l1 t425 t426 t432 (t433 != t426)) else (laws_FnExactShortRules.j1 kj8 a0 l1 t425 t426 t432 true))))) else (some false)) = some r := H
     have A23 := Aside0.mk A230
     clear A230
     by_cases c24 : t440 = true
     ·
      subst c24
      have H1 : ((laws_markRuleS.f kj8 t429 1).bind fun bt441 => (if bt441.1 < 0 then (laws_FnExactShortRules.j1 kj8 a0 l1 t425 t426 t432 true) else ((laws_eqRuleS.f kj8 t432 t425).bind fun t443 => (if t443 = true then (laws_FnExactShortRules.j1 kj8 a0 l1 t425 t426 t432 (t433 != t426)) else (laws_FnExactShortRules.j1 kj8 a0 l1 t425 t426 t432 true))))) = some r := q17_16
      clear H
      have H := H1
      clear H1
      replace H := Option.bind_eq_some_iff.mp H
      obtain ⟨⟨t441, t442⟩, A250, H⟩ := H
      replace H : (if t441 < 0 then (laws_FnExactShortRules.j1 kj8 a0 l1 t425 t426 t432 true) else ((laws_eqRuleS.f kj8 t432 t425).bind fun t443 => (if t443 = true then (laws_FnExactShortRules.j1 kj8 a0 l1 t425 t426 t432 (t433 != t426)) else (laws_FnExactShortRules.j1 kj8 a0 l1 t425 t426 t432 true)))) = some r := H
      have A25 := Aside0.mk A250
      clear A250
      have HC26 := Aside0.mk H
      clear H
      go_upto_region 14 with (first | ((with_reducible refine gate_callee (f := 19) rfl ?_); refine goesL_ (some 47) rfl rfl Tryd.func19 q17_17 rfl #[.slice A1 l1.length c1] rfl q17_5 ?_; (with_reducible refine (laws_toRuleS.calls kj8 _ _ l1 t437 _ ?side1 ?side2 A22.out).mono ?_); (case side1 => exact q17_1); (case side2 => exact HC1.out); rintro e w27 ⟨v438, rfl, ho0, hb⟩; refine ⟨_, rfl, ?_⟩; have n0_ := Aside0.mk (Kd.R_elder' q17_11 (Kd.R_base ho0) hb); have n1_ := Aside0.mk (Kd.R_elder' q17_12 (Kd.R_base ho0) hb); have n2_ := Aside0.mk (Kd.R_elder' q17_13 (Kd.R_base ho0) hb); have n3_ := Aside0.mk (Kd.R_lower (Kd.R_new' (Kd.R_new' (Kd.R_new' ho0 (Kd.R_lt q17_11)) (Kd.R_lt q17_12)) (Kd.R_lt q17_13)) (below_size q17_6)); have n4_ := Aside0.mk (below_step q17_6 hb); clear HO_6; clear HO_8; clear HO_9; clear HB; have HO_6 := n0_; have HO_8 := n1_; have HO_9 := n2_; have HO439 := n3_; have HB := n4_; clear n0_ n1_ n2_ n3_ n4_; (try clear hb); (try clear hb2); (try clear hk); (try clear hi); (try clear ho0); obtain ⟨Ao28, co28, eo28⟩ := Kd.R_slice HO439.out; subst eo28) | ((with_reducible refine gate_callee (f := 22) rfl ?_); refine goesL_ (some 48) rfl rfl Tryd.func22 q17_17 rfl #[.slice Ao14 t429.length co14, .slice Ao28 t437.length co28] rfl q17_5 ?_; (with_reducible refine (laws_eqRuleS.calls kj8 _ _ t429 _ _ t437 true _ ?side1 ?side2 ?side3 ?side4 A23.out).mono ?_); (case side1 => repeat (first | exact (Kd.R_reads' HO_8.out).2.2 | (with_reducible refine Kd.C_alloc ?_ _) | (with_reducible refine Kd.C_drewN ?_ _) | (with_reducible refine Kd.C_drew ?_))); (case side2 => exact (Kd.R_reads' HO_8.out).2.1); (case side3 => repeat (first | exact (Kd.R_reads' HO439.out).2.2 | (with_reducible refine Kd.C_alloc ?_ _) | (with_reducible refine Kd.C_drewN ?_ _) | (with_reducible refine Kd.C_drew ?_))); (case side4 => exact (Kd.R_reads' HO439.out).2.1); rintro e w29 ⟨rfl, hb⟩; refine ⟨_, rfl, ?_⟩; have n0_ := Aside0.mk (Kd.R_below q17_11 hb); have n1_ := Aside0.mk (Kd.R_below q17_12 hb); have n2_ := Aside0.mk (Kd.R_below q17_13 hb); have n3_ := Aside0.mk (Kd.R_below (by (with_reducible repeat (first | apply Kd.R_alloc | apply Kd.R_drewN | apply Kd.R_drew)); exact HO439.out) hb); have n4_ := Aside0.mk (below_step q17_6 hb); clear HO_6; clear HO_8; clear HO_9; clear HO439; clear HB; have HO_6 := n0_; have HO_8 := n1_; have HO_9 := n2_; have HO439 := n3_; have HB := n4_; clear n0_ n1_ n2_ n3_ n4_; (try clear hb); (try clear hb2); (try clear hk); (try clear hi)) | ((with_reducible refine gate_callee (f := 23) rfl ?_); refine goesL_ (some 52) rfl rfl Tryd.func23 q17_17 rfl #[.slice Ao14 t429.length co14, .int .i64 1] rfl q17_5 ?_; (with_reducible refine (laws_markRuleS.calls kj8 (fun k_ => some k_ = (.slice Ao14 t429.length co14 : Value).ownBlock) (.slice Ao14 t429.length co14) t429 1 t441 t442 w _ ?side1 ?side2 A25.out).mono ?_); (case side1 => exact q17_6); (case side2 => exact Kd.R_tight rfl HO_8.out); rintro e w30 ⟨rfl, hy0, hb, hkp⟩; refine ⟨_, rfl, ?_⟩; have n0_ := Aside0.mk (Kd.R_mono (ok' := fun k_ => some k_ ≠ (.slice Ao14 t429.length co14 : Value).ownBlock ∧ some k_ ≠ (v434 : Value).ownBlock ∧ some k_ ≠ (.slice Ao28 t437.length co28 : Value).ownBlock) (Kd.R_keptB (HO_6.out) hkp (fun k_ hk_ hs_ => by first | exact hk_.1.1 hs_ | exact hk_.1.1.2 hs_ | exact hk_.1.2 hs_ | exact hk_.2 hs_ | exact hk_.1 hs_ | exact hk_.1.1.1 hs_ | exact hk_ hs_ | exact hk_.1.2.1 hs_ | exact hk_.1.2.2 hs_ | exact hk_.1.1.2.1 hs_ | exact hk_.1.1.2.2 hs_ | exact hk_.2.1 hs_ | exact hk_.2.2 hs_ | exact hk_.1.1.1.1 hs_ | exact hk_.1.1.1.2 hs_ | exact hk_.1.2.2.1 hs_ | exact hk_.1.2.2.2 hs_ | exact hk_.1.1.1.2.1 hs_ | exact hk_.1.1.1.2.2 hs_ | exact hk_.2.2.1 hs_ | exact hk_.2.2.2 hs_ | exact hk_.1.1.2.2.1 hs_ | exact hk_.1.1.2.2.2 hs_ | exact hk_.1.2.2.2.1 hs_ | exact hk_.1.2.2.2.2 hs_ | exact hk_.1.1.1.1.1 hs_ | exact hk_.1.1.1.1.2 hs_)) (fun k_ hk_ => ⟨by first | exact hk_.1.1.1 | exact hk_.1.1.2 | exact hk_.1.1 | exact hk_.1.2 | exact hk_.2 | exact hk_.1 | exact hk_ | exact hk_.1.2.1 | exact hk_.1.2.2 | exact hk_.1.1.2.1 | exact hk_.1.1.2.2 | exact hk_.2.1 | exact hk_.2.2 | exact hk_.1.1.1.1 | exact hk_.1.1.1.2 | exact hk_.1.2.2.1 | exact hk_.1.2.2.2 | exact hk_.1.1.1.2.1 | exact hk_.1.1.1.2.2 | exact hk_.2.2.1 | exact hk_.2.2.2 | exact hk_.1.1.2.2.1 | exact hk_.1.1.2.2.2 | exact hk_.1.2.2.2.1 | exact hk_.1.2.2.2.2 | exact hk_.1.1.1.1.1 | exact hk_.1.1.1.1.2, by first | exact hk_.1.1.2 | exact hk_.1.1 | exact hk_.1.2 | exact hk_.2 | exact hk_.1 | exact hk_.1.1.1 | exact hk_ | exact hk_.1.2.1 | exact hk_.1.2.2 | exact hk_.1.1.2.1 | exact hk_.1.1.2.2 | exact hk_.2.1 | exact hk_.2.2 | exact hk_.1.1.1.1 | exact hk_.1.1.1.2 | exact hk_.1.2.2.1 | exact hk_.1.2.2.2 | exact hk_.1.1.1.2.1 | exact hk_.1.1.1.2.2 | exact hk_.2.2.1 | exact hk_.2.2.2 | exact hk_.1.1.2.2.1 | exact hk_.1.1.2.2.2 | exact hk_.1.2.2.2.1 | exact hk_.1.2.2.2.2 | exact hk_.1.1.1.1.1 | exact hk_.1.1.1.1.2, by first | exact hk_.1.2 | exact hk_.1.1.2 | exact hk_.1.1 | exact hk_.2 | exact hk_.1 | exact hk_.1.1.1 | exact hk_ | exact hk_.1.2.1 | exact hk_.1.2.2 | exact hk_.1.1.2.1 | exact hk_.1.1.2.2 | exact hk_.2.1 | exact hk_.2.2 | exact hk_.1.1.1.1 | exact hk_.1.1.1.2 | exact hk_.1.2.2.1 | exact hk_.1.2.2.2 | exact hk_.1.1.1.2.1 | exact hk_.1.1.1.2.2 | exact hk_.2.2.1 | exact hk_.2.2.2 | exact hk_.1.1.2.2.1 | exact hk_.1.1.2.2.2 | exact hk_.1.2.2.2.1 | exact hk_.1.2.2.2.2 | exact hk_.1.1.1.1.1 | exact hk_.1.1.1.1.2⟩)); have n1_ := Aside0.mk (Kd.R_reok rfl hy0 (fun k_ e_ => HO_8.out.1 k_ e_)); have n2_ := Aside0.mk (Kd.R_mono (ok' := fun k_ => some k_ ≠ (v427 : Value).ownBlock ∧ some k_ ≠ (.slice Ao14 t429.length co14 : Value).ownBlock ∧ some k_ ≠ (.slice Ao28 t437.length co28 : Value).ownBlock) (Kd.R_keptB (HO_9.out) hkp (fun k_ hk_ hs_ => by first | exact hk_.1.2 hs_ | exact hk_.1.1.2 hs_ | exact hk_.1.1 hs_ | exact hk_.2 hs_ | exact hk_.1 hs_ | exact hk_.1.1.1 hs_ | exact hk_ hs_ | exact hk_.1.2.1 hs_ | exact hk_.1.2.2 hs_ | exact hk_.1.1.2.1 hs_ | exact hk_.1.1.2.2 hs_ | exact hk_.2.1 hs_ | exact hk_.2.2 hs_ | exact hk_.1.1.1.1 hs_ | exact hk_.1.1.1.2 hs_ | exact hk_.1.2.2.1 hs_ | exact hk_.1.2.2.2 hs_ | exact hk_.1.1.1.2.1 hs_ | exact hk_.1.1.1.2.2 hs_ | exact hk_.2.2.1 hs_ | exact hk_.2.2.2 hs_ | exact hk_.1.1.2.2.1 hs_ | exact hk_.1.1.2.2.2 hs_ | exact hk_.1.2.2.2.1 hs_ | exact hk_.1.2.2.2.2 hs_ | exact hk_.1.1.1.1.1 hs_ | exact hk_.1.1.1.1.2 hs_)) (fun k_ hk_ => ⟨by first | exact hk_.1.1.1 | exact hk_.1.1.2 | exact hk_.1.1 | exact hk_.1.2 | exact hk_.2 | exact hk_.1 | exact hk_ | exact hk_.1.2.1 | exact hk_.1.2.2 | exact hk_.1.1.2.1 | exact hk_.1.1.2.2 | exact hk_.2.1 | exact hk_.2.2 | exact hk_.1.1.1.1 | exact hk_.1.1.1.2 | exact hk_.1.2.2.1 | exact hk_.1.2.2.2 | exact hk_.1.1.1.2.1 | exact hk_.1.1.1.2.2 | exact hk_.2.2.1 | exact hk_.2.2.2 | exact hk_.1.1.2.2.1 | exact hk_.1.1.2.2.2 | exact hk_.1.2.2.2.1 | exact hk_.1.2.2.2.2 | exact hk_.1.1.1.1.1 | exact hk_.1.1.1.1.2, by first | exact hk_.1.1.2 | exact hk_.1.1 | exact hk_.1.2 | exact hk_.2 | exact hk_.1 | exact hk_.1.1.1 | exact hk_ | exact hk_.1.2.1 | exact hk_.1.2.2 | exact hk_.1.1.2.1 | exact hk_.1.1.2.2 | exact hk_.2.1 | exact hk_.2.2 | exact hk_.1.1.1.1 | exact hk_.1.1.1.2 | exact hk_.1.2.2.1 | exact hk_.1.2.2.2 | exact hk_.1.1.1.2.1 | exact hk_.1.1.1.2.2 | exact hk_.2.2.1 | exact hk_.2.2.2 | exact hk_.1.1.2.2.1 | exact hk_.1.1.2.2.2 | exact hk_.1.2.2.2.1 | exact hk_.1.2.2.2.2 | exact hk_.1.1.1.1.1 | exact hk_.1.1.1.1.2, by first | exact hk_.1.2 | exact hk_.1.1.2 | exact hk_.1.1 | exact hk_.2 | exact hk_.1 | exact hk_.1.1.1 | exact hk_ | exact hk_.1.2.1 | exact hk_.1.2.2 | exact hk_.1.1.2.1 | exact hk_.1.1.2.2 | exact hk_.2.1 | exact hk_.2.2 | exact hk_.1.1.1.1 | exact hk_.1.1.1.2 | exact hk_.1.2.2.1 | exact hk_.1.2.2.2 | exact hk_.1.1.1.2.1 | exact hk_.1.1.1.2.2 | exact hk_.2.2.1 | exact hk_.2.2.2 | exact hk_.1.1.2.2.1 | exact hk_.1.1.2.2.2 | exact hk_.1.2.2.2.1 | exact hk_.1.2.2.2.2 | exact hk_.1.1.1.1.1 | exact hk_.1.1.1.1.2⟩)); have n3_ := Aside0.mk (Kd.R_mono (ok' := fun k_ => some k_ ≠ (v427 : Value).ownBlock ∧ some k_ ≠ (.slice Ao14 t429.length co14 : Value).ownBlock ∧ some k_ ≠ (v434 : Value).ownBlock) (Kd.R_keptB (HO439.out) hkp (fun k_ hk_ hs_ => by first | exact hk_.1.2 hs_ | exact hk_.1.1.2 hs_ | exact hk_.1.1 hs_ | exact hk_.2 hs_ | exact hk_.1 hs_ | exact hk_.1.1.1 hs_ | exact hk_ hs_ | exact hk_.1.2.1 hs_ | exact hk_.1.2.2 hs_ | exact hk_.1.1.2.1 hs_ | exact hk_.1.1.2.2 hs_ | exact hk_.2.1 hs_ | exact hk_.2.2 hs_ | exact hk_.1.1.1.1 hs_ | exact hk_.1.1.1.2 hs_ | exact hk_.1.2.2.1 hs_ | exact hk_.1.2.2.2 hs_ | exact hk_.1.1.1.2.1 hs_ | exact hk_.1.1.1.2.2 hs_ | exact hk_.2.2.1 hs_ | exact hk_.2.2.2 hs_ | exact hk_.1.1.2.2.1 hs_ | exact hk_.1.1.2.2.2 hs_ | exact hk_.1.2.2.2.1 hs_ | exact hk_.1.2.2.2.2 hs_ | exact hk_.1.1.1.1.1 hs_ | exact hk_.1.1.1.1.2 hs_)) (fun k_ hk_ => ⟨by first | exact hk_.1.1.1.2 | exact hk_.1.1.2 | exact hk_.1.1 | exact hk_.1.2 | exact hk_.2 | exact hk_.1 | exact hk_.1.1.1 | exact hk_ | exact hk_.1.2.1 | exact hk_.1.2.2 | exact hk_.1.1.2.1 | exact hk_.1.1.2.2 | exact hk_.2.1 | exact hk_.2.2 | exact hk_.1.1.1.1 | exact hk_.1.2.2.1 | exact hk_.1.2.2.2 | exact hk_.1.1.1.2.1 | exact hk_.1.1.1.2.2 | exact hk_.2.2.1 | exact hk_.2.2.2 | exact hk_.1.1.2.2.1 | exact hk_.1.1.2.2.2 | exact hk_.1.2.2.2.1 | exact hk_.1.2.2.2.2 | exact hk_.1.1.1.1.1 | exact hk_.1.1.1.1.2, by first | exact hk_.1.1.2 | exact hk_.1.1 | exact hk_.1.2 | exact hk_.2 | exact hk_.1 | exact hk_.1.1.1 | exact hk_ | exact hk_.1.2.1 | exact hk_.1.2.2 | exact hk_.1.1.2.1 | exact hk_.1.1.2.2 | exact hk_.2.1 | exact hk_.2.2 | exact hk_.1.1.1.1 | exact hk_.1.1.1.2 | exact hk_.1.2.2.1 | exact hk_.1.2.2.2 | exact hk_.1.1.1.2.1 | exact hk_.1.1.1.2.2 | exact hk_.2.2.1 | exact hk_.2.2.2 | exact hk_.1.1.2.2.1 | exact hk_.1.1.2.2.2 | exact hk_.1.2.2.2.1 | exact hk_.1.2.2.2.2 | exact hk_.1.1.1.1.1 | exact hk_.1.1.1.1.2, by first | exact hk_.1.2 | exact hk_.1.1.2 | exact hk_.1.1 | exact hk_.2 | exact hk_.1 | exact hk_.1.1.1 | exact hk_ | exact hk_.1.2.1 | exact hk_.1.2.2 | exact hk_.1.1.2.1 | exact hk_.1.1.2.2 | exact hk_.2.1 | exact hk_.2.2 | exact hk_.1.1.1.1 | exact hk_.1.1.1.2 | exact hk_.1.2.2.1 | exact hk_.1.2.2.2 | exact hk_.1.1.1.2.1 | exact hk_.1.1.1.2.2 | exact hk_.2.2.1 | exact hk_.2.2.2 | exact hk_.1.1.2.2.1 | exact hk_.1.1.2.2.2 | exact hk_.1.2.2.2.1 | exact hk_.1.2.2.2.2 | exact hk_.1.1.1.1.1 | exact hk_.1.1.1.1.2⟩)); have n4_ := Aside0.mk (hb); clear HO_6; clear HO_8; clear HO_9; clear HO439; clear HB; have HO_6 := n0_; have HO_8 := n1_; have HO_9 := n2_; have HO439 := n3_; have HB := n4_; clear n0_ n1_ n2_ n3_ n4_; (try clear hb); (try clear hkp); (try clear hy0)))
      (try simp only [Act.put, List.setIfInBounds_toArray, List.set_cons_zero, List.set_cons_succ])
      go_cut [65] (fun v65 wc => ∃ (kq : Nat) (x65_25 : Bool), v65 = .bool x65_25 ∧ Aside0 (laws_FnExactShortRules.j1 kq a0 l1 t425 t426 t432 x65_25 = some r) ∧ Aside0 (kq ≤ kj8) ∧ Aside0 (Kd.R k58 58 wc w.heap.size (fun k_ => some k_ ≠ (v434 : Value).ownBlock) v427 t425) ∧ Aside0 (Kd.R k58 58 wc w.heap.size (fun k_ => some k_ ≠ (v427 : Value).ownBlock) v434 t432) ∧ Aside0 (Below w.heap.size w wc))
      case first =>
       have H := HC26.out
       clear HC26
       by_cases c31 : t441 < 0
       ·
        rw [if_pos c31] at H
        refine absurd ?_ Bool.false_ne_true; revert H; generalize kj8 = kq_; intro H; cases kq_ with | zero => exact absurd H (by simp only [laws_FnExactShortRules.j1]; exact fun h => by cases h) | succ kq_ => simp only [laws_FnExactShortRules.j1] at H; (try rw [if_pos rfl] at H); exact (Option.some.inj H).trans HRT.out
       ·
        rw [if_neg c31] at H
        have c31b0 : decide (t441 < 0) = false := decide_eq_false c31
        clear c31
        (first | rw [c31b0] | (simp only [i64_w, i32_w]; rw [c31b0]) | skip)
        replace H := Option.bind_eq_some_iff.mp H
        obtain ⟨t443, A320, H⟩ := H
        replace H : (if t443 = true then (laws_FnExactShortRules.j1 kj8 a0 l1 t425 t426 t432 (t433 != t426)) else (laws_FnExactShortRules.j1 kj8 a0 l1 t425 t426 t432 true)) = some r := H
        have A32 := Aside0.mk A320
        clear A320
        by_cases c33 : t443 = true
        ·
         subst c33
         have H1 : (laws_FnExactShortRules.j1 kj8 a0 l1 t425 t426 t432 (t433 != t426)) = some r := q17_16
         clear H
         have H := H1
         clear H1
         have H' := Aside0.mk H
         clear H
         obtain ⟨Ao34, co34, eo34⟩ := Kd.R_slice HO_9.out
         subst eo34
         obtain ⟨Ao35, co35, eo35⟩ := Kd.R_slice HO_6.out
         subst eo35
         go_wp2_with (first | (go_at_call 22; (with_reducible refine (laws_eqRuleS.calls kj8 _ _ t432 _ _ t425 true _ ?side1 ?side2 ?side3 ?side4 A32.out).mono ?_); (case side1 => exact q17_3); (case side2 => exact (Kd.R_reads' HO_9.out).2.1); (case side3 => exact q17_2); (case side4 => exact (Kd.R_reads' HO_6.out).2.1); rintro e w36 ⟨rfl, hb⟩; have n0_ := Aside0.mk (Kd.R_below q17_11 hb); have n1_ := Aside0.mk (Kd.R_below q17_12 hb); have n2_ := Aside0.mk (Kd.R_below q17_13 hb); have n3_ := Aside0.mk (Kd.R_below (by (with_reducible repeat (first | apply Kd.R_alloc | apply Kd.R_drewN | apply Kd.R_drew)); exact HO439.out) hb); have n4_ := Aside0.mk (below_step q17_6 hb); clear HO_6; clear HO_8; clear HO_9; clear HO439; clear HB; have HO_6 := n0_; have HO_8 := n1_; have HO_9 := n2_; have HO439 := n3_; have HB := n4_; clear n0_ n1_ n2_ n3_ n4_; (try clear hb); (try clear hb2); (try clear hk); (try clear hi)))
         go_meet
         case rel => exact ⟨_, ((t433 != t426)), q17_14, H', ⟨by have := HJ8.out; first | omega | exact Nat.le_refl _⟩, ⟨by (with_reducible repeat (first | apply Kd.R_alloc | apply Kd.R_drewN | apply Kd.R_drew)); exact Kd.R_mono HO_6.out (fun _ hk => hk.2.1)⟩, ⟨by (with_reducible repeat (first | apply Kd.R_alloc | apply Kd.R_drewN | apply Kd.R_drew)); exact Kd.R_mono HO_9.out (fun _ hk => hk.1)⟩, ⟨by repeat (first | (with_reducible first | exact HB.out | apply below_alloc | apply pw_below_drewN | apply below_drew1) | exact HB.out)⟩⟩
        ·
         replace c33 := Bool.eq_false_iff.mpr c33
         subst c33
         have H1 : (laws_FnExactShortRules.j1 kj8 a0 l1 t425 t426 t432 true) = some r := q17_15
         clear H
         have H := H1
         clear H1
         refine absurd ?_ Bool.false_ne_true; revert H; generalize kj8 = kq_; intro H; cases kq_ with | zero => exact absurd H (by simp only [laws_FnExactShortRules.j1]; exact fun h => by cases h) | succ kq_ => simp only [laws_FnExactShortRules.j1] at H; (try rw [if_pos rfl] at H); exact (Option.some.inj H).trans HRT.out
      case rest =>
       clear HC26
       try clear c1
       try clear c2
       try clear p2
       try clear c3
       try clear c4
       try clear c4b0
       try clear c9
       try clear c17
       try clear c19
       try clear c21
       try clear c22
       try clear c23
       try clear c24
       try clear c31
       try clear c31b0
       try clear c33
       try clear p2
       obtain ⟨kq, x65_25, rfl, HA, HJ25, HO_6, HO_9, HB⟩ := hcut
       cases kq with
       | zero => exact absurd HA.out (by simp [laws_FnExactShortRules.j1])
       | succ kj25 =>
        have H := HA.out
        clear HA
        simp only [laws_FnExactShortRules.j1] at H
        by_cases c37 : x65_25 = true
        ·
         subst c37
         have H1 : (some false) = some r := q17_16
         clear H
         have H := H1
         clear H1
         exact absurd ((Option.some.inj H).trans HRT.out) Bool.false_ne_true
        ·
         replace c37 := Bool.eq_false_iff.mpr c37
         subst c37
         have H1 : ((laws_markRuleS.f kj25 t432 1).bind fun bt444 => ((laws_heldRuleS.f kj25 bt444.2 1).bind fun t446 => (if t446 < 0 then (some false) else (if t446 = bt444.1 then ((laws_toRuleS.f kj25 l1).bind fun t447 => ((impl_ShortRules.f a0 t447).bind fun bt450 => ((laws_eqRuleS.f kj25 bt450.1 t425).bind fun t454 => (if t454 = true then (laws_FnExactShortRules.j2 kj25 bt444.2 bt444.1 (bt450.2 != t426)) else (laws_FnExactShortRules.j2 kj25 bt444.2 bt444.1 true))))) else (some false))))) = some r := q17_15
         clear H
         have H := H1
         clear H1
         replace H := Option.bind_eq_some_iff.mp H
         obtain ⟨⟨t444, t445⟩, A380, H⟩ := H
         replace H : ((laws_heldRuleS.f kj25 t445 1).bind fun t446 => (if t446 < 0 then (some false) else (if t446 = t444 then ((laws_toRuleS.f kj25 l1).bind fun t447 => ((impl_ShortRules.f a0 t447).bind fun bt450 => ((laws_eqRuleS.f kj25 bt450.1 t425).bind fun t454 => (if t454 = true then (laws_FnExactShortRules.j2 kj25 t445 t444 (bt450.2 != t426)) else (laws_FnExactShortRules.j2 kj25 t445 t444 true))))) else (some false)))) = some r := H
         have A38 := Aside0.mk A380
         clear A380
         replace H := Option.bind_eq_some_iff.mp H
         obtain ⟨t446, A390, H⟩ := H
         replace H : (if t446 < 0 then (some false) else (if t446 = t444 then ((laws_toRuleS.f kj25 l1).bind fun t447 => ((impl_ShortRules.f a0 t447).bind fun bt450 => ((laws_eqRuleS.f kj25 bt450.1 t425).bind fun t454 => (if t454 = true then (laws_FnExactShortRules.j2 kj25 t445 t444 (bt450.2 != t426)) else (laws_FnExactShortRules.j2 kj25 t445 t444 true))))) else (some false))) = some r := H
         have A39 := Aside0.mk A390
         clear A390
         by_cases c40 : t446 < 0
         ·
          rw [if_pos c40] at H
          exact absurd ((Option.some.inj H).trans HRT.out) Bool.false_ne_true
         ·
          rw [if_neg c40] at H
          have c40b0 : decide (t446 < 0) = false := decide_eq_false c40
          clear c40
          by_cases c41 : t446 = t444
          ·
           rw [if_pos c41] at H
           have c41b0 : (t446 == t444) = true := beq_iff_eq.mpr c41
           have c41b1 : (t446 != t444) = false := bne_eq_false_iff_eq.mpr c41
           clear c41
           replace H := Option.bind_eq_some_iff.mp H
           obtain ⟨t447, A420, H⟩ := H
           replace H : ((impl_ShortRules.f a0 t447).bind fun bt450 => ((laws_eqRuleS.f kj25 bt450.1 t425).bind fun t454 => (if t454 = true then (laws_FnExactShortRules.j2 kj25 t445 t444 (bt450.2 != t426)) else (laws_FnExactShortRules.j2 kj25 t445 t444 true)))) = some r := H
           have A42 := Aside0.mk A420
           clear A420
           replace H := Option.bind_eq_some_iff.mp H
           obtain ⟨⟨t450, t451⟩, A430, H⟩ := H
           replace H : ((laws_eqRuleS.f kj25 t450 t425).bind fun t454 => (if t454 = true then (laws_FnExactShortRules.j2 kj25 t445 t444 (t451 != t426)) else (laws_FnExactShortRules.j2 kj25 t445 t444 true))) = some r := H
           have A43 := Aside0.mk A430
           clear A430
           have HC44 := Aside0.mk H
           clear H
           obtain ⟨Ao45, co45, eo45⟩ := Kd.R_slice HO_9.out
           subst eo45
           go_upto_region 25 with (first | ((with_reducible refine gate_callee (f := 23) rfl ?_); refine goesL_ (some 68) rfl rfl Tryd.func23 q17_17 rfl #[.slice Ao45 t432.length co45, .int .i64 1] rfl q17_5 ?_; (with_reducible refine (laws_markRuleS.calls kj25 (fun k_ => some k_ = (.slice Ao45 t432.length co45 : Value).ownBlock) (.slice Ao45 t432.length co45) t432 1 t444 t445 w _ ?side1 ?side2 A38.out).mono ?_); (case side1 => exact q17_6); (case side2 => exact Kd.R_tight rfl HO_9.out); rintro e w46 ⟨rfl, hy0, hb, hkp⟩; refine ⟨_, rfl, ?_⟩; have n0_ := Aside0.mk (Kd.R_mono (ok' := fun k_ => some k_ ≠ (.slice Ao45 t432.length co45 : Value).ownBlock) (Kd.R_keptB (HO_6.out) hkp (fun k_ hk_ hs_ => by first | exact hk_ hs_ | exact hk_.1.1.2 hs_ | exact hk_.1.1 hs_ | exact hk_.1.2 hs_ | exact hk_.2 hs_ | exact hk_.1 hs_ | exact hk_.1.1.1 hs_ | exact hk_.1.2.1 hs_ | exact hk_.1.2.2 hs_ | exact hk_.1.1.2.1 hs_ | exact hk_.1.1.2.2 hs_ | exact hk_.2.1 hs_ | exact hk_.2.2 hs_ | exact hk_.1.1.1.1 hs_ | exact hk_.1.1.1.2 hs_ | exact hk_.1.2.2.1 hs_ | exact hk_.1.2.2.2 hs_ | exact hk_.1.1.1.2.1 hs_ | exact hk_.1.1.1.2.2 hs_ | exact hk_.2.2.1 hs_ | exact hk_.2.2.2 hs_ | exact hk_.1.1.2.2.1 hs_ | exact hk_.1.1.2.2.2 hs_ | exact hk_.1.2.2.2.1 hs_ | exact hk_.1.2.2.2.2 hs_ | exact hk_.1.1.1.1.1 hs_ | exact hk_.1.1.1.1.2 hs_)) (fun k_ hk_ => hk_.1)); have n1_ := Aside0.mk (Kd.R_reok rfl hy0 (fun k_ e_ => HO_9.out.1 k_ e_)); have n2_ := Aside0.mk (hb); clear HO_6; clear HO_9; clear HB; have HO_6 := n0_; have HO_9 := n1_; have HB := n2_; clear n0_ n1_ n2_; (try clear hb); (try clear hkp); (try clear hy0)) | ((with_reducible refine gate_callee (f := 36) rfl ?_); refine goesL_ (some 71) rfl rfl Tryd.func36 q17_17 rfl #[.slice Ao45 t445.length co45, .int .i64 1] rfl (by (try simp only [List.map_toArray, List.map_cons, List.map_nil]); first | done | (rw [show t445.length = t432.length from (Kd.R_reads' HO_9.out).1.symm] <;> rfl) | rfl | (simp only [List.length_drop, List.length_take]; rfl)) ?_; (with_reducible refine (laws_heldRuleS.calls kj25 _ _ t445 1 t446 _ ?side1 ?side2 A39.out).mono ?_); (case side1 => exact q17_3); (case side2 => rw [show t445.length = t432.length from (Kd.R_reads' HO_9.out).1.symm]; exact (Kd.R_reads' HO_9.out).2.1); rintro e w' ⟨rfl, ⟨nd, rfl⟩⟩; refine ⟨_, rfl, ?_⟩) | ((with_reducible refine gate_callee (f := 19) rfl ?_); refine goesL_ (some 80) rfl rfl Tryd.func19 q17_17 rfl #[.slice A1 l1.length c1] rfl q17_5 ?_; (with_reducible refine (laws_toRuleS.calls kj25 _ _ l1 t447 _ ?side1 ?side2 A42.out).mono ?_); (case side1 => repeat (first | exact (Kd.C_below HR1.out q17_6) | (with_reducible refine Kd.C_alloc ?_ _) | (with_reducible refine Kd.C_drewN ?_ _) | (with_reducible refine Kd.C_drew ?_))); (case side2 => exact HC1.out); rintro e w47 ⟨v448, rfl, ho0, hb⟩; refine ⟨_, rfl, ?_⟩; have n0_ := Aside0.mk (Kd.R_elder' q17_11 (Kd.R_base ho0) hb); have n1_ := Aside0.mk (Kd.R_elder' q17_13 (Kd.R_base ho0) hb); have n2_ := Aside0.mk (Kd.R_lower (Kd.R_new' (Kd.R_new' ho0 (Kd.R_lt q17_11)) (Kd.R_lt q17_13)) (below_size q17_6)); have n3_ := Aside0.mk (below_step q17_6 hb); clear HO_6; clear HO_9; clear HB; have HO_6 := n0_; have HO_9 := n1_; have HO449 := n2_; have HB := n3_; clear n0_ n1_ n2_ n3_; (try clear hb); (try clear hb2); (try clear hk); (try clear hi); (try clear ho0); obtain ⟨Ao48, co48, eo48⟩ := Kd.R_slice HO449.out; subst eo48) | ((with_reducible refine gate_callee (f := 38) rfl ?_); refine goesL_ (some 81) rfl rfl Tryd.func38 q17_17 rfl #[.int .i64 a0, .slice Ao48 t447.length co48] rfl q17_5 ?_; (with_reducible refine (impl_ShortRules.calls a0 _ _ t447 t450 t451 _ ?side1 ?side2 ?tab A43.out).mono ?_); (case tab => first | exact HTB.out | (refine Tab64.below HTB.out ?_; repeat (first | (with_reducible first | exact HB.out | apply below_alloc | apply pw_below_drewN | apply below_drew1) | exact HB.out)) | (repeat (first | exact HTB.out | apply Tab64.drewN | apply Tab64.drew | apply Tab64.alloc))); (case side1 => repeat (first | exact (Kd.R_reads' HO449.out).2.2 | (with_reducible refine Kd.C_alloc ?_ _) | (with_reducible refine Kd.C_drewN ?_ _) | (with_reducible refine Kd.C_drew ?_))); (case side2 => exact (Kd.R_reads' HO449.out).2.1); rintro e w49 ⟨v452, rfl, ho0, hb⟩; refine ⟨_, rfl, ?_⟩; have n0_ := Aside0.mk (Kd.R_elder' q17_11 (Kd.R_base ho0) hb); have n1_ := Aside0.mk (Kd.R_elder' q17_13 (Kd.R_base ho0) hb); have n2_ := Aside0.mk (Kd.R_elder' q17_10 (Kd.R_base ho0) hb); have n3_ := Aside0.mk (Kd.R_lower (Kd.R_new' (Kd.R_new' (Kd.R_new' ho0 (Kd.R_lt q17_11)) (Kd.R_lt q17_13)) (Kd.R_lt q17_10)) (below_size q17_6)); have n4_ := Aside0.mk (below_step q17_6 hb); clear HO_6; clear HO_9; clear HO449; clear HB; have HO_6 := n0_; have HO_9 := n1_; have HO449 := n2_; have HO453 := n3_; have HB := n4_; clear n0_ n1_ n2_ n3_ n4_; (try clear hb); (try clear hb2); (try clear hk); (try clear hi); (try clear ho0)))
           (try simp only [Act.put, List.setIfInBounds_toArray, List.set_cons_zero, List.set_cons_succ])
           go_cut [92] (fun v92 wc => ∃ (kq : Nat) (x92_43 : Bool), v92 = .bool x92_43 ∧ Aside0 (laws_FnExactShortRules.j2 kq t445 t444 x92_43 = some r) ∧ Aside0 (kq ≤ kj25) ∧ Aside0 (Kd.R k58 58 wc w.heap.size (fun _ => True) (.slice Ao45 t432.length co45) t445) ∧ Aside0 (Below w.heap.size w wc))
           case first =>
            have H := HC44.out
            clear HC44
            replace H := Option.bind_eq_some_iff.mp H
            obtain ⟨t454, A500, H⟩ := H
            replace H : (if t454 = true then (laws_FnExactShortRules.j2 kj25 t445 t444 (t451 != t426)) else (laws_FnExactShortRules.j2 kj25 t445 t444 true)) = some r := H
            have A50 := Aside0.mk A500
            clear A500
            by_cases c51 : t454 = true
            ·
             subst c51
             have H1 : (laws_FnExactShortRules.j2 kj25 t445 t444 (t451 != t426)) = some r := q17_16
             clear H
             have H := H1
             clear H1
             have H' := Aside0.mk H
             clear H
             obtain ⟨Ao52, co52, eo52⟩ := Kd.R_slice HO453.out
             subst eo52
             obtain ⟨Ao53, co53, eo53⟩ := Kd.R_slice HO_6.out
             subst eo53
             go_wp2_with (first | ((with_reducible refine gate_callee (f := 22) rfl ?_); refine goesL_ (some 86) rfl rfl Tryd.func22 q17_17 rfl #[.slice Ao52 t450.length co52, .slice Ao53 t425.length co53] rfl q17_5 ?_; (with_reducible refine (laws_eqRuleS.calls kj25 _ _ t450 _ _ t425 true _ ?side1 ?side2 ?side3 ?side4 A50.out).mono ?_); (case side1 => repeat (first | exact (Kd.R_reads' HO453.out).2.2 | (with_reducible refine Kd.C_alloc ?_ _) | (with_reducible refine Kd.C_drewN ?_ _) | (with_reducible refine Kd.C_drew ?_))); (case side2 => exact (Kd.R_reads' HO453.out).2.1); (case side3 => exact q17_2); (case side4 => exact (Kd.R_reads' HO_6.out).2.1); rintro e w54 ⟨rfl, hb⟩; refine ⟨_, rfl, ?_⟩; have n0_ := Aside0.mk (Kd.R_below q17_11 hb); have n1_ := Aside0.mk (Kd.R_below q17_13 hb); have n2_ := Aside0.mk (Kd.R_below q17_10 hb); have n3_ := Aside0.mk (Kd.R_below (by (with_reducible repeat (first | apply Kd.R_alloc | apply Kd.R_drewN | apply Kd.R_drew)); exact HO453.out) hb); have n4_ := Aside0.mk (below_step q17_6 hb); clear HO_6; clear HO_9; clear HO449; clear HO453; clear HB; have HO_6 := n0_; have HO_9 := n1_; have HO449 := n2_; have HO453 := n3_; have HB := n4_; clear n0_ n1_ n2_ n3_ n4_; (try clear hb); (try clear hb2); (try clear hk); (try clear hi)))
             go_meet
             case rel => exact ⟨_, ((t451 != t426)), q17_14, H', ⟨by have := HJ8.out; have := HJ25.out; first | omega | exact Nat.le_refl _⟩, ⟨by (with_reducible repeat (first | apply Kd.R_alloc | apply Kd.R_drewN | apply Kd.R_drew)); exact Kd.R_mono HO_9.out (fun _ hk => trivial)⟩, ⟨by repeat (first | (with_reducible first | exact HB.out | apply below_alloc | apply pw_below_drewN | apply below_drew1) | exact HB.out)⟩⟩
            ·
             replace c51 := Bool.eq_false_iff.mpr c51
             subst c51
             have H1 : (laws_FnExactShortRules.j2 kj25 t445 t444 true) = some r := q17_15
             clear H
             have H := H1
             clear H1
             refine absurd ?_ Bool.false_ne_true; revert H; generalize kj25 = kq_; intro H; cases kq_ with | zero => exact absurd H (by simp only [laws_FnExactShortRules.j2]; exact fun h => by cases h) | succ kq_ => simp only [laws_FnExactShortRules.j2] at H; (try rw [if_pos rfl] at H); exact (Option.some.inj H).trans HRT.out
           case rest =>
            clear HC44
            try clear c1
            try clear c2
            try clear p2
            try clear c3
            try clear c4
            try clear c4b0
            try clear c5
            try clear c9
            try clear c17
            try clear c19
            try clear c21
            try clear c22
            try clear c23
            try clear c24
            try clear c31
            try clear c31b0
            try clear c33
            try clear c36
            try clear c37
            try clear c38
            try clear c40
            try clear c40b0
            try clear c41
            try clear c41b0
            try clear c41b1
            try clear c51
            try clear p2
            obtain ⟨kq, x92_43, rfl, HA, HJ43, HO_9, HB⟩ := hcut
            have hl9_43 := (Kd.R_reads' HO_9.out).1
            rw [hl9_43] at HO_9
            (try simp only [hl9_43])
            cases kq with
            | zero => exact absurd HA.out (by simp [laws_FnExactShortRules.j2])
            | succ kj43 =>
             have H := HA.out
             clear HA
             simp only [laws_FnExactShortRules.j2] at H
             by_cases c55 : x92_43 = true
             ·
              subst c55
              have H1 : (some false) = some r := q17_16
              clear H
              have H := H1
              clear H1
              exact absurd ((Option.some.inj H).trans HRT.out) Bool.false_ne_true
             ·
              replace c55 := Bool.eq_false_iff.mpr c55
              subst c55
              have H1 : ((laws_heldRuleS.f kj43 t445 1).bind fun t455 => (if t455 < 0 then (some false) else (if t455 = t444 then (some true) else (some false)))) = some r := q17_15
              clear H
              have H := H1
              clear H1
              replace H := Option.bind_eq_some_iff.mp H
              obtain ⟨t455, A560, H⟩ := H
              replace H : (if t455 < 0 then (some false) else (if t455 = t444 then (some true) else (some false))) = some r := H
              have A56 := Aside0.mk A560
              clear A560
              by_cases c57 : t455 < 0
              ·
               rw [if_pos c57] at H
               exact absurd ((Option.some.inj H).trans HRT.out) Bool.false_ne_true
              ·
               rw [if_neg c57] at H
               have c57b0 : decide (t455 < 0) = false := decide_eq_false c57
               clear c57
               by_cases c58 : t455 = t444
               ·
                rw [if_pos c58] at H
                have c58b0 : (t455 == t444) = true := beq_iff_eq.mpr c58
                have c58b1 : (t455 != t444) = false := bne_eq_false_iff_eq.mpr c58
                clear c58
                obtain rfl := Option.some.inj H
                go_wp2_with (first | ((with_reducible refine gate_callee (f := 36) rfl ?_); refine goesL_ (some 95) rfl rfl Tryd.func36 q17_17 rfl #[.slice Ao45 t445.length co45, .int .i64 1] rfl q17_5 ?_; (with_reducible refine (laws_heldRuleS.calls kj43 _ _ t445 1 t455 _ ?side1 ?side2 A56.out).mono ?_); (case side1 => exact q17_3); (case side2 => exact (Kd.R_reads' HO_9.out).2.1); rintro e w' ⟨rfl, ⟨nd, rfl⟩⟩; refine ⟨_, rfl, ?_⟩))
                go_ret
                exact ⟨by first | rfl | (simp [errW_none, errW_some] <;> rfl) | (simp [*, errW_none, errW_some] <;> rfl), by repeat (first | (with_reducible first | exact HB.out | apply below_alloc | apply pw_below_drewN | apply below_drew1) | exact HB.out)⟩
               ·
                rw [if_neg c58] at H
                exact absurd ((Option.some.inj H).trans HRT.out) Bool.false_ne_true
          ·
           rw [if_neg c41] at H
           exact absurd ((Option.some.inj H).trans HRT.out) Bool.false_ne_true
     ·
      replace c24 := Bool.eq_false_iff.mpr c24
      subst c24
      have H1 : (some false) = some r := q17_15
      clear H
      have H := H1
      clear H1
      exact absurd ((Option.some.inj H).trans HRT.out) Bool.false_ne_true
end Go.Proofs.YtbflblmkdnhboaaDoor.Pr
