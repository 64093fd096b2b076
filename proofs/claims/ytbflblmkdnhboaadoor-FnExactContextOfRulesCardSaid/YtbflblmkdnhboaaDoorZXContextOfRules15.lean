/- What the law needs of the program's functions as plain functions, of the proofs that their calls answer so, and of plain laws: gathered by a program of this place (pack.py) out of its printed texts. No condition beyond what each statement says. -/
import Derived.Test.YtbflblmkdnhboaaDoorZXContextOfRules2
import Derived.Test.YtbflblmkdnhboaaDoorZXContextOfRules3
import Derived.Test.YtbflblmkdnhboaaDoorZXContextOfRules6
import Derived.Test.YtbflblmkdnhboaaDoorZXContextOfRules7
import Derived.Test.YtbflblmkdnhboaaDoorZXContextOfRules8
import Derived.Test.YtbflblmkdnhboaaDoorZXContextOfRules9
import Derived.Test.YtbflblmkdnhboaaDoorZXContextOfRules14
namespace Go.Proofs.YtbflblmkdnhboaaDoor.Pr
open Go.RowKit Go.Proofs.YtbflblmkdnhboaaDoorW.PrintWords Go.Proofs.YtbflblmkdnhboaaDoorW.PrintLast Go.Proofs.YtbflblmkdnhboaaDoorW.PrintMore
attribute [local go_sem] max2_int min2_int max_two min_two max_three min_three max_four min_four   -- for this text's walks alone
set_option linter.unusedVariables false
set_option linter.unusedSimpArgs false
theorem q25_1 {P : Prop} (h : P := by (with_reducible repeat (first | apply Kd.R_alloc | apply Kd.R_drewN | apply Kd.R_drew)); exact (Kd.R_mono (Kd.R_far (p := ⟨gb619, 1, none⟩) (Kd.R_far (p := ⟨gb619, 0, none⟩) (Kd.R_types HO_591001.out BK619.out (by decide)) (fun _ hk => hk.2) (.int .i64 t614)) (fun _ hk => hk.2) (.slice Ao66 t615.length co66)) (fun _ h_ => h_.1))) : P := h
theorem q25_2 {P : Prop} (h : P := by (with_reducible repeat (first | apply Kd.R_alloc | apply Kd.R_drewN | apply Kd.R_drew)); exact (Kd.R_mono (Kd.R_far (p := ⟨gb590, 1, none⟩) (Kd.R_far (p := ⟨gb590, 0, none⟩) (Kd.R_types HO584.out BK590.out (by decide)) (fun _ hk => hk.2) (.int .i64 t585)) (fun _ hk => hk.2) (.slice Ao15 t586.length co15)) (fun _ h_ => h_.1))) : P := h
theorem q25_3 {P : Prop} (h : P := by (with_reducible repeat (first | apply Kd.R_alloc | apply Kd.R_drewN | apply Kd.R_drew)); exact (Kd.R_mono (Kd.R_far (p := ⟨gb599, 1, none⟩) (Kd.R_far (p := ⟨gb599, 0, none⟩) (Kd.R_types HO588.out BK599.out (by decide)) (fun _ hk => hk.2) (.int .i64 t594)) (fun _ hk => hk.2) (.slice Ao22 t595.length co22)) (fun _ h_ => h_.1))) : P := h
theorem q25_4 {P : Prop} (h : P := by (with_reducible repeat (first | apply Kd.R_alloc | apply Kd.R_drewN | apply Kd.R_drew)); exact (Kd.R_mono (Kd.R_far (p := ⟨gb599, 1, none⟩) (Kd.R_far (p := ⟨gb599, 0, none⟩) (Kd.R_types HO597.out BK599.out (by decide)) (fun _ hk => hk.2) (.int .i64 t594)) (fun _ hk => hk.2) (.slice Ao22 t595.length co22)) (fun _ h_ => h_.1))) : P := h
theorem q25_5 {P : Prop} (h : P := by (with_reducible repeat (first | apply Kd.R_alloc | apply Kd.R_drewN | apply Kd.R_drew)); exact (Kd.R_mono (Kd.R_far (p := ⟨gb619, 1, none⟩) (Kd.R_far (p := ⟨gb619, 0, none⟩) (Kd.R_types HO617.out BK619.out (by decide)) (fun _ hk => hk.2) (.int .i64 t614)) (fun _ hk => hk.2) (.slice Ao66 t615.length co66)) (fun _ h_ => h_.1))) : P := h
theorem q25_6 {P : Prop} (h : P := by repeat (first | (with_reducible first | exact HB.out | apply below_alloc | apply pw_below_drewN | apply below_drew1 | refine below_set ?_ GE590.out | refine below_set ?_ GE599.out | refine below_set ?_ GE619.out) | exact HB.out)) : P := h
theorem q25_7 {P : Prop} (h : P := by repeat (first | (with_reducible first | exact HB.out | apply below_alloc | apply pw_below_drewN | apply below_drew1 | refine below_set ?_ GE590.out | refine below_set ?_ GE599.out) | exact HB.out)) : P := h
theorem q25_8 {P : Prop} (h : P := by repeat (first | exact (Kd.R_reads' HO_600001.out).2.2 | (with_reducible refine Kd.C_alloc ?_ _) | (with_reducible refine Kd.C_drewN ?_ _) | (with_reducible refine Kd.C_drew ?_))) : P := h
theorem q25_9 {P : Prop} (h : P := by repeat (first | exact (Kd.C_below HR1.out HB.out) | (with_reducible refine Kd.C_alloc ?_ _) | (with_reducible refine Kd.C_drewN ?_ _) | (with_reducible refine Kd.C_drew ?_))) : P := h
theorem q25_10 {P : Prop} (h : P := by repeat (first | (with_reducible first | exact HB.out | apply below_alloc | apply pw_below_drewN | apply below_drew1 | refine below_set ?_ GE590.out) | exact HB.out)) : P := h
theorem q25_11 {P : Prop} (h : P := by repeat (first | exact HR1.out | (with_reducible refine Kd.C_alloc ?_ _) | (with_reducible refine Kd.C_drewN ?_ _) | (with_reducible refine Kd.C_drew ?_))) : P := h
theorem q25_12 {P : Prop} (h : P := by (try simp only [List.map_toArray, List.map_cons, List.map_nil]); first | done | rfl | (simp only [List.length_drop, List.length_take]; rfl)) : P := h
theorem q25_13 {P : Prop} (h : P := by repeat (first | (with_reducible first | exact HB.out | apply below_alloc | apply pw_below_drewN | apply below_drew1) | exact HB.out)) : P := h
theorem q25_14 {P : Prop} (h : P := by (with_reducible repeat (first | refine blk_drewN ?_ _ | refine blk_drew ?_ | refine blk_alloc ?_ _)); exact BK590.out) : P := h
theorem q25_15 {P : Prop} (h : P := by (with_reducible repeat (first | refine blk_drewN ?_ _ | refine blk_drew ?_ | refine blk_alloc ?_ _)); exact BK599.out) : P := h
theorem q25_16 {P : Prop} (h : P := by (with_reducible repeat (first | apply Kd.R_alloc | apply Kd.R_drewN | apply Kd.R_drew)); exact HO_591001.out) : P := h
theorem q25_17 {P : Prop} (h : P := by (with_reducible repeat (first | apply Kd.R_alloc | apply Kd.R_drewN | apply Kd.R_drew)); exact HO_600001.out) : P := h
theorem q25_18 {P : Prop} (h : P := by (with_reducible repeat (first | apply Kd.R_alloc | apply Kd.R_drewN | apply Kd.R_drew)); exact HO584.out) : P := h
theorem q25_19 {P : Prop} (h : P := by (with_reducible repeat (first | apply Kd.R_alloc | apply Kd.R_drewN | apply Kd.R_drew)); exact HO588.out) : P := h
theorem q25_20 {P : Prop} (h : P := by (with_reducible repeat (first | apply Kd.R_alloc | apply Kd.R_drewN | apply Kd.R_drew)); exact HO_8.out) : P := h
theorem q25_21 {P : Prop} (h : P := by first | rfl | (simp; done) | (simp [*]; done) | (simp [i64_w, i32_w]; done)) : P := h
theorem q25_22 {P : Prop} (h : P := by rw [if_neg (show ¬ (false = true) by decide)] at H; exact H) : P := h
theorem q25_23 {P : Prop} (h : P := by rw [if_pos rfl] at H; exact H) : P := h
theorem q25_24 {P : Prop} (h : P := by kernel_rfl) : P := h
mutual
def laws_FnExactContextOfRules.j0 : Nat → Int → List (S60) → Bool → List (S58) → Bool → Bool → Int → List Int → Int → List Int → Option (Bool)
 | 0, _, _, _, _, _, _, _, _, _, _ => none
 | k + 1, x0, x1, x7, x8, x10, x44, x591000, x591001, x600000, x600001 => if x44 = true then (some false) else ((laws_toRuleS.f k x1).bind fun t601 => ((laws_eqRuleS.f k x8 t601).bind fun t604 => (if t604 = true then ((laws_markRuleS.f k x8 1).bind fun bt605 => (if bt605.1 < 0 then (laws_FnExactContextOfRules.j1 k x0 x1 x7 true x591000 x591001 x600000 x600001) else ((laws_eqContext.f k x600000 x600001 x591000 x591001).bind fun t607 => (if t607 = true then (laws_FnExactContextOfRules.j1 k x0 x1 x7 (x10 != x7) x591000 x591001 x600000 x600001) else (laws_FnExactContextOfRules.j1 k x0 x1 x7 true x591000 x591001 x600000 x600001))))) else (some false))))
def laws_FnExactContextOfRules.j1 : Nat → Int → List (S60) → Bool → Bool → Int → List Int → Int → List Int → Option (Bool)
 | 0, _, _, _, _, _, _, _, _ => none
 | k + 1, x0, x1, x7, x65, x591000, x591001, x600000, x600001 => if x65 = true then (some false) else ((laws_markContext.f k x600000 x600001 1).bind fun bt608 => ((laws_heldContext.f k x600000 bt608.2 1).bind fun t610 => (if t610 < 0 then (some false) else (if t610 = bt608.1 then ((laws_toRuleS.f k x1).bind fun t611 => ((impl_ContextOfRules.f k x0 t611).bind fun bt614 => ((laws_eqContext.f k bt614.1 bt614.2.1 x591000 x591001).bind fun t620 => (if t620 = true then (laws_FnExactContextOfRules.j2 k bt608.1 (bt614.2.2 != x7) x600000 bt608.2) else (laws_FnExactContextOfRules.j2 k bt608.1 true x600000 bt608.2))))) else (some false)))))
def laws_FnExactContextOfRules.j2 : Nat → Int → Bool → Int → List Int → Option (Bool)
 | 0, _, _, _, _ => none
 | k + 1, x12, x92, x600000, x600001 => if x92 = true then (some false) else ((laws_heldContext.f k x600000 x600001 1).bind fun t621 => (if t621 < 0 then (some false) else (if t621 = x12 then (some true) else (some false))))
end
def laws_FnExactContextOfRules.f (k : Nat) (a0 : Int) (l1 : List (S60)) : Option (Bool) := (laws_szRuleS.f l1 1048576).bind fun t581 => (if t581 < 0 then (some true) else ((laws_toRuleS.f k l1).bind fun t582 => ((spec_ContextOfRules.f k a0 t582).bind fun bt585 => ((laws_toRuleS.f k l1).bind fun t591 => ((impl_ContextOfRules.f k a0 t591).bind fun bt594 => ((laws_eqContext.f k bt594.1 bt594.2.1 bt585.1 bt585.2.1).bind fun t600 => (if t600 = true then (laws_FnExactContextOfRules.j0 k a0 l1 bt585.2.2 t591 bt594.2.2 (bt594.2.2 != bt585.2.2) bt585.1 bt585.2.1 bt594.1 bt594.2.1) else (laws_FnExactContextOfRules.j0 k a0 l1 bt585.2.2 t591 bt594.2.2 true bt585.1 bt585.2.1 bt594.1 bt594.2.1))))))))
set_option maxHeartbeats 8000000 in
set_option maxRecDepth 100000 in
theorem laws_FnExactContextOfRules.calls (k : Nat) (a0 : Int) (A1 : Option Addr) (c1 : Nat) (l1 : List (S60)) (r : Bool) (w : World) (hr1 : Kd.C k60 w A1 l1.length l1) (hc1 : l1.length ≤ c1) (hrt : r = true) (htab : Tab64 w) (h : laws_FnExactContextOfRules.f k a0 l1 = some r) :
  Calls Tryd.prog 7 #[.int .i64 a0, .slice A1 l1.length c1] w fun e w' => e = .returned (.bool r) ∧ Below w.heap.size w w' := by
 have HTB := Aside0.mk htab
 clear htab
 have hu27 := Tryd.underlying27
 have HR1 := Aside0.mk hr1
 have HC1 := Aside0.mk hc1
 clear hr1 hc1
 have HB := Aside0.mk (Below.refl w.heap.size w)
 have HRT := Aside0.mk hrt
 clear hrt
 have H : ((laws_szRuleS.f l1 1048576).bind fun t581 => (if t581 < 0 then (some true) else ((laws_toRuleS.f k l1).bind fun t582 => ((spec_ContextOfRules.f k a0 t582).bind fun bt585 => ((laws_toRuleS.f k l1).bind fun t591 => ((impl_ContextOfRules.f k a0 t591).bind fun bt594 => ((laws_eqContext.f k bt594.1 bt594.2.1 bt585.1 bt585.2.1).bind fun t600 => (if t600 = true then (laws_FnExactContextOfRules.j0 k a0 l1 bt585.2.2 t591 bt594.2.2 (bt594.2.2 != bt585.2.2) bt585.1 bt585.2.1 bt594.1 bt594.2.1) else (laws_FnExactContextOfRules.j0 k a0 l1 bt585.2.2 t591 bt594.2.2 true bt585.1 bt585.2.1 bt594.1 bt594.2.1))))))))) = some r := h
 clear h
 replace H := Option.bind_eq_some_iff.mp H
 obtain ⟨t581, A30, H⟩ := H
 replace H : (if t581 < 0 then (some true) else ((laws_toRuleS.f k l1).bind fun t582 => ((spec_ContextOfRules.f k a0 t582).bind fun bt585 => ((laws_toRuleS.f k l1).bind fun t591 => ((impl_ContextOfRules.f k a0 t591).bind fun bt594 => ((laws_eqContext.f k bt594.1 bt594.2.1 bt585.1 bt585.2.1).bind fun t600 => (if t600 = true then (laws_FnExactContextOfRules.j0 k a0 l1 bt585.2.2 t591 bt594.2.2 (bt594.2.2 != bt585.2.2) bt585.1 bt585.2.1 bt594.1 bt594.2.1) else (laws_FnExactContextOfRules.j0 k a0 l1 bt585.2.2 t591 bt594.2.2 true bt585.1 bt585.2.1 bt594.1 bt594.2.1)))))))) = some r := H
 have A3 := Aside0.mk A30
 clear A30
 by_cases c4 : t581 < 0
 ·
  rw [if_pos c4] at H
  have c4b0 : decide (t581 < 0) = true := decide_eq_true c4
  clear c4
  obtain rfl := Option.some.inj H
  go_enter Tryd.func7, Tryd.ntmps7
  go_wp2_with (first | ((with_reducible refine gate_callee (f := 17) rfl ?_); refine goesL_ (some 18) rfl rfl Tryd.func17 q25_24 rfl #[.slice A1 l1.length c1, .int .i64 1048576] rfl q25_12 ?_; (with_reducible refine (laws_szRuleS.calls _ _ l1 1048576 t581 _ ?side1 ?side2 A3.out).mono ?_); (case side1 => exact q25_11); (case side2 => exact HC1.out); rintro e w' ⟨rfl, ⟨nd, rfl⟩⟩; refine ⟨_, rfl, ?_⟩))
  go_ret
  exact ⟨by first | rfl | (simp [errW_none, errW_some] <;> rfl) | (simp [*, errW_none, errW_some] <;> rfl), by repeat (first | (with_reducible first | exact HB.out | apply below_alloc | apply pw_below_drewN | apply below_drew1) | exact HB.out)⟩
 ·
  rw [if_neg c4] at H
  have c4b0 : decide (t581 < 0) = false := decide_eq_false c4
  clear c4
  replace H := Option.bind_eq_some_iff.mp H
  obtain ⟨t582, A50, H⟩ := H
  replace H : ((spec_ContextOfRules.f k a0 t582).bind fun bt585 => ((laws_toRuleS.f k l1).bind fun t591 => ((impl_ContextOfRules.f k a0 t591).bind fun bt594 => ((laws_eqContext.f k bt594.1 bt594.2.1 bt585.1 bt585.2.1).bind fun t600 => (if t600 = true then (laws_FnExactContextOfRules.j0 k a0 l1 bt585.2.2 t591 bt594.2.2 (bt594.2.2 != bt585.2.2) bt585.1 bt585.2.1 bt594.1 bt594.2.1) else (laws_FnExactContextOfRules.j0 k a0 l1 bt585.2.2 t591 bt594.2.2 true bt585.1 bt585.2.1 bt594.1 bt594.2.1)))))) = some r := H
  have A5 := Aside0.mk A50
  clear A50
  replace H := Option.bind_eq_some_iff.mp H
  obtain ⟨⟨t585, t586, t589⟩, A60, H⟩ := H
  replace H : ((laws_toRuleS.f k l1).bind fun t591 => ((impl_ContextOfRules.f k a0 t591).bind fun bt594 => ((laws_eqContext.f k bt594.1 bt594.2.1 t585 t586).bind fun t600 => (if t600 = true then (laws_FnExactContextOfRules.j0 k a0 l1 t589 t591 bt594.2.2 (bt594.2.2 != t589) t585 t586 bt594.1 bt594.2.1) else (laws_FnExactContextOfRules.j0 k a0 l1 t589 t591 bt594.2.2 true t585 t586 bt594.1 bt594.2.1))))) = some r := H
  have A6 := Aside0.mk A60
  clear A60
  replace H := Option.bind_eq_some_iff.mp H
  obtain ⟨t591, A70, H⟩ := H
  replace H : ((impl_ContextOfRules.f k a0 t591).bind fun bt594 => ((laws_eqContext.f k bt594.1 bt594.2.1 t585 t586).bind fun t600 => (if t600 = true then (laws_FnExactContextOfRules.j0 k a0 l1 t589 t591 bt594.2.2 (bt594.2.2 != t589) t585 t586 bt594.1 bt594.2.1) else (laws_FnExactContextOfRules.j0 k a0 l1 t589 t591 bt594.2.2 true t585 t586 bt594.1 bt594.2.1)))) = some r := H
  have A7 := Aside0.mk A70
  clear A70
  replace H := Option.bind_eq_some_iff.mp H
  obtain ⟨⟨t594, t595, t598⟩, A80, H⟩ := H
  replace H : ((laws_eqContext.f k t594 t595 t585 t586).bind fun t600 => (if t600 = true then (laws_FnExactContextOfRules.j0 k a0 l1 t589 t591 t598 (t598 != t589) t585 t586 t594 t595) else (laws_FnExactContextOfRules.j0 k a0 l1 t589 t591 t598 true t585 t586 t594 t595))) = some r := H
  have A8 := Aside0.mk A80
  clear A80
  have HC9 := Aside0.mk H
  clear H
  go_enter Tryd.func7, Tryd.ntmps7
  go_upto_region 8 with (first | ((with_reducible refine gate_callee (f := 17) rfl ?_); refine goesL_ (some 18) rfl rfl Tryd.func17 q25_24 rfl #[.slice A1 l1.length c1, .int .i64 1048576] rfl q25_12 ?_; (with_reducible refine (laws_szRuleS.calls _ _ l1 1048576 t581 _ ?side1 ?side2 A3.out).mono ?_); (case side1 => exact q25_11); (case side2 => exact HC1.out); rintro e w' ⟨rfl, ⟨nd, rfl⟩⟩; refine ⟨_, rfl, ?_⟩) | ((with_reducible refine gate_callee (f := 19) rfl ?_); refine goesL_ (some 24) rfl rfl Tryd.func19 q25_24 rfl #[.slice A1 l1.length c1] rfl q25_12 ?_; (with_reducible refine (laws_toRuleS.calls k _ _ l1 t582 _ ?side1 ?side2 A5.out).mono ?_); (case side1 => exact q25_11); (case side2 => exact HC1.out); rintro e w10 ⟨v583, rfl, ho0, hb⟩; refine ⟨_, rfl, ?_⟩; have n0_ := Aside0.mk (Kd.R_lower ho0 (below_size q25_13)); have n1_ := Aside0.mk (below_step q25_13 hb); clear HB; have HO584 := n0_; have HB := n1_; clear n0_ n1_; (try clear hb); (try clear hb2); (try clear hk); (try clear hi); (try clear ho0); obtain ⟨Ao11, co11, eo11⟩ := Kd.R_slice HO584.out; subst eo11) | ((with_reducible refine gate_callee (f := 31) rfl ?_); refine goesL_ (some 25) rfl rfl Tryd.func31 q25_24 rfl #[.int .i64 a0, .slice Ao11 t582.length co11] rfl q25_12 ?_; (with_reducible refine (spec_ContextOfRules.calls k a0 _ _ t582 t585 t586 t589 _ ?side1 ?side2 A6.out).mono ?_); (case side1 => repeat (first | exact (Kd.R_reads' HO584.out).2.2 | (with_reducible refine Kd.C_alloc ?_ _) | (with_reducible refine Kd.C_drewN ?_ _) | (with_reducible refine Kd.C_drew ?_))); (case side2 => exact (Kd.R_reads' HO584.out).2.1); rintro e w12 ⟨v587, rfl, ho0, hb⟩; refine ⟨_, rfl, ?_⟩; have n0_ := Aside0.mk (Kd.R_below q25_18 hb); have n1_ := Aside0.mk (Kd.R_lower ho0 (below_size q25_13)); have n2_ := Aside0.mk (below_step q25_13 hb); clear HO584; clear HB; have HO584 := n0_; have HO588 := n1_; have HB := n2_; clear n0_ n1_ n2_; (try clear hb); (try clear hb2); (try clear hk); (try clear hi); (try clear ho0)) | ((with_reducible refine gate_dst (N := 6) rfl ?_); refine box_event ?hg (N := 6) ?hd (cs := #[.int .i64 0, .slice none 0 0]) (t := 27) ?hr ?_; (case hd => rfl); (case hg => rfl); (case hr => first | (go_simp; done) | (go_simp; rfl)); intro gb590 hg w13 hbox hb; have n0_ := Aside0.mk (Kd.R_below q25_18 hb); have n1_ := Aside0.mk (Kd.R_below q25_19 hb); have n2_ := Aside0.mk (below_step q25_13 hb); have n3_ := Aside0.mk (hbox); have n4_ := Aside0.mk ((by rw [hg]; exact (below_size q25_13) : w.heap.size ≤ gb590)); have n5_ := Aside0.mk ((by rw [hg]; exact (below_size q25_13) : w.heap.size ≤ gb590)); clear HO584; clear HO588; clear HB; have HO584 := n0_; have HO588 := n1_; have HB := n2_; have BK590 := n3_; have GW590 := n4_; have GE590 := n5_; clear n0_ n1_ n2_ n3_ n4_ n5_; clear hb hbox hg; have hcz14_0 : w13.cell? ⟨gb590, 0, none⟩ = some (.int .i64 0) := (blk_cell BK590.out 0).trans rfl; have hcz14_1 : w13.cell? ⟨gb590, 1, none⟩ = some (.slice none 0 0) := (blk_cell BK590.out 1).trans rfl; have hfz14_0 := blk_frozen BK590.out 0; have hfz14_1 := blk_frozen BK590.out 1; obtain ⟨Ao15, co15, eo15⟩ := Kd.R_slice HO588.out; subst eo15) | ((with_reducible refine gate_callee (f := 19) rfl ?_); refine goesL_ (some 29) rfl rfl Tryd.func19 q25_24 rfl #[.slice A1 l1.length c1] rfl q25_12 ?_; (with_reducible refine (laws_toRuleS.calls k _ _ l1 t591 _ ?side1 ?side2 A7.out).mono ?_); (case side1 => exact Kd.C_below HR1.out q25_10); (case side2 => exact HC1.out); rintro e w16 ⟨v592, rfl, ho0, hb⟩; refine ⟨_, rfl, ?_⟩; have n0_ := Aside0.mk (Kd.R_elder' q25_2 (Kd.R_base ho0) hb); have n1_ := Aside0.mk (Kd.R_below (by (with_reducible repeat (first | apply Kd.R_alloc | apply Kd.R_drewN | apply Kd.R_drew)); exact (Kd.R_mono (Kd.R_far (p := ⟨gb590, 1, none⟩) (Kd.R_far (p := ⟨gb590, 0, none⟩) (Kd.R_types HO588.out BK590.out (by decide)) (fun _ hk => hk.2) (.int .i64 t585)) (fun _ hk => hk.2) (.slice Ao15 t586.length co15)) (fun _ h_ => h_.1))) hb); have n2_ := Aside0.mk (Kd.R_lower (Kd.R_new' ho0 (Kd.R_lt q25_2)) (below_size q25_10)); have n3_ := Aside0.mk (blk_below (g := gb590) (o := .cells #[.int .i64 t585, .slice Ao15 t586.length co15] 27 (0, 0)) (by (with_reducible repeat (first | refine blk_drewN ?_ _ | refine blk_drew ?_ | refine blk_alloc ?_ _)); refine blk_put (cs := #[.int .i64 t585, .slice none 0 0]) ?_ 1 _ rfl; (with_reducible repeat (first | refine blk_drewN ?_ _ | refine blk_drew ?_ | refine blk_alloc ?_ _)); refine blk_put (cs := #[.int .i64 0, .slice none 0 0]) ?_ 0 _ rfl; (with_reducible repeat (first | refine blk_drewN ?_ _ | refine blk_drew ?_ | refine blk_alloc ?_ _)); exact BK590.out) hb); have n4_ := Aside0.mk (below_step q25_10 hb); clear HO584; clear HO588; clear BK590; clear HB; have HO584 := n0_; have HO588 := n1_; have HO593 := n2_; have BK590 := n3_; have HB := n4_; clear n0_ n1_ n2_ n3_ n4_; (try clear hb); (try clear hb2); (try clear hk); (try clear hi); (try clear ho0); obtain ⟨Ao17, co17, eo17⟩ := Kd.R_slice HO593.out; subst eo17) | ((with_reducible refine gate_callee (f := 32) rfl ?_); refine goesL_ (some 33) rfl rfl Tryd.func32 q25_24 rfl #[.int .i64 a0, .slice Ao17 t591.length co17] rfl q25_12 ?_; (with_reducible refine (impl_ContextOfRules.calls k a0 _ _ t591 t594 t595 t598 _ ?side1 ?side2 ?tab A8.out).mono ?_); (case tab => first | exact HTB.out | (refine Tab64.below HTB.out ?_; repeat (first | (with_reducible first | exact HB.out | apply below_alloc | apply pw_below_drewN | apply below_drew1 | refine below_set ?_ GE590.out | refine below_set ?_ GE599.out | refine below_set ?_ GE619.out) | exact HB.out)) | (repeat (first | exact HTB.out | apply Tab64.drewN | apply Tab64.drew | apply Tab64.alloc))); (case side1 => repeat (first | exact (Kd.R_reads' HO593.out).2.2 | (with_reducible refine Kd.C_alloc ?_ _) | (with_reducible refine Kd.C_drewN ?_ _) | (with_reducible refine Kd.C_drew ?_))); (case side2 => exact (Kd.R_reads' HO593.out).2.1); rintro e w18 ⟨v596, rfl, ho0, hb⟩; refine ⟨_, rfl, ?_⟩; have n0_ := Aside0.mk (Kd.R_below q25_18 hb); have n1_ := Aside0.mk (Kd.R_elder' q25_19 (Kd.R_base ho0) hb); have n2_ := Aside0.mk (Kd.R_below (by (with_reducible repeat (first | apply Kd.R_alloc | apply Kd.R_drewN | apply Kd.R_drew)); exact HO593.out) hb); have n3_ := Aside0.mk (Kd.R_lower (Kd.R_new' ho0 (Kd.R_lt q25_19)) (below_size q25_10)); have n4_ := Aside0.mk (blk_below (g := gb590) (o := .cells #[.int .i64 t585, .slice Ao15 t586.length co15] 27 (0, 0)) q25_14 hb); have n5_ := Aside0.mk (below_step q25_10 hb); clear HO584; clear HO588; clear HO593; clear BK590; clear HB; have HO584 := n0_; have HO588 := n1_; have HO593 := n2_; have HO597 := n3_; have BK590 := n4_; have HB := n5_; clear n0_ n1_ n2_ n3_ n4_ n5_; (try clear hb); (try clear hb2); (try clear hk); (try clear hi); (try clear ho0)) | ((with_reducible refine gate_dst (N := 9) rfl ?_); refine box_event ?hg (N := 9) ?hd (cs := #[.int .i64 0, .slice none 0 0]) (t := 27) ?hr ?_; (case hd => rfl); (case hg => rfl); (case hr => first | (go_simp; done) | (go_simp; rfl)); intro gb599 hg w19 hbox hb; have n0_ := Aside0.mk (Kd.R_below q25_18 hb); have n1_ := Aside0.mk (Kd.R_below q25_19 hb); have n2_ := Aside0.mk (Kd.R_below (by (with_reducible repeat (first | apply Kd.R_alloc | apply Kd.R_drewN | apply Kd.R_drew)); exact HO593.out) hb); have n3_ := Aside0.mk (Kd.R_below (by (with_reducible repeat (first | apply Kd.R_alloc | apply Kd.R_drewN | apply Kd.R_drew)); exact HO597.out) hb); have n4_ := Aside0.mk (blk_below (g := gb590) (o := .cells #[.int .i64 t585, .slice Ao15 t586.length co15] 27 (0, 0)) q25_14 hb); have n5_ := Aside0.mk (below_step q25_10 hb); have n6_ := Aside0.mk (hbox); have n7_ := Aside0.mk ((by rw [hg]; exact (below_size q25_10) : w.heap.size ≤ gb599)); have n8_ := Aside0.mk ((by rw [hg]; exact (below_size q25_10) : w.heap.size ≤ gb599)); have n9_ := Aside0.mk ((by rw [hg]; exact Nat.ne_of_lt (blk_lt (g := gb590) (o := .cells #[.int .i64 t585, .slice Ao15 t586.length co15] 27 (0, 0)) q25_14) : gb590 ≠ gb599)); have n10_ := Aside0.mk ((by rw [hg]; exact Nat.ne_of_gt (blk_lt (g := gb590) (o := .cells #[.int .i64 t585, .slice Ao15 t586.length co15] 27 (0, 0)) q25_14) : gb599 ≠ gb590)); clear HO584; clear HO588; clear HO593; clear HO597; clear BK590; clear HB; have HO584 := n0_; have HO588 := n1_; have HO593 := n2_; have HO597 := n3_; have BK590 := n4_; have HB := n5_; have BK599 := n6_; have GW599 := n7_; have GE599 := n8_; have NB590_599 := n9_; have NB599_590 := n10_; clear n0_ n1_ n2_ n3_ n4_ n5_ n6_ n7_ n8_ n9_ n10_; clear hb hbox hg; have hnb20 := NB599_590.out; have hnc20 := NB590_599.out; have hcz21_0 : w19.cell? ⟨gb599, 0, none⟩ = some (.int .i64 0) := (blk_cell BK599.out 0).trans rfl; have hcz21_1 : w19.cell? ⟨gb599, 1, none⟩ = some (.slice none 0 0) := (blk_cell BK599.out 1).trans rfl; have hfz21_0 := blk_frozen BK599.out 0; have hfz21_1 := blk_frozen BK599.out 1; obtain ⟨Ao22, co22, eo22⟩ := Kd.R_slice HO597.out; subst eo22))
  (try simp only [Act.put, List.setIfInBounds_toArray, List.set_cons_zero, List.set_cons_succ])
  go_cut [44] (fun v44 wc => ∃ (kq : Nat) (x44_8 : Bool), v44 = .bool x44_8 ∧ Aside0 (laws_FnExactContextOfRules.j0 kq a0 l1 t589 t591 t598 x44_8 t585 t586 t594 t595 = some r) ∧ Aside0 (kq ≤ k) ∧ Aside0 (Kd.R k58 58 wc w.heap.size (fun _ => True) (.slice Ao17 t591.length co17) t591) ∧ Aside0 (Kd.R (Kd.int .i64) 3 wc w.heap.size (fun k_ => some k_ ≠ ((.slice Ao22 t595.length co22) : Value).ownBlock) (.slice Ao15 t586.length co15) t586) ∧ Aside0 (Kd.R (Kd.int .i64) 3 wc w.heap.size (fun k_ => some k_ ≠ ((.slice Ao15 t586.length co15) : Value).ownBlock) (.slice Ao22 t595.length co22) t595) ∧ Aside0 (wc.heap[gb590]? = some (.cells #[.int .i64 t585, (.slice Ao15 t586.length co15)] 27 (0, 0))) ∧ Aside0 (wc.heap[gb599]? = some (.cells #[.int .i64 t594, (.slice Ao22 t595.length co22)] 27 (0, 0))) ∧ Aside0 (Below w.heap.size w wc))
  case first =>
   have H := HC9.out
   clear HC9
   replace H := Option.bind_eq_some_iff.mp H
   obtain ⟨t600, A230, H⟩ := H
   replace H : (if t600 = true then (laws_FnExactContextOfRules.j0 k a0 l1 t589 t591 t598 (t598 != t589) t585 t586 t594 t595) else (laws_FnExactContextOfRules.j0 k a0 l1 t589 t591 t598 true t585 t586 t594 t595)) = some r := H
   have A23 := Aside0.mk A230
   clear A230
   by_cases c24 : t600 = true
   ·
    subst c24
    have H1 : (laws_FnExactContextOfRules.j0 k a0 l1 t589 t591 t598 (t598 != t589) t585 t586 t594 t595) = some r := q25_23
    clear H
    have H := H1
    clear H1
    have H' := Aside0.mk H
    clear H
    have hnb25 := NB599_590.out
    have hnc25 := NB590_599.out
    have hcz26_0 : w19.cell? ⟨gb599, 0, none⟩ = some (.int .i64 0) := (blk_cell BK599.out 0).trans rfl
    have hcz26_1 : w19.cell? ⟨gb599, 1, none⟩ = some (.slice none 0 0) := (blk_cell BK599.out 1).trans rfl
    have hfz26_0 := blk_frozen BK599.out 0
    have hfz26_1 := blk_frozen BK599.out 1
    have hcz27_0 : w19.cell? ⟨gb590, 0, none⟩ = some (.int .i64 t585) := (blk_cell BK590.out 0).trans rfl
    have hcz27_1 : w19.cell? ⟨gb590, 1, none⟩ = some (.slice Ao15 t586.length co15) := (blk_cell BK590.out 1).trans rfl
    have hfz27_0 := blk_frozen BK590.out 0
    have hfz27_1 := blk_frozen BK590.out 1
    go_wp2_with (first | ((with_reducible refine gate_callee (f := 16) rfl ?_); refine goesL_ (some 38) rfl rfl Tryd.func16 q25_24 rfl #[.agg #[.int .i64 t594, .slice Ao22 t595.length co22], .agg #[.int .i64 t585, .slice Ao15 t586.length co15]] rfl q25_12 ?_; (with_reducible refine (laws_eqContext.calls k t594 _ _ t595 t585 _ _ t586 true _ ?side1 ?side2 ?side3 ?side4 A23.out).mono ?_); (case side1 => refine (Kd.R_reads' (e := 3) (base := w.heap.size) (ok := fun k_ => (True ∧ some k_ ≠ (.slice Ao15 t586.length co15 : Value).ownBlock)) (n := t595.length) (c := co22) ?_).2.2; exact q25_4); (case side2 => exact (Kd.R_reads' HO597.out).2.1); (case side3 => refine (Kd.R_reads' (e := 3) (base := w.heap.size) (ok := fun k_ => (True ∧ some k_ ≠ (.slice Ao22 t595.length co22 : Value).ownBlock)) (n := t586.length) (c := co15) ?_).2.2; exact q25_3); (case side4 => exact (Kd.R_reads' HO588.out).2.1); rintro e w28 ⟨rfl, hb⟩; refine ⟨_, rfl, ?_⟩; have n0_ := Aside0.mk (Kd.R_below (by (with_reducible repeat (first | apply Kd.R_alloc | apply Kd.R_drewN | apply Kd.R_drew)); exact (Kd.R_mono (Kd.R_far (p := ⟨gb599, 1, none⟩) (Kd.R_far (p := ⟨gb599, 0, none⟩) (Kd.R_types HO584.out BK599.out (by decide)) (fun _ hk => hk.2) (.int .i64 t594)) (fun _ hk => hk.2) (.slice Ao22 t595.length co22)) (fun _ h_ => h_.1))) hb); have n1_ := Aside0.mk (Kd.R_below q25_3 hb); have n2_ := Aside0.mk (Kd.R_below (by (with_reducible repeat (first | apply Kd.R_alloc | apply Kd.R_drewN | apply Kd.R_drew)); exact (Kd.R_mono (Kd.R_far (p := ⟨gb599, 1, none⟩) (Kd.R_far (p := ⟨gb599, 0, none⟩) (Kd.R_types HO593.out BK599.out (by decide)) (fun _ hk => hk.2) (.int .i64 t594)) (fun _ hk => hk.2) (.slice Ao22 t595.length co22)) (fun _ h_ => h_.1))) hb); have n3_ := Aside0.mk (Kd.R_below q25_4 hb); have n4_ := Aside0.mk (blk_below (g := gb590) (o := .cells #[.int .i64 t585, .slice Ao15 t586.length co15] 27 (0, 0)) (by (with_reducible repeat (first | refine blk_drewN ?_ _ | refine blk_drew ?_ | refine blk_alloc ?_ _)); refine blk_far ?_ NB590_599.out _; (with_reducible repeat (first | refine blk_drewN ?_ _ | refine blk_drew ?_ | refine blk_alloc ?_ _)); refine blk_far ?_ NB590_599.out _; (with_reducible repeat (first | refine blk_drewN ?_ _ | refine blk_drew ?_ | refine blk_alloc ?_ _)); exact BK590.out) hb); have n5_ := Aside0.mk (blk_below (g := gb599) (o := .cells #[.int .i64 t594, .slice Ao22 t595.length co22] 27 (0, 0)) (by (with_reducible repeat (first | refine blk_drewN ?_ _ | refine blk_drew ?_ | refine blk_alloc ?_ _)); refine blk_put (cs := #[.int .i64 t594, .slice none 0 0]) ?_ 1 _ rfl; (with_reducible repeat (first | refine blk_drewN ?_ _ | refine blk_drew ?_ | refine blk_alloc ?_ _)); refine blk_put (cs := #[.int .i64 0, .slice none 0 0]) ?_ 0 _ rfl; (with_reducible repeat (first | refine blk_drewN ?_ _ | refine blk_drew ?_ | refine blk_alloc ?_ _)); exact BK599.out) hb); have n6_ := Aside0.mk (below_step q25_7 hb); clear HO584; clear HO588; clear HO593; clear HO597; clear BK590; clear BK599; clear HB; have HO584 := n0_; have HO588 := n1_; have HO593 := n2_; have HO597 := n3_; have BK590 := n4_; have BK599 := n5_; have HB := n6_; clear n0_ n1_ n2_ n3_ n4_ n5_ n6_; (try clear hb); (try clear hb2); (try clear hk); (try clear hi)))
    go_meet
    case rel => exact ⟨_, ((t598 != t589)), q25_21, H', ⟨by first | omega | exact Nat.le_refl _⟩, ⟨by (with_reducible repeat (first | apply Kd.R_alloc | apply Kd.R_drewN | apply Kd.R_drew)); exact Kd.R_mono HO593.out (fun _ hk => trivial)⟩, ⟨by (with_reducible repeat (first | apply Kd.R_alloc | apply Kd.R_drewN | apply Kd.R_drew)); exact Kd.R_mono HO588.out (fun _ hk => hk.2)⟩, ⟨by (with_reducible repeat (first | apply Kd.R_alloc | apply Kd.R_drewN | apply Kd.R_drew)); exact Kd.R_mono HO597.out (fun _ hk => hk.2)⟩, ⟨by (with_reducible repeat (first | refine blk_drewN ?_ _ | refine blk_drew ?_ | refine blk_alloc ?_ _)); exact BK590.out⟩, ⟨by (with_reducible repeat (first | refine blk_drewN ?_ _ | refine blk_drew ?_ | refine blk_alloc ?_ _)); exact BK599.out⟩, ⟨by repeat (first | (with_reducible first | exact HB.out | apply below_alloc | apply pw_below_drewN | apply below_drew1 | refine below_set ?_ GE590.out | refine below_set ?_ GE599.out) | exact HB.out)⟩⟩
   ·
    replace c24 := Bool.eq_false_iff.mpr c24
    subst c24
    have H1 : (laws_FnExactContextOfRules.j0 k a0 l1 t589 t591 t598 true t585 t586 t594 t595) = some r := q25_22
    clear H
    have H := H1
    clear H1
    refine absurd ?_ Bool.false_ne_true; revert H; generalize k = kq_; intro H; cases kq_ with | zero => exact absurd H (by simp only [laws_FnExactContextOfRules.j0]; exact fun h => by cases h) | succ kq_ => simp only [laws_FnExactContextOfRules.j0] at H; (try rw [if_pos rfl] at H); exact (Option.some.inj H).trans HRT.out
  case rest =>
   clear HC9
   try clear c1
   try clear c2
   try clear p2
   try clear c3
   try clear c4
   try clear c4b0
   try clear c7
   try clear c16
   try clear c17
   try clear c19
   try clear c20
   try clear c24
   try clear c25
   try clear hcz14_0
   try clear hcz14_1
   try clear hcz21_0
   try clear hcz21_1
   try clear hcz26_0
   try clear hcz26_1
   try clear hcz27_0
   try clear hcz27_1
   try clear hfz14_0
   try clear hfz14_1
   try clear hfz21_0
   try clear hfz21_1
   try clear hfz26_0
   try clear hfz26_1
   try clear hfz27_0
   try clear hfz27_1
   obtain ⟨kq, x44_8, rfl, HA, HJ8, HO_8, HO_591001, HO_600001, BK590, BK599, HB⟩ := hcut
   cases kq with
   | zero => exact absurd HA.out (by simp [laws_FnExactContextOfRules.j0])
   | succ kj8 =>
    have H := HA.out
    clear HA
    simp only [laws_FnExactContextOfRules.j0] at H
    by_cases c29 : x44_8 = true
    ·
     subst c29
     have H1 : (some false) = some r := q25_23
     clear H
     have H := H1
     clear H1
     exact absurd ((Option.some.inj H).trans HRT.out) Bool.false_ne_true
    ·
     replace c29 := Bool.eq_false_iff.mpr c29
     subst c29
     have H1 : ((laws_toRuleS.f kj8 l1).bind fun t601 => ((laws_eqRuleS.f kj8 t591 t601).bind fun t604 => (if t604 = true then ((laws_markRuleS.f kj8 t591 1).bind fun bt605 => (if bt605.1 < 0 then (laws_FnExactContextOfRules.j1 kj8 a0 l1 t589 true t585 t586 t594 t595) else ((laws_eqContext.f kj8 t594 t595 t585 t586).bind fun t607 => (if t607 = true then (laws_FnExactContextOfRules.j1 kj8 a0 l1 t589 (t598 != t589) t585 t586 t594 t595) else (laws_FnExactContextOfRules.j1 kj8 a0 l1 t589 true t585 t586 t594 t595))))) else (some false)))) = some r := q25_22
     clear H
     have H := H1
     clear H1
     replace H := Option.bind_eq_some_iff.mp H
     obtain ⟨t601, A300, H⟩ := H
     replace H : ((laws_eqRuleS.f kj8 t591 t601).bind fun t604 => (if t604 = true then ((laws_markRuleS.f kj8 t591 1).bind fun bt605 => (if bt605.1 < 0 then (laws_FnExactContextOfRules.j1 kj8 a0 l1 t589 true t585 t586 t594 t595) else ((laws_eqContext.f kj8 t594 t595 t585 t586).bind fun t607 => (if t607 = true then (laws_FnExactContextOfRules.j1 kj8 a0 l1 t589 (t598 != t589) t585 t586 t594 t595) else (laws_FnExactContextOfRules.j1 kj8 a0 l1 t589 true t585 t586 t594 t595))))) else (some false))) = some r := H
     have A30 := Aside0.mk A300
     clear A300
     replace H := Option.bind_eq_some_iff.mp H
     obtain ⟨t604, A310, H⟩ := H
     replace H : (if t604 = true then ((laws_markRuleS.f kj8 t591 1).bind fun bt605 => (if bt605.1 < 0 then (laws_FnExactContextOfRules.j1 kj8 a0 l1 t589 true t585 t586 t594 t595) else ((laws_eqContext.f kj8 t594 t595 t585 t586).bind fun t607 => (if t607 = true then (laws_FnExactContextOfRules.j1 kj8 a0 l1 t589 (t598 != t589) t585 t586 t594 t595) else (laws_FnExactContextOfRules.j1 kj8 a0 l1 t589 true t585 t586 t594 t595))))) else (some false)) = some r := H
     have A31 := Aside0.mk A310
     clear A310
     by_cases c32 : t604 = true
     ·
      subst c32
      have H1 : ((laws_markRuleS.f kj8 t591 1).bind fun bt605 => (if bt605.1 < 0 then (laws_FnExactContextOfRules.j1 kj8 a0 l1 t589 true t585 t586 t594 t595) else ((laws_eqContext.f kj8 t594 t595 t585 t586).bind fun t607 => (if t607 = true then (laws_FnExactContextOfRules.j1 kj8 a0 l1 t589 (t598 != t589) t585 t586 t594 t595) else (laws_FnExactContextOfRules.j1 kj8 a0 l1 t589 true t585 t586 t594 t595))))) = some r := q25_23
      clear H
      have H := H1
      clear H1
      replace H := Option.bind_eq_some_iff.mp H
      obtain ⟨⟨t605, t606⟩, A330, H⟩ := H
      replace H : (if t605 < 0 then (laws_FnExactContextOfRules.j1 kj8 a0 l1 t589 true t585 t586 t594 t595) else ((laws_eqContext.f kj8 t594 t595 t585 t586).bind fun t607 => (if t607 = true then (laws_FnExactContextOfRules.j1 kj8 a0 l1 t589 (t598 != t589) t585 t586 t594 t595) else (laws_FnExactContextOfRules.j1 kj8 a0 l1 t589 true t585 t586 t594 t595)))) = some r := H
      have A33 := Aside0.mk A330
      clear A330
      have HC34 := Aside0.mk H
      clear H
      go_upto_region 14 with (first | ((with_reducible refine gate_callee (f := 19) rfl ?_); refine goesL_ (some 47) rfl rfl Tryd.func19 q25_24 rfl #[.slice A1 l1.length c1] rfl q25_12 ?_; (with_reducible refine (laws_toRuleS.calls kj8 _ _ l1 t601 _ ?side1 ?side2 A30.out).mono ?_); (case side1 => exact q25_9); (case side2 => exact HC1.out); rintro e w35 ⟨v602, rfl, ho0, hb⟩; refine ⟨_, rfl, ?_⟩; have n0_ := Aside0.mk (Kd.R_elder' q25_20 (Kd.R_base ho0) hb); have n1_ := Aside0.mk (Kd.R_below q25_16 hb); have n2_ := Aside0.mk (Kd.R_below q25_17 hb); have n3_ := Aside0.mk (Kd.R_lower (Kd.R_new' ho0 (Kd.R_lt q25_20)) (below_size q25_7)); have n4_ := Aside0.mk (blk_below (g := gb590) (o := .cells #[.int .i64 t585, .slice Ao15 t586.length co15] 27 (0, 0)) q25_14 hb); have n5_ := Aside0.mk (blk_below (g := gb599) (o := .cells #[.int .i64 t594, .slice Ao22 t595.length co22] 27 (0, 0)) q25_15 hb); have n6_ := Aside0.mk (below_step q25_7 hb); clear HO_8; clear HO_591001; clear HO_600001; clear BK590; clear BK599; clear HB; have HO_8 := n0_; have HO_591001 := n1_; have HO_600001 := n2_; have HO603 := n3_; have BK590 := n4_; have BK599 := n5_; have HB := n6_; clear n0_ n1_ n2_ n3_ n4_ n5_ n6_; (try clear hb); (try clear hb2); (try clear hk); (try clear hi); (try clear ho0); obtain ⟨Ao36, co36, eo36⟩ := Kd.R_slice HO603.out; subst eo36) | ((with_reducible refine gate_callee (f := 22) rfl ?_); refine goesL_ (some 48) rfl rfl Tryd.func22 q25_24 rfl #[.slice Ao17 t591.length co17, .slice Ao36 t601.length co36] rfl q25_12 ?_; (with_reducible refine (laws_eqRuleS.calls kj8 _ _ t591 _ _ t601 true _ ?side1 ?side2 ?side3 ?side4 A31.out).mono ?_); (case side1 => repeat (first | exact (Kd.R_reads' HO_8.out).2.2 | (with_reducible refine Kd.C_alloc ?_ _) | (with_reducible refine Kd.C_drewN ?_ _) | (with_reducible refine Kd.C_drew ?_))); (case side2 => exact (Kd.R_reads' HO_8.out).2.1); (case side3 => repeat (first | exact (Kd.R_reads' HO603.out).2.2 | (with_reducible refine Kd.C_alloc ?_ _) | (with_reducible refine Kd.C_drewN ?_ _) | (with_reducible refine Kd.C_drew ?_))); (case side4 => exact (Kd.R_reads' HO603.out).2.1); rintro e w37 ⟨rfl, hb⟩; refine ⟨_, rfl, ?_⟩; have n0_ := Aside0.mk (Kd.R_below q25_20 hb); have n1_ := Aside0.mk (Kd.R_below q25_16 hb); have n2_ := Aside0.mk (Kd.R_below q25_17 hb); have n3_ := Aside0.mk (Kd.R_below (by (with_reducible repeat (first | apply Kd.R_alloc | apply Kd.R_drewN | apply Kd.R_drew)); exact HO603.out) hb); have n4_ := Aside0.mk (blk_below (g := gb590) (o := .cells #[.int .i64 t585, .slice Ao15 t586.length co15] 27 (0, 0)) q25_14 hb); have n5_ := Aside0.mk (blk_below (g := gb599) (o := .cells #[.int .i64 t594, .slice Ao22 t595.length co22] 27 (0, 0)) q25_15 hb); have n6_ := Aside0.mk (below_step q25_7 hb); clear HO_8; clear HO_591001; clear HO_600001; clear HO603; clear BK590; clear BK599; clear HB; have HO_8 := n0_; have HO_591001 := n1_; have HO_600001 := n2_; have HO603 := n3_; have BK590 := n4_; have BK599 := n5_; have HB := n6_; clear n0_ n1_ n2_ n3_ n4_ n5_ n6_; (try clear hb); (try clear hb2); (try clear hk); (try clear hi)) | ((with_reducible refine gate_callee (f := 23) rfl ?_); refine goesL_ (some 52) rfl rfl Tryd.func23 q25_24 rfl #[.slice Ao17 t591.length co17, .int .i64 1] rfl q25_12 ?_; (with_reducible refine (laws_markRuleS.calls kj8 (fun k_ => some k_ = (.slice Ao17 t591.length co17 : Value).ownBlock) (.slice Ao17 t591.length co17) t591 1 t605 t606 w _ ?side1 ?side2 A33.out).mono ?_); (case side1 => exact q25_7); (case side2 => exact Kd.R_tight rfl HO_8.out); rintro e w38 ⟨rfl, hy0, hb, hkp⟩; refine ⟨_, rfl, ?_⟩; have n0_ := Aside0.mk (Kd.R_reok rfl hy0 (fun k_ e_ => HO_8.out.1 k_ e_)); have n1_ := Aside0.mk (Kd.R_mono (ok' := fun k_ => some k_ ≠ (.slice Ao22 t595.length co22 : Value).ownBlock) (Kd.R_keptB ((Kd.R_apart' HO_591001.out (Kd.R_typed HO_8.out) (by decide))) hkp (fun k_ hk_ hs_ => by first | exact hk_.2 hs_ | exact hk_.1.1.2 hs_ | exact hk_.1.1 hs_ | exact hk_.1.2 hs_ | exact hk_.1 hs_ | exact hk_.1.1.1 hs_ | exact hk_ hs_ | exact hk_.1.2.1 hs_ | exact hk_.1.2.2 hs_ | exact hk_.1.1.2.1 hs_ | exact hk_.1.1.2.2 hs_ | exact hk_.2.1 hs_ | exact hk_.2.2 hs_ | exact hk_.1.1.1.1 hs_ | exact hk_.1.1.1.2 hs_ | exact hk_.1.2.2.1 hs_ | exact hk_.1.2.2.2 hs_ | exact hk_.1.1.1.2.1 hs_ | exact hk_.1.1.1.2.2 hs_ | exact hk_.2.2.1 hs_ | exact hk_.2.2.2 hs_ | exact hk_.1.1.2.2.1 hs_ | exact hk_.1.1.2.2.2 hs_ | exact hk_.1.2.2.2.1 hs_ | exact hk_.1.2.2.2.2 hs_ | exact hk_.1.1.1.1.1 hs_ | exact hk_.1.1.1.1.2 hs_)) (fun k_ hk_ => hk_.1.1)); have n2_ := Aside0.mk (Kd.R_mono (ok' := fun k_ => some k_ ≠ (.slice Ao15 t586.length co15 : Value).ownBlock) (Kd.R_keptB ((Kd.R_apart' HO_600001.out (Kd.R_typed HO_8.out) (by decide))) hkp (fun k_ hk_ hs_ => by first | exact hk_.2 hs_ | exact hk_.1.1.2 hs_ | exact hk_.1.1 hs_ | exact hk_.1.2 hs_ | exact hk_.1 hs_ | exact hk_.1.1.1 hs_ | exact hk_ hs_ | exact hk_.1.2.1 hs_ | exact hk_.1.2.2 hs_ | exact hk_.1.1.2.1 hs_ | exact hk_.1.1.2.2 hs_ | exact hk_.2.1 hs_ | exact hk_.2.2 hs_ | exact hk_.1.1.1.1 hs_ | exact hk_.1.1.1.2 hs_ | exact hk_.1.2.2.1 hs_ | exact hk_.1.2.2.2 hs_ | exact hk_.1.1.1.2.1 hs_ | exact hk_.1.1.1.2.2 hs_ | exact hk_.2.2.1 hs_ | exact hk_.2.2.2 hs_ | exact hk_.1.1.2.2.1 hs_ | exact hk_.1.1.2.2.2 hs_ | exact hk_.1.2.2.2.1 hs_ | exact hk_.1.2.2.2.2 hs_ | exact hk_.1.1.1.1.1 hs_ | exact hk_.1.1.1.1.2 hs_)) (fun k_ hk_ => hk_.1.1)); have n3_ := Aside0.mk (blk_kept q25_14 hkp (fun hs_ => (fun e_ => (Kd.R_ne HO_8.out BK590.out (by decide)) e_) hs_)); have n4_ := Aside0.mk (blk_kept q25_15 hkp (fun hs_ => (fun e_ => (Kd.R_ne HO_8.out BK599.out (by decide)) e_) hs_)); have n5_ := Aside0.mk (Kd.R_mono (ok' := fun k_ => some k_ ≠ (.slice Ao17 t591.length co17 : Value).ownBlock) (Kd.R_keptB (HO603.out) hkp (fun k_ hk_ hs_ => by first | exact hk_.2 hs_ | exact hk_.1.1.2 hs_ | exact hk_.1.1 hs_ | exact hk_.1.2 hs_ | exact hk_.1 hs_ | exact hk_.1.1.1 hs_ | exact hk_ hs_ | exact hk_.1.2.1 hs_ | exact hk_.1.2.2 hs_ | exact hk_.1.1.2.1 hs_ | exact hk_.1.1.2.2 hs_ | exact hk_.2.1 hs_ | exact hk_.2.2 hs_ | exact hk_.1.1.1.1 hs_ | exact hk_.1.1.1.2 hs_ | exact hk_.1.2.2.1 hs_ | exact hk_.1.2.2.2 hs_ | exact hk_.1.1.1.2.1 hs_ | exact hk_.1.1.1.2.2 hs_ | exact hk_.2.2.1 hs_ | exact hk_.2.2.2 hs_ | exact hk_.1.1.2.2.1 hs_ | exact hk_.1.1.2.2.2 hs_ | exact hk_.1.2.2.2.1 hs_ | exact hk_.1.2.2.2.2 hs_ | exact hk_.1.1.1.1.1 hs_ | exact hk_.1.1.1.1.2 hs_)) (fun k_ hk_ => hk_.1.2)); have n6_ := Aside0.mk (hb); clear HO_8; clear HO_591001; clear HO_600001; clear BK590; clear BK599; clear HO603; clear HB; have HO_8 := n0_; have HO_591001 := n1_; have HO_600001 := n2_; have BK590 := n3_; have BK599 := n4_; have HO603 := n5_; have HB := n6_; clear n0_ n1_ n2_ n3_ n4_ n5_ n6_; (try clear hb); (try clear hkp); (try clear hy0)))
      (try simp only [Act.put, List.setIfInBounds_toArray, List.set_cons_zero, List.set_cons_succ])
      go_cut [65] (fun v65 wc => ∃ (kq : Nat) (x65_33 : Bool), v65 = .bool x65_33 ∧ Aside0 (laws_FnExactContextOfRules.j1 kq a0 l1 t589 x65_33 t585 t586 t594 t595 = some r) ∧ Aside0 (kq ≤ kj8) ∧ Aside0 (Kd.R (Kd.int .i64) 3 wc w.heap.size (fun k_ => some k_ ≠ ((.slice Ao22 t595.length co22) : Value).ownBlock) (.slice Ao15 t586.length co15) t586) ∧ Aside0 (Kd.R (Kd.int .i64) 3 wc w.heap.size (fun k_ => some k_ ≠ ((.slice Ao15 t586.length co15) : Value).ownBlock) (.slice Ao22 t595.length co22) t595) ∧ Aside0 (wc.heap[gb590]? = some (.cells #[.int .i64 t585, (.slice Ao15 t586.length co15)] 27 (0, 0))) ∧ Aside0 (wc.heap[gb599]? = some (.cells #[.int .i64 t594, (.slice Ao22 t595.length co22)] 27 (0, 0))) ∧ Aside0 (Below w.heap.size w wc))
      case first =>
       have H := HC34.out
       clear HC34
       by_cases c39 : t605 < 0
       ·
        rw [if_pos c39] at H
        refine absurd ?_ Bool.false_ne_true; revert H; generalize kj8 = kq_; intro H; cases kq_ with | zero => exact absurd H (by simp only [laws_FnExactContextOfRules.j1]; exact fun h => by cases h) | succ kq_ => simp only [laws_FnExactContextOfRules.j1] at H; (try rw [if_pos rfl] at H); exact (Option.some.inj H).trans HRT.out
       ·
        rw [if_neg c39] at H
        have c39b0 : decide (t605 < 0) = false := decide_eq_false c39
        clear c39
        (first | rw [c39b0] | (simp only [i64_w, i32_w]; rw [c39b0]) | skip)
        replace H := Option.bind_eq_some_iff.mp H
        obtain ⟨t607, A400, H⟩ := H
        replace H : (if t607 = true then (laws_FnExactContextOfRules.j1 kj8 a0 l1 t589 (t598 != t589) t585 t586 t594 t595) else (laws_FnExactContextOfRules.j1 kj8 a0 l1 t589 true t585 t586 t594 t595)) = some r := H
        have A40 := Aside0.mk A400
        clear A400
        by_cases c41 : t607 = true
        ·
         subst c41
         have H1 : (laws_FnExactContextOfRules.j1 kj8 a0 l1 t589 (t598 != t589) t585 t586 t594 t595) = some r := q25_23
         clear H
         have H := H1
         clear H1
         have H' := Aside0.mk H
         clear H
         have hnb42 := NB599_590.out
         have hnc42 := NB590_599.out
         have hcz43_0 : w38.cell? ⟨gb599, 0, none⟩ = some (.int .i64 t594) := (blk_cell BK599.out 0).trans rfl
         have hcz43_1 : w38.cell? ⟨gb599, 1, none⟩ = some (.slice Ao22 t595.length co22) := (blk_cell BK599.out 1).trans rfl
         have hfz43_0 := blk_frozen BK599.out 0
         have hfz43_1 := blk_frozen BK599.out 1
         have hcz44_0 : w38.cell? ⟨gb590, 0, none⟩ = some (.int .i64 t585) := (blk_cell BK590.out 0).trans rfl
         have hcz44_1 : w38.cell? ⟨gb590, 1, none⟩ = some (.slice Ao15 t586.length co15) := (blk_cell BK590.out 1).trans rfl
         have hfz44_0 := blk_frozen BK590.out 0
         have hfz44_1 := blk_frozen BK590.out 1
         go_wp2_with (first | (go_at_call 16; (with_reducible refine (laws_eqContext.calls kj8 t594 _ _ t595 t585 _ _ t586 true _ ?side1 ?side2 ?side3 ?side4 A40.out).mono ?_); (case side1 => exact q25_8); (case side2 => exact (Kd.R_reads' HO_600001.out).2.1); (case side3 => repeat (first | exact (Kd.R_reads' HO_591001.out).2.2 | (with_reducible refine Kd.C_alloc ?_ _) | (with_reducible refine Kd.C_drewN ?_ _) | (with_reducible refine Kd.C_drew ?_))); (case side4 => exact (Kd.R_reads' HO_591001.out).2.1); rintro e w45 ⟨rfl, hb⟩; have n0_ := Aside0.mk (Kd.R_below q25_20 hb); have n1_ := Aside0.mk (Kd.R_below q25_16 hb); have n2_ := Aside0.mk (Kd.R_below q25_17 hb); have n3_ := Aside0.mk (Kd.R_below (by (with_reducible repeat (first | apply Kd.R_alloc | apply Kd.R_drewN | apply Kd.R_drew)); exact HO603.out) hb); have n4_ := Aside0.mk (blk_below (g := gb590) (o := .cells #[.int .i64 t585, .slice Ao15 t586.length co15] 27 (0, 0)) q25_14 hb); have n5_ := Aside0.mk (blk_below (g := gb599) (o := .cells #[.int .i64 t594, .slice Ao22 t595.length co22] 27 (0, 0)) q25_15 hb); have n6_ := Aside0.mk (below_step q25_7 hb); clear HO_8; clear HO_591001; clear HO_600001; clear HO603; clear BK590; clear BK599; clear HB; have HO_8 := n0_; have HO_591001 := n1_; have HO_600001 := n2_; have HO603 := n3_; have BK590 := n4_; have BK599 := n5_; have HB := n6_; clear n0_ n1_ n2_ n3_ n4_ n5_ n6_; (try clear hb); (try clear hb2); (try clear hk); (try clear hi)))
         go_meet
         case rel => exact ⟨_, ((t598 != t589)), q25_21, H', ⟨by have := HJ8.out; first | omega | exact Nat.le_refl _⟩, ⟨by (with_reducible repeat (first | apply Kd.R_alloc | apply Kd.R_drewN | apply Kd.R_drew)); exact HO_591001.out⟩, ⟨by (with_reducible repeat (first | apply Kd.R_alloc | apply Kd.R_drewN | apply Kd.R_drew)); exact HO_600001.out⟩, ⟨by (with_reducible repeat (first | refine blk_drewN ?_ _ | refine blk_drew ?_ | refine blk_alloc ?_ _)); exact BK590.out⟩, ⟨by (with_reducible repeat (first | refine blk_drewN ?_ _ | refine blk_drew ?_ | refine blk_alloc ?_ _)); exact BK599.out⟩, ⟨by repeat (first | (with_reducible first | exact HB.out | apply below_alloc | apply pw_below_drewN | apply below_drew1 | refine below_set ?_ GE590.out | refine below_set ?_ GE599.out) | exact HB.out)⟩⟩
        ·
         replace c41 := Bool.eq_false_iff.mpr c41
         subst c41
         have H1 : (laws_FnExactContextOfRules.j1 kj8 a0 l1 t589 true t585 t586 t594 t595) = some r := q25_22
         clear H
         have H := H1
         clear H1
         refine absurd ?_ Bool.false_ne_true; revert H; generalize kj8 = kq_; intro H; cases kq_ with | zero => exact absurd H (by simp only [laws_FnExactContextOfRules.j1]; exact fun h => by cases h) | succ kq_ => simp only [laws_FnExactContextOfRules.j1] at H; (try rw [if_pos rfl] at H); exact (Option.some.inj H).trans HRT.out
      case rest =>
       clear HC34
       try clear c1
       try clear c2
       try clear p2
       try clear c3
       try clear c4
       try clear c4b0
       try clear c7
       try clear c16
       try clear c17
       try clear c19
       try clear c20
       try clear c22
       try clear c23
       try clear c24
       try clear c25
       try clear c29
       try clear c31
       try clear c32
       try clear c39
       try clear c39b0
       try clear c41
       try clear c42
       try clear hcz14_0
       try clear hcz14_1
       try clear hcz21_0
       try clear hcz21_1
       try clear hcz26_0
       try clear hcz26_1
       try clear hcz27_0
       try clear hcz27_1
       try clear hcz43_0
       try clear hcz43_1
       try clear hcz44_0
       try clear hcz44_1
       try clear hfz14_0
       try clear hfz14_1
       try clear hfz21_0
       try clear hfz21_1
       try clear hfz26_0
       try clear hfz26_1
       try clear hfz27_0
       try clear hfz27_1
       try clear hfz43_0
       try clear hfz43_1
       try clear hfz44_0
       try clear hfz44_1
       try clear p2
       obtain ⟨kq, x65_33, rfl, HA, HJ33, HO_591001, HO_600001, BK590, BK599, HB⟩ := hcut
       cases kq with
       | zero => exact absurd HA.out (by simp [laws_FnExactContextOfRules.j1])
       | succ kj33 =>
        have H := HA.out
        clear HA
        simp only [laws_FnExactContextOfRules.j1] at H
        by_cases c46 : x65_33 = true
        ·
         subst c46
         have H1 : (some false) = some r := q25_23
         clear H
         have H := H1
         clear H1
         exact absurd ((Option.some.inj H).trans HRT.out) Bool.false_ne_true
        ·
         replace c46 := Bool.eq_false_iff.mpr c46
         subst c46
         have H1 : ((laws_markContext.f kj33 t594 t595 1).bind fun bt608 => ((laws_heldContext.f kj33 t594 bt608.2 1).bind fun t610 => (if t610 < 0 then (some false) else (if t610 = bt608.1 then ((laws_toRuleS.f kj33 l1).bind fun t611 => ((impl_ContextOfRules.f kj33 a0 t611).bind fun bt614 => ((laws_eqContext.f kj33 bt614.1 bt614.2.1 t585 t586).bind fun t620 => (if t620 = true then (laws_FnExactContextOfRules.j2 kj33 bt608.1 (bt614.2.2 != t589) t594 bt608.2) else (laws_FnExactContextOfRules.j2 kj33 bt608.1 true t594 bt608.2))))) else (some false))))) = some r := q25_22
         clear H
         have H := H1
         clear H1
         replace H := Option.bind_eq_some_iff.mp H
         obtain ⟨⟨t608, t609⟩, A470, H⟩ := H
         replace H : ((laws_heldContext.f kj33 t594 t609 1).bind fun t610 => (if t610 < 0 then (some false) else (if t610 = t608 then ((laws_toRuleS.f kj33 l1).bind fun t611 => ((impl_ContextOfRules.f kj33 a0 t611).bind fun bt614 => ((laws_eqContext.f kj33 bt614.1 bt614.2.1 t585 t586).bind fun t620 => (if t620 = true then (laws_FnExactContextOfRules.j2 kj33 t608 (bt614.2.2 != t589) t594 t609) else (laws_FnExactContextOfRules.j2 kj33 t608 true t594 t609))))) else (some false)))) = some r := H
         have A47 := Aside0.mk A470
         clear A470
         replace H := Option.bind_eq_some_iff.mp H
         obtain ⟨t610, A480, H⟩ := H
         replace H : (if t610 < 0 then (some false) else (if t610 = t608 then ((laws_toRuleS.f kj33 l1).bind fun t611 => ((impl_ContextOfRules.f kj33 a0 t611).bind fun bt614 => ((laws_eqContext.f kj33 bt614.1 bt614.2.1 t585 t586).bind fun t620 => (if t620 = true then (laws_FnExactContextOfRules.j2 kj33 t608 (bt614.2.2 != t589) t594 t609) else (laws_FnExactContextOfRules.j2 kj33 t608 true t594 t609))))) else (some false))) = some r := H
         have A48 := Aside0.mk A480
         clear A480
         by_cases c49 : t610 < 0
         ·
          rw [if_pos c49] at H
          exact absurd ((Option.some.inj H).trans HRT.out) Bool.false_ne_true
         ·
          rw [if_neg c49] at H
          have c49b0 : decide (t610 < 0) = false := decide_eq_false c49
          clear c49
          by_cases c50 : t610 = t608
          ·
           rw [if_pos c50] at H
           have c50b0 : (t610 == t608) = true := beq_iff_eq.mpr c50
           have c50b1 : (t610 != t608) = false := bne_eq_false_iff_eq.mpr c50
           clear c50
           replace H := Option.bind_eq_some_iff.mp H
           obtain ⟨t611, A510, H⟩ := H
           replace H : ((impl_ContextOfRules.f kj33 a0 t611).bind fun bt614 => ((laws_eqContext.f kj33 bt614.1 bt614.2.1 t585 t586).bind fun t620 => (if t620 = true then (laws_FnExactContextOfRules.j2 kj33 t608 (bt614.2.2 != t589) t594 t609) else (laws_FnExactContextOfRules.j2 kj33 t608 true t594 t609)))) = some r := H
           have A51 := Aside0.mk A510
           clear A510
           replace H := Option.bind_eq_some_iff.mp H
           obtain ⟨⟨t614, t615, t618⟩, A520, H⟩ := H
           replace H : ((laws_eqContext.f kj33 t614 t615 t585 t586).bind fun t620 => (if t620 = true then (laws_FnExactContextOfRules.j2 kj33 t608 (t618 != t589) t594 t609) else (laws_FnExactContextOfRules.j2 kj33 t608 true t594 t609))) = some r := H
           have A52 := Aside0.mk A520
           clear A520
           have HC53 := Aside0.mk H
           clear H
           have hnb54 := NB599_590.out
           have hnc54 := NB590_599.out
           have hcz55_0 : wc.cell? ⟨gb599, 0, none⟩ = some (.int .i64 t594) := (blk_cell BK599.out 0).trans rfl
           have hcz55_1 : wc.cell? ⟨gb599, 1, none⟩ = some (.slice Ao22 t595.length co22) := (blk_cell BK599.out 1).trans rfl
           have hfz55_0 := blk_frozen BK599.out 0
           have hfz55_1 := blk_frozen BK599.out 1
           go_upto_region 25 with (first | ((with_reducible refine gate_callee (f := 28) rfl ?_); refine goesL_ (some 68) rfl rfl Tryd.func28 q25_24 rfl #[.agg #[.int .i64 t594, .slice Ao22 t595.length co22], .int .i64 1] rfl q25_12 ?_; (with_reducible refine (laws_markContext.calls kj33 t594 (fun k_ => some k_ = (.slice Ao22 t595.length co22 : Value).ownBlock) (.slice Ao22 t595.length co22) t595 1 t608 t609 w _ ?side1 ?side2 A47.out).mono ?_); (case side1 => exact q25_7); (case side2 => exact Kd.R_tight rfl HO_600001.out); rintro e w56 ⟨rfl, hy0, hb, hkp⟩; refine ⟨_, rfl, ?_⟩; have n0_ := Aside0.mk (Kd.R_mono (ok' := fun k_ => some k_ ≠ (.slice Ao22 t595.length co22 : Value).ownBlock) (Kd.R_keptB (HO_591001.out) hkp (fun k_ hk_ hs_ => by first | exact hk_ hs_ | exact hk_.1.1.2 hs_ | exact hk_.1.1 hs_ | exact hk_.1.2 hs_ | exact hk_.2 hs_ | exact hk_.1 hs_ | exact hk_.1.1.1 hs_ | exact hk_.1.2.1 hs_ | exact hk_.1.2.2 hs_ | exact hk_.1.1.2.1 hs_ | exact hk_.1.1.2.2 hs_ | exact hk_.2.1 hs_ | exact hk_.2.2 hs_ | exact hk_.1.1.1.1 hs_ | exact hk_.1.1.1.2 hs_ | exact hk_.1.2.2.1 hs_ | exact hk_.1.2.2.2 hs_ | exact hk_.1.1.1.2.1 hs_ | exact hk_.1.1.1.2.2 hs_ | exact hk_.2.2.1 hs_ | exact hk_.2.2.2 hs_ | exact hk_.1.1.2.2.1 hs_ | exact hk_.1.1.2.2.2 hs_ | exact hk_.1.2.2.2.1 hs_ | exact hk_.1.2.2.2.2 hs_ | exact hk_.1.1.1.1.1 hs_ | exact hk_.1.1.1.1.2 hs_)) (fun k_ hk_ => hk_.1)); have n1_ := Aside0.mk (Kd.R_reok rfl hy0 (fun k_ e_ => HO_600001.out.1 k_ e_)); have n2_ := Aside0.mk (blk_kept q25_14 hkp (fun hs_ => (fun e_ => (Kd.R_ne HO_600001.out BK590.out (by decide)) e_) hs_)); have n3_ := Aside0.mk (blk_kept q25_15 hkp (fun hs_ => (fun e_ => (Kd.R_ne HO_600001.out BK599.out (by decide)) e_) hs_)); have n4_ := Aside0.mk (hb); clear HO_591001; clear HO_600001; clear BK590; clear BK599; clear HB; have HO_591001 := n0_; have HO_600001 := n1_; have BK590 := n2_; have BK599 := n3_; have HB := n4_; clear n0_ n1_ n2_ n3_ n4_; (try clear hb); (try clear hkp); (try clear hy0); have hcz57_0 : w56.cell? ⟨gb599, 0, none⟩ = some (.int .i64 t594) := (blk_cell BK599.out 0).trans rfl; have hcz57_1 : w56.cell? ⟨gb599, 1, none⟩ = some (.slice Ao22 t595.length co22) := (blk_cell BK599.out 1).trans rfl; have hfz57_0 := blk_frozen BK599.out 0; have hfz57_1 := blk_frozen BK599.out 1) | ((with_reducible refine gate_callee (f := 33) rfl ?_); refine goesL_ (some 71) rfl rfl Tryd.func33 q25_24 rfl #[.agg #[.int .i64 t594, .slice Ao22 t609.length co22], .int .i64 1] rfl (by (try simp only [List.map_toArray, List.map_cons, List.map_nil]); first | done | (rw [show t609.length = t595.length from (Kd.R_reads' HO_600001.out).1.symm] <;> rfl) | rfl | (simp only [List.length_drop, List.length_take]; rfl)) ?_; (with_reducible refine (laws_heldContext.calls kj33 t594 _ _ t609 1 t610 _ ?side1 ?side2 A48.out).mono ?_); (case side1 => exact q25_8); (case side2 => rw [show t609.length = t595.length from (Kd.R_reads' HO_600001.out).1.symm]; exact (Kd.R_reads' HO_600001.out).2.1); rintro e w58 ⟨rfl, hb⟩; refine ⟨_, rfl, ?_⟩; have n0_ := Aside0.mk (Kd.R_below q25_16 hb); have n1_ := Aside0.mk (Kd.R_below q25_17 hb); have n2_ := Aside0.mk (blk_below (g := gb590) (o := .cells #[.int .i64 t585, .slice Ao15 t586.length co15] 27 (0, 0)) q25_14 hb); have n3_ := Aside0.mk (blk_below (g := gb599) (o := .cells #[.int .i64 t594, .slice Ao22 t595.length co22] 27 (0, 0)) q25_15 hb); have n4_ := Aside0.mk (below_step q25_7 hb); clear HO_591001; clear HO_600001; clear BK590; clear BK599; clear HB; have HO_591001 := n0_; have HO_600001 := n1_; have BK590 := n2_; have BK599 := n3_; have HB := n4_; clear n0_ n1_ n2_ n3_ n4_; (try clear hb); (try clear hb2); (try clear hk); (try clear hi)) | ((with_reducible refine gate_callee (f := 19) rfl ?_); refine goesL_ (some 80) rfl rfl Tryd.func19 q25_24 rfl #[.slice A1 l1.length c1] rfl q25_12 ?_; (with_reducible refine (laws_toRuleS.calls kj33 _ _ l1 t611 _ ?side1 ?side2 A51.out).mono ?_); (case side1 => exact q25_9); (case side2 => exact HC1.out); rintro e w59 ⟨v612, rfl, ho0, hb⟩; refine ⟨_, rfl, ?_⟩; have n0_ := Aside0.mk (Kd.R_below q25_16 hb); have n1_ := Aside0.mk (Kd.R_below q25_17 hb); have n2_ := Aside0.mk (Kd.R_lower ho0 (below_size q25_7)); have n3_ := Aside0.mk (blk_below (g := gb590) (o := .cells #[.int .i64 t585, .slice Ao15 t586.length co15] 27 (0, 0)) q25_14 hb); have n4_ := Aside0.mk (blk_below (g := gb599) (o := .cells #[.int .i64 t594, .slice Ao22 t595.length co22] 27 (0, 0)) q25_15 hb); have n5_ := Aside0.mk (below_step q25_7 hb); clear HO_591001; clear HO_600001; clear BK590; clear BK599; clear HB; have HO_591001 := n0_; have HO_600001 := n1_; have HO613 := n2_; have BK590 := n3_; have BK599 := n4_; have HB := n5_; clear n0_ n1_ n2_ n3_ n4_ n5_; (try clear hb); (try clear hb2); (try clear hk); (try clear hi); (try clear ho0); obtain ⟨Ao60, co60, eo60⟩ := Kd.R_slice HO613.out; subst eo60) | ((with_reducible refine gate_callee (f := 32) rfl ?_); refine goesL_ (some 81) rfl rfl Tryd.func32 q25_24 rfl #[.int .i64 a0, .slice Ao60 t611.length co60] rfl q25_12 ?_; (with_reducible refine (impl_ContextOfRules.calls kj33 a0 _ _ t611 t614 t615 t618 _ ?side1 ?side2 ?tab A52.out).mono ?_); (case tab => first | exact HTB.out | (refine Tab64.below HTB.out ?_; repeat (first | (with_reducible first | exact HB.out | apply below_alloc | apply pw_below_drewN | apply below_drew1 | refine below_set ?_ GE590.out | refine below_set ?_ GE599.out | refine below_set ?_ GE619.out) | exact HB.out)) | (repeat (first | exact HTB.out | apply Tab64.drewN | apply Tab64.drew | apply Tab64.alloc))); (case side1 => repeat (first | exact (Kd.R_reads' HO613.out).2.2 | (with_reducible refine Kd.C_alloc ?_ _) | (with_reducible refine Kd.C_drewN ?_ _) | (with_reducible refine Kd.C_drew ?_))); (case side2 => exact (Kd.R_reads' HO613.out).2.1); rintro e w61 ⟨v616, rfl, ho0, hb⟩; refine ⟨_, rfl, ?_⟩; have n0_ := Aside0.mk (Kd.R_elder' q25_16 (Kd.R_base ho0) hb); have n1_ := Aside0.mk (Kd.R_elder' q25_17 (Kd.R_base ho0) hb); have n2_ := Aside0.mk (Kd.R_below (by (with_reducible repeat (first | apply Kd.R_alloc | apply Kd.R_drewN | apply Kd.R_drew)); exact HO613.out) hb); have n3_ := Aside0.mk (Kd.R_lower (Kd.R_new' (Kd.R_new' ho0 (Kd.R_lt q25_16)) (Kd.R_lt q25_17)) (below_size q25_7)); have n4_ := Aside0.mk (blk_below (g := gb590) (o := .cells #[.int .i64 t585, .slice Ao15 t586.length co15] 27 (0, 0)) q25_14 hb); have n5_ := Aside0.mk (blk_below (g := gb599) (o := .cells #[.int .i64 t594, .slice Ao22 t595.length co22] 27 (0, 0)) q25_15 hb); have n6_ := Aside0.mk (below_step q25_7 hb); clear HO_591001; clear HO_600001; clear HO613; clear BK590; clear BK599; clear HB; have HO_591001 := n0_; have HO_600001 := n1_; have HO613 := n2_; have HO617 := n3_; have BK590 := n4_; have BK599 := n5_; have HB := n6_; clear n0_ n1_ n2_ n3_ n4_ n5_ n6_; (try clear hb); (try clear hb2); (try clear hk); (try clear hi); (try clear ho0)) | ((with_reducible refine gate_dst (N := 14) rfl ?_); refine box_event ?hg (N := 14) ?hd (cs := #[.int .i64 0, .slice none 0 0]) (t := 27) ?hr ?_; (case hd => rfl); (case hg => rfl); (case hr => first | (go_simp; done) | (go_simp; rfl)); intro gb619 hg w62 hbox hb; have n0_ := Aside0.mk (Kd.R_below q25_16 hb); have n1_ := Aside0.mk (Kd.R_below q25_17 hb); have n2_ := Aside0.mk (Kd.R_below (by (with_reducible repeat (first | apply Kd.R_alloc | apply Kd.R_drewN | apply Kd.R_drew)); exact HO613.out) hb); have n3_ := Aside0.mk (Kd.R_below (by (with_reducible repeat (first | apply Kd.R_alloc | apply Kd.R_drewN | apply Kd.R_drew)); exact HO617.out) hb); have n4_ := Aside0.mk (blk_below (g := gb590) (o := .cells #[.int .i64 t585, .slice Ao15 t586.length co15] 27 (0, 0)) q25_14 hb); have n5_ := Aside0.mk (blk_below (g := gb599) (o := .cells #[.int .i64 t594, .slice Ao22 t595.length co22] 27 (0, 0)) q25_15 hb); have n6_ := Aside0.mk (below_step q25_7 hb); have n7_ := Aside0.mk (hbox); have n8_ := Aside0.mk ((by rw [hg]; exact (below_size q25_7) : w.heap.size ≤ gb619)); have n9_ := Aside0.mk ((by rw [hg]; exact (below_size q25_7) : w.heap.size ≤ gb619)); have n10_ := Aside0.mk ((by rw [hg]; exact Nat.ne_of_lt (blk_lt (g := gb590) (o := .cells #[.int .i64 t585, .slice Ao15 t586.length co15] 27 (0, 0)) q25_14) : gb590 ≠ gb619)); have n11_ := Aside0.mk ((by rw [hg]; exact Nat.ne_of_gt (blk_lt (g := gb590) (o := .cells #[.int .i64 t585, .slice Ao15 t586.length co15] 27 (0, 0)) q25_14) : gb619 ≠ gb590)); have n12_ := Aside0.mk ((by rw [hg]; exact Nat.ne_of_lt (blk_lt (g := gb599) (o := .cells #[.int .i64 t594, .slice Ao22 t595.length co22] 27 (0, 0)) q25_15) : gb599 ≠ gb619)); have n13_ := Aside0.mk ((by rw [hg]; exact Nat.ne_of_gt (blk_lt (g := gb599) (o := .cells #[.int .i64 t594, .slice Ao22 t595.length co22] 27 (0, 0)) q25_15) : gb619 ≠ gb599)); clear HO_591001; clear HO_600001; clear HO613; clear HO617; clear BK590; clear BK599; clear HB; have HO_591001 := n0_; have HO_600001 := n1_; have HO613 := n2_; have HO617 := n3_; have BK590 := n4_; have BK599 := n5_; have HB := n6_; have BK619 := n7_; have GW619 := n8_; have GE619 := n9_; have NB590_619 := n10_; have NB619_590 := n11_; have NB599_619 := n12_; have NB619_599 := n13_; clear n0_ n1_ n2_ n3_ n4_ n5_ n6_ n7_ n8_ n9_ n10_ n11_ n12_ n13_; clear hb hbox hg; have hnb63 := NB619_590.out; have hnc63 := NB590_619.out; have hnb64 := NB619_599.out; have hnc64 := NB599_619.out; have hcz65_0 : w62.cell? ⟨gb619, 0, none⟩ = some (.int .i64 0) := (blk_cell BK619.out 0).trans rfl; have hcz65_1 : w62.cell? ⟨gb619, 1, none⟩ = some (.slice none 0 0) := (blk_cell BK619.out 1).trans rfl; have hfz65_0 := blk_frozen BK619.out 0; have hfz65_1 := blk_frozen BK619.out 1; obtain ⟨Ao66, co66, eo66⟩ := Kd.R_slice HO617.out; subst eo66))
           (try simp only [Act.put, List.setIfInBounds_toArray, List.set_cons_zero, List.set_cons_succ])
           go_cut [92] (fun v92 wc => ∃ (kq : Nat) (x92_52 : Bool), v92 = .bool x92_52 ∧ Aside0 (laws_FnExactContextOfRules.j2 kq t608 x92_52 t594 t609 = some r) ∧ Aside0 (kq ≤ kj33) ∧ Aside0 (Kd.R (Kd.int .i64) 3 wc w.heap.size (fun k_ => some k_ ≠ ((.slice Ao22 t595.length co22) : Value).ownBlock ∧ some k_ ≠ ((.slice Ao66 t615.length co66) : Value).ownBlock) (.slice Ao15 t586.length co15) t586) ∧ Aside0 (Kd.R (Kd.int .i64) 3 wc w.heap.size (fun k_ => some k_ ≠ ((.slice Ao15 t586.length co15) : Value).ownBlock ∧ some k_ ≠ ((.slice Ao66 t615.length co66) : Value).ownBlock) (.slice Ao22 t595.length co22) t609) ∧ Aside0 (Kd.R (Kd.int .i64) 3 wc w.heap.size (fun k_ => some k_ ≠ ((.slice Ao15 t586.length co15) : Value).ownBlock ∧ some k_ ≠ ((.slice Ao22 t595.length co22) : Value).ownBlock) (.slice Ao66 t615.length co66) t615) ∧ Aside0 (wc.heap[gb590]? = some (.cells #[.int .i64 t585, (.slice Ao15 t586.length co15)] 27 (0, 0))) ∧ Aside0 (wc.heap[gb599]? = some (.cells #[.int .i64 t594, (.slice Ao22 t595.length co22)] 27 (0, 0))) ∧ Aside0 (wc.heap[gb619]? = some (.cells #[.int .i64 t614, (.slice Ao66 t615.length co66)] 27 (0, 0))) ∧ Aside0 (Below w.heap.size w wc))
           case first =>
            have H := HC53.out
            clear HC53
            replace H := Option.bind_eq_some_iff.mp H
            obtain ⟨t620, A670, H⟩ := H
            replace H : (if t620 = true then (laws_FnExactContextOfRules.j2 kj33 t608 (t618 != t589) t594 t609) else (laws_FnExactContextOfRules.j2 kj33 t608 true t594 t609)) = some r := H
            have A67 := Aside0.mk A670
            clear A670
            by_cases c68 : t620 = true
            ·
             subst c68
             have H1 : (laws_FnExactContextOfRules.j2 kj33 t608 (t618 != t589) t594 t609) = some r := q25_23
             clear H
             have H := H1
             clear H1
             have H' := Aside0.mk H
             clear H
             have hnb69 := NB619_590.out
             have hnc69 := NB590_619.out
             have hnb70 := NB619_599.out
             have hnc70 := NB599_619.out
             have hcz71_0 : w62.cell? ⟨gb619, 0, none⟩ = some (.int .i64 0) := (blk_cell BK619.out 0).trans rfl
             have hcz71_1 : w62.cell? ⟨gb619, 1, none⟩ = some (.slice none 0 0) := (blk_cell BK619.out 1).trans rfl
             have hfz71_0 := blk_frozen BK619.out 0
             have hfz71_1 := blk_frozen BK619.out 1
             have hnb72 := NB590_599.out
             have hnc72 := NB599_590.out
             have hcz73_0 : w62.cell? ⟨gb590, 0, none⟩ = some (.int .i64 t585) := (blk_cell BK590.out 0).trans rfl
             have hcz73_1 : w62.cell? ⟨gb590, 1, none⟩ = some (.slice Ao15 t586.length co15) := (blk_cell BK590.out 1).trans rfl
             have hfz73_0 := blk_frozen BK590.out 0
             have hfz73_1 := blk_frozen BK590.out 1
             go_wp2_with (first | ((with_reducible refine gate_callee (f := 16) rfl ?_); refine goesL_ (some 86) rfl rfl Tryd.func16 q25_24 rfl #[.agg #[.int .i64 t614, .slice Ao66 t615.length co66], .agg #[.int .i64 t585, .slice Ao15 t586.length co15]] rfl q25_12 ?_; (with_reducible refine (laws_eqContext.calls kj33 t614 _ _ t615 t585 _ _ t586 true _ ?side1 ?side2 ?side3 ?side4 A67.out).mono ?_); (case side1 => refine (Kd.R_reads' (e := 3) (base := w.heap.size) (ok := fun k_ => ((True ∧ some k_ ≠ (.slice Ao15 t586.length co15 : Value).ownBlock) ∧ some k_ ≠ (.slice Ao22 t595.length co22 : Value).ownBlock)) (n := t615.length) (c := co66) ?_).2.2; exact q25_5); (case side2 => exact (Kd.R_reads' HO617.out).2.1); (case side3 => refine (Kd.R_reads' (e := 3) (base := w.heap.size) (ok := fun k_ => (some k_ ≠ (.slice Ao22 t595.length co22 : Value).ownBlock ∧ some k_ ≠ (.slice Ao66 t615.length co66 : Value).ownBlock)) (n := t586.length) (c := co15) ?_).2.2; exact q25_1); (case side4 => exact (Kd.R_reads' HO_591001.out).2.1); rintro e w74 ⟨rfl, hb⟩; refine ⟨_, rfl, ?_⟩; have n0_ := Aside0.mk (Kd.R_below q25_1 hb); have n1_ := Aside0.mk (Kd.R_below (by (with_reducible repeat (first | apply Kd.R_alloc | apply Kd.R_drewN | apply Kd.R_drew)); exact (Kd.R_mono (Kd.R_far (p := ⟨gb619, 1, none⟩) (Kd.R_far (p := ⟨gb619, 0, none⟩) (Kd.R_types HO_600001.out BK619.out (by decide)) (fun _ hk => hk.2) (.int .i64 t614)) (fun _ hk => hk.2) (.slice Ao66 t615.length co66)) (fun _ h_ => h_.1))) hb); have n2_ := Aside0.mk (Kd.R_below (by (with_reducible repeat (first | apply Kd.R_alloc | apply Kd.R_drewN | apply Kd.R_drew)); exact (Kd.R_mono (Kd.R_far (p := ⟨gb619, 1, none⟩) (Kd.R_far (p := ⟨gb619, 0, none⟩) (Kd.R_types HO613.out BK619.out (by decide)) (fun _ hk => hk.2) (.int .i64 t614)) (fun _ hk => hk.2) (.slice Ao66 t615.length co66)) (fun _ h_ => h_.1))) hb); have n3_ := Aside0.mk (Kd.R_below q25_5 hb); have n4_ := Aside0.mk (blk_below (g := gb590) (o := .cells #[.int .i64 t585, .slice Ao15 t586.length co15] 27 (0, 0)) (by (with_reducible repeat (first | refine blk_drewN ?_ _ | refine blk_drew ?_ | refine blk_alloc ?_ _)); refine blk_far ?_ NB590_619.out _; (with_reducible repeat (first | refine blk_drewN ?_ _ | refine blk_drew ?_ | refine blk_alloc ?_ _)); refine blk_far ?_ NB590_619.out _; (with_reducible repeat (first | refine blk_drewN ?_ _ | refine blk_drew ?_ | refine blk_alloc ?_ _)); exact BK590.out) hb); have n5_ := Aside0.mk (blk_below (g := gb599) (o := .cells #[.int .i64 t594, .slice Ao22 t595.length co22] 27 (0, 0)) (by (with_reducible repeat (first | refine blk_drewN ?_ _ | refine blk_drew ?_ | refine blk_alloc ?_ _)); refine blk_far ?_ NB599_619.out _; (with_reducible repeat (first | refine blk_drewN ?_ _ | refine blk_drew ?_ | refine blk_alloc ?_ _)); refine blk_far ?_ NB599_619.out _; (with_reducible repeat (first | refine blk_drewN ?_ _ | refine blk_drew ?_ | refine blk_alloc ?_ _)); exact BK599.out) hb); have n6_ := Aside0.mk (blk_below (g := gb619) (o := .cells #[.int .i64 t614, .slice Ao66 t615.length co66] 27 (0, 0)) (by (with_reducible repeat (first | refine blk_drewN ?_ _ | refine blk_drew ?_ | refine blk_alloc ?_ _)); refine blk_put (cs := #[.int .i64 t614, .slice none 0 0]) ?_ 1 _ rfl; (with_reducible repeat (first | refine blk_drewN ?_ _ | refine blk_drew ?_ | refine blk_alloc ?_ _)); refine blk_put (cs := #[.int .i64 0, .slice none 0 0]) ?_ 0 _ rfl; (with_reducible repeat (first | refine blk_drewN ?_ _ | refine blk_drew ?_ | refine blk_alloc ?_ _)); exact BK619.out) hb); have n7_ := Aside0.mk (below_step q25_6 hb); clear HO_591001; clear HO_600001; clear HO613; clear HO617; clear BK590; clear BK599; clear BK619; clear HB; have HO_591001 := n0_; have HO_600001 := n1_; have HO613 := n2_; have HO617 := n3_; have BK590 := n4_; have BK599 := n5_; have BK619 := n6_; have HB := n7_; clear n0_ n1_ n2_ n3_ n4_ n5_ n6_ n7_; (try clear hb); (try clear hb2); (try clear hk); (try clear hi)))
             go_meet
             case rel => exact ⟨_, ((t618 != t589)), q25_21, H', ⟨by have := HJ8.out; have := HJ33.out; first | omega | exact Nat.le_refl _⟩, ⟨by (with_reducible repeat (first | apply Kd.R_alloc | apply Kd.R_drewN | apply Kd.R_drew)); exact HO_591001.out⟩, ⟨by (with_reducible repeat (first | apply Kd.R_alloc | apply Kd.R_drewN | apply Kd.R_drew)); exact HO_600001.out⟩, ⟨by (with_reducible repeat (first | apply Kd.R_alloc | apply Kd.R_drewN | apply Kd.R_drew)); exact Kd.R_mono HO617.out (fun _ hk => ⟨by first | exact hk.1.2 | exact hk.1.1.2 | exact hk.1.1 | exact hk.2 | exact hk.1 | exact hk.1.1.1 | exact hk | exact hk.1.2.1 | exact hk.1.2.2 | exact hk.1.1.2.1 | exact hk.1.1.2.2 | exact hk.2.1 | exact hk.2.2 | exact hk.1.1.1.1 | exact hk.1.1.1.2 | exact hk.1.2.2.1 | exact hk.1.2.2.2 | exact hk.1.1.1.2.1 | exact hk.1.1.1.2.2 | exact hk.2.2.1 | exact hk.2.2.2 | exact hk.1.1.2.2.1 | exact hk.1.1.2.2.2 | exact hk.1.2.2.2.1 | exact hk.1.2.2.2.2 | exact hk.1.1.1.1.1 | exact hk.1.1.1.1.2, by first | exact hk.2 | exact hk.1.1.2 | exact hk.1.1 | exact hk.1.2 | exact hk.1 | exact hk.1.1.1 | exact hk | exact hk.1.2.1 | exact hk.1.2.2 | exact hk.1.1.2.1 | exact hk.1.1.2.2 | exact hk.2.1 | exact hk.2.2 | exact hk.1.1.1.1 | exact hk.1.1.1.2 | exact hk.1.2.2.1 | exact hk.1.2.2.2 | exact hk.1.1.1.2.1 | exact hk.1.1.1.2.2 | exact hk.2.2.1 | exact hk.2.2.2 | exact hk.1.1.2.2.1 | exact hk.1.1.2.2.2 | exact hk.1.2.2.2.1 | exact hk.1.2.2.2.2 | exact hk.1.1.1.1.1 | exact hk.1.1.1.1.2⟩)⟩, ⟨by (with_reducible repeat (first | refine blk_drewN ?_ _ | refine blk_drew ?_ | refine blk_alloc ?_ _)); exact BK590.out⟩, ⟨by (with_reducible repeat (first | refine blk_drewN ?_ _ | refine blk_drew ?_ | refine blk_alloc ?_ _)); exact BK599.out⟩, ⟨by (with_reducible repeat (first | refine blk_drewN ?_ _ | refine blk_drew ?_ | refine blk_alloc ?_ _)); exact BK619.out⟩, ⟨by repeat (first | (with_reducible first | exact HB.out | apply below_alloc | apply pw_below_drewN | apply below_drew1 | refine below_set ?_ GE590.out | refine below_set ?_ GE599.out | refine below_set ?_ GE619.out) | exact HB.out)⟩⟩
            ·
             replace c68 := Bool.eq_false_iff.mpr c68
             subst c68
             have H1 : (laws_FnExactContextOfRules.j2 kj33 t608 true t594 t609) = some r := q25_22
             clear H
             have H := H1
             clear H1
             refine absurd ?_ Bool.false_ne_true; revert H; generalize kj33 = kq_; intro H; cases kq_ with | zero => exact absurd H (by simp only [laws_FnExactContextOfRules.j2]; exact fun h => by cases h) | succ kq_ => simp only [laws_FnExactContextOfRules.j2] at H; (try rw [if_pos rfl] at H); exact (Option.some.inj H).trans HRT.out
           case rest =>
            clear HC53
            try clear c1
            try clear c2
            try clear p2
            try clear c3
            try clear c4
            try clear c4b0
            try clear c5
            try clear c6
            try clear c7
            try clear c16
            try clear c17
            try clear c19
            try clear c20
            try clear c22
            try clear c23
            try clear c24
            try clear c25
            try clear c28
            try clear c29
            try clear c31
            try clear c32
            try clear c33
            try clear c39
            try clear c39b0
            try clear c41
            try clear c42
            try clear c46
            try clear c49
            try clear c49b0
            try clear c50
            try clear c50b0
            try clear c50b1
            try clear c54
            try clear c63
            try clear c64
            try clear c68
            try clear c69
            try clear c70
            try clear c72
            try clear hcz14_0
            try clear hcz14_1
            try clear hcz21_0
            try clear hcz21_1
            try clear hcz26_0
            try clear hcz26_1
            try clear hcz27_0
            try clear hcz27_1
            try clear hcz43_0
            try clear hcz43_1
            try clear hcz44_0
            try clear hcz44_1
            try clear hcz55_0
            try clear hcz55_1
            try clear hcz57_0
            try clear hcz57_1
            try clear hcz65_0
            try clear hcz65_1
            try clear hcz71_0
            try clear hcz71_1
            try clear hcz73_0
            try clear hcz73_1
            try clear hfz14_0
            try clear hfz14_1
            try clear hfz21_0
            try clear hfz21_1
            try clear hfz26_0
            try clear hfz26_1
            try clear hfz27_0
            try clear hfz27_1
            try clear hfz43_0
            try clear hfz43_1
            try clear hfz44_0
            try clear hfz44_1
            try clear hfz55_0
            try clear hfz55_1
            try clear hfz57_0
            try clear hfz57_1
            try clear hfz65_0
            try clear hfz65_1
            try clear hfz71_0
            try clear hfz71_1
            try clear hfz73_0
            try clear hfz73_1
            try clear p2
            obtain ⟨kq, x92_52, rfl, HA, HJ52, HO_591001, HO_600001, HO_620001, BK590, BK599, BK619, HB⟩ := hcut
            have hl600001_52 := (Kd.R_reads' HO_600001.out).1
            rw [hl600001_52] at HO_600001
            (try simp only [hl600001_52])
            (try simp only [hl600001_52] at BK590)
            (try simp only [hl600001_52] at BK599)
            (try simp only [hl600001_52] at BK619)
            (try simp only [hl600001_52] at HO_591001)
            (try simp only [hl600001_52] at HO_620001)
            cases kq with
            | zero => exact absurd HA.out (by simp [laws_FnExactContextOfRules.j2])
            | succ kj52 =>
             have H := HA.out
             clear HA
             simp only [laws_FnExactContextOfRules.j2] at H
             by_cases c75 : x92_52 = true
             ·
              subst c75
              have H1 : (some false) = some r := q25_23
              clear H
              have H := H1
              clear H1
              exact absurd ((Option.some.inj H).trans HRT.out) Bool.false_ne_true
             ·
              replace c75 := Bool.eq_false_iff.mpr c75
              subst c75
              have H1 : ((laws_heldContext.f kj52 t594 t609 1).bind fun t621 => (if t621 < 0 then (some false) else (if t621 = t608 then (some true) else (some false)))) = some r := q25_22
              clear H
              have H := H1
              clear H1
              replace H := Option.bind_eq_some_iff.mp H
              obtain ⟨t621, A760, H⟩ := H
              replace H : (if t621 < 0 then (some false) else (if t621 = t608 then (some true) else (some false))) = some r := H
              have A76 := Aside0.mk A760
              clear A760
              by_cases c77 : t621 < 0
              ·
               rw [if_pos c77] at H
               exact absurd ((Option.some.inj H).trans HRT.out) Bool.false_ne_true
              ·
               rw [if_neg c77] at H
               have c77b0 : decide (t621 < 0) = false := decide_eq_false c77
               clear c77
               by_cases c78 : t621 = t608
               ·
                rw [if_pos c78] at H
                have c78b0 : (t621 == t608) = true := beq_iff_eq.mpr c78
                have c78b1 : (t621 != t608) = false := bne_eq_false_iff_eq.mpr c78
                clear c78
                obtain rfl := Option.some.inj H
                have hnb79 := NB599_590.out
                have hnc79 := NB590_599.out
                have hnb80 := NB599_619.out
                have hnc80 := NB619_599.out
                have hcz81_0 : wc.cell? ⟨gb599, 0, none⟩ = some (.int .i64 t594) := (blk_cell BK599.out 0).trans rfl
                have hcz81_1 : wc.cell? ⟨gb599, 1, none⟩ = some (.slice Ao22 t609.length co22) := (blk_cell BK599.out 1).trans rfl
                have hfz81_0 := blk_frozen BK599.out 0
                have hfz81_1 := blk_frozen BK599.out 1
                go_wp2_with (first | ((with_reducible refine gate_callee (f := 33) rfl ?_); refine goesL_ (some 95) rfl rfl Tryd.func33 q25_24 rfl #[.agg #[.int .i64 t594, .slice Ao22 t609.length co22], .int .i64 1] rfl q25_12 ?_; (with_reducible refine (laws_heldContext.calls kj52 t594 _ _ t609 1 t621 _ ?side1 ?side2 A76.out).mono ?_); (case side1 => exact q25_8); (case side2 => exact (Kd.R_reads' HO_600001.out).2.1); rintro e w82 ⟨rfl, hb⟩; refine ⟨_, rfl, ?_⟩; have n0_ := Aside0.mk (Kd.R_below q25_16 hb); have n1_ := Aside0.mk (Kd.R_below q25_17 hb); have n2_ := Aside0.mk (Kd.R_below (by (with_reducible repeat (first | apply Kd.R_alloc | apply Kd.R_drewN | apply Kd.R_drew)); exact HO_620001.out) hb); have n3_ := Aside0.mk (blk_below (g := gb590) (o := .cells #[.int .i64 t585, .slice Ao15 t586.length co15] 27 (0, 0)) q25_14 hb); have n4_ := Aside0.mk (blk_below (g := gb599) (o := .cells #[.int .i64 t594, .slice Ao22 t609.length co22] 27 (0, 0)) q25_15 hb); have n5_ := Aside0.mk (blk_below (g := gb619) (o := .cells #[.int .i64 t614, .slice Ao66 t615.length co66] 27 (0, 0)) (by (with_reducible repeat (first | refine blk_drewN ?_ _ | refine blk_drew ?_ | refine blk_alloc ?_ _)); exact BK619.out) hb); have n6_ := Aside0.mk (below_step q25_6 hb); clear HO_591001; clear HO_600001; clear HO_620001; clear BK590; clear BK599; clear BK619; clear HB; have HO_591001 := n0_; have HO_600001 := n1_; have HO_620001 := n2_; have BK590 := n3_; have BK599 := n4_; have BK619 := n5_; have HB := n6_; clear n0_ n1_ n2_ n3_ n4_ n5_ n6_; (try clear hb); (try clear hb2); (try clear hk); (try clear hi)))
                go_ret
                exact ⟨by first | rfl | (simp [errW_none, errW_some] <;> rfl) | (simp [*, errW_none, errW_some] <;> rfl), by repeat (first | (with_reducible first | exact HB.out | apply below_alloc | apply pw_below_drewN | apply below_drew1 | refine below_set ?_ GE590.out | refine below_set ?_ GE599.out | refine below_set ?_ GE619.out) | exact HB.out)⟩
               ·
                rw [if_neg c78] at H
                exact absurd ((Option.some.inj H).trans HRT.out) Bool.false_ne_true
          ·
           rw [if_neg c50] at H
           exact absurd ((Option.some.inj H).trans HRT.out) Bool.false_ne_true
     ·
      replace c32 := Bool.eq_false_iff.mpr c32
      subst c32
      have H1 : (some false) = some r := q25_22
      clear H
      have H := H1
      clear H1
      exact absurd ((Option.some.inj H).trans HRT.out) Bool.false_ne_true
end Go.Proofs.YtbflblmkdnhboaaDoor.Pr
