/- Functions of the program as plain functions, each with the proof that its call answers so. Written by a program of this place (myprint.py over the kit's print). No condition beyond what each statement says. -/
import Derived.Test.YtemhlblajnlogaaPr0
import Derived.Test.YtemhlblajnlogaaPr1
import Derived.Test.YtemhlblajnlogaaPr3
import Derived.Test.YtemhlblajnlogaaPr4
import Derived.Test.YtemhlblajnlogaaPr19
namespace Go.Proofs.Ytemhlblajnlogaa.Pr
open Go.RowKit Go.Proofs.YtemhlblajnlogaaW.PrintWords Go.Proofs.YtemhlblajnlogaaW.PrintLast Go.Proofs.YtemhlblajnlogaaW.PrintMore
attribute [local go_sem] max2_int min2_int max_two min_two max_three min_three max_four min_four   -- for this text's walks alone
set_option linter.unusedVariables false
set_option linter.unusedSimpArgs false

theorem put29_ {P : Prop} (h : P := by simp only [Act.put, List.setIfInBounds_toArray, List.set_cons_zero, List.set_cons_succ, i64_w, i32_w]; rfl) : P := h
/-! ### laws_FnExactDownArrows: function 5 -/
theorem q29_1 {P : Prop} (h : P := by (with_reducible repeat (first | refine blk_drewN ?_ _ | refine blk_drew ?_ | refine blk_alloc ?_ _)); refine blk_put (cs := #[.int .i64 t220, .slice none 0 0]) ?_ 1 _ rfl; (with_reducible repeat (first | refine blk_drewN ?_ _ | refine blk_drew ?_ | refine blk_alloc ?_ _)); refine blk_put (cs := #[.int .i64 0, .slice none 0 0]) ?_ 0 _ rfl; (with_reducible repeat (first | refine blk_drewN ?_ _ | refine blk_drew ?_ | refine blk_alloc ?_ _)); exact BK224.out) : P := h
theorem q29_2 {P : Prop} (h : P := by (with_reducible repeat (first | refine blk_drewN ?_ _ | refine blk_drew ?_ | refine blk_alloc ?_ _)); refine blk_far ?_ NB213_224.out _; (with_reducible repeat (first | refine blk_drewN ?_ _ | refine blk_drew ?_ | refine blk_alloc ?_ _)); refine blk_far ?_ NB213_224.out _; (with_reducible repeat (first | refine blk_drewN ?_ _ | refine blk_drew ?_ | refine blk_alloc ?_ _)); exact BK213.out) : P := h
theorem q29_3 {P : Prop} (h : P := by (with_reducible repeat (first | apply Kd.R_alloc | apply Kd.R_drewN | apply Kd.R_drew)); exact (Kd.R_mono (Kd.R_far (p := ⟨gb224, 1, none⟩) (Kd.R_far (p := ⟨gb224, 0, none⟩) (Kd.R_types HO223.out BK224.out (by decide)) (fun _ hk => hk.2) (.int .i64 t220)) (fun _ hk => hk.2) (.slice Ao28 t221.length co28)) (fun _ h_ => h_.1))) : P := h
theorem q29_4 {P : Prop} (h : P := by (with_reducible repeat (first | apply Kd.R_alloc | apply Kd.R_drewN | apply Kd.R_drew)); exact (Kd.R_mono (Kd.R_far (p := ⟨gb224, 1, none⟩) (Kd.R_far (p := ⟨gb224, 0, none⟩) (Kd.R_types HO223.out BK224.out (by decide)) (fun _ hk => hk.2) (.int .i64 t220)) (fun _ hk => hk.2) (.slice Ao46 t221.length co46)) (fun _ h_ => h_.1))) : P := h
theorem q29_5 {P : Prop} (h : P := by (with_reducible repeat (first | apply Kd.R_alloc | apply Kd.R_drewN | apply Kd.R_drew)); exact (Kd.R_mono (Kd.R_far (p := ⟨gb224, 1, none⟩) (Kd.R_far (p := ⟨gb224, 0, none⟩) (Kd.R_types HO223.out BK224.out (by decide)) (fun _ hk => hk.2) (.int .i64 t220)) (fun _ hk => hk.2) (.slice Ao64 t221.length co64)) (fun _ h_ => h_.1))) : P := h
theorem q29_6 {P : Prop} (h : P := by repeat (first | (with_reducible first | exact HB.out | apply below_alloc | apply pw_below_drewN | apply below_drew1 | refine below_set ?_ GE213.out | refine below_set ?_ GE224.out) | exact HB.out)) : P := h
theorem q29_7 {P : Prop} (h : P := by repeat (first | exact (Kd.C_below HR0_1.out HB.out) | (with_reducible refine Kd.C_alloc ?_ _) | (with_reducible refine Kd.C_drewN ?_ _) | (with_reducible refine Kd.C_drew ?_))) : P := h
theorem q29_8 {P : Prop} (h : P := by repeat (first | exact (Kd.R_reads' HO218.out).2.2 | (with_reducible refine Kd.C_alloc ?_ _) | (with_reducible refine Kd.C_drewN ?_ _) | (with_reducible refine Kd.C_drew ?_))) : P := h
theorem q29_9 {P : Prop} (h : P := by repeat (first | exact (Kd.R_reads' HO223.out).2.2 | (with_reducible refine Kd.C_alloc ?_ _) | (with_reducible refine Kd.C_drewN ?_ _) | (with_reducible refine Kd.C_drew ?_))) : P := h
theorem q29_10 {P : Prop} (h : P := by repeat (first | exact (Kd.R_reads' HO229.out).2.2 | (with_reducible refine Kd.C_alloc ?_ _) | (with_reducible refine Kd.C_drewN ?_ _) | (with_reducible refine Kd.C_drew ?_))) : P := h
theorem q29_11 {P : Prop} (h : P := by repeat (first | (with_reducible first | exact HB.out | apply below_alloc | apply pw_below_drewN | apply below_drew1 | refine below_set ?_ GE213.out) | exact HB.out)) : P := h
theorem q29_12 {P : Prop} (h : P := by (try simp only [List.map_toArray, List.map_cons, List.map_nil]); first | done | rfl | (simp only [List.length_drop, List.length_take]; rfl)) : P := h
theorem q29_13 {P : Prop} (h : P := by repeat (first | (with_reducible first | exact HB.out | apply below_alloc | apply pw_below_drewN | apply below_drew1) | exact HB.out)) : P := h
theorem q29_14 {P : Prop} (h : P := by (with_reducible repeat (first | refine blk_drewN ?_ _ | refine blk_drew ?_ | refine blk_alloc ?_ _)); exact BK213.out) : P := h
theorem q29_15 {P : Prop} (h : P := by (with_reducible repeat (first | refine blk_drewN ?_ _ | refine blk_drew ?_ | refine blk_alloc ?_ _)); exact BK224.out) : P := h
theorem q29_16 {P : Prop} (h : P := by (with_reducible repeat (first | apply Kd.R_alloc | apply Kd.R_drewN | apply Kd.R_drew)); exact HO218.out) : P := h
theorem q29_17 {P : Prop} (h : P := by (with_reducible repeat (first | apply Kd.R_alloc | apply Kd.R_drewN | apply Kd.R_drew)); exact HO223.out) : P := h
theorem q29_18 {P : Prop} (h : P := by kernel_rfl) : P := h
def laws_FnExactDownArrows.f (k : Nat) (a0_0 : Int) (l0_1 : List Int) (a1 : Int) : Option (Bool) := (laws_szContext.f a0_0 l0_1 1048576).bind fun t214 => (if t214 < 0 then (some true) else ((laws_toContext.f k a0_0 l0_1).bind fun bt215 => ((spec_DownArrows.f k bt215.1 bt215.2 a1).bind fun t219 => ((laws_toContext.f k a0_0 l0_1).bind fun bt220 => ((impl_DownArrows.f k bt220.1 bt220.2 a1).bind fun t225 => (if t225 = t219 then ((laws_toContext.f k a0_0 l0_1).bind fun bt226 => ((laws_eqContext.f k bt220.1 bt220.2 bt226.1 bt226.2).bind fun t230 => (if t230 = true then (some true) else (some false)))) else (some false)))))))
theorem laws_FnExactDownArrows.mono : ∀ a0 a1 a2 k, LeO (laws_FnExactDownArrows.f k a0 a1 a2) (laws_FnExactDownArrows.f (k + 1) a0 a1 a2) := by
 intro a0 a1 a2 k
 unfold laws_FnExactDownArrows.f
 repeat' first
   | (with_reducible exact impl_DownArrows.mono _ _ _ _)
   | (with_reducible exact laws_eqContext.mono _ _ _ _ _)
   | (with_reducible exact laws_toContext.mono _ _ _)
   | (with_reducible exact spec_DownArrows.mono _ _ _ _)
   | (with_reducible exact LeO.refl _)
   | (with_reducible exact LeO.none _)
   | (with_reducible refine LeO.ite ?_ ?_)
   | (with_reducible refine LeO.bind ?_ (fun _ => ?_))
   | exact impl_DownArrows.mono _ _ _ _
   | exact laws_eqContext.mono _ _ _ _ _
   | exact laws_toContext.mono _ _ _
   | exact spec_DownArrows.mono _ _ _ _
   | exact LeO.none _
   | refine LeO.ite ?_ ?_
   | refine LeO.bind ?_ (fun _ => ?_)
set_option maxHeartbeats 8000000 in
set_option maxRecDepth 100000 in
theorem laws_FnExactDownArrows.calls (k : Nat) (a0_0 : Int) (A0_1 : Option Addr) (c0_1 : Nat) (l0_1 : List Int) (a1 : Int) (r : Bool) (w : World) (hr0_1 : Kd.C (Kd.int .i64) w A0_1 l0_1.length l0_1) (hc0_1 : l0_1.length ≤ c0_1) (h : laws_FnExactDownArrows.f k a0_0 l0_1 a1 = some r) :
  Calls Try.prog 5 #[.agg #[.int .i64 a0_0, .slice A0_1 l0_1.length c0_1], .int .i64 a1] w fun e w' => e = .returned (.bool r) ∧ Below w.heap.size w w' := by
 have hu24 := Try.underlying24
 have hu27 := Try.underlying27
 have HR0_1 := Aside0.mk hr0_1
 have HC0_1 := Aside0.mk hc0_1
 clear hr0_1 hc0_1
 have HB := Aside0.mk (Below.refl w.heap.size w)
 have H : ((laws_szContext.f a0_0 l0_1 1048576).bind fun t214 => (if t214 < 0 then (some true) else ((laws_toContext.f k a0_0 l0_1).bind fun bt215 => ((spec_DownArrows.f k bt215.1 bt215.2 a1).bind fun t219 => ((laws_toContext.f k a0_0 l0_1).bind fun bt220 => ((impl_DownArrows.f k bt220.1 bt220.2 a1).bind fun t225 => (if t225 = t219 then ((laws_toContext.f k a0_0 l0_1).bind fun bt226 => ((laws_eqContext.f k bt220.1 bt220.2 bt226.1 bt226.2).bind fun t230 => (if t230 = true then (some true) else (some false)))) else (some false)))))))) = some r := h
 clear h
 replace H := Option.bind_eq_some_iff.mp H
 obtain ⟨t214, A30, H⟩ := H
 replace H : (if t214 < 0 then (some true) else ((laws_toContext.f k a0_0 l0_1).bind fun bt215 => ((spec_DownArrows.f k bt215.1 bt215.2 a1).bind fun t219 => ((laws_toContext.f k a0_0 l0_1).bind fun bt220 => ((impl_DownArrows.f k bt220.1 bt220.2 a1).bind fun t225 => (if t225 = t219 then ((laws_toContext.f k a0_0 l0_1).bind fun bt226 => ((laws_eqContext.f k bt220.1 bt220.2 bt226.1 bt226.2).bind fun t230 => (if t230 = true then (some true) else (some false)))) else (some false))))))) = some r := H
 have A3 := Aside0.mk A30
 clear A30
 by_cases c4 : t214 < 0
 ·
  rw [if_pos c4] at H
  have c4b0 : decide (t214 < 0) = true := decide_eq_true c4
  clear c4
  obtain rfl := Option.some.inj H
  go_enter Try.func5, Try.ntmps5
  go_wp2_with (first | ((with_reducible refine gate_dst (N := 2) rfl ?_); refine box_event ?hg (N := 2) ?hd (cs := #[.int .i64 a0_0, .slice A0_1 l0_1.length c0_1]) (t := 24) ?hr ?_; (case hd => rfl); (case hg => rfl); (case hr => first | (go_simp; done) | (go_simp; rfl)); intro gb213 hg w5 hbox hb; have n0_ := Aside0.mk (below_step q29_13 hb); have n1_ := Aside0.mk (hbox); have n2_ := Aside0.mk ((by rw [hg]; exact (below_size q29_13) : w.heap.size ≤ gb213)); have n3_ := Aside0.mk ((by rw [hg]; exact (below_size q29_13) : w.heap.size ≤ gb213)); clear HB; have HB := n0_; have BK213 := n1_; have GW213 := n2_; have GE213 := n3_; clear n0_ n1_ n2_ n3_; clear hb hbox hg; have hcz6_0 : w5.cell? ⟨gb213, 0, none⟩ = some (.int .i64 a0_0) := (blk_cell BK213.out 0).trans rfl; have hcz6_1 : w5.cell? ⟨gb213, 1, none⟩ = some (.slice A0_1 l0_1.length c0_1) := (blk_cell BK213.out 1).trans rfl; have hfz6_0 := blk_frozen BK213.out 0; have hfz6_1 := blk_frozen BK213.out 1) | ((with_reducible refine gate_callee (f := 15) rfl ?_); refine goesL_ (some 11) rfl rfl Try.func15 q29_18 rfl #[.agg #[.int .i64 a0_0, .slice A0_1 l0_1.length c0_1], .int .i64 1048576] rfl q29_12 ?_; (with_reducible refine (laws_szContext.calls a0_0 _ _ l0_1 1048576 t214 _ ?side1 ?side2 A3.out).mono ?_); (case side1 => exact q29_7); (case side2 => exact HC0_1.out); rintro e w7 ⟨rfl, hb⟩; refine ⟨_, rfl, ?_⟩; have n0_ := Aside0.mk (blk_below (g := gb213) (o := .cells #[.int .i64 a0_0, .slice A0_1 l0_1.length c0_1] 24 (0, 0)) q29_14 hb); have n1_ := Aside0.mk (below_step q29_11 hb); clear BK213; clear HB; have BK213 := n0_; have HB := n1_; clear n0_ n1_; (try clear hb); (try clear hb2); (try clear hk); (try clear hi)))
  go_ret
  exact ⟨by first | rfl | (simp [errW_none, errW_some] <;> rfl) | (simp [*, errW_none, errW_some] <;> rfl), by repeat (first | (with_reducible first | exact HB.out | apply below_alloc | apply pw_below_drewN | apply below_drew1 | refine below_set ?_ GE213.out) | exact HB.out)⟩
 ·
  rw [if_neg c4] at H
  have c4b0 : decide (t214 < 0) = false := decide_eq_false c4
  clear c4
  replace H := Option.bind_eq_some_iff.mp H
  obtain ⟨⟨t215, t216⟩, A80, H⟩ := H
  replace H : ((spec_DownArrows.f k t215 t216 a1).bind fun t219 => ((laws_toContext.f k a0_0 l0_1).bind fun bt220 => ((impl_DownArrows.f k bt220.1 bt220.2 a1).bind fun t225 => (if t225 = t219 then ((laws_toContext.f k a0_0 l0_1).bind fun bt226 => ((laws_eqContext.f k bt220.1 bt220.2 bt226.1 bt226.2).bind fun t230 => (if t230 = true then (some true) else (some false)))) else (some false))))) = some r := H
  have A8 := Aside0.mk A80
  clear A80
  replace H := Option.bind_eq_some_iff.mp H
  obtain ⟨t219, A90, H⟩ := H
  replace H : ((laws_toContext.f k a0_0 l0_1).bind fun bt220 => ((impl_DownArrows.f k bt220.1 bt220.2 a1).bind fun t225 => (if t225 = t219 then ((laws_toContext.f k a0_0 l0_1).bind fun bt226 => ((laws_eqContext.f k bt220.1 bt220.2 bt226.1 bt226.2).bind fun t230 => (if t230 = true then (some true) else (some false)))) else (some false)))) = some r := H
  have A9 := Aside0.mk A90
  clear A90
  replace H := Option.bind_eq_some_iff.mp H
  obtain ⟨⟨t220, t221⟩, A100, H⟩ := H
  replace H : ((impl_DownArrows.f k t220 t221 a1).bind fun t225 => (if t225 = t219 then ((laws_toContext.f k a0_0 l0_1).bind fun bt226 => ((laws_eqContext.f k t220 t221 bt226.1 bt226.2).bind fun t230 => (if t230 = true then (some true) else (some false)))) else (some false))) = some r := H
  have A10 := Aside0.mk A100
  clear A100
  replace H := Option.bind_eq_some_iff.mp H
  obtain ⟨t225, A110, H⟩ := H
  replace H : (if t225 = t219 then ((laws_toContext.f k a0_0 l0_1).bind fun bt226 => ((laws_eqContext.f k t220 t221 bt226.1 bt226.2).bind fun t230 => (if t230 = true then (some true) else (some false)))) else (some false)) = some r := H
  have A11 := Aside0.mk A110
  clear A110
  by_cases c12 : t225 = t219
  ·
   rw [if_pos c12] at H
   have c12b0 : (t225 == t219) = true := beq_iff_eq.mpr c12
   have c12b1 : (t225 != t219) = false := bne_eq_false_iff_eq.mpr c12
   clear c12
   replace H := Option.bind_eq_some_iff.mp H
   obtain ⟨⟨t226, t227⟩, A130, H⟩ := H
   replace H : ((laws_eqContext.f k t220 t221 t226 t227).bind fun t230 => (if t230 = true then (some true) else (some false))) = some r := H
   have A13 := Aside0.mk A130
   clear A130
   replace H := Option.bind_eq_some_iff.mp H
   obtain ⟨t230, A140, H⟩ := H
   replace H : (if t230 = true then (some true) else (some false)) = some r := H
   have A14 := Aside0.mk A140
   clear A140
   by_cases c15 : t230 = true
   ·
    subst c15
    have H1 : (some true) = some r := by rw [if_pos rfl] at H; exact H
    clear H
    have H := H1
    clear H1
    obtain rfl := Option.some.inj H
    go_enter Try.func5, Try.ntmps5
    try go_wp2_with (first | ((with_reducible refine gate_dst (N := 2) rfl ?_); refine box_event ?hg (N := 2) ?hd (cs := #[.int .i64 a0_0, .slice A0_1 l0_1.length c0_1]) (t := 24) ?hr ?_; (case hd => rfl); (case hg => rfl); (case hr => first | (go_simp; done) | (go_simp; rfl)); intro gb213 hg w16 hbox hb; have n0_ := Aside0.mk (below_step q29_13 hb); have n1_ := Aside0.mk (hbox); have n2_ := Aside0.mk ((by rw [hg]; exact (below_size q29_13) : w.heap.size ≤ gb213)); have n3_ := Aside0.mk ((by rw [hg]; exact (below_size q29_13) : w.heap.size ≤ gb213)); clear HB; have HB := n0_; have BK213 := n1_; have GW213 := n2_; have GE213 := n3_; clear n0_ n1_ n2_ n3_; clear hb hbox hg; have hcz17_0 : w16.cell? ⟨gb213, 0, none⟩ = some (.int .i64 a0_0) := (blk_cell BK213.out 0).trans rfl; have hcz17_1 : w16.cell? ⟨gb213, 1, none⟩ = some (.slice A0_1 l0_1.length c0_1) := (blk_cell BK213.out 1).trans rfl; have hfz17_0 := blk_frozen BK213.out 0; have hfz17_1 := blk_frozen BK213.out 1) | ((with_reducible refine gate_callee (f := 15) rfl ?_); refine goesL_ (some 11) rfl rfl Try.func15 q29_18 rfl #[.agg #[.int .i64 a0_0, .slice A0_1 l0_1.length c0_1], .int .i64 1048576] rfl q29_12 ?_; (with_reducible refine (laws_szContext.calls a0_0 _ _ l0_1 1048576 t214 _ ?side1 ?side2 A3.out).mono ?_); (case side1 => exact q29_7); (case side2 => exact HC0_1.out); rintro e w18 ⟨rfl, hb⟩; refine ⟨_, rfl, ?_⟩; have n0_ := Aside0.mk (blk_below (g := gb213) (o := .cells #[.int .i64 a0_0, .slice A0_1 l0_1.length c0_1] 24 (0, 0)) q29_14 hb); have n1_ := Aside0.mk (below_step q29_11 hb); clear BK213; clear HB; have BK213 := n0_; have HB := n1_; clear n0_ n1_; (try clear hb); (try clear hb2); (try clear hk); (try clear hi); have hcz19_0 : w18.cell? ⟨gb213, 0, none⟩ = some (.int .i64 a0_0) := (blk_cell BK213.out 0).trans rfl; have hcz19_1 : w18.cell? ⟨gb213, 1, none⟩ = some (.slice A0_1 l0_1.length c0_1) := (blk_cell BK213.out 1).trans rfl; have hfz19_0 := blk_frozen BK213.out 0; have hfz19_1 := blk_frozen BK213.out 1) | ((with_reducible refine gate_callee (f := 17) rfl ?_); refine goesL_ (some 15) rfl rfl Try.func17 q29_18 rfl #[.agg #[.int .i64 a0_0, .slice A0_1 l0_1.length c0_1]] rfl q29_12 ?_; (with_reducible refine (laws_toContext.calls k a0_0 _ _ l0_1 t215 t216 _ ?side1 ?side2 A8.out).mono ?_); (case side1 => exact q29_7); (case side2 => exact HC0_1.out); rintro e w20 ⟨v217, rfl, ho0, hb⟩; refine ⟨_, rfl, ?_⟩; have n0_ := Aside0.mk (Kd.R_lower ho0 (below_size q29_11)); have n1_ := Aside0.mk (blk_below (g := gb213) (o := .cells #[.int .i64 a0_0, .slice A0_1 l0_1.length c0_1] 24 (0, 0)) q29_14 hb); have n2_ := Aside0.mk (below_step q29_11 hb); clear BK213; clear HB; have HO218 := n0_; have BK213 := n1_; have HB := n2_; clear n0_ n1_ n2_; (try clear hb); (try clear hb2); (try clear hk); (try clear hi); (try clear ho0); obtain ⟨Ao21, co21, eo21⟩ := Kd.R_slice HO218.out; subst eo21) | ((with_reducible refine gate_callee (f := 22) rfl ?_); refine goesL_ (some 17) rfl rfl Try.func22 q29_18 rfl #[.agg #[.int .i64 t215, .slice Ao21 t216.length co21], .int .i64 a1] rfl q29_12 ?_; (with_reducible refine (spec_DownArrows.calls k t215 _ _ t216 a1 t219 _ ?side1 ?side2 A9.out).mono ?_); (case side1 => exact q29_8); (case side2 => exact (Kd.R_reads' HO218.out).2.1); rintro e w22 ⟨rfl, hb⟩; refine ⟨_, rfl, ?_⟩; have n0_ := Aside0.mk (Kd.R_below q29_16 hb); have n1_ := Aside0.mk (blk_below (g := gb213) (o := .cells #[.int .i64 a0_0, .slice A0_1 l0_1.length c0_1] 24 (0, 0)) q29_14 hb); have n2_ := Aside0.mk (below_step q29_11 hb); clear HO218; clear BK213; clear HB; have HO218 := n0_; have BK213 := n1_; have HB := n2_; clear n0_ n1_ n2_; (try clear hb); (try clear hb2); (try clear hk); (try clear hi); have hcz23_0 : w22.cell? ⟨gb213, 0, none⟩ = some (.int .i64 a0_0) := (blk_cell BK213.out 0).trans rfl; have hcz23_1 : w22.cell? ⟨gb213, 1, none⟩ = some (.slice A0_1 l0_1.length c0_1) := (blk_cell BK213.out 1).trans rfl; have hfz23_0 := blk_frozen BK213.out 0; have hfz23_1 := blk_frozen BK213.out 1) | ((with_reducible refine gate_callee (f := 17) rfl ?_); refine goesL_ (some 19) rfl rfl Try.func17 q29_18 rfl #[.agg #[.int .i64 a0_0, .slice A0_1 l0_1.length c0_1]] rfl q29_12 ?_; (with_reducible refine (laws_toContext.calls k a0_0 _ _ l0_1 t220 t221 _ ?side1 ?side2 A10.out).mono ?_); (case side1 => exact q29_7); (case side2 => exact HC0_1.out); rintro e w24 ⟨v222, rfl, ho0, hb⟩; refine ⟨_, rfl, ?_⟩; have n0_ := Aside0.mk (Kd.R_elder' q29_16 (Kd.R_base ho0) hb); have n1_ := Aside0.mk (Kd.R_lower (Kd.R_new' ho0 (Kd.R_lt q29_16)) (below_size q29_11)); have n2_ := Aside0.mk (blk_below (g := gb213) (o := .cells #[.int .i64 a0_0, .slice A0_1 l0_1.length c0_1] 24 (0, 0)) q29_14 hb); have n3_ := Aside0.mk (below_step q29_11 hb); clear HO218; clear BK213; clear HB; have HO218 := n0_; have HO223 := n1_; have BK213 := n2_; have HB := n3_; clear n0_ n1_ n2_ n3_; (try clear hb); (try clear hb2); (try clear hk); (try clear hi); (try clear ho0)) | ((with_reducible refine gate_dst (N := 7) rfl ?_); refine box_event ?hg (N := 7) ?hd (cs := #[.int .i64 0, .slice none 0 0]) (t := 27) ?hr ?_; (case hd => rfl); (case hg => rfl); (case hr => first | (go_simp; done) | (go_simp; rfl)); intro gb224 hg w25 hbox hb; have n0_ := Aside0.mk (Kd.R_below q29_16 hb); have n1_ := Aside0.mk (Kd.R_below q29_17 hb); have n2_ := Aside0.mk (blk_below (g := gb213) (o := .cells #[.int .i64 a0_0, .slice A0_1 l0_1.length c0_1] 24 (0, 0)) q29_14 hb); have n3_ := Aside0.mk (below_step q29_11 hb); have n4_ := Aside0.mk (hbox); have n5_ := Aside0.mk ((by rw [hg]; exact (below_size q29_11) : w.heap.size ≤ gb224)); have n6_ := Aside0.mk ((by rw [hg]; exact (below_size q29_11) : w.heap.size ≤ gb224)); have n7_ := Aside0.mk ((by rw [hg]; exact Nat.ne_of_lt (blk_lt (g := gb213) (o := .cells #[.int .i64 a0_0, .slice A0_1 l0_1.length c0_1] 24 (0, 0)) q29_14) : gb213 ≠ gb224)); have n8_ := Aside0.mk ((by rw [hg]; exact Nat.ne_of_gt (blk_lt (g := gb213) (o := .cells #[.int .i64 a0_0, .slice A0_1 l0_1.length c0_1] 24 (0, 0)) q29_14) : gb224 ≠ gb213)); clear HO218; clear HO223; clear BK213; clear HB; have HO218 := n0_; have HO223 := n1_; have BK213 := n2_; have HB := n3_; have BK224 := n4_; have GW224 := n5_; have GE224 := n6_; have NB213_224 := n7_; have NB224_213 := n8_; clear n0_ n1_ n2_ n3_ n4_ n5_ n6_ n7_ n8_; clear hb hbox hg; have hnb26 := NB224_213.out; have hnc26 := NB213_224.out; have hcz27_0 : w25.cell? ⟨gb224, 0, none⟩ = some (.int .i64 0) := (blk_cell BK224.out 0).trans rfl; have hcz27_1 : w25.cell? ⟨gb224, 1, none⟩ = some (.slice none 0 0) := (blk_cell BK224.out 1).trans rfl; have hfz27_0 := blk_frozen BK224.out 0; have hfz27_1 := blk_frozen BK224.out 1; obtain ⟨Ao28, co28, eo28⟩ := Kd.R_slice HO223.out; subst eo28) | ((with_reducible refine gate_callee (f := 23) rfl ?_); refine goesL_ (some 22) rfl rfl Try.func23 q29_18 rfl #[.agg #[.int .i64 t220, .slice Ao28 t221.length co28], .int .i64 a1] rfl q29_12 ?_; (with_reducible refine (impl_DownArrows.calls k t220 _ _ t221 a1 t225 _ ?side1 ?side2 A11.out).mono ?_); (case side1 => refine (Kd.R_reads' (e := 3) (base := w.heap.size) (ok := fun k_ => (True ∧ some k_ ≠ (.slice Ao21 t216.length co21 : Value).ownBlock)) (n := t221.length) (c := co28) ?_).2.2; exact q29_3); (case side2 => exact (Kd.R_reads' HO223.out).2.1); rintro e w29 ⟨rfl, hb⟩; refine ⟨_, rfl, ?_⟩; have n0_ := Aside0.mk (Kd.R_below (by (with_reducible repeat (first | apply Kd.R_alloc | apply Kd.R_drewN | apply Kd.R_drew)); exact (Kd.R_mono (Kd.R_far (p := ⟨gb224, 1, none⟩) (Kd.R_far (p := ⟨gb224, 0, none⟩) (Kd.R_types HO218.out BK224.out (by decide)) (fun _ hk => hk.2) (.int .i64 t220)) (fun _ hk => hk.2) (.slice Ao28 t221.length co28)) (fun _ h_ => h_.1))) hb); have n1_ := Aside0.mk (Kd.R_below q29_3 hb); have n2_ := Aside0.mk (blk_below (g := gb213) (o := .cells #[.int .i64 a0_0, .slice A0_1 l0_1.length c0_1] 24 (0, 0)) q29_2 hb); have n3_ := Aside0.mk (blk_below (g := gb224) (o := .cells #[.int .i64 t220, .slice Ao28 t221.length co28] 27 (0, 0)) q29_1 hb); have n4_ := Aside0.mk (below_step q29_6 hb); clear HO218; clear HO223; clear BK213; clear BK224; clear HB; have HO218 := n0_; have HO223 := n1_; have BK213 := n2_; have BK224 := n3_; have HB := n4_; clear n0_ n1_ n2_ n3_ n4_; (try clear hb); (try clear hb2); (try clear hk); (try clear hi)))
    have n0_ := Aside0.mk (Kd.R_drew HO218.out)
    have n1_ := Aside0.mk (Kd.R_drew HO223.out)
    have n2_ := Aside0.mk (blk_drew BK213.out)
    have n3_ := Aside0.mk (blk_drew BK224.out)
    have n4_ := Aside0.mk (below_drew1 HB.out)
    clear HO218
    clear HO223
    clear BK213
    clear BK224
    clear HB
    have HO218 := n0_
    have HO223 := n1_
    have BK213 := n2_
    have BK224 := n3_
    have HB := n4_
    clear n0_ n1_ n2_ n3_ n4_
    refine start_ (n := 5) (S := fun w' => w'.cell? ⟨gb224, 0, none⟩ = some (.int .i64 t220) ∧ w'.cell? ⟨gb224, 1, none⟩ = some (.slice Ao28 t221.length co28) ∧ w'.cell? ⟨gb213, 0, none⟩ = some (.int .i64 a0_0) ∧ w'.cell? ⟨gb213, 1, none⟩ = some (.slice A0_1 l0_1.length c0_1)) (ds := []) #[false, false, false, false, false] q29_18 rfl rfl ⟨(blk_cell BK224.out 0).trans rfl, (blk_cell BK224.out 1).trans rfl, (blk_cell BK213.out 0).trans rfl, (blk_cell BK213.out 1).trans rfl⟩ (fun hHeld => ?_)
    generalize w29.drew = w30 at HO218 HO223 BK213 BK224 HB hHeld ⊢
    refine take_ (i := 0) (N := some 26) (v := ?_) (a' := ?_) #[true, false, false, false, false] rfl rfl q29_18 (fun _ _ _ h => h) (Or.inl ⟨by rfl, ?_⟩) hHeld ?_ ?_
    rotate_left
    ·
     rintro w' ⟨s0, s1, s2, s3⟩
     go_simp
     with_reducible rfl
    rotate_left
    ·
     exact put29_
    refine take_ (i := 1) (N := some 27) (v := ?_) (a' := ?_) #[true, true, false, false, false] rfl rfl q29_18 (fun _ _ _ h => h) (Or.inl ⟨by rfl, ?_⟩) hHeld ?_ ?_
    rotate_left
    ·
     rintro w' ⟨s0, s1, s2, s3⟩
     go_simp
     with_reducible rfl
    rotate_left
    ·
     exact put29_
    refine one_ (i := 2) (N := some 28) #[true, true, true, false, false] rfl rfl q29_18 (by decide) (fun K hK => ?_)
    refine goes_ Try.func17 q29_18 rfl #[.agg #[.int .i64 a0_0, .slice A0_1 l0_1.length c0_1]] (by rfl) rfl rfl q29_12 ?_
    with_reducible refine (laws_toContext.calls k a0_0 _ _ l0_1 t226 t227 _ ?side1 ?side2 A13.out).mono ?_
    (case side1 => exact q29_7)
    (case side2 => exact HC0_1.out)
    rintro e w31 ⟨v228, rfl, ho0, hb⟩
    refine ⟨_, rfl, ?_⟩
    have n0_ := Aside0.mk (Kd.R_elder' q29_16 (Kd.R_base ho0) hb)
    have n1_ := Aside0.mk (Kd.R_elder' q29_17 (Kd.R_base ho0) hb)
    have n2_ := Aside0.mk (Kd.R_lower (Kd.R_new' (Kd.R_new' ho0 (Kd.R_lt q29_16)) (Kd.R_lt q29_17)) (below_size q29_6))
    have n3_ := Aside0.mk (blk_below (g := gb213) (o := .cells #[.int .i64 a0_0, .slice A0_1 l0_1.length c0_1] 24 (0, 0)) q29_14 hb)
    have n4_ := Aside0.mk (blk_below (g := gb224) (o := .cells #[.int .i64 t220, .slice Ao28 t221.length co28] 27 (0, 0)) q29_15 hb)
    have n5_ := Aside0.mk (below_step q29_6 hb)
    clear HO218
    clear HO223
    clear BK213
    clear BK224
    clear HB
    have HO218 := n0_
    have HO223 := n1_
    have HO229 := n2_
    have BK213 := n3_
    have BK224 := n4_
    have HB := n5_
    clear n0_ n1_ n2_ n3_ n4_ n5_
    (try clear hb)
    (try clear hb2)
    (try clear hk)
    (try clear hi)
    (try clear ho0)
    obtain ⟨Ao32, co32, eo32⟩ := Kd.R_slice HO229.out
    (first | subst eo32 | (injection eo32 with f1_ f2_ f3_; have f4_ := f1_.symm; have f5_ := f3_.symm; clear f1_ f2_ f3_; subst f4_; subst f5_))
    refine hK.out _ _ ⟨(blk_cell BK224.out 0).trans rfl, (blk_cell BK224.out 1).trans rfl, (blk_cell BK213.out 0).trans rfl, (blk_cell BK213.out 1).trans rfl⟩ (fun hHeld => ?_)
    clear hK K
    refine norm_ (a' := ?_) ?_ ?_
    rotate_left
    ·
     show Act.put _ (some 28) _ = _
     exact put29_
    refine one_ (i := 3) (N := some 29) #[true, true, true, true, false] rfl rfl q29_18 (by decide) (fun K hK => ?_)
    refine goes_ Try.func19 q29_18 rfl #[.agg #[.int .i64 t220, .slice Ao28 t221.length co28], .agg #[.int .i64 t226, .slice Ao32 t227.length co32]] (by rfl) rfl rfl q29_12 ?_
    with_reducible refine (laws_eqContext.calls k t220 _ _ t221 t226 _ _ t227 true _ ?side1 ?side2 ?side3 ?side4 A14.out).mono ?_
    (case side1 => exact q29_9)
    (case side2 => exact (Kd.R_reads' HO223.out).2.1)
    (case side3 => exact q29_10)
    (case side4 => exact (Kd.R_reads' HO229.out).2.1)
    rintro e w33 ⟨rfl, hb⟩
    refine ⟨_, rfl, ?_⟩
    have n0_ := Aside0.mk (Kd.R_below q29_16 hb)
    have n1_ := Aside0.mk (Kd.R_below q29_17 hb)
    have n2_ := Aside0.mk (Kd.R_below (by (with_reducible repeat (first | apply Kd.R_alloc | apply Kd.R_drewN | apply Kd.R_drew)); exact HO229.out) hb)
    have n3_ := Aside0.mk (blk_below (g := gb213) (o := .cells #[.int .i64 a0_0, .slice A0_1 l0_1.length c0_1] 24 (0, 0)) q29_14 hb)
    have n4_ := Aside0.mk (blk_below (g := gb224) (o := .cells #[.int .i64 t220, .slice Ao28 t221.length co28] 27 (0, 0)) q29_15 hb)
    have n5_ := Aside0.mk (below_step q29_6 hb)
    clear HO218
    clear HO223
    clear HO229
    clear BK213
    clear BK224
    clear HB
    have HO218 := n0_
    have HO223 := n1_
    have HO229 := n2_
    have BK213 := n3_
    have BK224 := n4_
    have HB := n5_
    clear n0_ n1_ n2_ n3_ n4_ n5_
    (try clear hb)
    (try clear hb2)
    (try clear hk)
    (try clear hi)
    refine hK.out _ _ ⟨(blk_cell BK224.out 0).trans rfl, (blk_cell BK224.out 1).trans rfl, (blk_cell BK213.out 0).trans rfl, (blk_cell BK213.out 1).trans rfl⟩ (fun hHeld => ?_)
    clear hK K
    refine norm_ (a' := ?_) ?_ ?_
    rotate_left
    ·
     show Act.put _ (some 29) _ = _
     exact put29_
    refine pure_ (i := 4) (N := some 30) (v := ?_) (a' := ?_) #[true, true, true, true, true] rfl rfl q29_18 (fun _ _ _ h => h) (Or.inl ⟨by rfl, ?_⟩) ?_ ?_
    rotate_left
    ·
     intro w'
     go_simp
     with_reducible rfl
    rotate_left
    ·
     exact put29_
    refine done_ q29_18 ?_
    try go_wp2
    go_ret
    exact ⟨by first | rfl | (simp [errW_none, errW_some] <;> rfl) | (simp [*, errW_none, errW_some] <;> rfl), by repeat (first | (with_reducible first | exact HB.out | apply below_alloc | apply pw_below_drewN | apply below_drew1 | refine below_set ?_ GE213.out | refine below_set ?_ GE224.out) | exact HB.out)⟩
   ·
    replace c15 := Bool.eq_false_iff.mpr c15
    subst c15
    have H1 : (some false) = some r := by rw [if_neg (show ¬ (false = true) by decide)] at H; exact H
    clear H
    have H := H1
    clear H1
    obtain rfl := Option.some.inj H
    go_enter Try.func5, Try.ntmps5
    try go_wp2_with (first | ((with_reducible refine gate_dst (N := 2) rfl ?_); refine box_event ?hg (N := 2) ?hd (cs := #[.int .i64 a0_0, .slice A0_1 l0_1.length c0_1]) (t := 24) ?hr ?_; (case hd => rfl); (case hg => rfl); (case hr => first | (go_simp; done) | (go_simp; rfl)); intro gb213 hg w34 hbox hb; have n0_ := Aside0.mk (below_step q29_13 hb); have n1_ := Aside0.mk (hbox); have n2_ := Aside0.mk ((by rw [hg]; exact (below_size q29_13) : w.heap.size ≤ gb213)); have n3_ := Aside0.mk ((by rw [hg]; exact (below_size q29_13) : w.heap.size ≤ gb213)); clear HB; have HB := n0_; have BK213 := n1_; have GW213 := n2_; have GE213 := n3_; clear n0_ n1_ n2_ n3_; clear hb hbox hg; have hcz35_0 : w34.cell? ⟨gb213, 0, none⟩ = some (.int .i64 a0_0) := (blk_cell BK213.out 0).trans rfl; have hcz35_1 : w34.cell? ⟨gb213, 1, none⟩ = some (.slice A0_1 l0_1.length c0_1) := (blk_cell BK213.out 1).trans rfl; have hfz35_0 := blk_frozen BK213.out 0; have hfz35_1 := blk_frozen BK213.out 1) | ((with_reducible refine gate_callee (f := 15) rfl ?_); refine goesL_ (some 11) rfl rfl Try.func15 q29_18 rfl #[.agg #[.int .i64 a0_0, .slice A0_1 l0_1.length c0_1], .int .i64 1048576] rfl q29_12 ?_; (with_reducible refine (laws_szContext.calls a0_0 _ _ l0_1 1048576 t214 _ ?side1 ?side2 A3.out).mono ?_); (case side1 => exact q29_7); (case side2 => exact HC0_1.out); rintro e w36 ⟨rfl, hb⟩; refine ⟨_, rfl, ?_⟩; have n0_ := Aside0.mk (blk_below (g := gb213) (o := .cells #[.int .i64 a0_0, .slice A0_1 l0_1.length c0_1] 24 (0, 0)) q29_14 hb); have n1_ := Aside0.mk (below_step q29_11 hb); clear BK213; clear HB; have BK213 := n0_; have HB := n1_; clear n0_ n1_; (try clear hb); (try clear hb2); (try clear hk); (try clear hi); have hcz37_0 : w36.cell? ⟨gb213, 0, none⟩ = some (.int .i64 a0_0) := (blk_cell BK213.out 0).trans rfl; have hcz37_1 : w36.cell? ⟨gb213, 1, none⟩ = some (.slice A0_1 l0_1.length c0_1) := (blk_cell BK213.out 1).trans rfl; have hfz37_0 := blk_frozen BK213.out 0; have hfz37_1 := blk_frozen BK213.out 1) | ((with_reducible refine gate_callee (f := 17) rfl ?_); refine goesL_ (some 15) rfl rfl Try.func17 q29_18 rfl #[.agg #[.int .i64 a0_0, .slice A0_1 l0_1.length c0_1]] rfl q29_12 ?_; (with_reducible refine (laws_toContext.calls k a0_0 _ _ l0_1 t215 t216 _ ?side1 ?side2 A8.out).mono ?_); (case side1 => exact q29_7); (case side2 => exact HC0_1.out); rintro e w38 ⟨v217, rfl, ho0, hb⟩; refine ⟨_, rfl, ?_⟩; have n0_ := Aside0.mk (Kd.R_lower ho0 (below_size q29_11)); have n1_ := Aside0.mk (blk_below (g := gb213) (o := .cells #[.int .i64 a0_0, .slice A0_1 l0_1.length c0_1] 24 (0, 0)) q29_14 hb); have n2_ := Aside0.mk (below_step q29_11 hb); clear BK213; clear HB; have HO218 := n0_; have BK213 := n1_; have HB := n2_; clear n0_ n1_ n2_; (try clear hb); (try clear hb2); (try clear hk); (try clear hi); (try clear ho0); obtain ⟨Ao39, co39, eo39⟩ := Kd.R_slice HO218.out; subst eo39) | ((with_reducible refine gate_callee (f := 22) rfl ?_); refine goesL_ (some 17) rfl rfl Try.func22 q29_18 rfl #[.agg #[.int .i64 t215, .slice Ao39 t216.length co39], .int .i64 a1] rfl q29_12 ?_; (with_reducible refine (spec_DownArrows.calls k t215 _ _ t216 a1 t219 _ ?side1 ?side2 A9.out).mono ?_); (case side1 => exact q29_8); (case side2 => exact (Kd.R_reads' HO218.out).2.1); rintro e w40 ⟨rfl, hb⟩; refine ⟨_, rfl, ?_⟩; have n0_ := Aside0.mk (Kd.R_below q29_16 hb); have n1_ := Aside0.mk (blk_below (g := gb213) (o := .cells #[.int .i64 a0_0, .slice A0_1 l0_1.length c0_1] 24 (0, 0)) q29_14 hb); have n2_ := Aside0.mk (below_step q29_11 hb); clear HO218; clear BK213; clear HB; have HO218 := n0_; have BK213 := n1_; have HB := n2_; clear n0_ n1_ n2_; (try clear hb); (try clear hb2); (try clear hk); (try clear hi); have hcz41_0 : w40.cell? ⟨gb213, 0, none⟩ = some (.int .i64 a0_0) := (blk_cell BK213.out 0).trans rfl; have hcz41_1 : w40.cell? ⟨gb213, 1, none⟩ = some (.slice A0_1 l0_1.length c0_1) := (blk_cell BK213.out 1).trans rfl; have hfz41_0 := blk_frozen BK213.out 0; have hfz41_1 := blk_frozen BK213.out 1) | ((with_reducible refine gate_callee (f := 17) rfl ?_); refine goesL_ (some 19) rfl rfl Try.func17 q29_18 rfl #[.agg #[.int .i64 a0_0, .slice A0_1 l0_1.length c0_1]] rfl q29_12 ?_; (with_reducible refine (laws_toContext.calls k a0_0 _ _ l0_1 t220 t221 _ ?side1 ?side2 A10.out).mono ?_); (case side1 => exact q29_7); (case side2 => exact HC0_1.out); rintro e w42 ⟨v222, rfl, ho0, hb⟩; refine ⟨_, rfl, ?_⟩; have n0_ := Aside0.mk (Kd.R_elder' q29_16 (Kd.R_base ho0) hb); have n1_ := Aside0.mk (Kd.R_lower (Kd.R_new' ho0 (Kd.R_lt q29_16)) (below_size q29_11)); have n2_ := Aside0.mk (blk_below (g := gb213) (o := .cells #[.int .i64 a0_0, .slice A0_1 l0_1.length c0_1] 24 (0, 0)) q29_14 hb); have n3_ := Aside0.mk (below_step q29_11 hb); clear HO218; clear BK213; clear HB; have HO218 := n0_; have HO223 := n1_; have BK213 := n2_; have HB := n3_; clear n0_ n1_ n2_ n3_; (try clear hb); (try clear hb2); (try clear hk); (try clear hi); (try clear ho0)) | ((with_reducible refine gate_dst (N := 7) rfl ?_); refine box_event ?hg (N := 7) ?hd (cs := #[.int .i64 0, .slice none 0 0]) (t := 27) ?hr ?_; (case hd => rfl); (case hg => rfl); (case hr => first | (go_simp; done) | (go_simp; rfl)); intro gb224 hg w43 hbox hb; have n0_ := Aside0.mk (Kd.R_below q29_16 hb); have n1_ := Aside0.mk (Kd.R_below q29_17 hb); have n2_ := Aside0.mk (blk_below (g := gb213) (o := .cells #[.int .i64 a0_0, .slice A0_1 l0_1.length c0_1] 24 (0, 0)) q29_14 hb); have n3_ := Aside0.mk (below_step q29_11 hb); have n4_ := Aside0.mk (hbox); have n5_ := Aside0.mk ((by rw [hg]; exact (below_size q29_11) : w.heap.size ≤ gb224)); have n6_ := Aside0.mk ((by rw [hg]; exact (below_size q29_11) : w.heap.size ≤ gb224)); have n7_ := Aside0.mk ((by rw [hg]; exact Nat.ne_of_lt (blk_lt (g := gb213) (o := .cells #[.int .i64 a0_0, .slice A0_1 l0_1.length c0_1] 24 (0, 0)) q29_14) : gb213 ≠ gb224)); have n8_ := Aside0.mk ((by rw [hg]; exact Nat.ne_of_gt (blk_lt (g := gb213) (o := .cells #[.int .i64 a0_0, .slice A0_1 l0_1.length c0_1] 24 (0, 0)) q29_14) : gb224 ≠ gb213)); clear HO218; clear HO223; clear BK213; clear HB; have HO218 := n0_; have HO223 := n1_; have BK213 := n2_; have HB := n3_; have BK224 := n4_; have GW224 := n5_; have GE224 := n6_; have NB213_224 := n7_; have NB224_213 := n8_; clear n0_ n1_ n2_ n3_ n4_ n5_ n6_ n7_ n8_; clear hb hbox hg; have hnb44 := NB224_213.out; have hnc44 := NB213_224.out; have hcz45_0 : w43.cell? ⟨gb224, 0, none⟩ = some (.int .i64 0) := (blk_cell BK224.out 0).trans rfl; have hcz45_1 : w43.cell? ⟨gb224, 1, none⟩ = some (.slice none 0 0) := (blk_cell BK224.out 1).trans rfl; have hfz45_0 := blk_frozen BK224.out 0; have hfz45_1 := blk_frozen BK224.out 1; obtain ⟨Ao46, co46, eo46⟩ := Kd.R_slice HO223.out; subst eo46) | ((with_reducible refine gate_callee (f := 23) rfl ?_); refine goesL_ (some 22) rfl rfl Try.func23 q29_18 rfl #[.agg #[.int .i64 t220, .slice Ao46 t221.length co46], .int .i64 a1] rfl q29_12 ?_; (with_reducible refine (impl_DownArrows.calls k t220 _ _ t221 a1 t225 _ ?side1 ?side2 A11.out).mono ?_); (case side1 => refine (Kd.R_reads' (e := 3) (base := w.heap.size) (ok := fun k_ => (True ∧ some k_ ≠ (.slice Ao39 t216.length co39 : Value).ownBlock)) (n := t221.length) (c := co46) ?_).2.2; exact q29_4); (case side2 => exact (Kd.R_reads' HO223.out).2.1); rintro e w47 ⟨rfl, hb⟩; refine ⟨_, rfl, ?_⟩; have n0_ := Aside0.mk (Kd.R_below (by (with_reducible repeat (first | apply Kd.R_alloc | apply Kd.R_drewN | apply Kd.R_drew)); exact (Kd.R_mono (Kd.R_far (p := ⟨gb224, 1, none⟩) (Kd.R_far (p := ⟨gb224, 0, none⟩) (Kd.R_types HO218.out BK224.out (by decide)) (fun _ hk => hk.2) (.int .i64 t220)) (fun _ hk => hk.2) (.slice Ao46 t221.length co46)) (fun _ h_ => h_.1))) hb); have n1_ := Aside0.mk (Kd.R_below q29_4 hb); have n2_ := Aside0.mk (blk_below (g := gb213) (o := .cells #[.int .i64 a0_0, .slice A0_1 l0_1.length c0_1] 24 (0, 0)) q29_2 hb); have n3_ := Aside0.mk (blk_below (g := gb224) (o := .cells #[.int .i64 t220, .slice Ao46 t221.length co46] 27 (0, 0)) q29_1 hb); have n4_ := Aside0.mk (below_step q29_6 hb); clear HO218; clear HO223; clear BK213; clear BK224; clear HB; have HO218 := n0_; have HO223 := n1_; have BK213 := n2_; have BK224 := n3_; have HB := n4_; clear n0_ n1_ n2_ n3_ n4_; (try clear hb); (try clear hb2); (try clear hk); (try clear hi)))
    have n0_ := Aside0.mk (Kd.R_drew HO218.out)
    have n1_ := Aside0.mk (Kd.R_drew HO223.out)
    have n2_ := Aside0.mk (blk_drew BK213.out)
    have n3_ := Aside0.mk (blk_drew BK224.out)
    have n4_ := Aside0.mk (below_drew1 HB.out)
    clear HO218
    clear HO223
    clear BK213
    clear BK224
    clear HB
    have HO218 := n0_
    have HO223 := n1_
    have BK213 := n2_
    have BK224 := n3_
    have HB := n4_
    clear n0_ n1_ n2_ n3_ n4_
    refine start_ (n := 5) (S := fun w' => w'.cell? ⟨gb224, 0, none⟩ = some (.int .i64 t220) ∧ w'.cell? ⟨gb224, 1, none⟩ = some (.slice Ao46 t221.length co46) ∧ w'.cell? ⟨gb213, 0, none⟩ = some (.int .i64 a0_0) ∧ w'.cell? ⟨gb213, 1, none⟩ = some (.slice A0_1 l0_1.length c0_1)) (ds := []) #[false, false, false, false, false] q29_18 rfl rfl ⟨(blk_cell BK224.out 0).trans rfl, (blk_cell BK224.out 1).trans rfl, (blk_cell BK213.out 0).trans rfl, (blk_cell BK213.out 1).trans rfl⟩ (fun hHeld => ?_)
    generalize w47.drew = w48 at HO218 HO223 BK213 BK224 HB hHeld ⊢
    refine take_ (i := 0) (N := some 26) (v := ?_) (a' := ?_) #[true, false, false, false, false] rfl rfl q29_18 (fun _ _ _ h => h) (Or.inl ⟨by rfl, ?_⟩) hHeld ?_ ?_
    rotate_left
    ·
     rintro w' ⟨s0, s1, s2, s3⟩
     go_simp
     with_reducible rfl
    rotate_left
    ·
     exact put29_
    refine take_ (i := 1) (N := some 27) (v := ?_) (a' := ?_) #[true, true, false, false, false] rfl rfl q29_18 (fun _ _ _ h => h) (Or.inl ⟨by rfl, ?_⟩) hHeld ?_ ?_
    rotate_left
    ·
     rintro w' ⟨s0, s1, s2, s3⟩
     go_simp
     with_reducible rfl
    rotate_left
    ·
     exact put29_
    refine one_ (i := 2) (N := some 28) #[true, true, true, false, false] rfl rfl q29_18 (by decide) (fun K hK => ?_)
    refine goes_ Try.func17 q29_18 rfl #[.agg #[.int .i64 a0_0, .slice A0_1 l0_1.length c0_1]] (by rfl) rfl rfl q29_12 ?_
    with_reducible refine (laws_toContext.calls k a0_0 _ _ l0_1 t226 t227 _ ?side1 ?side2 A13.out).mono ?_
    (case side1 => exact q29_7)
    (case side2 => exact HC0_1.out)
    rintro e w49 ⟨v228, rfl, ho0, hb⟩
    refine ⟨_, rfl, ?_⟩
    have n0_ := Aside0.mk (Kd.R_elder' q29_16 (Kd.R_base ho0) hb)
    have n1_ := Aside0.mk (Kd.R_elder' q29_17 (Kd.R_base ho0) hb)
    have n2_ := Aside0.mk (Kd.R_lower (Kd.R_new' (Kd.R_new' ho0 (Kd.R_lt q29_16)) (Kd.R_lt q29_17)) (below_size q29_6))
    have n3_ := Aside0.mk (blk_below (g := gb213) (o := .cells #[.int .i64 a0_0, .slice A0_1 l0_1.length c0_1] 24 (0, 0)) q29_14 hb)
    have n4_ := Aside0.mk (blk_below (g := gb224) (o := .cells #[.int .i64 t220, .slice Ao46 t221.length co46] 27 (0, 0)) q29_15 hb)
    have n5_ := Aside0.mk (below_step q29_6 hb)
    clear HO218
    clear HO223
    clear BK213
    clear BK224
    clear HB
    have HO218 := n0_
    have HO223 := n1_
    have HO229 := n2_
    have BK213 := n3_
    have BK224 := n4_
    have HB := n5_
    clear n0_ n1_ n2_ n3_ n4_ n5_
    (try clear hb)
    (try clear hb2)
    (try clear hk)
    (try clear hi)
    (try clear ho0)
    obtain ⟨Ao50, co50, eo50⟩ := Kd.R_slice HO229.out
    (first | subst eo50 | (injection eo50 with f1_ f2_ f3_; have f4_ := f1_.symm; have f5_ := f3_.symm; clear f1_ f2_ f3_; subst f4_; subst f5_))
    refine hK.out _ _ ⟨(blk_cell BK224.out 0).trans rfl, (blk_cell BK224.out 1).trans rfl, (blk_cell BK213.out 0).trans rfl, (blk_cell BK213.out 1).trans rfl⟩ (fun hHeld => ?_)
    clear hK K
    refine norm_ (a' := ?_) ?_ ?_
    rotate_left
    ·
     show Act.put _ (some 28) _ = _
     exact put29_
    refine one_ (i := 3) (N := some 29) #[true, true, true, true, false] rfl rfl q29_18 (by decide) (fun K hK => ?_)
    refine goes_ Try.func19 q29_18 rfl #[.agg #[.int .i64 t220, .slice Ao46 t221.length co46], .agg #[.int .i64 t226, .slice Ao50 t227.length co50]] (by rfl) rfl rfl q29_12 ?_
    with_reducible refine (laws_eqContext.calls k t220 _ _ t221 t226 _ _ t227 false _ ?side1 ?side2 ?side3 ?side4 A14.out).mono ?_
    (case side1 => exact q29_9)
    (case side2 => exact (Kd.R_reads' HO223.out).2.1)
    (case side3 => exact q29_10)
    (case side4 => exact (Kd.R_reads' HO229.out).2.1)
    rintro e w51 ⟨rfl, hb⟩
    refine ⟨_, rfl, ?_⟩
    have n0_ := Aside0.mk (Kd.R_below q29_16 hb)
    have n1_ := Aside0.mk (Kd.R_below q29_17 hb)
    have n2_ := Aside0.mk (Kd.R_below (by (with_reducible repeat (first | apply Kd.R_alloc | apply Kd.R_drewN | apply Kd.R_drew)); exact HO229.out) hb)
    have n3_ := Aside0.mk (blk_below (g := gb213) (o := .cells #[.int .i64 a0_0, .slice A0_1 l0_1.length c0_1] 24 (0, 0)) q29_14 hb)
    have n4_ := Aside0.mk (blk_below (g := gb224) (o := .cells #[.int .i64 t220, .slice Ao46 t221.length co46] 27 (0, 0)) q29_15 hb)
    have n5_ := Aside0.mk (below_step q29_6 hb)
    clear HO218
    clear HO223
    clear HO229
    clear BK213
    clear BK224
    clear HB
    have HO218 := n0_
    have HO223 := n1_
    have HO229 := n2_
    have BK213 := n3_
    have BK224 := n4_
    have HB := n5_
    clear n0_ n1_ n2_ n3_ n4_ n5_
    (try clear hb)
    (try clear hb2)
    (try clear hk)
    (try clear hi)
    refine hK.out _ _ ⟨(blk_cell BK224.out 0).trans rfl, (blk_cell BK224.out 1).trans rfl, (blk_cell BK213.out 0).trans rfl, (blk_cell BK213.out 1).trans rfl⟩ (fun hHeld => ?_)
    clear hK K
    refine norm_ (a' := ?_) ?_ ?_
    rotate_left
    ·
     show Act.put _ (some 29) _ = _
     exact put29_
    refine pure_ (i := 4) (N := some 30) (v := ?_) (a' := ?_) #[true, true, true, true, true] rfl rfl q29_18 (fun _ _ _ h => h) (Or.inl ⟨by rfl, ?_⟩) ?_ ?_
    rotate_left
    ·
     intro w'
     go_simp
     with_reducible rfl
    rotate_left
    ·
     exact put29_
    refine done_ q29_18 ?_
    try go_wp2
    go_ret
    exact ⟨by first | rfl | (simp [errW_none, errW_some] <;> rfl) | (simp [*, errW_none, errW_some] <;> rfl), by repeat (first | (with_reducible first | exact HB.out | apply below_alloc | apply pw_below_drewN | apply below_drew1 | refine below_set ?_ GE213.out | refine below_set ?_ GE224.out) | exact HB.out)⟩
  ·
   rw [if_neg c12] at H
   have c12b0 : (t225 == t219) = false := beq_eq_false_iff_ne.mpr c12
   have c12b1 : (t225 != t219) = true := bne_iff_ne.mpr c12
   obtain rfl := Option.some.inj H
   go_enter Try.func5, Try.ntmps5
   go_wp2_with (first | ((with_reducible refine gate_dst (N := 2) rfl ?_); refine box_event ?hg (N := 2) ?hd (cs := #[.int .i64 a0_0, .slice A0_1 l0_1.length c0_1]) (t := 24) ?hr ?_; (case hd => rfl); (case hg => rfl); (case hr => first | (go_simp; done) | (go_simp; rfl)); intro gb213 hg w52 hbox hb; have n0_ := Aside0.mk (below_step q29_13 hb); have n1_ := Aside0.mk (hbox); have n2_ := Aside0.mk ((by rw [hg]; exact (below_size q29_13) : w.heap.size ≤ gb213)); have n3_ := Aside0.mk ((by rw [hg]; exact (below_size q29_13) : w.heap.size ≤ gb213)); clear HB; have HB := n0_; have BK213 := n1_; have GW213 := n2_; have GE213 := n3_; clear n0_ n1_ n2_ n3_; clear hb hbox hg; have hcz53_0 : w52.cell? ⟨gb213, 0, none⟩ = some (.int .i64 a0_0) := (blk_cell BK213.out 0).trans rfl; have hcz53_1 : w52.cell? ⟨gb213, 1, none⟩ = some (.slice A0_1 l0_1.length c0_1) := (blk_cell BK213.out 1).trans rfl; have hfz53_0 := blk_frozen BK213.out 0; have hfz53_1 := blk_frozen BK213.out 1) | ((with_reducible refine gate_callee (f := 15) rfl ?_); refine goesL_ (some 11) rfl rfl Try.func15 q29_18 rfl #[.agg #[.int .i64 a0_0, .slice A0_1 l0_1.length c0_1], .int .i64 1048576] rfl q29_12 ?_; (with_reducible refine (laws_szContext.calls a0_0 _ _ l0_1 1048576 t214 _ ?side1 ?side2 A3.out).mono ?_); (case side1 => exact q29_7); (case side2 => exact HC0_1.out); rintro e w54 ⟨rfl, hb⟩; refine ⟨_, rfl, ?_⟩; have n0_ := Aside0.mk (blk_below (g := gb213) (o := .cells #[.int .i64 a0_0, .slice A0_1 l0_1.length c0_1] 24 (0, 0)) q29_14 hb); have n1_ := Aside0.mk (below_step q29_11 hb); clear BK213; clear HB; have BK213 := n0_; have HB := n1_; clear n0_ n1_; (try clear hb); (try clear hb2); (try clear hk); (try clear hi); have hcz55_0 : w54.cell? ⟨gb213, 0, none⟩ = some (.int .i64 a0_0) := (blk_cell BK213.out 0).trans rfl; have hcz55_1 : w54.cell? ⟨gb213, 1, none⟩ = some (.slice A0_1 l0_1.length c0_1) := (blk_cell BK213.out 1).trans rfl; have hfz55_0 := blk_frozen BK213.out 0; have hfz55_1 := blk_frozen BK213.out 1) | ((with_reducible refine gate_callee (f := 17) rfl ?_); refine goesL_ (some 15) rfl rfl Try.func17 q29_18 rfl #[.agg #[.int .i64 a0_0, .slice A0_1 l0_1.length c0_1]] rfl q29_12 ?_; (with_reducible refine (laws_toContext.calls k a0_0 _ _ l0_1 t215 t216 _ ?side1 ?side2 A8.out).mono ?_); (case side1 => exact q29_7); (case side2 => exact HC0_1.out); rintro e w56 ⟨v217, rfl, ho0, hb⟩; refine ⟨_, rfl, ?_⟩; have n0_ := Aside0.mk (Kd.R_lower ho0 (below_size q29_11)); have n1_ := Aside0.mk (blk_below (g := gb213) (o := .cells #[.int .i64 a0_0, .slice A0_1 l0_1.length c0_1] 24 (0, 0)) q29_14 hb); have n2_ := Aside0.mk (below_step q29_11 hb); clear BK213; clear HB; have HO218 := n0_; have BK213 := n1_; have HB := n2_; clear n0_ n1_ n2_; (try clear hb); (try clear hb2); (try clear hk); (try clear hi); (try clear ho0); obtain ⟨Ao57, co57, eo57⟩ := Kd.R_slice HO218.out; subst eo57) | ((with_reducible refine gate_callee (f := 22) rfl ?_); refine goesL_ (some 17) rfl rfl Try.func22 q29_18 rfl #[.agg #[.int .i64 t215, .slice Ao57 t216.length co57], .int .i64 a1] rfl q29_12 ?_; (with_reducible refine (spec_DownArrows.calls k t215 _ _ t216 a1 t219 _ ?side1 ?side2 A9.out).mono ?_); (case side1 => exact q29_8); (case side2 => exact (Kd.R_reads' HO218.out).2.1); rintro e w58 ⟨rfl, hb⟩; refine ⟨_, rfl, ?_⟩; have n0_ := Aside0.mk (Kd.R_below q29_16 hb); have n1_ := Aside0.mk (blk_below (g := gb213) (o := .cells #[.int .i64 a0_0, .slice A0_1 l0_1.length c0_1] 24 (0, 0)) q29_14 hb); have n2_ := Aside0.mk (below_step q29_11 hb); clear HO218; clear BK213; clear HB; have HO218 := n0_; have BK213 := n1_; have HB := n2_; clear n0_ n1_ n2_; (try clear hb); (try clear hb2); (try clear hk); (try clear hi); have hcz59_0 : w58.cell? ⟨gb213, 0, none⟩ = some (.int .i64 a0_0) := (blk_cell BK213.out 0).trans rfl; have hcz59_1 : w58.cell? ⟨gb213, 1, none⟩ = some (.slice A0_1 l0_1.length c0_1) := (blk_cell BK213.out 1).trans rfl; have hfz59_0 := blk_frozen BK213.out 0; have hfz59_1 := blk_frozen BK213.out 1) | ((with_reducible refine gate_callee (f := 17) rfl ?_); refine goesL_ (some 19) rfl rfl Try.func17 q29_18 rfl #[.agg #[.int .i64 a0_0, .slice A0_1 l0_1.length c0_1]] rfl q29_12 ?_; (with_reducible refine (laws_toContext.calls k a0_0 _ _ l0_1 t220 t221 _ ?side1 ?side2 A10.out).mono ?_); (case side1 => exact q29_7); (case side2 => exact HC0_1.out); rintro e w60 ⟨v222, rfl, ho0, hb⟩; refine ⟨_, rfl, ?_⟩; have n0_ := Aside0.mk (Kd.R_elder' q29_16 (Kd.R_base ho0) hb); have n1_ := Aside0.mk (Kd.R_lower (Kd.R_new' ho0 (Kd.R_lt q29_16)) (below_size q29_11)); have n2_ := Aside0.mk (blk_below (g := gb213) (o := .cells #[.int .i64 a0_0, .slice A0_1 l0_1.length c0_1] 24 (0, 0)) q29_14 hb); have n3_ := Aside0.mk (below_step q29_11 hb); clear HO218; clear BK213; clear HB; have HO218 := n0_; have HO223 := n1_; have BK213 := n2_; have HB := n3_; clear n0_ n1_ n2_ n3_; (try clear hb); (try clear hb2); (try clear hk); (try clear hi); (try clear ho0)) | ((with_reducible refine gate_dst (N := 7) rfl ?_); refine box_event ?hg (N := 7) ?hd (cs := #[.int .i64 0, .slice none 0 0]) (t := 27) ?hr ?_; (case hd => rfl); (case hg => rfl); (case hr => first | (go_simp; done) | (go_simp; rfl)); intro gb224 hg w61 hbox hb; have n0_ := Aside0.mk (Kd.R_below q29_16 hb); have n1_ := Aside0.mk (Kd.R_below q29_17 hb); have n2_ := Aside0.mk (blk_below (g := gb213) (o := .cells #[.int .i64 a0_0, .slice A0_1 l0_1.length c0_1] 24 (0, 0)) q29_14 hb); have n3_ := Aside0.mk (below_step q29_11 hb); have n4_ := Aside0.mk (hbox); have n5_ := Aside0.mk ((by rw [hg]; exact (below_size q29_11) : w.heap.size ≤ gb224)); have n6_ := Aside0.mk ((by rw [hg]; exact (below_size q29_11) : w.heap.size ≤ gb224)); have n7_ := Aside0.mk ((by rw [hg]; exact Nat.ne_of_lt (blk_lt (g := gb213) (o := .cells #[.int .i64 a0_0, .slice A0_1 l0_1.length c0_1] 24 (0, 0)) q29_14) : gb213 ≠ gb224)); have n8_ := Aside0.mk ((by rw [hg]; exact Nat.ne_of_gt (blk_lt (g := gb213) (o := .cells #[.int .i64 a0_0, .slice A0_1 l0_1.length c0_1] 24 (0, 0)) q29_14) : gb224 ≠ gb213)); clear HO218; clear HO223; clear BK213; clear HB; have HO218 := n0_; have HO223 := n1_; have BK213 := n2_; have HB := n3_; have BK224 := n4_; have GW224 := n5_; have GE224 := n6_; have NB213_224 := n7_; have NB224_213 := n8_; clear n0_ n1_ n2_ n3_ n4_ n5_ n6_ n7_ n8_; clear hb hbox hg; have hnb62 := NB224_213.out; have hnc62 := NB213_224.out; have hcz63_0 : w61.cell? ⟨gb224, 0, none⟩ = some (.int .i64 0) := (blk_cell BK224.out 0).trans rfl; have hcz63_1 : w61.cell? ⟨gb224, 1, none⟩ = some (.slice none 0 0) := (blk_cell BK224.out 1).trans rfl; have hfz63_0 := blk_frozen BK224.out 0; have hfz63_1 := blk_frozen BK224.out 1; obtain ⟨Ao64, co64, eo64⟩ := Kd.R_slice HO223.out; subst eo64) | ((with_reducible refine gate_callee (f := 23) rfl ?_); refine goesL_ (some 22) rfl rfl Try.func23 q29_18 rfl #[.agg #[.int .i64 t220, .slice Ao64 t221.length co64], .int .i64 a1] rfl q29_12 ?_; (with_reducible refine (impl_DownArrows.calls k t220 _ _ t221 a1 t225 _ ?side1 ?side2 A11.out).mono ?_); (case side1 => refine (Kd.R_reads' (e := 3) (base := w.heap.size) (ok := fun k_ => (True ∧ some k_ ≠ (.slice Ao57 t216.length co57 : Value).ownBlock)) (n := t221.length) (c := co64) ?_).2.2; exact q29_5); (case side2 => exact (Kd.R_reads' HO223.out).2.1); rintro e w65 ⟨rfl, hb⟩; refine ⟨_, rfl, ?_⟩; have n0_ := Aside0.mk (Kd.R_below (by (with_reducible repeat (first | apply Kd.R_alloc | apply Kd.R_drewN | apply Kd.R_drew)); exact (Kd.R_mono (Kd.R_far (p := ⟨gb224, 1, none⟩) (Kd.R_far (p := ⟨gb224, 0, none⟩) (Kd.R_types HO218.out BK224.out (by decide)) (fun _ hk => hk.2) (.int .i64 t220)) (fun _ hk => hk.2) (.slice Ao64 t221.length co64)) (fun _ h_ => h_.1))) hb); have n1_ := Aside0.mk (Kd.R_below q29_5 hb); have n2_ := Aside0.mk (blk_below (g := gb213) (o := .cells #[.int .i64 a0_0, .slice A0_1 l0_1.length c0_1] 24 (0, 0)) q29_2 hb); have n3_ := Aside0.mk (blk_below (g := gb224) (o := .cells #[.int .i64 t220, .slice Ao64 t221.length co64] 27 (0, 0)) q29_1 hb); have n4_ := Aside0.mk (below_step q29_6 hb); clear HO218; clear HO223; clear BK213; clear BK224; clear HB; have HO218 := n0_; have HO223 := n1_; have BK213 := n2_; have BK224 := n3_; have HB := n4_; clear n0_ n1_ n2_ n3_ n4_; (try clear hb); (try clear hb2); (try clear hk); (try clear hi)))
   go_ret
   exact ⟨by first | rfl | (simp [errW_none, errW_some] <;> rfl) | (simp [*, errW_none, errW_some] <;> rfl), by repeat (first | (with_reducible first | exact HB.out | apply below_alloc | apply pw_below_drewN | apply below_drew1 | refine below_set ?_ GE213.out | refine below_set ?_ GE224.out) | exact HB.out)⟩

end Go.Proofs.Ytemhlblajnlogaa.Pr
