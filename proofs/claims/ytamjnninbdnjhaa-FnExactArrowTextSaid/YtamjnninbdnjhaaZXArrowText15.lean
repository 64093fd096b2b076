/- What the law needs of the program's functions as plain functions, of the proofs that their calls answer so, and of plain laws: gathered by a program of this place (pack.py) out of its printed texts. No condition beyond what each statement says. -/
import Derived.Test.YtamjnninbdnjhaaZXArrowText2
import Derived.Test.YtamjnninbdnjhaaZXArrowText3
import Derived.Test.YtamjnninbdnjhaaZXArrowText6
import Derived.Test.YtamjnninbdnjhaaZXArrowText7
import Derived.Test.YtamjnninbdnjhaaZXArrowText14
namespace Go.Proofs.Ytamjnninbdnjhaa.Pr
open Go.RowKit Go.Proofs.YtamjnninbdnjhaaW.PrintWords Go.Proofs.YtamjnninbdnjhaaW.PrintLast Go.Proofs.YtamjnninbdnjhaaW.PrintMore
attribute [local go_sem] max2_int min2_int max_two min_two max_three min_three max_four min_four   -- for this text's walks alone
set_option linter.unusedVariables false
set_option linter.unusedSimpArgs false
theorem put23_ {P : Prop} (h : P := by simp only [Act.put, List.setIfInBounds_toArray, List.set_cons_zero, List.set_cons_succ, i64_w, i32_w]; rfl) : P := h
theorem q23_1 {P : Prop} (h : P := by (with_reducible repeat (first | apply Kd.R_alloc | apply Kd.R_drewN | apply Kd.R_drew)); exact (Kd.R_mono (Kd.R_far (p := ⟨gb563, 1, none⟩) (Kd.R_far (p := ⟨gb563, 0, none⟩) (Kd.R_types HO558.out BK563.out (by decide)) (fun _ hk => hk.2) (.int .i64 t559)) (fun _ hk => hk.2) (.slice Ao30 t560.length co30)) (fun _ h_ => h_.1))) : P := h
theorem q23_2 {P : Prop} (h : P := by (with_reducible repeat (first | apply Kd.R_alloc | apply Kd.R_drewN | apply Kd.R_drew)); exact (Kd.R_mono (Kd.R_far (p := ⟨gb563, 1, none⟩) (Kd.R_far (p := ⟨gb563, 0, none⟩) (Kd.R_types HO562.out BK563.out (by decide)) (fun _ hk => hk.2) (.int .i64 t559)) (fun _ hk => hk.2) (.slice Ao30 t560.length co30)) (fun _ h_ => h_.1))) : P := h
theorem q23_3 {P : Prop} (h : P := by (try simp only [List.map_toArray, List.map_cons, List.map_nil]); first | done | (rw [show t577.length = t564.length from (Kd.R_reads' HO_6.out).1.symm] <;> rfl) | rfl | (simp only [List.length_drop, List.length_take]; rfl)) : P := h
theorem q23_4 {P : Prop} (h : P := by repeat (first | (with_reducible first | exact HB.out | apply below_alloc | apply pw_below_drewN | apply below_drew1 | refine below_set ?_ GE550.out | refine below_set ?_ GE563.out) | exact HB.out)) : P := h
theorem q23_5 {P : Prop} (h : P := by repeat (first | exact (Kd.C_below HR0_1.out HB.out) | (with_reducible refine Kd.C_alloc ?_ _) | (with_reducible refine Kd.C_drewN ?_ _) | (with_reducible refine Kd.C_drew ?_))) : P := h
theorem q23_6 {P : Prop} (h : P := by repeat (first | exact (Kd.R_reads' HO558.out).2.2 | (with_reducible refine Kd.C_alloc ?_ _) | (with_reducible refine Kd.C_drewN ?_ _) | (with_reducible refine Kd.C_drew ?_))) : P := h
theorem q23_7 {P : Prop} (h : P := by repeat (first | exact (Kd.R_reads' HO566.out).2.2 | (with_reducible refine Kd.C_alloc ?_ _) | (with_reducible refine Kd.C_drewN ?_ _) | (with_reducible refine Kd.C_drew ?_))) : P := h
theorem q23_8 {P : Prop} (h : P := by repeat (first | exact (Kd.R_reads' HO_6.out).2.2 | (with_reducible refine Kd.C_alloc ?_ _) | (with_reducible refine Kd.C_drewN ?_ _) | (with_reducible refine Kd.C_drew ?_))) : P := h
theorem q23_9 {P : Prop} (h : P := by repeat (first | (with_reducible first | exact HB.out | apply below_alloc | apply pw_below_drewN | apply below_drew1 | refine below_set ?_ GE550.out) | exact HB.out)) : P := h
theorem q23_10 {P : Prop} (h : P := by (try simp only [List.map_toArray, List.map_cons, List.map_nil]); first | done | rfl | (simp only [List.length_drop, List.length_take]; rfl)) : P := h
theorem q23_11 {P : Prop} (h : P := by repeat (first | (with_reducible first | exact HB.out | apply below_alloc | apply pw_below_drewN | apply below_drew1) | exact HB.out)) : P := h
theorem q23_12 {P : Prop} (h : P := by (with_reducible repeat (first | refine blk_drewN ?_ _ | refine blk_drew ?_ | refine blk_alloc ?_ _)); exact BK550.out) : P := h
theorem q23_13 {P : Prop} (h : P := by (with_reducible repeat (first | refine blk_drewN ?_ _ | refine blk_drew ?_ | refine blk_alloc ?_ _)); exact BK563.out) : P := h
theorem q23_14 {P : Prop} (h : P := by (with_reducible repeat (first | apply Kd.R_alloc | apply Kd.R_drewN | apply Kd.R_drew)); exact HO_564001.out) : P := h
theorem q23_15 {P : Prop} (h : P := by (with_reducible repeat (first | apply Kd.R_alloc | apply Kd.R_drewN | apply Kd.R_drew)); exact HO555.out) : P := h
theorem q23_16 {P : Prop} (h : P := by (with_reducible repeat (first | apply Kd.R_alloc | apply Kd.R_drewN | apply Kd.R_drew)); exact HO558.out) : P := h
theorem q23_17 {P : Prop} (h : P := by (with_reducible repeat (first | apply Kd.R_alloc | apply Kd.R_drewN | apply Kd.R_drew)); exact HO562.out) : P := h
theorem q23_18 {P : Prop} (h : P := by (with_reducible repeat (first | apply Kd.R_alloc | apply Kd.R_drewN | apply Kd.R_drew)); exact HO_4.out) : P := h
theorem q23_19 {P : Prop} (h : P := by (with_reducible repeat (first | apply Kd.R_alloc | apply Kd.R_drewN | apply Kd.R_drew)); exact HO_6.out) : P := h
theorem q23_20 {P : Prop} (h : P := by rw [if_neg (show ¬ (false = true) by decide)] at H; exact H) : P := h
theorem q23_21 {P : Prop} (h : P := by kernel_rfl) : P := h
def laws_FnExactArrowText.j0 : Nat → List ByteArray → List ByteArray → Bool → Int → List Int → Option (Bool)
 | 0, _, _, _, _, _ => none
 | k + 1, x4, x6, x42, x551000, x551001 => if x42 = true then (some false) else ((laws_markStringS.f k x6 1).bind fun bt576 => ((laws_heldStringS.f k bt576.2 1).bind fun t578 => (if t578 < 0 then (some false) else (if t578 = bt576.1 then ((laws_toContext.f k x551000 x551001).bind fun bt579 => ((impl_ArrowText.f k bt579.1 bt579.2).bind fun t583 => ((laws_eqStringS.f k t583 x4).bind fun t586 => (if t586 = true then ((laws_heldStringS.f k bt576.2 1).bind fun t587 => (if t587 < 0 then (some false) else (if t587 = bt576.1 then (some true) else (some false)))) else (some false))))) else (some false)))))
def laws_FnExactArrowText.f (k : Nat) (a0_0 : Int) (l0_1 : List Int) : Option (Bool) := (laws_szContext.f a0_0 l0_1 1048576).bind fun t551 => (if t551 < 0 then (some true) else ((laws_toContext.f k a0_0 l0_1).bind fun bt552 => ((spec_ArrowText.f k bt552.1 bt552.2).bind fun t556 => ((laws_toContext.f k a0_0 l0_1).bind fun bt559 => ((impl_ArrowText.f k bt559.1 bt559.2).bind fun t564 => ((laws_eqStringS.f k t564 t556).bind fun t567 => (if t567 = true then ((laws_toContext.f k a0_0 l0_1).bind fun bt568 => ((laws_eqContext.f k bt559.1 bt559.2 bt568.1 bt568.2).bind fun t572 => (if t572 = true then ((laws_markContext.f k bt559.1 bt559.2 1).bind fun bt573 => (if bt573.1 < 0 then (laws_FnExactArrowText.j0 k t556 t564 true a0_0 l0_1) else ((laws_eqStringS.f k t564 t556).bind fun t575 => (laws_FnExactArrowText.j0 k t556 t564 (!t575) a0_0 l0_1)))) else (some false)))) else (some false))))))))
set_option maxHeartbeats 8000000 in
set_option maxRecDepth 100000 in
theorem laws_FnExactArrowText.calls (k : Nat) (a0_0 : Int) (A0_1 : Option Addr) (c0_1 : Nat) (l0_1 : List Int) (r : Bool) (w : World) (hr0_1 : Kd.C (Kd.int .i64) w A0_1 l0_1.length l0_1) (hc0_1 : l0_1.length ≤ c0_1) (hrt : r = true) (h : laws_FnExactArrowText.f k a0_0 l0_1 = some r) :
  Calls Try.prog 7 #[.agg #[.int .i64 a0_0, .slice A0_1 l0_1.length c0_1]] w fun e w' => e = .returned (.bool r) ∧ Below w.heap.size w w' := by
 have hu26 := Try.underlying26
 have hu33 := Try.underlying33
 have HR0_1 := Aside0.mk hr0_1
 have HC0_1 := Aside0.mk hc0_1
 clear hr0_1 hc0_1
 have HB := Aside0.mk (Below.refl w.heap.size w)
 have HRT := Aside0.mk hrt
 clear hrt
 have H : ((laws_szContext.f a0_0 l0_1 1048576).bind fun t551 => (if t551 < 0 then (some true) else ((laws_toContext.f k a0_0 l0_1).bind fun bt552 => ((spec_ArrowText.f k bt552.1 bt552.2).bind fun t556 => ((laws_toContext.f k a0_0 l0_1).bind fun bt559 => ((impl_ArrowText.f k bt559.1 bt559.2).bind fun t564 => ((laws_eqStringS.f k t564 t556).bind fun t567 => (if t567 = true then ((laws_toContext.f k a0_0 l0_1).bind fun bt568 => ((laws_eqContext.f k bt559.1 bt559.2 bt568.1 bt568.2).bind fun t572 => (if t572 = true then ((laws_markContext.f k bt559.1 bt559.2 1).bind fun bt573 => (if bt573.1 < 0 then (laws_FnExactArrowText.j0 k t556 t564 true a0_0 l0_1) else ((laws_eqStringS.f k t564 t556).bind fun t575 => (laws_FnExactArrowText.j0 k t556 t564 (!t575) a0_0 l0_1)))) else (some false)))) else (some false))))))))) = some r := h
 clear h
 replace H := Option.bind_eq_some_iff.mp H
 obtain ⟨t551, A20, H⟩ := H
 replace H : (if t551 < 0 then (some true) else ((laws_toContext.f k a0_0 l0_1).bind fun bt552 => ((spec_ArrowText.f k bt552.1 bt552.2).bind fun t556 => ((laws_toContext.f k a0_0 l0_1).bind fun bt559 => ((impl_ArrowText.f k bt559.1 bt559.2).bind fun t564 => ((laws_eqStringS.f k t564 t556).bind fun t567 => (if t567 = true then ((laws_toContext.f k a0_0 l0_1).bind fun bt568 => ((laws_eqContext.f k bt559.1 bt559.2 bt568.1 bt568.2).bind fun t572 => (if t572 = true then ((laws_markContext.f k bt559.1 bt559.2 1).bind fun bt573 => (if bt573.1 < 0 then (laws_FnExactArrowText.j0 k t556 t564 true a0_0 l0_1) else ((laws_eqStringS.f k t564 t556).bind fun t575 => (laws_FnExactArrowText.j0 k t556 t564 (!t575) a0_0 l0_1)))) else (some false)))) else (some false)))))))) = some r := H
 have A2 := Aside0.mk A20
 clear A20
 by_cases c3 : t551 < 0
 ·
  rw [if_pos c3] at H
  have c3b0 : decide (t551 < 0) = true := decide_eq_true c3
  clear c3
  obtain rfl := Option.some.inj H
  go_enter Try.func7, Try.ntmps7
  go_wp2_with (first | ((with_reducible refine gate_dst (N := 1) rfl ?_); refine box_event ?hg (N := 1) ?hd (cs := #[.int .i64 a0_0, .slice A0_1 l0_1.length c0_1]) (t := 26) ?hr ?_; (case hd => rfl); (case hg => rfl); (case hr => first | (go_simp; done) | (go_simp; rfl)); intro gb550 hg w4 hbox hb; have n0_ := Aside0.mk (below_step q23_11 hb); have n1_ := Aside0.mk (hbox); have n2_ := Aside0.mk ((by rw [hg]; exact (below_size q23_11) : w.heap.size ≤ gb550)); have n3_ := Aside0.mk ((by rw [hg]; exact (below_size q23_11) : w.heap.size ≤ gb550)); clear HB; have HB := n0_; have BK550 := n1_; have GW550 := n2_; have GE550 := n3_; clear n0_ n1_ n2_ n3_; clear hb hbox hg; have hcz5_0 : w4.cell? ⟨gb550, 0, none⟩ = some (.int .i64 a0_0) := (blk_cell BK550.out 0).trans rfl; have hcz5_1 : w4.cell? ⟨gb550, 1, none⟩ = some (.slice A0_1 l0_1.length c0_1) := (blk_cell BK550.out 1).trans rfl; have hfz5_0 := blk_frozen BK550.out 0; have hfz5_1 := blk_frozen BK550.out 1) | ((with_reducible refine gate_callee (f := 28) rfl ?_); refine goesL_ (some 13) rfl rfl Try.func28 q23_21 rfl #[.agg #[.int .i64 a0_0, .slice A0_1 l0_1.length c0_1], .int .i64 1048576] rfl q23_10 ?_; (with_reducible refine (laws_szContext.calls a0_0 _ _ l0_1 1048576 t551 _ ?side1 ?side2 A2.out).mono ?_); (case side1 => exact q23_5); (case side2 => exact HC0_1.out); rintro e w6 ⟨rfl, hb⟩; refine ⟨_, rfl, ?_⟩; have n0_ := Aside0.mk (blk_below (g := gb550) (o := .cells #[.int .i64 a0_0, .slice A0_1 l0_1.length c0_1] 26 (0, 0)) q23_12 hb); have n1_ := Aside0.mk (below_step q23_9 hb); clear BK550; clear HB; have BK550 := n0_; have HB := n1_; clear n0_ n1_; (try clear hb); (try clear hb2); (try clear hk); (try clear hi)))
  go_ret
  exact ⟨by first | rfl | (simp [errW_none, errW_some] <;> rfl) | (simp [*, errW_none, errW_some] <;> rfl), by repeat (first | (with_reducible first | exact HB.out | apply below_alloc | apply pw_below_drewN | apply below_drew1 | refine below_set ?_ GE550.out) | exact HB.out)⟩
 ·
  rw [if_neg c3] at H
  have c3b0 : decide (t551 < 0) = false := decide_eq_false c3
  clear c3
  replace H := Option.bind_eq_some_iff.mp H
  obtain ⟨⟨t552, t553⟩, A70, H⟩ := H
  replace H : ((spec_ArrowText.f k t552 t553).bind fun t556 => ((laws_toContext.f k a0_0 l0_1).bind fun bt559 => ((impl_ArrowText.f k bt559.1 bt559.2).bind fun t564 => ((laws_eqStringS.f k t564 t556).bind fun t567 => (if t567 = true then ((laws_toContext.f k a0_0 l0_1).bind fun bt568 => ((laws_eqContext.f k bt559.1 bt559.2 bt568.1 bt568.2).bind fun t572 => (if t572 = true then ((laws_markContext.f k bt559.1 bt559.2 1).bind fun bt573 => (if bt573.1 < 0 then (laws_FnExactArrowText.j0 k t556 t564 true a0_0 l0_1) else ((laws_eqStringS.f k t564 t556).bind fun t575 => (laws_FnExactArrowText.j0 k t556 t564 (!t575) a0_0 l0_1)))) else (some false)))) else (some false)))))) = some r := H
  have A7 := Aside0.mk A70
  clear A70
  replace H := Option.bind_eq_some_iff.mp H
  obtain ⟨t556, A80, H⟩ := H
  replace H : ((laws_toContext.f k a0_0 l0_1).bind fun bt559 => ((impl_ArrowText.f k bt559.1 bt559.2).bind fun t564 => ((laws_eqStringS.f k t564 t556).bind fun t567 => (if t567 = true then ((laws_toContext.f k a0_0 l0_1).bind fun bt568 => ((laws_eqContext.f k bt559.1 bt559.2 bt568.1 bt568.2).bind fun t572 => (if t572 = true then ((laws_markContext.f k bt559.1 bt559.2 1).bind fun bt573 => (if bt573.1 < 0 then (laws_FnExactArrowText.j0 k t556 t564 true a0_0 l0_1) else ((laws_eqStringS.f k t564 t556).bind fun t575 => (laws_FnExactArrowText.j0 k t556 t564 (!t575) a0_0 l0_1)))) else (some false)))) else (some false))))) = some r := H
  have A8 := Aside0.mk A80
  clear A80
  replace H := Option.bind_eq_some_iff.mp H
  obtain ⟨⟨t559, t560⟩, A90, H⟩ := H
  replace H : ((impl_ArrowText.f k t559 t560).bind fun t564 => ((laws_eqStringS.f k t564 t556).bind fun t567 => (if t567 = true then ((laws_toContext.f k a0_0 l0_1).bind fun bt568 => ((laws_eqContext.f k t559 t560 bt568.1 bt568.2).bind fun t572 => (if t572 = true then ((laws_markContext.f k t559 t560 1).bind fun bt573 => (if bt573.1 < 0 then (laws_FnExactArrowText.j0 k t556 t564 true a0_0 l0_1) else ((laws_eqStringS.f k t564 t556).bind fun t575 => (laws_FnExactArrowText.j0 k t556 t564 (!t575) a0_0 l0_1)))) else (some false)))) else (some false)))) = some r := H
  have A9 := Aside0.mk A90
  clear A90
  replace H := Option.bind_eq_some_iff.mp H
  obtain ⟨t564, A100, H⟩ := H
  replace H : ((laws_eqStringS.f k t564 t556).bind fun t567 => (if t567 = true then ((laws_toContext.f k a0_0 l0_1).bind fun bt568 => ((laws_eqContext.f k t559 t560 bt568.1 bt568.2).bind fun t572 => (if t572 = true then ((laws_markContext.f k t559 t560 1).bind fun bt573 => (if bt573.1 < 0 then (laws_FnExactArrowText.j0 k t556 t564 true a0_0 l0_1) else ((laws_eqStringS.f k t564 t556).bind fun t575 => (laws_FnExactArrowText.j0 k t556 t564 (!t575) a0_0 l0_1)))) else (some false)))) else (some false))) = some r := H
  have A10 := Aside0.mk A100
  clear A100
  replace H := Option.bind_eq_some_iff.mp H
  obtain ⟨t567, A110, H⟩ := H
  replace H : (if t567 = true then ((laws_toContext.f k a0_0 l0_1).bind fun bt568 => ((laws_eqContext.f k t559 t560 bt568.1 bt568.2).bind fun t572 => (if t572 = true then ((laws_markContext.f k t559 t560 1).bind fun bt573 => (if bt573.1 < 0 then (laws_FnExactArrowText.j0 k t556 t564 true a0_0 l0_1) else ((laws_eqStringS.f k t564 t556).bind fun t575 => (laws_FnExactArrowText.j0 k t556 t564 (!t575) a0_0 l0_1)))) else (some false)))) else (some false)) = some r := H
  have A11 := Aside0.mk A110
  clear A110
  by_cases c12 : t567 = true
  ·
   subst c12
   have H1 : ((laws_toContext.f k a0_0 l0_1).bind fun bt568 => ((laws_eqContext.f k t559 t560 bt568.1 bt568.2).bind fun t572 => (if t572 = true then ((laws_markContext.f k t559 t560 1).bind fun bt573 => (if bt573.1 < 0 then (laws_FnExactArrowText.j0 k t556 t564 true a0_0 l0_1) else ((laws_eqStringS.f k t564 t556).bind fun t575 => (laws_FnExactArrowText.j0 k t556 t564 (!t575) a0_0 l0_1)))) else (some false)))) = some r := by rw [if_pos rfl] at H; exact H
   clear H
   have H := H1
   clear H1
   replace H := Option.bind_eq_some_iff.mp H
   obtain ⟨⟨t568, t569⟩, A130, H⟩ := H
   replace H : ((laws_eqContext.f k t559 t560 t568 t569).bind fun t572 => (if t572 = true then ((laws_markContext.f k t559 t560 1).bind fun bt573 => (if bt573.1 < 0 then (laws_FnExactArrowText.j0 k t556 t564 true a0_0 l0_1) else ((laws_eqStringS.f k t564 t556).bind fun t575 => (laws_FnExactArrowText.j0 k t556 t564 (!t575) a0_0 l0_1)))) else (some false))) = some r := H
   have A13 := Aside0.mk A130
   clear A130
   replace H := Option.bind_eq_some_iff.mp H
   obtain ⟨t572, A140, H⟩ := H
   replace H : (if t572 = true then ((laws_markContext.f k t559 t560 1).bind fun bt573 => (if bt573.1 < 0 then (laws_FnExactArrowText.j0 k t556 t564 true a0_0 l0_1) else ((laws_eqStringS.f k t564 t556).bind fun t575 => (laws_FnExactArrowText.j0 k t556 t564 (!t575) a0_0 l0_1)))) else (some false)) = some r := H
   have A14 := Aside0.mk A140
   clear A140
   by_cases c15 : t572 = true
   ·
    subst c15
    have H1 : ((laws_markContext.f k t559 t560 1).bind fun bt573 => (if bt573.1 < 0 then (laws_FnExactArrowText.j0 k t556 t564 true a0_0 l0_1) else ((laws_eqStringS.f k t564 t556).bind fun t575 => (laws_FnExactArrowText.j0 k t556 t564 (!t575) a0_0 l0_1)))) = some r := by rw [if_pos rfl] at H; exact H
    clear H
    have H := H1
    clear H1
    replace H := Option.bind_eq_some_iff.mp H
    obtain ⟨⟨t573, t574⟩, A160, H⟩ := H
    replace H : (if t573 < 0 then (laws_FnExactArrowText.j0 k t556 t564 true a0_0 l0_1) else ((laws_eqStringS.f k t564 t556).bind fun t575 => (laws_FnExactArrowText.j0 k t556 t564 (!t575) a0_0 l0_1))) = some r := H
    have A16 := Aside0.mk A160
    clear A160
    have HC17 := Aside0.mk H
    clear H
    go_enter Try.func7, Try.ntmps7
    try go_wp2_with (first | ((with_reducible refine gate_dst (N := 1) rfl ?_); refine box_event ?hg (N := 1) ?hd (cs := #[.int .i64 a0_0, .slice A0_1 l0_1.length c0_1]) (t := 26) ?hr ?_; (case hd => rfl); (case hg => rfl); (case hr => first | (go_simp; done) | (go_simp; rfl)); intro gb550 hg w18 hbox hb; have n0_ := Aside0.mk (below_step q23_11 hb); have n1_ := Aside0.mk (hbox); have n2_ := Aside0.mk ((by rw [hg]; exact (below_size q23_11) : w.heap.size ≤ gb550)); have n3_ := Aside0.mk ((by rw [hg]; exact (below_size q23_11) : w.heap.size ≤ gb550)); clear HB; have HB := n0_; have BK550 := n1_; have GW550 := n2_; have GE550 := n3_; clear n0_ n1_ n2_ n3_; clear hb hbox hg; have hcz19_0 : w18.cell? ⟨gb550, 0, none⟩ = some (.int .i64 a0_0) := (blk_cell BK550.out 0).trans rfl; have hcz19_1 : w18.cell? ⟨gb550, 1, none⟩ = some (.slice A0_1 l0_1.length c0_1) := (blk_cell BK550.out 1).trans rfl; have hfz19_0 := blk_frozen BK550.out 0; have hfz19_1 := blk_frozen BK550.out 1) | ((with_reducible refine gate_callee (f := 28) rfl ?_); refine goesL_ (some 13) rfl rfl Try.func28 q23_21 rfl #[.agg #[.int .i64 a0_0, .slice A0_1 l0_1.length c0_1], .int .i64 1048576] rfl q23_10 ?_; (with_reducible refine (laws_szContext.calls a0_0 _ _ l0_1 1048576 t551 _ ?side1 ?side2 A2.out).mono ?_); (case side1 => exact q23_5); (case side2 => exact HC0_1.out); rintro e w20 ⟨rfl, hb⟩; refine ⟨_, rfl, ?_⟩; have n0_ := Aside0.mk (blk_below (g := gb550) (o := .cells #[.int .i64 a0_0, .slice A0_1 l0_1.length c0_1] 26 (0, 0)) q23_12 hb); have n1_ := Aside0.mk (below_step q23_9 hb); clear BK550; clear HB; have BK550 := n0_; have HB := n1_; clear n0_ n1_; (try clear hb); (try clear hb2); (try clear hk); (try clear hi); have hcz21_0 : w20.cell? ⟨gb550, 0, none⟩ = some (.int .i64 a0_0) := (blk_cell BK550.out 0).trans rfl; have hcz21_1 : w20.cell? ⟨gb550, 1, none⟩ = some (.slice A0_1 l0_1.length c0_1) := (blk_cell BK550.out 1).trans rfl; have hfz21_0 := blk_frozen BK550.out 0; have hfz21_1 := blk_frozen BK550.out 1) | ((with_reducible refine gate_callee (f := 30) rfl ?_); refine goesL_ (some 17) rfl rfl Try.func30 q23_21 rfl #[.agg #[.int .i64 a0_0, .slice A0_1 l0_1.length c0_1]] rfl q23_10 ?_; (with_reducible refine (laws_toContext.calls k a0_0 _ _ l0_1 t552 t553 _ ?side1 ?side2 A7.out).mono ?_); (case side1 => exact q23_5); (case side2 => exact HC0_1.out); rintro e w22 ⟨v554, rfl, ho0, hb⟩; refine ⟨_, rfl, ?_⟩; have n0_ := Aside0.mk (Kd.R_lower ho0 (below_size q23_9)); have n1_ := Aside0.mk (blk_below (g := gb550) (o := .cells #[.int .i64 a0_0, .slice A0_1 l0_1.length c0_1] 26 (0, 0)) q23_12 hb); have n2_ := Aside0.mk (below_step q23_9 hb); clear BK550; clear HB; have HO555 := n0_; have BK550 := n1_; have HB := n2_; clear n0_ n1_ n2_; (try clear hb); (try clear hb2); (try clear hk); (try clear hi); (try clear ho0); obtain ⟨Ao23, co23, eo23⟩ := Kd.R_slice HO555.out; subst eo23) | ((with_reducible refine gate_callee (f := 29) rfl ?_); refine goesL_ (some 18) rfl rfl Try.func29 q23_21 rfl #[.agg #[.int .i64 t552, .slice Ao23 t553.length co23]] rfl q23_10 ?_; (with_reducible refine (spec_ArrowText.calls k t552 _ _ t553 t556 _ ?side1 ?side2 A8.out).mono ?_); (case side1 => repeat (first | exact (Kd.R_reads' HO555.out).2.2 | (with_reducible refine Kd.C_alloc ?_ _) | (with_reducible refine Kd.C_drewN ?_ _) | (with_reducible refine Kd.C_drew ?_))); (case side2 => exact (Kd.R_reads' HO555.out).2.1); rintro e w24 ⟨v557, rfl, ho0, hb⟩; refine ⟨_, rfl, ?_⟩; have n0_ := Aside0.mk (Kd.R_below q23_15 hb); have n1_ := Aside0.mk (Kd.R_lower ho0 (below_size q23_9)); have n2_ := Aside0.mk (blk_below (g := gb550) (o := .cells #[.int .i64 a0_0, .slice A0_1 l0_1.length c0_1] 26 (0, 0)) q23_12 hb); have n3_ := Aside0.mk (below_step q23_9 hb); clear HO555; clear BK550; clear HB; have HO555 := n0_; have HO558 := n1_; have BK550 := n2_; have HB := n3_; clear n0_ n1_ n2_ n3_; (try clear hb); (try clear hb2); (try clear hk); (try clear hi); (try clear ho0); have hcz25_0 : w24.cell? ⟨gb550, 0, none⟩ = some (.int .i64 a0_0) := (blk_cell BK550.out 0).trans rfl; have hcz25_1 : w24.cell? ⟨gb550, 1, none⟩ = some (.slice A0_1 l0_1.length c0_1) := (blk_cell BK550.out 1).trans rfl; have hfz25_0 := blk_frozen BK550.out 0; have hfz25_1 := blk_frozen BK550.out 1) | ((with_reducible refine gate_callee (f := 30) rfl ?_); refine goesL_ (some 20) rfl rfl Try.func30 q23_21 rfl #[.agg #[.int .i64 a0_0, .slice A0_1 l0_1.length c0_1]] rfl q23_10 ?_; (with_reducible refine (laws_toContext.calls k a0_0 _ _ l0_1 t559 t560 _ ?side1 ?side2 A9.out).mono ?_); (case side1 => exact q23_5); (case side2 => exact HC0_1.out); rintro e w26 ⟨v561, rfl, ho0, hb⟩; refine ⟨_, rfl, ?_⟩; have n0_ := Aside0.mk (Kd.R_elder' q23_15 (Kd.R_base ho0) hb); have n1_ := Aside0.mk (Kd.R_below q23_16 hb); have n2_ := Aside0.mk (Kd.R_lower (Kd.R_new' ho0 (Kd.R_lt q23_15)) (below_size q23_9)); have n3_ := Aside0.mk (blk_below (g := gb550) (o := .cells #[.int .i64 a0_0, .slice A0_1 l0_1.length c0_1] 26 (0, 0)) q23_12 hb); have n4_ := Aside0.mk (below_step q23_9 hb); clear HO555; clear HO558; clear BK550; clear HB; have HO555 := n0_; have HO558 := n1_; have HO562 := n2_; have BK550 := n3_; have HB := n4_; clear n0_ n1_ n2_ n3_ n4_; (try clear hb); (try clear hb2); (try clear hk); (try clear hi); (try clear ho0)) | ((with_reducible refine gate_dst (N := 5) rfl ?_); refine box_event ?hg (N := 5) ?hd (cs := #[.int .i64 0, .slice none 0 0]) (t := 33) ?hr ?_; (case hd => rfl); (case hg => rfl); (case hr => first | (go_simp; done) | (go_simp; rfl)); intro gb563 hg w27 hbox hb; have n0_ := Aside0.mk (Kd.R_below q23_15 hb); have n1_ := Aside0.mk (Kd.R_below q23_16 hb); have n2_ := Aside0.mk (Kd.R_below q23_17 hb); have n3_ := Aside0.mk (blk_below (g := gb550) (o := .cells #[.int .i64 a0_0, .slice A0_1 l0_1.length c0_1] 26 (0, 0)) q23_12 hb); have n4_ := Aside0.mk (below_step q23_9 hb); have n5_ := Aside0.mk (hbox); have n6_ := Aside0.mk ((by rw [hg]; exact (below_size q23_9) : w.heap.size ≤ gb563)); have n7_ := Aside0.mk ((by rw [hg]; exact (below_size q23_9) : w.heap.size ≤ gb563)); have n8_ := Aside0.mk ((by rw [hg]; exact Nat.ne_of_lt (blk_lt (g := gb550) (o := .cells #[.int .i64 a0_0, .slice A0_1 l0_1.length c0_1] 26 (0, 0)) q23_12) : gb550 ≠ gb563)); have n9_ := Aside0.mk ((by rw [hg]; exact Nat.ne_of_gt (blk_lt (g := gb550) (o := .cells #[.int .i64 a0_0, .slice A0_1 l0_1.length c0_1] 26 (0, 0)) q23_12) : gb563 ≠ gb550)); clear HO555; clear HO558; clear HO562; clear BK550; clear HB; have HO555 := n0_; have HO558 := n1_; have HO562 := n2_; have BK550 := n3_; have HB := n4_; have BK563 := n5_; have GW563 := n6_; have GE563 := n7_; have NB550_563 := n8_; have NB563_550 := n9_; clear n0_ n1_ n2_ n3_ n4_ n5_ n6_ n7_ n8_ n9_; clear hb hbox hg; have hnb28 := NB563_550.out; have hnc28 := NB550_563.out; have hcz29_0 : w27.cell? ⟨gb563, 0, none⟩ = some (.int .i64 0) := (blk_cell BK563.out 0).trans rfl; have hcz29_1 : w27.cell? ⟨gb563, 1, none⟩ = some (.slice none 0 0) := (blk_cell BK563.out 1).trans rfl; have hfz29_0 := blk_frozen BK563.out 0; have hfz29_1 := blk_frozen BK563.out 1; obtain ⟨Ao30, co30, eo30⟩ := Kd.R_slice HO562.out; subst eo30) | ((with_reducible refine gate_callee (f := 31) rfl ?_); refine goesL_ (some 22) rfl rfl Try.func31 q23_21 rfl #[.agg #[.int .i64 t559, .slice Ao30 t560.length co30]] rfl q23_10 ?_; (with_reducible refine (impl_ArrowText.calls k t559 _ _ t560 t564 _ ?side1 ?side2 A10.out).mono ?_); (case side1 => refine (Kd.R_reads' (e := 3) (base := w.heap.size) (ok := fun k_ => (True ∧ some k_ ≠ (.slice Ao23 t553.length co23 : Value).ownBlock)) (n := t560.length) (c := co30) ?_).2.2; exact q23_2); (case side2 => exact (Kd.R_reads' HO562.out).2.1); rintro e w31 ⟨v565, rfl, ho0, hb⟩; refine ⟨_, rfl, ?_⟩; have n0_ := Aside0.mk (Kd.R_below (by (with_reducible repeat (first | apply Kd.R_alloc | apply Kd.R_drewN | apply Kd.R_drew)); exact (Kd.R_mono (Kd.R_far (p := ⟨gb563, 1, none⟩) (Kd.R_far (p := ⟨gb563, 0, none⟩) (Kd.R_types HO555.out BK563.out (by decide)) (fun _ hk => hk.2) (.int .i64 t559)) (fun _ hk => hk.2) (.slice Ao30 t560.length co30)) (fun _ h_ => h_.1))) hb); have n1_ := Aside0.mk (Kd.R_elder' q23_1 (Kd.R_base ho0) hb); have n2_ := Aside0.mk (Kd.R_below q23_2 hb); have n3_ := Aside0.mk (Kd.R_lower (Kd.R_new' ho0 (Kd.R_lt q23_1)) (below_size q23_4)); have n4_ := Aside0.mk (blk_below (g := gb550) (o := .cells #[.int .i64 a0_0, .slice A0_1 l0_1.length c0_1] 26 (0, 0)) (by (with_reducible repeat (first | refine blk_drewN ?_ _ | refine blk_drew ?_ | refine blk_alloc ?_ _)); refine blk_far ?_ NB550_563.out _; (with_reducible repeat (first | refine blk_drewN ?_ _ | refine blk_drew ?_ | refine blk_alloc ?_ _)); refine blk_far ?_ NB550_563.out _; (with_reducible repeat (first | refine blk_drewN ?_ _ | refine blk_drew ?_ | refine blk_alloc ?_ _)); exact BK550.out) hb); have n5_ := Aside0.mk (blk_below (g := gb563) (o := .cells #[.int .i64 t559, .slice Ao30 t560.length co30] 33 (0, 0)) (by (with_reducible repeat (first | refine blk_drewN ?_ _ | refine blk_drew ?_ | refine blk_alloc ?_ _)); refine blk_put (cs := #[.int .i64 t559, .slice none 0 0]) ?_ 1 _ rfl; (with_reducible repeat (first | refine blk_drewN ?_ _ | refine blk_drew ?_ | refine blk_alloc ?_ _)); refine blk_put (cs := #[.int .i64 0, .slice none 0 0]) ?_ 0 _ rfl; (with_reducible repeat (first | refine blk_drewN ?_ _ | refine blk_drew ?_ | refine blk_alloc ?_ _)); exact BK563.out) hb); have n6_ := Aside0.mk (below_step q23_4 hb); clear HO555; clear HO558; clear HO562; clear BK550; clear BK563; clear HB; have HO555 := n0_; have HO558 := n1_; have HO562 := n2_; have HO566 := n3_; have BK550 := n4_; have BK563 := n5_; have HB := n6_; clear n0_ n1_ n2_ n3_ n4_ n5_ n6_; (try clear hb); (try clear hb2); (try clear hk); (try clear hi); (try clear ho0); obtain ⟨Ao32, co32, eo32⟩ := Kd.R_slice HO566.out; subst eo32; obtain ⟨Ao33, co33, eo33⟩ := Kd.R_slice HO558.out; subst eo33) | ((with_reducible refine gate_callee (f := 32) rfl ?_); refine goesL_ (some 25) rfl rfl Try.func32 q23_21 rfl #[.slice Ao32 t564.length co32, .slice Ao33 t556.length co33] rfl q23_10 ?_; (with_reducible refine (laws_eqStringS.calls k _ _ t564 _ _ t556 true _ ?side1 ?side2 ?side3 ?side4 A11.out).mono ?_); (case side1 => exact q23_7); (case side2 => exact (Kd.R_reads' HO566.out).2.1); (case side3 => exact q23_6); (case side4 => exact (Kd.R_reads' HO558.out).2.1); rintro e w' ⟨rfl, ⟨nd, rfl⟩⟩; refine ⟨_, rfl, ?_⟩))
    (try (rw [drewN_self w31]; generalize hq_ : World.drewN w31 _ = w31; have n0_ : Aside0 (Kd.R (Kd.int .i64) 3 w31 w.heap.size (fun k_ => some k_ ≠ (.slice Ao30 t560.length co30 : Value).ownBlock) (.slice Ao23 t553.length co23) t553) := ⟨by rw [← hq_]; exact (by (with_reducible repeat (first | apply Kd.R_alloc | apply Kd.R_drewN | apply Kd.R_drew)); exact Kd.R_mono HO555.out (fun _ hk => hk.2))⟩; have n1_ : Aside0 (Kd.R Kd.string 9 w31 w.heap.size (fun k_ => some k_ ≠ (.slice Ao32 t564.length co32 : Value).ownBlock) (.slice Ao33 t556.length co33) t556) := ⟨by rw [← hq_]; exact (by (with_reducible repeat (first | apply Kd.R_alloc | apply Kd.R_drewN | apply Kd.R_drew)); exact Kd.R_mono HO558.out (fun _ hk => hk.2))⟩; have n2_ : Aside0 (Kd.R (Kd.int .i64) 3 w31 w.heap.size (fun k_ => some k_ ≠ (.slice Ao23 t553.length co23 : Value).ownBlock) (.slice Ao30 t560.length co30) t560) := ⟨by rw [← hq_]; exact (by (with_reducible repeat (first | apply Kd.R_alloc | apply Kd.R_drewN | apply Kd.R_drew)); exact Kd.R_mono HO562.out (fun _ hk => hk.2))⟩; have n3_ : Aside0 (Kd.R Kd.string 9 w31 w.heap.size (fun k_ => some k_ ≠ (.slice Ao33 t556.length co33 : Value).ownBlock) (.slice Ao32 t564.length co32) t564) := ⟨by rw [← hq_]; exact (by (with_reducible repeat (first | apply Kd.R_alloc | apply Kd.R_drewN | apply Kd.R_drew)); exact Kd.R_mono HO566.out (fun _ hk => hk.2))⟩; have n4_ : Aside0 (w31.heap[gb550]? = some (.cells #[.int .i64 a0_0, .slice A0_1 l0_1.length c0_1] 26 (0, 0))) := ⟨by rw [← hq_]; exact q23_12⟩; have n5_ : Aside0 (w31.heap[gb563]? = some (.cells #[.int .i64 t559, .slice Ao30 t560.length co30] 33 (0, 0))) := ⟨by rw [← hq_]; exact q23_13⟩; have n6_ : Aside0 (Below w.heap.size w w31) := ⟨by rw [← hq_]; exact q23_4⟩; clear HO555 HO558 HO562 HO566 BK550 BK563 HB hq_; have HO555 := n0_; have HO558 := n1_; have HO562 := n2_; have HO566 := n3_; have BK550 := n4_; have BK563 := n5_; have HB := n6_; clear n0_ n1_ n2_ n3_ n4_ n5_ n6_))
    have n0_ := Aside0.mk (Kd.R_drew HO555.out)
    have n1_ := Aside0.mk (Kd.R_drew HO558.out)
    have n2_ := Aside0.mk (Kd.R_drew HO562.out)
    have n3_ := Aside0.mk (Kd.R_drew HO566.out)
    have n4_ := Aside0.mk (blk_drew BK550.out)
    have n5_ := Aside0.mk (blk_drew BK563.out)
    have n6_ := Aside0.mk (below_drew1 HB.out)
    clear HO555
    clear HO558
    clear HO562
    clear HO566
    clear BK550
    clear BK563
    clear HB
    have HO555 := n0_
    have HO558 := n1_
    have HO562 := n2_
    have HO566 := n3_
    have BK550 := n4_
    have BK563 := n5_
    have HB := n6_
    clear n0_ n1_ n2_ n3_ n4_ n5_ n6_
    refine start_ (n := 5) (S := fun w' => w'.cell? ⟨gb563, 0, none⟩ = some (.int .i64 t559) ∧ w'.cell? ⟨gb563, 1, none⟩ = some (.slice Ao30 t560.length co30) ∧ w'.cell? ⟨gb550, 0, none⟩ = some (.int .i64 a0_0) ∧ w'.cell? ⟨gb550, 1, none⟩ = some (.slice A0_1 l0_1.length c0_1)) (ds := []) #[false, false, false, false, false] q23_21 rfl rfl ⟨(blk_cell BK563.out 0).trans rfl, (blk_cell BK563.out 1).trans rfl, (blk_cell BK550.out 0).trans rfl, (blk_cell BK550.out 1).trans rfl⟩ (fun hHeld => ?_)
    generalize w31.drew = w34 at HO555 HO558 HO562 HO566 BK550 BK563 HB hHeld ⊢
    refine take_ (i := 0) (N := some 27) (v := ?_) (a' := ?_) #[true, false, false, false, false] rfl rfl q23_21 (fun _ _ _ h => h) (Or.inl ⟨by rfl, ?_⟩) hHeld ?_ ?_
    rotate_left
    ·
     rintro w' ⟨s0, s1, s2, s3⟩
     go_simp
     with_reducible rfl
    rotate_left
    ·
     exact put23_
    refine take_ (i := 1) (N := some 28) (v := ?_) (a' := ?_) #[true, true, false, false, false] rfl rfl q23_21 (fun _ _ _ h => h) (Or.inl ⟨by rfl, ?_⟩) hHeld ?_ ?_
    rotate_left
    ·
     rintro w' ⟨s0, s1, s2, s3⟩
     go_simp
     with_reducible rfl
    rotate_left
    ·
     exact put23_
    refine one_ (i := 2) (N := some 29) #[true, true, true, false, false] rfl rfl q23_21 (by decide) (fun K hK => ?_)
    refine goes_ Try.func30 q23_21 rfl #[.agg #[.int .i64 a0_0, .slice A0_1 l0_1.length c0_1]] (by rfl) rfl rfl q23_10 ?_
    with_reducible refine (laws_toContext.calls k a0_0 _ _ l0_1 t568 t569 _ ?side1 ?side2 A13.out).mono ?_
    (case side1 => exact q23_5)
    (case side2 => exact HC0_1.out)
    rintro e w35 ⟨v570, rfl, ho0, hb⟩
    refine ⟨_, rfl, ?_⟩
    have n0_ := Aside0.mk (Kd.R_elder' q23_15 (Kd.R_base ho0) hb)
    have n1_ := Aside0.mk (Kd.R_below q23_16 hb)
    have n2_ := Aside0.mk (Kd.R_elder' q23_17 (Kd.R_base ho0) hb)
    have n3_ := Aside0.mk (Kd.R_below (by (with_reducible repeat (first | apply Kd.R_alloc | apply Kd.R_drewN | apply Kd.R_drew)); exact HO566.out) hb)
    have n4_ := Aside0.mk (Kd.R_lower (Kd.R_new' (Kd.R_new' ho0 (Kd.R_lt q23_15)) (Kd.R_lt q23_17)) (below_size q23_4))
    have n5_ := Aside0.mk (blk_below (g := gb550) (o := .cells #[.int .i64 a0_0, .slice A0_1 l0_1.length c0_1] 26 (0, 0)) q23_12 hb)
    have n6_ := Aside0.mk (blk_below (g := gb563) (o := .cells #[.int .i64 t559, .slice Ao30 t560.length co30] 33 (0, 0)) q23_13 hb)
    have n7_ := Aside0.mk (below_step q23_4 hb)
    clear HO555
    clear HO558
    clear HO562
    clear HO566
    clear BK550
    clear BK563
    clear HB
    have HO555 := n0_
    have HO558 := n1_
    have HO562 := n2_
    have HO566 := n3_
    have HO571 := n4_
    have BK550 := n5_
    have BK563 := n6_
    have HB := n7_
    clear n0_ n1_ n2_ n3_ n4_ n5_ n6_ n7_
    (try clear hb)
    (try clear hb2)
    (try clear hk)
    (try clear hi)
    (try clear ho0)
    obtain ⟨Ao36, co36, eo36⟩ := Kd.R_slice HO571.out
    (first | subst eo36 | (injection eo36 with f1_ f2_ f3_; have f4_ := f1_.symm; have f5_ := f3_.symm; clear f1_ f2_ f3_; subst f4_; subst f5_))
    refine hK.out _ _ ⟨(blk_cell BK563.out 0).trans rfl, (blk_cell BK563.out 1).trans rfl, (blk_cell BK550.out 0).trans rfl, (blk_cell BK550.out 1).trans rfl⟩ (fun hHeld => ?_)
    clear hK K
    refine norm_ (a' := ?_) ?_ ?_
    rotate_left
    ·
     show Act.put _ (some 29) _ = _
     exact put23_
    refine one_ (i := 3) (N := some 30) #[true, true, true, true, false] rfl rfl q23_21 (by decide) (fun K hK => ?_)
    refine goes_ Try.func33 q23_21 rfl #[.agg #[.int .i64 t559, .slice Ao30 t560.length co30], .agg #[.int .i64 t568, .slice Ao36 t569.length co36]] (by rfl) rfl rfl q23_10 ?_
    with_reducible refine (laws_eqContext.calls k t559 _ _ t560 t568 _ _ t569 true _ ?side1 ?side2 ?side3 ?side4 A14.out).mono ?_
    (case side1 => repeat (first | exact (Kd.R_reads' HO562.out).2.2 | (with_reducible refine Kd.C_alloc ?_ _) | (with_reducible refine Kd.C_drewN ?_ _) | (with_reducible refine Kd.C_drew ?_)))
    (case side2 => exact (Kd.R_reads' HO562.out).2.1)
    (case side3 => repeat (first | exact (Kd.R_reads' HO571.out).2.2 | (with_reducible refine Kd.C_alloc ?_ _) | (with_reducible refine Kd.C_drewN ?_ _) | (with_reducible refine Kd.C_drew ?_)))
    (case side4 => exact (Kd.R_reads' HO571.out).2.1)
    rintro e w37 ⟨rfl, hb⟩
    refine ⟨_, rfl, ?_⟩
    have n0_ := Aside0.mk (Kd.R_below q23_15 hb)
    have n1_ := Aside0.mk (Kd.R_below q23_16 hb)
    have n2_ := Aside0.mk (Kd.R_below q23_17 hb)
    have n3_ := Aside0.mk (Kd.R_below (by (with_reducible repeat (first | apply Kd.R_alloc | apply Kd.R_drewN | apply Kd.R_drew)); exact HO566.out) hb)
    have n4_ := Aside0.mk (Kd.R_below (by (with_reducible repeat (first | apply Kd.R_alloc | apply Kd.R_drewN | apply Kd.R_drew)); exact HO571.out) hb)
    have n5_ := Aside0.mk (blk_below (g := gb550) (o := .cells #[.int .i64 a0_0, .slice A0_1 l0_1.length c0_1] 26 (0, 0)) q23_12 hb)
    have n6_ := Aside0.mk (blk_below (g := gb563) (o := .cells #[.int .i64 t559, .slice Ao30 t560.length co30] 33 (0, 0)) q23_13 hb)
    have n7_ := Aside0.mk (below_step q23_4 hb)
    clear HO555
    clear HO558
    clear HO562
    clear HO566
    clear HO571
    clear BK550
    clear BK563
    clear HB
    have HO555 := n0_
    have HO558 := n1_
    have HO562 := n2_
    have HO566 := n3_
    have HO571 := n4_
    have BK550 := n5_
    have BK563 := n6_
    have HB := n7_
    clear n0_ n1_ n2_ n3_ n4_ n5_ n6_ n7_
    (try clear hb)
    (try clear hb2)
    (try clear hk)
    (try clear hi)
    refine hK.out _ _ ⟨(blk_cell BK563.out 0).trans rfl, (blk_cell BK563.out 1).trans rfl, (blk_cell BK550.out 0).trans rfl, (blk_cell BK550.out 1).trans rfl⟩ (fun hHeld => ?_)
    clear hK K
    refine norm_ (a' := ?_) ?_ ?_
    rotate_left
    ·
     show Act.put _ (some 30) _ = _
     exact put23_
    refine pure_ (i := 4) (N := some 31) (v := ?_) (a' := ?_) #[true, true, true, true, true] rfl rfl q23_21 (fun _ _ _ h => h) (Or.inl ⟨by rfl, ?_⟩) ?_ ?_
    rotate_left
    ·
     intro w'
     go_simp
     with_reducible rfl
    rotate_left
    ·
     exact put23_
    refine done_ q23_21 ?_
    have hcz38_0 : w37.cell? ⟨gb563, 0, none⟩ = some (.int .i64 t559) := (blk_cell BK563.out 0).trans rfl
    have hcz38_1 : w37.cell? ⟨gb563, 1, none⟩ = some (.slice Ao30 t560.length co30) := (blk_cell BK563.out 1).trans rfl
    have hfz38_0 := blk_frozen BK563.out 0
    have hfz38_1 := blk_frozen BK563.out 1
    go_upto_region 14 with (first | ((with_reducible refine gate_callee (f := 34) rfl ?_); refine goesL_ (some 34) rfl rfl Try.func34 q23_21 rfl #[.agg #[.int .i64 t559, .slice Ao30 t560.length co30], .int .i64 1] rfl q23_10 ?_; (with_reducible refine (laws_markContext.calls k t559 (fun k_ => some k_ = (.slice Ao30 t560.length co30 : Value).ownBlock) (.slice Ao30 t560.length co30) t560 1 t573 t574 w _ ?side1 ?side2 A16.out).mono ?_); (case side1 => exact q23_4); (case side2 => exact Kd.R_tight rfl HO562.out); rintro e w39 ⟨rfl, hy0, hb, hkp⟩; refine ⟨_, rfl, ?_⟩; have n0_ := Aside0.mk (blk_kept q23_12 hkp (fun hs_ => (fun e_ => (Kd.R_ne HO562.out BK550.out (by decide)) e_) hs_)); have n1_ := Aside0.mk (Kd.R_mono (ok' := fun k_ => some k_ ≠ (.slice Ao30 t560.length co30 : Value).ownBlock ∧ some k_ ≠ (.slice Ao36 t569.length co36 : Value).ownBlock) (Kd.R_keptB (HO555.out) hkp (fun k_ hk_ hs_ => by first | exact hk_.1.2 hs_ | exact hk_.1.1.2 hs_ | exact hk_.1.1 hs_ | exact hk_.2 hs_ | exact hk_.1 hs_ | exact hk_.1.1.1 hs_ | exact hk_ hs_)) (fun k_ hk_ => ⟨by first | exact hk_.1.1.2 | exact hk_.1.1 | exact hk_.1.2 | exact hk_.2 | exact hk_.1 | exact hk_.1.1.1 | exact hk_, by first | exact hk_.1.2 | exact hk_.1.1.2 | exact hk_.1.1 | exact hk_.2 | exact hk_.1 | exact hk_.1.1.1 | exact hk_⟩)); have n2_ := Aside0.mk (Kd.R_mono (ok' := fun k_ => some k_ ≠ (.slice Ao32 t564.length co32 : Value).ownBlock) (Kd.R_keptB ((Kd.R_apart' HO558.out (Kd.R_typed HO562.out) (by decide))) hkp (fun k_ hk_ hs_ => by first | exact hk_.2 hs_ | exact hk_.1.1.2 hs_ | exact hk_.1.1 hs_ | exact hk_.1.2 hs_ | exact hk_.1 hs_ | exact hk_.1.1.1 hs_ | exact hk_ hs_)) (fun k_ hk_ => by first | exact hk_.1.1.2 | exact hk_.1.1 | exact hk_.1.2 | exact hk_.2 | exact hk_.1 | exact hk_.1.1.1 | exact hk_)); have n3_ := Aside0.mk (Kd.R_reok rfl hy0 (fun k_ e_ => HO562.out.1 k_ e_)); have n4_ := Aside0.mk (blk_kept q23_13 hkp (fun hs_ => (fun e_ => (Kd.R_ne HO562.out BK563.out (by decide)) e_) hs_)); have n5_ := Aside0.mk (Kd.R_mono (ok' := fun k_ => some k_ ≠ (.slice Ao33 t556.length co33 : Value).ownBlock) (Kd.R_keptB ((Kd.R_apart' HO566.out (Kd.R_typed HO562.out) (by decide))) hkp (fun k_ hk_ hs_ => by first | exact hk_.2 hs_ | exact hk_.1.1.2 hs_ | exact hk_.1.1 hs_ | exact hk_.1.2 hs_ | exact hk_.1 hs_ | exact hk_.1.1.1 hs_ | exact hk_ hs_)) (fun k_ hk_ => by first | exact hk_.1.1.2 | exact hk_.1.1 | exact hk_.1.2 | exact hk_.2 | exact hk_.1 | exact hk_.1.1.1 | exact hk_)); have n6_ := Aside0.mk (Kd.R_mono (ok' := fun k_ => some k_ ≠ (.slice Ao23 t553.length co23 : Value).ownBlock ∧ some k_ ≠ (.slice Ao30 t560.length co30 : Value).ownBlock) (Kd.R_keptB (HO571.out) hkp (fun k_ hk_ hs_ => by first | exact hk_.2 hs_ | exact hk_.1.1.2 hs_ | exact hk_.1.1 hs_ | exact hk_.1.2 hs_ | exact hk_.1 hs_ | exact hk_.1.1.1 hs_ | exact hk_ hs_)) (fun k_ hk_ => ⟨by first | exact hk_.1.1.2 | exact hk_.1.1 | exact hk_.1.2 | exact hk_.2 | exact hk_.1 | exact hk_.1.1.1 | exact hk_, by first | exact hk_.1.2 | exact hk_.1.1.2 | exact hk_.1.1 | exact hk_.2 | exact hk_.1 | exact hk_.1.1.1 | exact hk_⟩)); have n7_ := Aside0.mk (hb); clear BK550; clear HO555; clear HO558; clear HO562; clear BK563; clear HO566; clear HO571; clear HB; have BK550 := n0_; have HO555 := n1_; have HO558 := n2_; have HO562 := n3_; have BK563 := n4_; have HO566 := n5_; have HO571 := n6_; have HB := n7_; clear n0_ n1_ n2_ n3_ n4_ n5_ n6_ n7_; (try clear hb); (try clear hkp); (try clear hy0)))
    (try simp only [Act.put, List.setIfInBounds_toArray, List.set_cons_zero, List.set_cons_succ])
    go_cut [42] (fun v42 wc => ∃ (kq : Nat) (x42_16 : Bool), v42 = .bool x42_16 ∧ Aside0 (laws_FnExactArrowText.j0 kq t556 t564 x42_16 a0_0 l0_1 = some r) ∧ Aside0 (kq ≤ k) ∧ Aside0 (Kd.R Kd.string 9 wc w.heap.size (fun k_ => some k_ ≠ ((.slice Ao32 t564.length co32) : Value).ownBlock) (.slice Ao33 t556.length co33) t556) ∧ Aside0 (Kd.R Kd.string 9 wc w.heap.size (fun k_ => some k_ ≠ ((.slice Ao33 t556.length co33) : Value).ownBlock) (.slice Ao32 t564.length co32) t564) ∧ Aside0 (Kd.R (Kd.int .i64) 3 wc w.heap.size (fun _ => True) (.slice Ao30 t560.length co30) t574) ∧ Aside0 (wc.heap[gb550]? = some (.cells #[.int .i64 a0_0, (.slice A0_1 l0_1.length c0_1)] 26 (0, 0))) ∧ Aside0 (wc.heap[gb563]? = some (.cells #[.int .i64 t559, (.slice Ao30 t560.length co30)] 33 (0, 0))) ∧ Aside0 (Below w.heap.size w wc))
    case first =>
     have H := HC17.out
     clear HC17
     by_cases c40 : t573 < 0
     ·
      rw [if_pos c40] at H
      have c40b0 : decide (t573 < 0) = true := decide_eq_true c40
      clear c40
      (first | rw [c40b0] | (simp only [i64_w, i32_w]; rw [c40b0]) | skip)
      have H' := Aside0.mk H
      clear H
      go_wp2
      go_meet
      case rel => exact ⟨_, (true), (by first | rfl | (simp; done) | (simp [*]; done) | (simp [i64_w, i32_w]; done)), H', ⟨by first | omega | exact Nat.le_refl _⟩, ⟨by (with_reducible repeat (first | apply Kd.R_alloc | apply Kd.R_drewN | apply Kd.R_drew)); exact HO558.out⟩, ⟨by (with_reducible repeat (first | apply Kd.R_alloc | apply Kd.R_drewN | apply Kd.R_drew)); exact HO566.out⟩, ⟨by (with_reducible repeat (first | apply Kd.R_alloc | apply Kd.R_drewN | apply Kd.R_drew)); exact Kd.R_mono HO562.out (fun _ hk => trivial)⟩, ⟨by (with_reducible repeat (first | refine blk_drewN ?_ _ | refine blk_drew ?_ | refine blk_alloc ?_ _)); exact BK550.out⟩, ⟨by (with_reducible repeat (first | refine blk_drewN ?_ _ | refine blk_drew ?_ | refine blk_alloc ?_ _)); exact BK563.out⟩, ⟨by repeat (first | (with_reducible first | exact HB.out | apply below_alloc | apply pw_below_drewN | apply below_drew1 | refine below_set ?_ GE550.out | refine below_set ?_ GE563.out) | exact HB.out)⟩⟩
     ·
      rw [if_neg c40] at H
      have c40b0 : decide (t573 < 0) = false := decide_eq_false c40
      clear c40
      (first | rw [c40b0] | (simp only [i64_w, i32_w]; rw [c40b0]) | skip)
      replace H := Option.bind_eq_some_iff.mp H
      obtain ⟨t575, A410, H⟩ := H
      replace H : (laws_FnExactArrowText.j0 k t556 t564 (!t575) a0_0 l0_1) = some r := H
      have A41 := Aside0.mk A410
      clear A410
      have H' := Aside0.mk H
      clear H
      go_wp2_with (first | (go_at_call 32; (with_reducible refine (laws_eqStringS.calls k _ _ t564 _ _ t556 t575 _ ?side1 ?side2 ?side3 ?side4 A41.out).mono ?_); (case side1 => exact q23_7); (case side2 => exact (Kd.R_reads' HO566.out).2.1); (case side3 => exact q23_6); (case side4 => exact (Kd.R_reads' HO558.out).2.1); rintro e w' ⟨rfl, ⟨nd, rfl⟩⟩))
      go_meet
      case rel => exact ⟨_, (!t575), (by first | rfl | (simp; done) | (simp [*]; done) | (simp [i64_w, i32_w]; done)), H', ⟨by first | omega | exact Nat.le_refl _⟩, ⟨by (with_reducible repeat (first | apply Kd.R_alloc | apply Kd.R_drewN | apply Kd.R_drew)); exact HO558.out⟩, ⟨by (with_reducible repeat (first | apply Kd.R_alloc | apply Kd.R_drewN | apply Kd.R_drew)); exact HO566.out⟩, ⟨by (with_reducible repeat (first | apply Kd.R_alloc | apply Kd.R_drewN | apply Kd.R_drew)); exact Kd.R_mono HO562.out (fun _ hk => trivial)⟩, ⟨by (with_reducible repeat (first | refine blk_drewN ?_ _ | refine blk_drew ?_ | refine blk_alloc ?_ _)); exact BK550.out⟩, ⟨by (with_reducible repeat (first | refine blk_drewN ?_ _ | refine blk_drew ?_ | refine blk_alloc ?_ _)); exact BK563.out⟩, ⟨by repeat (first | (with_reducible first | exact HB.out | apply below_alloc | apply pw_below_drewN | apply below_drew1 | refine below_set ?_ GE550.out | refine below_set ?_ GE563.out) | exact HB.out)⟩⟩
    case rest =>
     clear HC17
     try clear c1
     try clear c2
     try clear p2
     try clear c3
     try clear c3b0
     try clear c4
     try clear c7
     try clear c12
     try clear c15
     try clear c28
     try clear c29
     try clear c30
     try clear c31
     try clear c32
     try clear c33
     try clear c34
     try clear c40
     try clear c40b0
     try clear hcz19_0
     try clear hcz19_1
     try clear hcz21_0
     try clear hcz21_1
     try clear hcz25_0
     try clear hcz25_1
     try clear hcz29_0
     try clear hcz29_1
     try clear hcz38_0
     try clear hcz38_1
     try clear hcz5_0
     try clear hcz5_1
     try clear hfz19_0
     try clear hfz19_1
     try clear hfz21_0
     try clear hfz21_1
     try clear hfz25_0
     try clear hfz25_1
     try clear hfz29_0
     try clear hfz29_1
     try clear hfz38_0
     try clear hfz38_1
     try clear hfz5_0
     try clear hfz5_1
     obtain ⟨kq, x42_16, rfl, HA, HJ16, HO_4, HO_6, HO_564001, BK550, BK563, HB⟩ := hcut
     have hl564001_16 := (Kd.R_reads' HO_564001.out).1
     rw [hl564001_16] at HO_564001
     (try simp only [hl564001_16])
     (try simp only [hl564001_16] at BK550)
     (try simp only [hl564001_16] at BK563)
     (try simp only [hl564001_16] at HO_4)
     (try simp only [hl564001_16] at HO_6)
     cases kq with
     | zero => exact absurd HA.out (by simp [laws_FnExactArrowText.j0])
     | succ kj16 =>
      have H := HA.out
      clear HA
      simp only [laws_FnExactArrowText.j0] at H
      by_cases c42 : x42_16 = true
      ·
       subst c42
       have H1 : (some false) = some r := by rw [if_pos rfl] at H; exact H
       clear H
       have H := H1
       clear H1
       exact absurd ((Option.some.inj H).trans HRT.out) Bool.false_ne_true
      ·
       replace c42 := Bool.eq_false_iff.mpr c42
       subst c42
       have H1 : ((laws_markStringS.f kj16 t564 1).bind fun bt576 => ((laws_heldStringS.f kj16 bt576.2 1).bind fun t578 => (if t578 < 0 then (some false) else (if t578 = bt576.1 then ((laws_toContext.f kj16 a0_0 l0_1).bind fun bt579 => ((impl_ArrowText.f kj16 bt579.1 bt579.2).bind fun t583 => ((laws_eqStringS.f kj16 t583 t556).bind fun t586 => (if t586 = true then ((laws_heldStringS.f kj16 bt576.2 1).bind fun t587 => (if t587 < 0 then (some false) else (if t587 = bt576.1 then (some true) else (some false)))) else (some false))))) else (some false))))) = some r := q23_20
       clear H
       have H := H1
       clear H1
       replace H := Option.bind_eq_some_iff.mp H
       obtain ⟨⟨t576, t577⟩, A430, H⟩ := H
       replace H : ((laws_heldStringS.f kj16 t577 1).bind fun t578 => (if t578 < 0 then (some false) else (if t578 = t576 then ((laws_toContext.f kj16 a0_0 l0_1).bind fun bt579 => ((impl_ArrowText.f kj16 bt579.1 bt579.2).bind fun t583 => ((laws_eqStringS.f kj16 t583 t556).bind fun t586 => (if t586 = true then ((laws_heldStringS.f kj16 t577 1).bind fun t587 => (if t587 < 0 then (some false) else (if t587 = t576 then (some true) else (some false)))) else (some false))))) else (some false)))) = some r := H
       have A43 := Aside0.mk A430
       clear A430
       replace H := Option.bind_eq_some_iff.mp H
       obtain ⟨t578, A440, H⟩ := H
       replace H : (if t578 < 0 then (some false) else (if t578 = t576 then ((laws_toContext.f kj16 a0_0 l0_1).bind fun bt579 => ((impl_ArrowText.f kj16 bt579.1 bt579.2).bind fun t583 => ((laws_eqStringS.f kj16 t583 t556).bind fun t586 => (if t586 = true then ((laws_heldStringS.f kj16 t577 1).bind fun t587 => (if t587 < 0 then (some false) else (if t587 = t576 then (some true) else (some false)))) else (some false))))) else (some false))) = some r := H
       have A44 := Aside0.mk A440
       clear A440
       by_cases c45 : t578 < 0
       ·
        rw [if_pos c45] at H
        exact absurd ((Option.some.inj H).trans HRT.out) Bool.false_ne_true
       ·
        rw [if_neg c45] at H
        have c45b0 : decide (t578 < 0) = false := decide_eq_false c45
        clear c45
        by_cases c46 : t578 = t576
        ·
         rw [if_pos c46] at H
         have c46b0 : (t578 == t576) = true := beq_iff_eq.mpr c46
         have c46b1 : (t578 != t576) = false := bne_eq_false_iff_eq.mpr c46
         clear c46
         replace H := Option.bind_eq_some_iff.mp H
         obtain ⟨⟨t579, t580⟩, A470, H⟩ := H
         replace H : ((impl_ArrowText.f kj16 t579 t580).bind fun t583 => ((laws_eqStringS.f kj16 t583 t556).bind fun t586 => (if t586 = true then ((laws_heldStringS.f kj16 t577 1).bind fun t587 => (if t587 < 0 then (some false) else (if t587 = t576 then (some true) else (some false)))) else (some false)))) = some r := H
         have A47 := Aside0.mk A470
         clear A470
         replace H := Option.bind_eq_some_iff.mp H
         obtain ⟨t583, A480, H⟩ := H
         replace H : ((laws_eqStringS.f kj16 t583 t556).bind fun t586 => (if t586 = true then ((laws_heldStringS.f kj16 t577 1).bind fun t587 => (if t587 < 0 then (some false) else (if t587 = t576 then (some true) else (some false)))) else (some false))) = some r := H
         have A48 := Aside0.mk A480
         clear A480
         replace H := Option.bind_eq_some_iff.mp H
         obtain ⟨t586, A490, H⟩ := H
         replace H : (if t586 = true then ((laws_heldStringS.f kj16 t577 1).bind fun t587 => (if t587 < 0 then (some false) else (if t587 = t576 then (some true) else (some false)))) else (some false)) = some r := H
         have A49 := Aside0.mk A490
         clear A490
         by_cases c50 : t586 = true
         ·
          subst c50
          have H1 : ((laws_heldStringS.f kj16 t577 1).bind fun t587 => (if t587 < 0 then (some false) else (if t587 = t576 then (some true) else (some false)))) = some r := by rw [if_pos rfl] at H; exact H
          clear H
          have H := H1
          clear H1
          replace H := Option.bind_eq_some_iff.mp H
          obtain ⟨t587, A510, H⟩ := H
          replace H : (if t587 < 0 then (some false) else (if t587 = t576 then (some true) else (some false))) = some r := H
          have A51 := Aside0.mk A510
          clear A510
          by_cases c52 : t587 < 0
          ·
           rw [if_pos c52] at H
           exact absurd ((Option.some.inj H).trans HRT.out) Bool.false_ne_true
          ·
           rw [if_neg c52] at H
           have c52b0 : decide (t587 < 0) = false := decide_eq_false c52
           clear c52
           by_cases c53 : t587 = t576
           ·
            rw [if_pos c53] at H
            have c53b0 : (t587 == t576) = true := beq_iff_eq.mpr c53
            have c53b1 : (t587 != t576) = false := bne_eq_false_iff_eq.mpr c53
            clear c53
            obtain rfl := Option.some.inj H
            go_wp2_with (first | ((with_reducible refine gate_callee (f := 35) rfl ?_); refine goesL_ (some 45) rfl rfl Try.func35 q23_21 rfl #[.slice Ao32 t564.length co32, .int .i64 1] rfl q23_10 ?_; (with_reducible refine (laws_markStringS.calls kj16 (fun k_ => some k_ = (.slice Ao32 t564.length co32 : Value).ownBlock) (.slice Ao32 t564.length co32) t564 1 t576 t577 w _ ?side1 ?side2 A43.out).mono ?_); (case side1 => exact q23_4); (case side2 => exact Kd.R_tight rfl HO_6.out); rintro e w54 ⟨rfl, hy0, hb, hkp⟩; refine ⟨_, rfl, ?_⟩; have n0_ := Aside0.mk (Kd.R_mono (ok' := fun k_ => some k_ ≠ (.slice Ao32 t564.length co32 : Value).ownBlock) (Kd.R_keptB (HO_4.out) hkp (fun k_ hk_ hs_ => by first | exact hk_ hs_ | exact hk_.1.1.2 hs_ | exact hk_.1.1 hs_ | exact hk_.1.2 hs_ | exact hk_.2 hs_ | exact hk_.1 hs_ | exact hk_.1.1.1 hs_)) (fun k_ hk_ => hk_.1)); have n1_ := Aside0.mk (Kd.R_reok rfl hy0 (fun k_ e_ => HO_6.out.1 k_ e_)); have n2_ := Aside0.mk (Kd.R_mono (ok' := fun k_ => True) (Kd.R_keptB ((Kd.R_apart' HO_564001.out (Kd.R_typed HO_6.out) (by decide))) hkp (fun k_ hk_ hs_ => by first | exact hk_.2 hs_ | exact hk_.1.1.2 hs_ | exact hk_.1.1 hs_ | exact hk_.1.2 hs_ | exact hk_.1 hs_ | exact hk_.1.1.1 hs_ | exact hk_ hs_)) (fun k_ hk_ => trivial)); have n3_ := Aside0.mk (blk_kept q23_12 hkp (fun hs_ => (fun e_ => (Kd.R_ne HO_6.out BK550.out (by decide)) e_) hs_)); have n4_ := Aside0.mk (blk_kept q23_13 hkp (fun hs_ => (fun e_ => (Kd.R_ne HO_6.out BK563.out (by decide)) e_) hs_)); have n5_ := Aside0.mk (hb); clear HO_4; clear HO_6; clear HO_564001; clear BK550; clear BK563; clear HB; have HO_4 := n0_; have HO_6 := n1_; have HO_564001 := n2_; have BK550 := n3_; have BK563 := n4_; have HB := n5_; clear n0_ n1_ n2_ n3_ n4_ n5_; (try clear hb); (try clear hkp); (try clear hy0)) | ((with_reducible refine gate_callee (f := 36) rfl ?_); refine goesL_ (some 48) rfl rfl Try.func36 q23_21 rfl #[.slice Ao32 t577.length co32, .int .i64 1] rfl q23_3 ?_; (with_reducible refine (laws_heldStringS.calls kj16 _ _ t577 1 t578 _ ?side1 ?side2 A44.out).mono ?_); (case side1 => exact q23_8); (case side2 => rw [show t577.length = t564.length from (Kd.R_reads' HO_6.out).1.symm]; exact (Kd.R_reads' HO_6.out).2.1); rintro e w55 ⟨rfl, hb⟩; refine ⟨_, rfl, ?_⟩; have n0_ := Aside0.mk (Kd.R_below q23_18 hb); have n1_ := Aside0.mk (Kd.R_below q23_19 hb); have n2_ := Aside0.mk (Kd.R_below q23_14 hb); have n3_ := Aside0.mk (blk_below (g := gb550) (o := .cells #[.int .i64 a0_0, .slice A0_1 l0_1.length c0_1] 26 (0, 0)) q23_12 hb); have n4_ := Aside0.mk (blk_below (g := gb563) (o := .cells #[.int .i64 t559, .slice Ao30 t574.length co30] 33 (0, 0)) q23_13 hb); have n5_ := Aside0.mk (below_step q23_4 hb); clear HO_4; clear HO_6; clear HO_564001; clear BK550; clear BK563; clear HB; have HO_4 := n0_; have HO_6 := n1_; have HO_564001 := n2_; have BK550 := n3_; have BK563 := n4_; have HB := n5_; clear n0_ n1_ n2_ n3_ n4_ n5_; (try clear hb); (try clear hb2); (try clear hk); (try clear hi); have hnb56 := NB550_563.out; have hnc56 := NB563_550.out; have hcz57_0 : w55.cell? ⟨gb550, 0, none⟩ = some (.int .i64 a0_0) := (blk_cell BK550.out 0).trans rfl; have hcz57_1 : w55.cell? ⟨gb550, 1, none⟩ = some (.slice A0_1 l0_1.length c0_1) := (blk_cell BK550.out 1).trans rfl; have hfz57_0 := blk_frozen BK550.out 0; have hfz57_1 := blk_frozen BK550.out 1) | ((with_reducible refine gate_callee (f := 30) rfl ?_); refine goesL_ (some 55) rfl rfl Try.func30 q23_21 rfl #[.agg #[.int .i64 a0_0, .slice A0_1 l0_1.length c0_1]] rfl q23_10 ?_; (with_reducible refine (laws_toContext.calls kj16 a0_0 _ _ l0_1 t579 t580 _ ?side1 ?side2 A47.out).mono ?_); (case side1 => exact q23_5); (case side2 => exact HC0_1.out); rintro e w58 ⟨v581, rfl, ho0, hb⟩; refine ⟨_, rfl, ?_⟩; have n0_ := Aside0.mk (Kd.R_below q23_18 hb); have n1_ := Aside0.mk (Kd.R_below q23_19 hb); have n2_ := Aside0.mk (Kd.R_elder' q23_14 (Kd.R_base ho0) hb); have n3_ := Aside0.mk (Kd.R_lower (Kd.R_new' ho0 (Kd.R_lt q23_14)) (below_size q23_4)); have n4_ := Aside0.mk (blk_below (g := gb550) (o := .cells #[.int .i64 a0_0, .slice A0_1 l0_1.length c0_1] 26 (0, 0)) q23_12 hb); have n5_ := Aside0.mk (blk_below (g := gb563) (o := .cells #[.int .i64 t559, .slice Ao30 t574.length co30] 33 (0, 0)) q23_13 hb); have n6_ := Aside0.mk (below_step q23_4 hb); clear HO_4; clear HO_6; clear HO_564001; clear BK550; clear BK563; clear HB; have HO_4 := n0_; have HO_6 := n1_; have HO_564001 := n2_; have HO582 := n3_; have BK550 := n4_; have BK563 := n5_; have HB := n6_; clear n0_ n1_ n2_ n3_ n4_ n5_ n6_; (try clear hb); (try clear hb2); (try clear hk); (try clear hi); (try clear ho0); obtain ⟨Ao59, co59, eo59⟩ := Kd.R_slice HO582.out; subst eo59) | ((with_reducible refine gate_callee (f := 31) rfl ?_); refine goesL_ (some 56) rfl rfl Try.func31 q23_21 rfl #[.agg #[.int .i64 t579, .slice Ao59 t580.length co59]] rfl q23_10 ?_; (with_reducible refine (impl_ArrowText.calls kj16 t579 _ _ t580 t583 _ ?side1 ?side2 A48.out).mono ?_); (case side1 => repeat (first | exact (Kd.R_reads' HO582.out).2.2 | (with_reducible refine Kd.C_alloc ?_ _) | (with_reducible refine Kd.C_drewN ?_ _) | (with_reducible refine Kd.C_drew ?_))); (case side2 => exact (Kd.R_reads' HO582.out).2.1); rintro e w60 ⟨v584, rfl, ho0, hb⟩; refine ⟨_, rfl, ?_⟩; have n0_ := Aside0.mk (Kd.R_elder' q23_18 (Kd.R_base ho0) hb); have n1_ := Aside0.mk (Kd.R_elder' q23_19 (Kd.R_base ho0) hb); have n2_ := Aside0.mk (Kd.R_below q23_14 hb); have n3_ := Aside0.mk (Kd.R_below (by (with_reducible repeat (first | apply Kd.R_alloc | apply Kd.R_drewN | apply Kd.R_drew)); exact HO582.out) hb); have n4_ := Aside0.mk (Kd.R_lower (Kd.R_new' (Kd.R_new' ho0 (Kd.R_lt q23_18)) (Kd.R_lt q23_19)) (below_size q23_4)); have n5_ := Aside0.mk (blk_below (g := gb550) (o := .cells #[.int .i64 a0_0, .slice A0_1 l0_1.length c0_1] 26 (0, 0)) q23_12 hb); have n6_ := Aside0.mk (blk_below (g := gb563) (o := .cells #[.int .i64 t559, .slice Ao30 t574.length co30] 33 (0, 0)) q23_13 hb); have n7_ := Aside0.mk (below_step q23_4 hb); clear HO_4; clear HO_6; clear HO_564001; clear HO582; clear BK550; clear BK563; clear HB; have HO_4 := n0_; have HO_6 := n1_; have HO_564001 := n2_; have HO582 := n3_; have HO585 := n4_; have BK550 := n5_; have BK563 := n6_; have HB := n7_; clear n0_ n1_ n2_ n3_ n4_ n5_ n6_ n7_; (try clear hb); (try clear hb2); (try clear hk); (try clear hi); (try clear ho0); obtain ⟨Ao61, co61, eo61⟩ := Kd.R_slice HO585.out; subst eo61) | ((with_reducible refine gate_callee (f := 32) rfl ?_); refine goesL_ (some 59) rfl rfl Try.func32 q23_21 rfl #[.slice Ao61 t583.length co61, .slice Ao33 t556.length co33] rfl q23_10 ?_; (with_reducible refine (laws_eqStringS.calls kj16 _ _ t583 _ _ t556 true _ ?side1 ?side2 ?side3 ?side4 A49.out).mono ?_); (case side1 => repeat (first | exact (Kd.R_reads' HO585.out).2.2 | (with_reducible refine Kd.C_alloc ?_ _) | (with_reducible refine Kd.C_drewN ?_ _) | (with_reducible refine Kd.C_drew ?_))); (case side2 => exact (Kd.R_reads' HO585.out).2.1); (case side3 => repeat (first | exact (Kd.R_reads' HO_4.out).2.2 | (with_reducible refine Kd.C_alloc ?_ _) | (with_reducible refine Kd.C_drewN ?_ _) | (with_reducible refine Kd.C_drew ?_))); (case side4 => exact (Kd.R_reads' HO_4.out).2.1); rintro e w' ⟨rfl, ⟨nd, rfl⟩⟩; refine ⟨_, rfl, ?_⟩) | ((with_reducible refine gate_callee (f := 36) rfl ?_); refine goesL_ (some 63) rfl rfl Try.func36 q23_21 rfl #[.slice Ao32 t577.length co32, .int .i64 1] rfl q23_3 ?_; (with_reducible refine (laws_heldStringS.calls kj16 _ _ t577 1 t587 _ ?side1 ?side2 A51.out).mono ?_); (case side1 => exact q23_8); (case side2 => rw [show t577.length = t564.length from (Kd.R_reads' HO_6.out).1.symm]; exact (Kd.R_reads' HO_6.out).2.1); rintro e w62 ⟨rfl, hb⟩; refine ⟨_, rfl, ?_⟩; have n0_ := Aside0.mk (Kd.R_below q23_18 hb); have n1_ := Aside0.mk (Kd.R_below q23_19 hb); have n2_ := Aside0.mk (Kd.R_below q23_14 hb); have n3_ := Aside0.mk (Kd.R_below (by (with_reducible repeat (first | apply Kd.R_alloc | apply Kd.R_drewN | apply Kd.R_drew)); exact HO582.out) hb); have n4_ := Aside0.mk (Kd.R_below (by (with_reducible repeat (first | apply Kd.R_alloc | apply Kd.R_drewN | apply Kd.R_drew)); exact HO585.out) hb); have n5_ := Aside0.mk (blk_below (g := gb550) (o := .cells #[.int .i64 a0_0, .slice A0_1 l0_1.length c0_1] 26 (0, 0)) q23_12 hb); have n6_ := Aside0.mk (blk_below (g := gb563) (o := .cells #[.int .i64 t559, .slice Ao30 t574.length co30] 33 (0, 0)) q23_13 hb); have n7_ := Aside0.mk (below_step q23_4 hb); clear HO_4; clear HO_6; clear HO_564001; clear HO582; clear HO585; clear BK550; clear BK563; clear HB; have HO_4 := n0_; have HO_6 := n1_; have HO_564001 := n2_; have HO582 := n3_; have HO585 := n4_; have BK550 := n5_; have BK563 := n6_; have HB := n7_; clear n0_ n1_ n2_ n3_ n4_ n5_ n6_ n7_; (try clear hb); (try clear hb2); (try clear hk); (try clear hi)))
            go_ret
            exact ⟨by first | rfl | (simp [errW_none, errW_some] <;> rfl) | (simp [*, errW_none, errW_some] <;> rfl), by repeat (first | (with_reducible first | exact HB.out | apply below_alloc | apply pw_below_drewN | apply below_drew1 | refine below_set ?_ GE550.out | refine below_set ?_ GE563.out) | exact HB.out)⟩
           ·
            rw [if_neg c53] at H
            exact absurd ((Option.some.inj H).trans HRT.out) Bool.false_ne_true
         ·
          replace c50 := Bool.eq_false_iff.mpr c50
          subst c50
          have H1 : (some false) = some r := q23_20
          clear H
          have H := H1
          clear H1
          exact absurd ((Option.some.inj H).trans HRT.out) Bool.false_ne_true
        ·
         rw [if_neg c46] at H
         exact absurd ((Option.some.inj H).trans HRT.out) Bool.false_ne_true
   ·
    replace c15 := Bool.eq_false_iff.mpr c15
    subst c15
    have H1 : (some false) = some r := q23_20
    clear H
    have H := H1
    clear H1
    exact absurd ((Option.some.inj H).trans HRT.out) Bool.false_ne_true
  ·
   replace c12 := Bool.eq_false_iff.mpr c12
   subst c12
   have H1 : (some false) = some r := q23_20
   clear H
   have H := H1
   clear H1
   exact absurd ((Option.some.inj H).trans HRT.out) Bool.false_ne_true
end Go.Proofs.Ytamjnninbdnjhaa.Pr
