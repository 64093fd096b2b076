/- What the law needs of the program's functions as plain functions, of the proofs that their calls answer so, and of plain laws: gathered by a program of this place (pack.py) out of its printed texts. No condition beyond what each statement says. -/
import Derived.Test.YtamjnninbdnjhaaZXCountAccepted2
import Derived.Test.YtamjnninbdnjhaaZXCountAccepted6
import Derived.Test.YtamjnninbdnjhaaZXCountAccepted7
namespace Go.Proofs.Ytamjnninbdnjhaa.Pr
open Go.RowKit Go.Proofs.YtamjnninbdnjhaaW.PrintWords Go.Proofs.YtamjnninbdnjhaaW.PrintLast Go.Proofs.YtamjnninbdnjhaaW.PrintMore
attribute [local go_sem] max2_int min2_int max_two min_two max_three min_three max_four min_four   -- for this text's walks alone
set_option linter.unusedVariables false
set_option linter.unusedSimpArgs false
theorem put21_ {P : Prop} (h : P := by simp only [Act.put, List.setIfInBounds_toArray, List.set_cons_zero, List.set_cons_succ, i64_w, i32_w]; rfl) : P := h
theorem q21_1 {P : Prop} (h : P := by (with_reducible repeat (first | apply Kd.R_alloc | apply Kd.R_drewN | apply Kd.R_drew)); exact (Kd.R_mono (Kd.R_far (p := ⟨gb205, 3, none⟩) (Kd.R_far (p := ⟨gb205, 2, none⟩) (Kd.R_far (p := ⟨gb205, 1, none⟩) (Kd.R_far (p := ⟨gb205, 0, none⟩) (Kd.R_types HO197.out BK205.out (by decide)) (fun _ hk => hk.2) (.slice Ao27 t195.length co27)) (fun _ hk => hk.2) (.slice Ao30 t198.length co30)) (fun _ hk => hk.2) (.int .i64 t201)) (fun _ hk => hk.2) (.slice Ao31 t202.length co31)) (fun _ h_ => h_.1))) : P := h
theorem q21_2 {P : Prop} (h : P := by (with_reducible repeat (first | apply Kd.R_alloc | apply Kd.R_drewN | apply Kd.R_drew)); exact (Kd.R_mono (Kd.R_far (p := ⟨gb205, 3, none⟩) (Kd.R_far (p := ⟨gb205, 2, none⟩) (Kd.R_far (p := ⟨gb205, 1, none⟩) (Kd.R_far (p := ⟨gb205, 0, none⟩) (Kd.R_types HO200.out BK205.out (by decide)) (fun _ hk => hk.2) (.slice Ao27 t195.length co27)) (fun _ hk => hk.2) (.slice Ao30 t198.length co30)) (fun _ hk => hk.2) (.int .i64 t201)) (fun _ hk => hk.2) (.slice Ao31 t202.length co31)) (fun _ h_ => h_.1))) : P := h
theorem q21_3 {P : Prop} (h : P := by (with_reducible repeat (first | apply Kd.R_alloc | apply Kd.R_drewN | apply Kd.R_drew)); exact (Kd.R_mono (Kd.R_far (p := ⟨gb205, 3, none⟩) (Kd.R_far (p := ⟨gb205, 2, none⟩) (Kd.R_far (p := ⟨gb205, 1, none⟩) (Kd.R_far (p := ⟨gb205, 0, none⟩) (Kd.R_types HO204.out BK205.out (by decide)) (fun _ hk => hk.2) (.slice Ao27 t195.length co27)) (fun _ hk => hk.2) (.slice Ao30 t198.length co30)) (fun _ hk => hk.2) (.int .i64 t201)) (fun _ hk => hk.2) (.slice Ao31 t202.length co31)) (fun _ h_ => h_.1))) : P := h
theorem q21_4 {P : Prop} (h : P := by repeat (first | (with_reducible first | exact HB.out | apply below_alloc | apply pw_below_drewN | apply below_drew1 | refine below_set ?_ GE182.out | refine below_set ?_ GE205.out) | exact HB.out)) : P := h
theorem q21_5 {P : Prop} (h : P := by repeat (first | exact (Kd.C_below HR0_0.out HB.out) | (with_reducible refine Kd.C_alloc ?_ _) | (with_reducible refine Kd.C_drewN ?_ _) | (with_reducible refine Kd.C_drew ?_))) : P := h
theorem q21_6 {P : Prop} (h : P := by repeat (first | exact (Kd.C_below HR0_1.out HB.out) | (with_reducible refine Kd.C_alloc ?_ _) | (with_reducible refine Kd.C_drewN ?_ _) | (with_reducible refine Kd.C_drew ?_))) : P := h
theorem q21_7 {P : Prop} (h : P := by repeat (first | exact (Kd.C_below HR0_3.out HB.out) | (with_reducible refine Kd.C_alloc ?_ _) | (with_reducible refine Kd.C_drewN ?_ _) | (with_reducible refine Kd.C_drew ?_))) : P := h
theorem q21_8 {P : Prop} (h : P := by repeat (first | (with_reducible first | exact HB.out | apply below_alloc | apply pw_below_drewN | apply below_drew1 | refine below_set ?_ GE182.out) | exact HB.out)) : P := h
theorem q21_9 {P : Prop} (h : P := by (try simp only [List.map_toArray, List.map_cons, List.map_nil]); first | done | rfl | (simp only [List.length_drop, List.length_take]; rfl)) : P := h
theorem q21_10 {P : Prop} (h : P := by repeat (first | (with_reducible first | exact HB.out | apply below_alloc | apply pw_below_drewN | apply below_drew1) | exact HB.out)) : P := h
theorem q21_11 {P : Prop} (h : P := by (with_reducible repeat (first | refine blk_drewN ?_ _ | refine blk_drew ?_ | refine blk_alloc ?_ _)); exact BK182.out) : P := h
theorem q21_12 {P : Prop} (h : P := by (with_reducible repeat (first | refine blk_drewN ?_ _ | refine blk_drew ?_ | refine blk_alloc ?_ _)); exact BK205.out) : P := h
theorem q21_13 {P : Prop} (h : P := by (with_reducible repeat (first | apply Kd.R_alloc | apply Kd.R_drewN | apply Kd.R_drew)); exact HO186.out) : P := h
theorem q21_14 {P : Prop} (h : P := by (with_reducible repeat (first | apply Kd.R_alloc | apply Kd.R_drewN | apply Kd.R_drew)); exact HO189.out) : P := h
theorem q21_15 {P : Prop} (h : P := by (with_reducible repeat (first | apply Kd.R_alloc | apply Kd.R_drewN | apply Kd.R_drew)); exact HO193.out) : P := h
theorem q21_16 {P : Prop} (h : P := by (with_reducible repeat (first | apply Kd.R_alloc | apply Kd.R_drewN | apply Kd.R_drew)); exact HO197.out) : P := h
theorem q21_17 {P : Prop} (h : P := by (with_reducible repeat (first | apply Kd.R_alloc | apply Kd.R_drewN | apply Kd.R_drew)); exact HO200.out) : P := h
theorem q21_18 {P : Prop} (h : P := by (with_reducible repeat (first | apply Kd.R_alloc | apply Kd.R_drewN | apply Kd.R_drew)); exact HO204.out) : P := h
theorem q21_19 {P : Prop} (h : P := by kernel_rfl) : P := h
def laws_FnExactCountAccepted.f (k : Nat) (l0_0 : List (S97)) (l0_1 : List (S40)) (a0_2 : Int) (l0_3 : List Int) : Option (Bool) := (laws_szExploration.f l0_0 l0_1 a0_2 l0_3 1048576).bind fun t183 => (if t183 < 0 then (some true) else ((laws_toExploration.f k l0_0 l0_1 a0_2 l0_3).bind fun bt184 => ((spec_CountAccepted.f k bt184.1 bt184.2.1 bt184.2.2.1 bt184.2.2.2).bind fun t194 => ((laws_toExploration.f k l0_0 l0_1 a0_2 l0_3).bind fun bt195 => ((impl_CountAccepted.f k bt195.1 bt195.2.1 bt195.2.2.1 bt195.2.2.2).bind fun t206 => (if t206 = t194 then ((laws_toExploration.f k l0_0 l0_1 a0_2 l0_3).bind fun bt207 => ((laws_eqExploration.f k bt195.1 bt195.2.1 bt195.2.2.1 bt195.2.2.2 bt207.1 bt207.2.1 bt207.2.2.1 bt207.2.2.2).bind fun t217 => (if t217 = true then (some true) else (some false)))) else (some false)))))))
set_option maxHeartbeats 8000000 in
set_option maxRecDepth 100000 in
theorem laws_FnExactCountAccepted.calls (k : Nat) (A0_0 : Option Addr) (c0_0 : Nat) (l0_0 : List (S97)) (A0_1 : Option Addr) (c0_1 : Nat) (l0_1 : List (S40)) (a0_2 : Int) (A0_3 : Option Addr) (c0_3 : Nat) (l0_3 : List Int) (r : Bool) (w : World) (hr0_0 : Kd.C k97 w A0_0 l0_0.length l0_0) (hc0_0 : l0_0.length ≤ c0_0) (hr0_1 : Kd.C k40 w A0_1 l0_1.length l0_1) (hc0_1 : l0_1.length ≤ c0_1) (hr0_3 : Kd.C (Kd.int .i64) w A0_3 l0_3.length l0_3) (hc0_3 : l0_3.length ≤ c0_3) (hrt : r = true) (h : laws_FnExactCountAccepted.f k l0_0 l0_1 a0_2 l0_3 = some r) :
  Calls Try.prog 3 #[.agg #[.slice A0_0 l0_0.length c0_0, .slice A0_1 l0_1.length c0_1, .int .i64 a0_2, .slice A0_3 l0_3.length c0_3]] w fun e w' => e = .returned (.bool r) ∧ Below w.heap.size w w' := by
 have hu28 := Try.underlying28
 have hu35 := Try.underlying35
 have HR0_0 := Aside0.mk hr0_0
 have HC0_0 := Aside0.mk hc0_0
 clear hr0_0 hc0_0
 have HR0_1 := Aside0.mk hr0_1
 have HC0_1 := Aside0.mk hc0_1
 clear hr0_1 hc0_1
 have HR0_3 := Aside0.mk hr0_3
 have HC0_3 := Aside0.mk hc0_3
 clear hr0_3 hc0_3
 have HB := Aside0.mk (Below.refl w.heap.size w)
 have HRT := Aside0.mk hrt
 clear hrt
 have H : ((laws_szExploration.f l0_0 l0_1 a0_2 l0_3 1048576).bind fun t183 => (if t183 < 0 then (some true) else ((laws_toExploration.f k l0_0 l0_1 a0_2 l0_3).bind fun bt184 => ((spec_CountAccepted.f k bt184.1 bt184.2.1 bt184.2.2.1 bt184.2.2.2).bind fun t194 => ((laws_toExploration.f k l0_0 l0_1 a0_2 l0_3).bind fun bt195 => ((impl_CountAccepted.f k bt195.1 bt195.2.1 bt195.2.2.1 bt195.2.2.2).bind fun t206 => (if t206 = t194 then ((laws_toExploration.f k l0_0 l0_1 a0_2 l0_3).bind fun bt207 => ((laws_eqExploration.f k bt195.1 bt195.2.1 bt195.2.2.1 bt195.2.2.2 bt207.1 bt207.2.1 bt207.2.2.1 bt207.2.2.2).bind fun t217 => (if t217 = true then (some true) else (some false)))) else (some false)))))))) = some r := h
 clear h
 replace H := Option.bind_eq_some_iff.mp H
 obtain ⟨t183, A20, H⟩ := H
 replace H : (if t183 < 0 then (some true) else ((laws_toExploration.f k l0_0 l0_1 a0_2 l0_3).bind fun bt184 => ((spec_CountAccepted.f k bt184.1 bt184.2.1 bt184.2.2.1 bt184.2.2.2).bind fun t194 => ((laws_toExploration.f k l0_0 l0_1 a0_2 l0_3).bind fun bt195 => ((impl_CountAccepted.f k bt195.1 bt195.2.1 bt195.2.2.1 bt195.2.2.2).bind fun t206 => (if t206 = t194 then ((laws_toExploration.f k l0_0 l0_1 a0_2 l0_3).bind fun bt207 => ((laws_eqExploration.f k bt195.1 bt195.2.1 bt195.2.2.1 bt195.2.2.2 bt207.1 bt207.2.1 bt207.2.2.1 bt207.2.2.2).bind fun t217 => (if t217 = true then (some true) else (some false)))) else (some false))))))) = some r := H
 have A2 := Aside0.mk A20
 clear A20
 by_cases c3 : t183 < 0
 ·
  rw [if_pos c3] at H
  have c3b0 : decide (t183 < 0) = true := decide_eq_true c3
  clear c3
  obtain rfl := Option.some.inj H
  go_enter Try.func3, Try.ntmps3
  go_wp2_with (first | ((with_reducible refine gate_dst (N := 1) rfl ?_); refine box_event ?hg (N := 1) ?hd (cs := #[.slice A0_0 l0_0.length c0_0, .slice A0_1 l0_1.length c0_1, .int .i64 a0_2, .slice A0_3 l0_3.length c0_3]) (t := 28) ?hr ?_; (case hd => rfl); (case hg => rfl); (case hr => first | (go_simp; done) | (go_simp; rfl)); intro gb182 hg w4 hbox hb; have n0_ := Aside0.mk (below_step q21_10 hb); have n1_ := Aside0.mk (hbox); have n2_ := Aside0.mk ((by rw [hg]; exact (below_size q21_10) : w.heap.size ≤ gb182)); have n3_ := Aside0.mk ((by rw [hg]; exact (below_size q21_10) : w.heap.size ≤ gb182)); clear HB; have HB := n0_; have BK182 := n1_; have GW182 := n2_; have GE182 := n3_; clear n0_ n1_ n2_ n3_; clear hb hbox hg; have hcz5_0 : w4.cell? ⟨gb182, 0, none⟩ = some (.slice A0_0 l0_0.length c0_0) := (blk_cell BK182.out 0).trans rfl; have hcz5_1 : w4.cell? ⟨gb182, 1, none⟩ = some (.slice A0_1 l0_1.length c0_1) := (blk_cell BK182.out 1).trans rfl; have hcz5_2 : w4.cell? ⟨gb182, 2, none⟩ = some (.int .i64 a0_2) := (blk_cell BK182.out 2).trans rfl; have hcz5_3 : w4.cell? ⟨gb182, 3, none⟩ = some (.slice A0_3 l0_3.length c0_3) := (blk_cell BK182.out 3).trans rfl; have hfz5_0 := blk_frozen BK182.out 0; have hfz5_1 := blk_frozen BK182.out 1; have hfz5_2 := blk_frozen BK182.out 2; have hfz5_3 := blk_frozen BK182.out 3) | ((with_reducible refine gate_callee (f := 8) rfl ?_); refine goesL_ (some 9) rfl rfl Try.func8 q21_19 rfl #[.agg #[.slice A0_0 l0_0.length c0_0, .slice A0_1 l0_1.length c0_1, .int .i64 a0_2, .slice A0_3 l0_3.length c0_3], .int .i64 1048576] rfl q21_9 ?_; (with_reducible refine (laws_szExploration.calls _ _ l0_0 _ _ l0_1 a0_2 _ _ l0_3 1048576 t183 _ ?side1 ?side2 ?side3 ?side4 ?side5 ?side6 A2.out).mono ?_); (case side1 => exact q21_5); (case side2 => exact HC0_0.out); (case side3 => exact q21_6); (case side4 => exact HC0_1.out); (case side5 => exact q21_7); (case side6 => exact HC0_3.out); rintro e w6 ⟨rfl, hb⟩; refine ⟨_, rfl, ?_⟩; have n0_ := Aside0.mk (blk_below (g := gb182) (o := .cells #[.slice A0_0 l0_0.length c0_0, .slice A0_1 l0_1.length c0_1, .int .i64 a0_2, .slice A0_3 l0_3.length c0_3] 28 (0, 0)) q21_11 hb); have n1_ := Aside0.mk (below_step q21_8 hb); clear BK182; clear HB; have BK182 := n0_; have HB := n1_; clear n0_ n1_; (try clear hb); (try clear hb2); (try clear hk); (try clear hi)))
  go_ret
  exact ⟨by first | rfl | (simp [errW_none, errW_some] <;> rfl) | (simp [*, errW_none, errW_some] <;> rfl), by repeat (first | (with_reducible first | exact HB.out | apply below_alloc | apply pw_below_drewN | apply below_drew1 | refine below_set ?_ GE182.out) | exact HB.out)⟩
 ·
  rw [if_neg c3] at H
  have c3b0 : decide (t183 < 0) = false := decide_eq_false c3
  clear c3
  replace H := Option.bind_eq_some_iff.mp H
  obtain ⟨⟨t184, t187, t190, t191⟩, A70, H⟩ := H
  replace H : ((spec_CountAccepted.f k t184 t187 t190 t191).bind fun t194 => ((laws_toExploration.f k l0_0 l0_1 a0_2 l0_3).bind fun bt195 => ((impl_CountAccepted.f k bt195.1 bt195.2.1 bt195.2.2.1 bt195.2.2.2).bind fun t206 => (if t206 = t194 then ((laws_toExploration.f k l0_0 l0_1 a0_2 l0_3).bind fun bt207 => ((laws_eqExploration.f k bt195.1 bt195.2.1 bt195.2.2.1 bt195.2.2.2 bt207.1 bt207.2.1 bt207.2.2.1 bt207.2.2.2).bind fun t217 => (if t217 = true then (some true) else (some false)))) else (some false))))) = some r := H
  have A7 := Aside0.mk A70
  clear A70
  replace H := Option.bind_eq_some_iff.mp H
  obtain ⟨t194, A80, H⟩ := H
  replace H : ((laws_toExploration.f k l0_0 l0_1 a0_2 l0_3).bind fun bt195 => ((impl_CountAccepted.f k bt195.1 bt195.2.1 bt195.2.2.1 bt195.2.2.2).bind fun t206 => (if t206 = t194 then ((laws_toExploration.f k l0_0 l0_1 a0_2 l0_3).bind fun bt207 => ((laws_eqExploration.f k bt195.1 bt195.2.1 bt195.2.2.1 bt195.2.2.2 bt207.1 bt207.2.1 bt207.2.2.1 bt207.2.2.2).bind fun t217 => (if t217 = true then (some true) else (some false)))) else (some false)))) = some r := H
  have A8 := Aside0.mk A80
  clear A80
  replace H := Option.bind_eq_some_iff.mp H
  obtain ⟨⟨t195, t198, t201, t202⟩, A90, H⟩ := H
  replace H : ((impl_CountAccepted.f k t195 t198 t201 t202).bind fun t206 => (if t206 = t194 then ((laws_toExploration.f k l0_0 l0_1 a0_2 l0_3).bind fun bt207 => ((laws_eqExploration.f k t195 t198 t201 t202 bt207.1 bt207.2.1 bt207.2.2.1 bt207.2.2.2).bind fun t217 => (if t217 = true then (some true) else (some false)))) else (some false))) = some r := H
  have A9 := Aside0.mk A90
  clear A90
  replace H := Option.bind_eq_some_iff.mp H
  obtain ⟨t206, A100, H⟩ := H
  replace H : (if t206 = t194 then ((laws_toExploration.f k l0_0 l0_1 a0_2 l0_3).bind fun bt207 => ((laws_eqExploration.f k t195 t198 t201 t202 bt207.1 bt207.2.1 bt207.2.2.1 bt207.2.2.2).bind fun t217 => (if t217 = true then (some true) else (some false)))) else (some false)) = some r := H
  have A10 := Aside0.mk A100
  clear A100
  by_cases c11 : t206 = t194
  ·
   rw [if_pos c11] at H
   have c11b0 : (t206 == t194) = true := beq_iff_eq.mpr c11
   have c11b1 : (t206 != t194) = false := bne_eq_false_iff_eq.mpr c11
   clear c11
   replace H := Option.bind_eq_some_iff.mp H
   obtain ⟨⟨t207, t210, t213, t214⟩, A120, H⟩ := H
   replace H : ((laws_eqExploration.f k t195 t198 t201 t202 t207 t210 t213 t214).bind fun t217 => (if t217 = true then (some true) else (some false))) = some r := H
   have A12 := Aside0.mk A120
   clear A120
   replace H := Option.bind_eq_some_iff.mp H
   obtain ⟨t217, A130, H⟩ := H
   replace H : (if t217 = true then (some true) else (some false)) = some r := H
   have A13 := Aside0.mk A130
   clear A130
   by_cases c14 : t217 = true
   ·
    subst c14
    have H1 : (some true) = some r := by rw [if_pos rfl] at H; exact H
    clear H
    have H := H1
    clear H1
    obtain rfl := Option.some.inj H
    go_enter Try.func3, Try.ntmps3
    try go_wp2_with (first | ((with_reducible refine gate_dst (N := 1) rfl ?_); refine box_event ?hg (N := 1) ?hd (cs := #[.slice A0_0 l0_0.length c0_0, .slice A0_1 l0_1.length c0_1, .int .i64 a0_2, .slice A0_3 l0_3.length c0_3]) (t := 28) ?hr ?_; (case hd => rfl); (case hg => rfl); (case hr => first | (go_simp; done) | (go_simp; rfl)); intro gb182 hg w15 hbox hb; have n0_ := Aside0.mk (below_step q21_10 hb); have n1_ := Aside0.mk (hbox); have n2_ := Aside0.mk ((by rw [hg]; exact (below_size q21_10) : w.heap.size ≤ gb182)); have n3_ := Aside0.mk ((by rw [hg]; exact (below_size q21_10) : w.heap.size ≤ gb182)); clear HB; have HB := n0_; have BK182 := n1_; have GW182 := n2_; have GE182 := n3_; clear n0_ n1_ n2_ n3_; clear hb hbox hg; have hcz16_0 : w15.cell? ⟨gb182, 0, none⟩ = some (.slice A0_0 l0_0.length c0_0) := (blk_cell BK182.out 0).trans rfl; have hcz16_1 : w15.cell? ⟨gb182, 1, none⟩ = some (.slice A0_1 l0_1.length c0_1) := (blk_cell BK182.out 1).trans rfl; have hcz16_2 : w15.cell? ⟨gb182, 2, none⟩ = some (.int .i64 a0_2) := (blk_cell BK182.out 2).trans rfl; have hcz16_3 : w15.cell? ⟨gb182, 3, none⟩ = some (.slice A0_3 l0_3.length c0_3) := (blk_cell BK182.out 3).trans rfl; have hfz16_0 := blk_frozen BK182.out 0; have hfz16_1 := blk_frozen BK182.out 1; have hfz16_2 := blk_frozen BK182.out 2; have hfz16_3 := blk_frozen BK182.out 3) | ((with_reducible refine gate_callee (f := 8) rfl ?_); refine goesL_ (some 9) rfl rfl Try.func8 q21_19 rfl #[.agg #[.slice A0_0 l0_0.length c0_0, .slice A0_1 l0_1.length c0_1, .int .i64 a0_2, .slice A0_3 l0_3.length c0_3], .int .i64 1048576] rfl q21_9 ?_; (with_reducible refine (laws_szExploration.calls _ _ l0_0 _ _ l0_1 a0_2 _ _ l0_3 1048576 t183 _ ?side1 ?side2 ?side3 ?side4 ?side5 ?side6 A2.out).mono ?_); (case side1 => exact q21_5); (case side2 => exact HC0_0.out); (case side3 => exact q21_6); (case side4 => exact HC0_1.out); (case side5 => exact q21_7); (case side6 => exact HC0_3.out); rintro e w17 ⟨rfl, hb⟩; refine ⟨_, rfl, ?_⟩; have n0_ := Aside0.mk (blk_below (g := gb182) (o := .cells #[.slice A0_0 l0_0.length c0_0, .slice A0_1 l0_1.length c0_1, .int .i64 a0_2, .slice A0_3 l0_3.length c0_3] 28 (0, 0)) q21_11 hb); have n1_ := Aside0.mk (below_step q21_8 hb); clear BK182; clear HB; have BK182 := n0_; have HB := n1_; clear n0_ n1_; (try clear hb); (try clear hb2); (try clear hk); (try clear hi); have hcz18_0 : w17.cell? ⟨gb182, 0, none⟩ = some (.slice A0_0 l0_0.length c0_0) := (blk_cell BK182.out 0).trans rfl; have hcz18_1 : w17.cell? ⟨gb182, 1, none⟩ = some (.slice A0_1 l0_1.length c0_1) := (blk_cell BK182.out 1).trans rfl; have hcz18_2 : w17.cell? ⟨gb182, 2, none⟩ = some (.int .i64 a0_2) := (blk_cell BK182.out 2).trans rfl; have hcz18_3 : w17.cell? ⟨gb182, 3, none⟩ = some (.slice A0_3 l0_3.length c0_3) := (blk_cell BK182.out 3).trans rfl; have hfz18_0 := blk_frozen BK182.out 0; have hfz18_1 := blk_frozen BK182.out 1; have hfz18_2 := blk_frozen BK182.out 2; have hfz18_3 := blk_frozen BK182.out 3) | ((with_reducible refine gate_callee (f := 10) rfl ?_); refine goesL_ (some 13) rfl rfl Try.func10 q21_19 rfl #[.agg #[.slice A0_0 l0_0.length c0_0, .slice A0_1 l0_1.length c0_1, .int .i64 a0_2, .slice A0_3 l0_3.length c0_3]] rfl q21_9 ?_; (with_reducible refine (laws_toExploration.calls k _ _ l0_0 _ _ l0_1 a0_2 _ _ l0_3 t184 t187 t190 t191 _ ?side1 ?side2 ?side3 ?side4 ?side5 ?side6 A7.out).mono ?_); (case side1 => exact q21_5); (case side2 => exact HC0_0.out); (case side3 => exact q21_6); (case side4 => exact HC0_1.out); (case side5 => exact q21_7); (case side6 => exact HC0_3.out); rintro e w19 ⟨v185, v188, v192, rfl, ho0, ho1, ho2, hb⟩; refine ⟨_, rfl, ?_⟩; have n0_ := Aside0.mk (Kd.R_lower ho0 (below_size q21_8)); have n1_ := Aside0.mk (Kd.R_lower ho1 (below_size q21_8)); have n2_ := Aside0.mk (Kd.R_lower ho2 (below_size q21_8)); have n3_ := Aside0.mk (blk_below (g := gb182) (o := .cells #[.slice A0_0 l0_0.length c0_0, .slice A0_1 l0_1.length c0_1, .int .i64 a0_2, .slice A0_3 l0_3.length c0_3] 28 (0, 0)) q21_11 hb); have n4_ := Aside0.mk (below_step q21_8 hb); clear BK182; clear HB; have HO186 := n0_; have HO189 := n1_; have HO193 := n2_; have BK182 := n3_; have HB := n4_; clear n0_ n1_ n2_ n3_ n4_; (try clear hb); (try clear hb2); (try clear hk); (try clear hi); (try clear ho0); (try clear ho1); (try clear ho2); obtain ⟨Ao20, co20, eo20⟩ := Kd.R_slice HO186.out; subst eo20; obtain ⟨Ao21, co21, eo21⟩ := Kd.R_slice HO189.out; subst eo21; obtain ⟨Ao22, co22, eo22⟩ := Kd.R_slice HO193.out; subst eo22) | ((with_reducible refine gate_callee (f := 9) rfl ?_); refine goesL_ (some 14) rfl rfl Try.func9 q21_19 rfl #[.agg #[.slice Ao20 t184.length co20, .slice Ao21 t187.length co21, .int .i64 t190, .slice Ao22 t191.length co22]] rfl q21_9 ?_; (with_reducible refine (spec_CountAccepted.calls k _ _ t184 _ _ t187 t190 _ _ t191 t194 _ ?side1 ?side2 ?side3 ?side4 ?side5 ?side6 A8.out).mono ?_); (case side1 => repeat (first | exact (Kd.R_reads' HO186.out).2.2 | (with_reducible refine Kd.C_alloc ?_ _) | (with_reducible refine Kd.C_drewN ?_ _) | (with_reducible refine Kd.C_drew ?_))); (case side2 => exact (Kd.R_reads' HO186.out).2.1); (case side3 => repeat (first | exact (Kd.R_reads' HO189.out).2.2 | (with_reducible refine Kd.C_alloc ?_ _) | (with_reducible refine Kd.C_drewN ?_ _) | (with_reducible refine Kd.C_drew ?_))); (case side4 => exact (Kd.R_reads' HO189.out).2.1); (case side5 => repeat (first | exact (Kd.R_reads' HO193.out).2.2 | (with_reducible refine Kd.C_alloc ?_ _) | (with_reducible refine Kd.C_drewN ?_ _) | (with_reducible refine Kd.C_drew ?_))); (case side6 => exact (Kd.R_reads' HO193.out).2.1); rintro e w23 ⟨rfl, hb⟩; refine ⟨_, rfl, ?_⟩; have n0_ := Aside0.mk (Kd.R_below q21_13 hb); have n1_ := Aside0.mk (Kd.R_below q21_14 hb); have n2_ := Aside0.mk (Kd.R_below q21_15 hb); have n3_ := Aside0.mk (blk_below (g := gb182) (o := .cells #[.slice A0_0 l0_0.length c0_0, .slice A0_1 l0_1.length c0_1, .int .i64 a0_2, .slice A0_3 l0_3.length c0_3] 28 (0, 0)) q21_11 hb); have n4_ := Aside0.mk (below_step q21_8 hb); clear HO186; clear HO189; clear HO193; clear BK182; clear HB; have HO186 := n0_; have HO189 := n1_; have HO193 := n2_; have BK182 := n3_; have HB := n4_; clear n0_ n1_ n2_ n3_ n4_; (try clear hb); (try clear hb2); (try clear hk); (try clear hi); have hcz24_0 : w23.cell? ⟨gb182, 0, none⟩ = some (.slice A0_0 l0_0.length c0_0) := (blk_cell BK182.out 0).trans rfl; have hcz24_1 : w23.cell? ⟨gb182, 1, none⟩ = some (.slice A0_1 l0_1.length c0_1) := (blk_cell BK182.out 1).trans rfl; have hcz24_2 : w23.cell? ⟨gb182, 2, none⟩ = some (.int .i64 a0_2) := (blk_cell BK182.out 2).trans rfl; have hcz24_3 : w23.cell? ⟨gb182, 3, none⟩ = some (.slice A0_3 l0_3.length c0_3) := (blk_cell BK182.out 3).trans rfl; have hfz24_0 := blk_frozen BK182.out 0; have hfz24_1 := blk_frozen BK182.out 1; have hfz24_2 := blk_frozen BK182.out 2; have hfz24_3 := blk_frozen BK182.out 3) | ((with_reducible refine gate_callee (f := 10) rfl ?_); refine goesL_ (some 16) rfl rfl Try.func10 q21_19 rfl #[.agg #[.slice A0_0 l0_0.length c0_0, .slice A0_1 l0_1.length c0_1, .int .i64 a0_2, .slice A0_3 l0_3.length c0_3]] rfl q21_9 ?_; (with_reducible refine (laws_toExploration.calls k _ _ l0_0 _ _ l0_1 a0_2 _ _ l0_3 t195 t198 t201 t202 _ ?side1 ?side2 ?side3 ?side4 ?side5 ?side6 A9.out).mono ?_); (case side1 => exact q21_5); (case side2 => exact HC0_0.out); (case side3 => exact q21_6); (case side4 => exact HC0_1.out); (case side5 => exact q21_7); (case side6 => exact HC0_3.out); rintro e w25 ⟨v196, v199, v203, rfl, ho0, ho1, ho2, hb⟩; refine ⟨_, rfl, ?_⟩; have n0_ := Aside0.mk (Kd.R_elder' q21_13 (Kd.R_base ho0) hb); have n1_ := Aside0.mk (Kd.R_elder' q21_14 (Kd.R_base ho1) hb); have n2_ := Aside0.mk (Kd.R_elder' q21_15 (Kd.R_base ho2) hb); have n3_ := Aside0.mk (Kd.R_lower (Kd.R_new' ho0 (Kd.R_lt q21_13)) (below_size q21_8)); have n4_ := Aside0.mk (Kd.R_lower (Kd.R_new' ho1 (Kd.R_lt q21_14)) (below_size q21_8)); have n5_ := Aside0.mk (Kd.R_lower (Kd.R_new' ho2 (Kd.R_lt q21_15)) (below_size q21_8)); have n6_ := Aside0.mk (blk_below (g := gb182) (o := .cells #[.slice A0_0 l0_0.length c0_0, .slice A0_1 l0_1.length c0_1, .int .i64 a0_2, .slice A0_3 l0_3.length c0_3] 28 (0, 0)) q21_11 hb); have n7_ := Aside0.mk (below_step q21_8 hb); clear HO186; clear HO189; clear HO193; clear BK182; clear HB; have HO186 := n0_; have HO189 := n1_; have HO193 := n2_; have HO197 := n3_; have HO200 := n4_; have HO204 := n5_; have BK182 := n6_; have HB := n7_; clear n0_ n1_ n2_ n3_ n4_ n5_ n6_ n7_; (try clear hb); (try clear hb2); (try clear hk); (try clear hi); (try clear ho0); (try clear ho1); (try clear ho2)) | ((with_reducible refine gate_dst (N := 5) rfl ?_); refine box_event ?hg (N := 5) ?hd (cs := #[.slice none 0 0, .slice none 0 0, .int .i64 0, .slice none 0 0]) (t := 35) ?hr ?_; (case hd => rfl); (case hg => rfl); (case hr => first | (go_simp; done) | (go_simp; rfl)); intro gb205 hg w26 hbox hb; have n0_ := Aside0.mk (Kd.R_below q21_13 hb); have n1_ := Aside0.mk (Kd.R_below q21_14 hb); have n2_ := Aside0.mk (Kd.R_below q21_15 hb); have n3_ := Aside0.mk (Kd.R_below q21_16 hb); have n4_ := Aside0.mk (Kd.R_below q21_17 hb); have n5_ := Aside0.mk (Kd.R_below q21_18 hb); have n6_ := Aside0.mk (blk_below (g := gb182) (o := .cells #[.slice A0_0 l0_0.length c0_0, .slice A0_1 l0_1.length c0_1, .int .i64 a0_2, .slice A0_3 l0_3.length c0_3] 28 (0, 0)) q21_11 hb); have n7_ := Aside0.mk (below_step q21_8 hb); have n8_ := Aside0.mk (hbox); have n9_ := Aside0.mk ((by rw [hg]; exact (below_size q21_8) : w.heap.size ≤ gb205)); have n10_ := Aside0.mk ((by rw [hg]; exact (below_size q21_8) : w.heap.size ≤ gb205)); have n11_ := Aside0.mk ((by rw [hg]; exact Nat.ne_of_lt (blk_lt (g := gb182) (o := .cells #[.slice A0_0 l0_0.length c0_0, .slice A0_1 l0_1.length c0_1, .int .i64 a0_2, .slice A0_3 l0_3.length c0_3] 28 (0, 0)) q21_11) : gb182 ≠ gb205)); have n12_ := Aside0.mk ((by rw [hg]; exact Nat.ne_of_gt (blk_lt (g := gb182) (o := .cells #[.slice A0_0 l0_0.length c0_0, .slice A0_1 l0_1.length c0_1, .int .i64 a0_2, .slice A0_3 l0_3.length c0_3] 28 (0, 0)) q21_11) : gb205 ≠ gb182)); clear HO186; clear HO189; clear HO193; clear HO197; clear HO200; clear HO204; clear BK182; clear HB; have HO186 := n0_; have HO189 := n1_; have HO193 := n2_; have HO197 := n3_; have HO200 := n4_; have HO204 := n5_; have BK182 := n6_; have HB := n7_; have BK205 := n8_; have GW205 := n9_; have GE205 := n10_; have NB182_205 := n11_; have NB205_182 := n12_; clear n0_ n1_ n2_ n3_ n4_ n5_ n6_ n7_ n8_ n9_ n10_ n11_ n12_; clear hb hbox hg; obtain ⟨Ao27, co27, eo27⟩ := Kd.R_slice HO197.out; subst eo27; have hnb28 := NB205_182.out; have hnc28 := NB182_205.out; have hcz29_0 : w26.cell? ⟨gb205, 0, none⟩ = some (.slice none 0 0) := (blk_cell BK205.out 0).trans rfl; have hcz29_1 : w26.cell? ⟨gb205, 1, none⟩ = some (.slice none 0 0) := (blk_cell BK205.out 1).trans rfl; have hcz29_2 : w26.cell? ⟨gb205, 2, none⟩ = some (.int .i64 0) := (blk_cell BK205.out 2).trans rfl; have hcz29_3 : w26.cell? ⟨gb205, 3, none⟩ = some (.slice none 0 0) := (blk_cell BK205.out 3).trans rfl; have hfz29_0 := blk_frozen BK205.out 0; have hfz29_1 := blk_frozen BK205.out 1; have hfz29_2 := blk_frozen BK205.out 2; have hfz29_3 := blk_frozen BK205.out 3; obtain ⟨Ao30, co30, eo30⟩ := Kd.R_slice HO200.out; subst eo30; obtain ⟨Ao31, co31, eo31⟩ := Kd.R_slice HO204.out; subst eo31) | ((with_reducible refine gate_callee (f := 11) rfl ?_); refine goesL_ (some 18) rfl rfl Try.func11 q21_19 rfl #[.agg #[.slice Ao27 t195.length co27, .slice Ao30 t198.length co30, .int .i64 t201, .slice Ao31 t202.length co31]] rfl q21_9 ?_; (with_reducible refine (impl_CountAccepted.calls k _ _ t195 _ _ t198 t201 _ _ t202 t206 _ ?side1 ?side2 ?side3 ?side4 ?side5 ?side6 A10.out).mono ?_); (case side1 => refine (Kd.R_reads' (e := 71) (base := w.heap.size) (ok := fun k_ => (True ∧ some k_ ≠ (.slice Ao20 t184.length co20 : Value).ownBlock)) (n := t195.length) (c := co27) ?_).2.2; exact q21_1); (case side2 => exact (Kd.R_reads' HO197.out).2.1); (case side3 => refine (Kd.R_reads' (e := 46) (base := w.heap.size) (ok := fun k_ => (True ∧ some k_ ≠ (.slice Ao21 t187.length co21 : Value).ownBlock)) (n := t198.length) (c := co30) ?_).2.2; exact q21_2); (case side4 => exact (Kd.R_reads' HO200.out).2.1); (case side5 => refine (Kd.R_reads' (e := 3) (base := w.heap.size) (ok := fun k_ => (True ∧ some k_ ≠ (.slice Ao22 t191.length co22 : Value).ownBlock)) (n := t202.length) (c := co31) ?_).2.2; exact q21_3); (case side6 => exact (Kd.R_reads' HO204.out).2.1); rintro e w32 ⟨rfl, hb⟩; refine ⟨_, rfl, ?_⟩; have n0_ := Aside0.mk (Kd.R_below (by (with_reducible repeat (first | apply Kd.R_alloc | apply Kd.R_drewN | apply Kd.R_drew)); exact (Kd.R_mono (Kd.R_far (p := ⟨gb205, 3, none⟩) (Kd.R_far (p := ⟨gb205, 2, none⟩) (Kd.R_far (p := ⟨gb205, 1, none⟩) (Kd.R_far (p := ⟨gb205, 0, none⟩) (Kd.R_types HO186.out BK205.out (by decide)) (fun _ hk => hk.2) (.slice Ao27 t195.length co27)) (fun _ hk => hk.2) (.slice Ao30 t198.length co30)) (fun _ hk => hk.2) (.int .i64 t201)) (fun _ hk => hk.2) (.slice Ao31 t202.length co31)) (fun _ h_ => h_.1))) hb); have n1_ := Aside0.mk (Kd.R_below (by (with_reducible repeat (first | apply Kd.R_alloc | apply Kd.R_drewN | apply Kd.R_drew)); exact (Kd.R_mono (Kd.R_far (p := ⟨gb205, 3, none⟩) (Kd.R_far (p := ⟨gb205, 2, none⟩) (Kd.R_far (p := ⟨gb205, 1, none⟩) (Kd.R_far (p := ⟨gb205, 0, none⟩) (Kd.R_types HO189.out BK205.out (by decide)) (fun _ hk => hk.2) (.slice Ao27 t195.length co27)) (fun _ hk => hk.2) (.slice Ao30 t198.length co30)) (fun _ hk => hk.2) (.int .i64 t201)) (fun _ hk => hk.2) (.slice Ao31 t202.length co31)) (fun _ h_ => h_.1))) hb); have n2_ := Aside0.mk (Kd.R_below (by (with_reducible repeat (first | apply Kd.R_alloc | apply Kd.R_drewN | apply Kd.R_drew)); exact (Kd.R_mono (Kd.R_far (p := ⟨gb205, 3, none⟩) (Kd.R_far (p := ⟨gb205, 2, none⟩) (Kd.R_far (p := ⟨gb205, 1, none⟩) (Kd.R_far (p := ⟨gb205, 0, none⟩) (Kd.R_types HO193.out BK205.out (by decide)) (fun _ hk => hk.2) (.slice Ao27 t195.length co27)) (fun _ hk => hk.2) (.slice Ao30 t198.length co30)) (fun _ hk => hk.2) (.int .i64 t201)) (fun _ hk => hk.2) (.slice Ao31 t202.length co31)) (fun _ h_ => h_.1))) hb); have n3_ := Aside0.mk (Kd.R_below q21_1 hb); have n4_ := Aside0.mk (Kd.R_below q21_2 hb); have n5_ := Aside0.mk (Kd.R_below q21_3 hb); have n6_ := Aside0.mk (blk_below (g := gb182) (o := .cells #[.slice A0_0 l0_0.length c0_0, .slice A0_1 l0_1.length c0_1, .int .i64 a0_2, .slice A0_3 l0_3.length c0_3] 28 (0, 0)) (by (with_reducible repeat (first | refine blk_drewN ?_ _ | refine blk_drew ?_ | refine blk_alloc ?_ _)); refine blk_far ?_ NB182_205.out _; (with_reducible repeat (first | refine blk_drewN ?_ _ | refine blk_drew ?_ | refine blk_alloc ?_ _)); refine blk_far ?_ NB182_205.out _; (with_reducible repeat (first | refine blk_drewN ?_ _ | refine blk_drew ?_ | refine blk_alloc ?_ _)); refine blk_far ?_ NB182_205.out _; (with_reducible repeat (first | refine blk_drewN ?_ _ | refine blk_drew ?_ | refine blk_alloc ?_ _)); refine blk_far ?_ NB182_205.out _; (with_reducible repeat (first | refine blk_drewN ?_ _ | refine blk_drew ?_ | refine blk_alloc ?_ _)); exact BK182.out) hb); have n7_ := Aside0.mk (blk_below (g := gb205) (o := .cells #[.slice Ao27 t195.length co27, .slice Ao30 t198.length co30, .int .i64 t201, .slice Ao31 t202.length co31] 35 (0, 0)) (by (with_reducible repeat (first | refine blk_drewN ?_ _ | refine blk_drew ?_ | refine blk_alloc ?_ _)); refine blk_put (cs := #[.slice Ao27 t195.length co27, .slice Ao30 t198.length co30, .int .i64 t201, .slice none 0 0]) ?_ 3 _ rfl; (with_reducible repeat (first | refine blk_drewN ?_ _ | refine blk_drew ?_ | refine blk_alloc ?_ _)); refine blk_put (cs := #[.slice Ao27 t195.length co27, .slice Ao30 t198.length co30, .int .i64 0, .slice none 0 0]) ?_ 2 _ rfl; (with_reducible repeat (first | refine blk_drewN ?_ _ | refine blk_drew ?_ | refine blk_alloc ?_ _)); refine blk_put (cs := #[.slice Ao27 t195.length co27, .slice none 0 0, .int .i64 0, .slice none 0 0]) ?_ 1 _ rfl; (with_reducible repeat (first | refine blk_drewN ?_ _ | refine blk_drew ?_ | refine blk_alloc ?_ _)); refine blk_put (cs := #[.slice none 0 0, .slice none 0 0, .int .i64 0, .slice none 0 0]) ?_ 0 _ rfl; (with_reducible repeat (first | refine blk_drewN ?_ _ | refine blk_drew ?_ | refine blk_alloc ?_ _)); exact BK205.out) hb); have n8_ := Aside0.mk (below_step q21_4 hb); clear HO186; clear HO189; clear HO193; clear HO197; clear HO200; clear HO204; clear BK182; clear BK205; clear HB; have HO186 := n0_; have HO189 := n1_; have HO193 := n2_; have HO197 := n3_; have HO200 := n4_; have HO204 := n5_; have BK182 := n6_; have BK205 := n7_; have HB := n8_; clear n0_ n1_ n2_ n3_ n4_ n5_ n6_ n7_ n8_; (try clear hb); (try clear hb2); (try clear hk); (try clear hi)))
    have n0_ := Aside0.mk (Kd.R_drew HO186.out)
    have n1_ := Aside0.mk (Kd.R_drew HO189.out)
    have n2_ := Aside0.mk (Kd.R_drew HO193.out)
    have n3_ := Aside0.mk (Kd.R_drew HO197.out)
    have n4_ := Aside0.mk (Kd.R_drew HO200.out)
    have n5_ := Aside0.mk (Kd.R_drew HO204.out)
    have n6_ := Aside0.mk (blk_drew BK182.out)
    have n7_ := Aside0.mk (blk_drew BK205.out)
    have n8_ := Aside0.mk (below_drew1 HB.out)
    clear HO186
    clear HO189
    clear HO193
    clear HO197
    clear HO200
    clear HO204
    clear BK182
    clear BK205
    clear HB
    have HO186 := n0_
    have HO189 := n1_
    have HO193 := n2_
    have HO197 := n3_
    have HO200 := n4_
    have HO204 := n5_
    have BK182 := n6_
    have BK205 := n7_
    have HB := n8_
    clear n0_ n1_ n2_ n3_ n4_ n5_ n6_ n7_ n8_
    refine start_ (n := 5) (S := fun w' => w'.cell? ⟨gb205, 0, none⟩ = some (.slice Ao27 t195.length co27) ∧ w'.cell? ⟨gb205, 1, none⟩ = some (.slice Ao30 t198.length co30) ∧ w'.cell? ⟨gb205, 2, none⟩ = some (.int .i64 t201) ∧ w'.cell? ⟨gb205, 3, none⟩ = some (.slice Ao31 t202.length co31) ∧ w'.cell? ⟨gb182, 0, none⟩ = some (.slice A0_0 l0_0.length c0_0) ∧ w'.cell? ⟨gb182, 1, none⟩ = some (.slice A0_1 l0_1.length c0_1) ∧ w'.cell? ⟨gb182, 2, none⟩ = some (.int .i64 a0_2) ∧ w'.cell? ⟨gb182, 3, none⟩ = some (.slice A0_3 l0_3.length c0_3)) (ds := []) #[false, false, false, false, false] q21_19 rfl rfl ⟨(blk_cell BK205.out 0).trans rfl, (blk_cell BK205.out 1).trans rfl, (blk_cell BK205.out 2).trans rfl, (blk_cell BK205.out 3).trans rfl, (blk_cell BK182.out 0).trans rfl, (blk_cell BK182.out 1).trans rfl, (blk_cell BK182.out 2).trans rfl, (blk_cell BK182.out 3).trans rfl⟩ (fun hHeld => ?_)
    generalize w32.drew = w33 at HO186 HO189 HO193 HO197 HO200 HO204 BK182 BK205 HB hHeld ⊢
    refine take_ (i := 0) (N := some 22) (v := ?_) (a' := ?_) #[true, false, false, false, false] rfl rfl q21_19 (fun _ _ _ h => h) (Or.inl ⟨by rfl, ?_⟩) hHeld ?_ ?_
    rotate_left
    ·
     rintro w' ⟨s0, s1, s2, s3, s4, s5, s6, s7⟩
     go_simp
     with_reducible rfl
    rotate_left
    ·
     exact put21_
    refine take_ (i := 1) (N := some 23) (v := ?_) (a' := ?_) #[true, true, false, false, false] rfl rfl q21_19 (fun _ _ _ h => h) (Or.inl ⟨by rfl, ?_⟩) hHeld ?_ ?_
    rotate_left
    ·
     rintro w' ⟨s0, s1, s2, s3, s4, s5, s6, s7⟩
     go_simp
     with_reducible rfl
    rotate_left
    ·
     exact put21_
    refine one_ (i := 2) (N := some 24) #[true, true, true, false, false] rfl rfl q21_19 (by decide) (fun K hK => ?_)
    refine goes_ Try.func10 q21_19 rfl #[.agg #[.slice A0_0 l0_0.length c0_0, .slice A0_1 l0_1.length c0_1, .int .i64 a0_2, .slice A0_3 l0_3.length c0_3]] (by rfl) rfl rfl q21_9 ?_
    with_reducible refine (laws_toExploration.calls k _ _ l0_0 _ _ l0_1 a0_2 _ _ l0_3 t207 t210 t213 t214 _ ?side1 ?side2 ?side3 ?side4 ?side5 ?side6 A12.out).mono ?_
    (case side1 => exact q21_5)
    (case side2 => exact HC0_0.out)
    (case side3 => exact q21_6)
    (case side4 => exact HC0_1.out)
    (case side5 => exact q21_7)
    (case side6 => exact HC0_3.out)
    rintro e w34 ⟨v208, v211, v215, rfl, ho0, ho1, ho2, hb⟩
    refine ⟨_, rfl, ?_⟩
    have n0_ := Aside0.mk (Kd.R_elder' q21_13 (Kd.R_base ho0) hb)
    have n1_ := Aside0.mk (Kd.R_elder' q21_14 (Kd.R_base ho1) hb)
    have n2_ := Aside0.mk (Kd.R_elder' q21_15 (Kd.R_base ho2) hb)
    have n3_ := Aside0.mk (Kd.R_elder' q21_16 (Kd.R_base ho0) hb)
    have n4_ := Aside0.mk (Kd.R_elder' q21_17 (Kd.R_base ho1) hb)
    have n5_ := Aside0.mk (Kd.R_elder' q21_18 (Kd.R_base ho2) hb)
    have n6_ := Aside0.mk (Kd.R_lower (Kd.R_new' (Kd.R_new' ho0 (Kd.R_lt q21_13)) (Kd.R_lt q21_16)) (below_size q21_4))
    have n7_ := Aside0.mk (Kd.R_lower (Kd.R_new' (Kd.R_new' ho1 (Kd.R_lt q21_14)) (Kd.R_lt q21_17)) (below_size q21_4))
    have n8_ := Aside0.mk (Kd.R_lower (Kd.R_new' (Kd.R_new' ho2 (Kd.R_lt q21_15)) (Kd.R_lt q21_18)) (below_size q21_4))
    have n9_ := Aside0.mk (blk_below (g := gb182) (o := .cells #[.slice A0_0 l0_0.length c0_0, .slice A0_1 l0_1.length c0_1, .int .i64 a0_2, .slice A0_3 l0_3.length c0_3] 28 (0, 0)) q21_11 hb)
    have n10_ := Aside0.mk (blk_below (g := gb205) (o := .cells #[.slice Ao27 t195.length co27, .slice Ao30 t198.length co30, .int .i64 t201, .slice Ao31 t202.length co31] 35 (0, 0)) q21_12 hb)
    have n11_ := Aside0.mk (below_step q21_4 hb)
    clear HO186
    clear HO189
    clear HO193
    clear HO197
    clear HO200
    clear HO204
    clear BK182
    clear BK205
    clear HB
    have HO186 := n0_
    have HO189 := n1_
    have HO193 := n2_
    have HO197 := n3_
    have HO200 := n4_
    have HO204 := n5_
    have HO209 := n6_
    have HO212 := n7_
    have HO216 := n8_
    have BK182 := n9_
    have BK205 := n10_
    have HB := n11_
    clear n0_ n1_ n2_ n3_ n4_ n5_ n6_ n7_ n8_ n9_ n10_ n11_
    (try clear hb)
    (try clear hb2)
    (try clear hk)
    (try clear hi)
    (try clear ho0)
    (try clear ho1)
    (try clear ho2)
    obtain ⟨Ao35, co35, eo35⟩ := Kd.R_slice HO209.out
    (first | subst eo35 | (injection eo35 with f1_ f2_ f3_; have f4_ := f1_.symm; have f5_ := f3_.symm; clear f1_ f2_ f3_; subst f4_; subst f5_))
    obtain ⟨Ao36, co36, eo36⟩ := Kd.R_slice HO212.out
    (first | subst eo36 | (injection eo36 with f1_ f2_ f3_; have f4_ := f1_.symm; have f5_ := f3_.symm; clear f1_ f2_ f3_; subst f4_; subst f5_))
    obtain ⟨Ao37, co37, eo37⟩ := Kd.R_slice HO216.out
    (first | subst eo37 | (injection eo37 with f1_ f2_ f3_; have f4_ := f1_.symm; have f5_ := f3_.symm; clear f1_ f2_ f3_; subst f4_; subst f5_))
    refine hK.out _ _ ⟨(blk_cell BK205.out 0).trans rfl, (blk_cell BK205.out 1).trans rfl, (blk_cell BK205.out 2).trans rfl, (blk_cell BK205.out 3).trans rfl, (blk_cell BK182.out 0).trans rfl, (blk_cell BK182.out 1).trans rfl, (blk_cell BK182.out 2).trans rfl, (blk_cell BK182.out 3).trans rfl⟩ (fun hHeld => ?_)
    clear hK K
    refine norm_ (a' := ?_) ?_ ?_
    rotate_left
    ·
     show Act.put _ (some 24) _ = _
     exact put21_
    refine one_ (i := 3) (N := some 25) #[true, true, true, true, false] rfl rfl q21_19 (by decide) (fun K hK => ?_)
    refine goes_ Try.func12 q21_19 rfl #[.agg #[.slice Ao27 t195.length co27, .slice Ao30 t198.length co30, .int .i64 t201, .slice Ao31 t202.length co31], .agg #[.slice Ao35 t207.length co35, .slice Ao36 t210.length co36, .int .i64 t213, .slice Ao37 t214.length co37]] (by rfl) rfl rfl q21_9 ?_
    with_reducible refine (laws_eqExploration.calls k _ _ t195 _ _ t198 t201 _ _ t202 _ _ t207 _ _ t210 t213 _ _ t214 true _ ?side1 ?side2 ?side3 ?side4 ?side5 ?side6 ?side7 ?side8 ?side9 ?side10 ?side11 ?side12 A13.out).mono ?_
    (case side1 => repeat (first | exact (Kd.R_reads' HO197.out).2.2 | (with_reducible refine Kd.C_alloc ?_ _) | (with_reducible refine Kd.C_drewN ?_ _) | (with_reducible refine Kd.C_drew ?_)))
    (case side2 => exact (Kd.R_reads' HO197.out).2.1)
    (case side3 => repeat (first | exact (Kd.R_reads' HO200.out).2.2 | (with_reducible refine Kd.C_alloc ?_ _) | (with_reducible refine Kd.C_drewN ?_ _) | (with_reducible refine Kd.C_drew ?_)))
    (case side4 => exact (Kd.R_reads' HO200.out).2.1)
    (case side5 => repeat (first | exact (Kd.R_reads' HO204.out).2.2 | (with_reducible refine Kd.C_alloc ?_ _) | (with_reducible refine Kd.C_drewN ?_ _) | (with_reducible refine Kd.C_drew ?_)))
    (case side6 => exact (Kd.R_reads' HO204.out).2.1)
    (case side7 => repeat (first | exact (Kd.R_reads' HO209.out).2.2 | (with_reducible refine Kd.C_alloc ?_ _) | (with_reducible refine Kd.C_drewN ?_ _) | (with_reducible refine Kd.C_drew ?_)))
    (case side8 => exact (Kd.R_reads' HO209.out).2.1)
    (case side9 => repeat (first | exact (Kd.R_reads' HO212.out).2.2 | (with_reducible refine Kd.C_alloc ?_ _) | (with_reducible refine Kd.C_drewN ?_ _) | (with_reducible refine Kd.C_drew ?_)))
    (case side10 => exact (Kd.R_reads' HO212.out).2.1)
    (case side11 => repeat (first | exact (Kd.R_reads' HO216.out).2.2 | (with_reducible refine Kd.C_alloc ?_ _) | (with_reducible refine Kd.C_drewN ?_ _) | (with_reducible refine Kd.C_drew ?_)))
    (case side12 => exact (Kd.R_reads' HO216.out).2.1)
    rintro e w38 ⟨rfl, hb⟩
    refine ⟨_, rfl, ?_⟩
    have n0_ := Aside0.mk (Kd.R_below q21_13 hb)
    have n1_ := Aside0.mk (Kd.R_below q21_14 hb)
    have n2_ := Aside0.mk (Kd.R_below q21_15 hb)
    have n3_ := Aside0.mk (Kd.R_below q21_16 hb)
    have n4_ := Aside0.mk (Kd.R_below q21_17 hb)
    have n5_ := Aside0.mk (Kd.R_below q21_18 hb)
    have n6_ := Aside0.mk (Kd.R_below (by (with_reducible repeat (first | apply Kd.R_alloc | apply Kd.R_drewN | apply Kd.R_drew)); exact HO209.out) hb)
    have n7_ := Aside0.mk (Kd.R_below (by (with_reducible repeat (first | apply Kd.R_alloc | apply Kd.R_drewN | apply Kd.R_drew)); exact HO212.out) hb)
    have n8_ := Aside0.mk (Kd.R_below (by (with_reducible repeat (first | apply Kd.R_alloc | apply Kd.R_drewN | apply Kd.R_drew)); exact HO216.out) hb)
    have n9_ := Aside0.mk (blk_below (g := gb182) (o := .cells #[.slice A0_0 l0_0.length c0_0, .slice A0_1 l0_1.length c0_1, .int .i64 a0_2, .slice A0_3 l0_3.length c0_3] 28 (0, 0)) q21_11 hb)
    have n10_ := Aside0.mk (blk_below (g := gb205) (o := .cells #[.slice Ao27 t195.length co27, .slice Ao30 t198.length co30, .int .i64 t201, .slice Ao31 t202.length co31] 35 (0, 0)) q21_12 hb)
    have n11_ := Aside0.mk (below_step q21_4 hb)
    clear HO186
    clear HO189
    clear HO193
    clear HO197
    clear HO200
    clear HO204
    clear HO209
    clear HO212
    clear HO216
    clear BK182
    clear BK205
    clear HB
    have HO186 := n0_
    have HO189 := n1_
    have HO193 := n2_
    have HO197 := n3_
    have HO200 := n4_
    have HO204 := n5_
    have HO209 := n6_
    have HO212 := n7_
    have HO216 := n8_
    have BK182 := n9_
    have BK205 := n10_
    have HB := n11_
    clear n0_ n1_ n2_ n3_ n4_ n5_ n6_ n7_ n8_ n9_ n10_ n11_
    (try clear hb)
    (try clear hb2)
    (try clear hk)
    (try clear hi)
    refine hK.out _ _ ⟨(blk_cell BK205.out 0).trans rfl, (blk_cell BK205.out 1).trans rfl, (blk_cell BK205.out 2).trans rfl, (blk_cell BK205.out 3).trans rfl, (blk_cell BK182.out 0).trans rfl, (blk_cell BK182.out 1).trans rfl, (blk_cell BK182.out 2).trans rfl, (blk_cell BK182.out 3).trans rfl⟩ (fun hHeld => ?_)
    clear hK K
    refine norm_ (a' := ?_) ?_ ?_
    rotate_left
    ·
     show Act.put _ (some 25) _ = _
     exact put21_
    refine pure_ (i := 4) (N := some 26) (v := ?_) (a' := ?_) #[true, true, true, true, true] rfl rfl q21_19 (fun _ _ _ h => h) (Or.inl ⟨by rfl, ?_⟩) ?_ ?_
    rotate_left
    ·
     intro w'
     go_simp
     with_reducible rfl
    rotate_left
    ·
     exact put21_
    refine done_ q21_19 ?_
    try go_wp2
    go_ret
    exact ⟨by first | rfl | (simp [errW_none, errW_some] <;> rfl) | (simp [*, errW_none, errW_some] <;> rfl), by repeat (first | (with_reducible first | exact HB.out | apply below_alloc | apply pw_below_drewN | apply below_drew1 | refine below_set ?_ GE182.out | refine below_set ?_ GE205.out) | exact HB.out)⟩
   ·
    replace c14 := Bool.eq_false_iff.mpr c14
    subst c14
    have H1 : (some false) = some r := by rw [if_neg (show ¬ (false = true) by decide)] at H; exact H
    clear H
    have H := H1
    clear H1
    exact absurd ((Option.some.inj H).trans HRT.out) Bool.false_ne_true
  ·
   rw [if_neg c11] at H
   exact absurd ((Option.some.inj H).trans HRT.out) Bool.false_ne_true
end Go.Proofs.Ytamjnninbdnjhaa.Pr
