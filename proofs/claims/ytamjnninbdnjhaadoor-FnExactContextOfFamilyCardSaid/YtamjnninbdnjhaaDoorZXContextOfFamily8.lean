/- What the law needs of the program's functions as plain functions, of the proofs that their calls answer so, and of plain laws: gathered by a program of this place (pack.py) out of its printed texts. No condition beyond what each statement says. -/
import Derived.Test.YtamjnninbdnjhaaDoorZXContextOfFamily2
import Derived.Test.YtamjnninbdnjhaaDoorZXContextOfFamily3
import Derived.Test.YtamjnninbdnjhaaDoorZXContextOfFamily4
import Derived.Test.YtamjnninbdnjhaaDoorZXContextOfFamily5
import Derived.Test.YtamjnninbdnjhaaDoorZXContextOfFamily7
namespace Go.Proofs.YtamjnninbdnjhaaDoor.Pr
open Go.RowKit Go.Proofs.YtamjnninbdnjhaaDoorW.PrintWords Go.Proofs.YtamjnninbdnjhaaDoorW.PrintLast Go.Proofs.YtamjnninbdnjhaaDoorW.PrintMore
attribute [local go_sem] max2_int min2_int max_two min_two max_three min_three max_four min_four   -- for this text's walks alone
set_option linter.unusedVariables false
set_option linter.unusedSimpArgs false
theorem q6_1 {P : Prop} (h : P := by (with_reducible repeat (first | refine blk_drewN ?_ _ | refine blk_drew ?_ | refine blk_alloc ?_ _)); refine blk_put (cs := #[.int .i64 t224, .slice none 0 0]) ?_ 1 _ rfl; (with_reducible repeat (first | refine blk_drewN ?_ _ | refine blk_drew ?_ | refine blk_alloc ?_ _)); refine blk_put (cs := #[.int .i64 0, .slice none 0 0]) ?_ 0 _ rfl; (with_reducible repeat (first | refine blk_drewN ?_ _ | refine blk_drew ?_ | refine blk_alloc ?_ _)); exact BK229.out) : P := h
theorem q6_2 {P : Prop} (h : P := by (with_reducible repeat (first | refine blk_drewN ?_ _ | refine blk_drew ?_ | refine blk_alloc ?_ _)); refine blk_put (cs := #[.int .i64 t244, .slice none 0 0]) ?_ 1 _ rfl; (with_reducible repeat (first | refine blk_drewN ?_ _ | refine blk_drew ?_ | refine blk_alloc ?_ _)); refine blk_put (cs := #[.int .i64 0, .slice none 0 0]) ?_ 0 _ rfl; (with_reducible repeat (first | refine blk_drewN ?_ _ | refine blk_drew ?_ | refine blk_alloc ?_ _)); exact BK249.out) : P := h
theorem q6_3 {P : Prop} (h : P := by (with_reducible repeat (first | refine blk_drewN ?_ _ | refine blk_drew ?_ | refine blk_alloc ?_ _)); refine blk_far ?_ NB220_229.out _; (with_reducible repeat (first | refine blk_drewN ?_ _ | refine blk_drew ?_ | refine blk_alloc ?_ _)); refine blk_far ?_ NB220_229.out _; (with_reducible repeat (first | refine blk_drewN ?_ _ | refine blk_drew ?_ | refine blk_alloc ?_ _)); exact BK220.out) : P := h
theorem q6_4 {P : Prop} (h : P := by (with_reducible repeat (first | refine blk_drewN ?_ _ | refine blk_drew ?_ | refine blk_alloc ?_ _)); refine blk_far ?_ NB220_249.out _; (with_reducible repeat (first | refine blk_drewN ?_ _ | refine blk_drew ?_ | refine blk_alloc ?_ _)); refine blk_far ?_ NB220_249.out _; (with_reducible repeat (first | refine blk_drewN ?_ _ | refine blk_drew ?_ | refine blk_alloc ?_ _)); exact BK220.out) : P := h
theorem q6_5 {P : Prop} (h : P := by (with_reducible repeat (first | refine blk_drewN ?_ _ | refine blk_drew ?_ | refine blk_alloc ?_ _)); refine blk_far ?_ NB229_249.out _; (with_reducible repeat (first | refine blk_drewN ?_ _ | refine blk_drew ?_ | refine blk_alloc ?_ _)); refine blk_far ?_ NB229_249.out _; (with_reducible repeat (first | refine blk_drewN ?_ _ | refine blk_drew ?_ | refine blk_alloc ?_ _)); exact BK229.out) : P := h
theorem q6_6 {P : Prop} (h : P := by (with_reducible repeat (first | apply Kd.R_alloc | apply Kd.R_drewN | apply Kd.R_drew)); exact (Kd.R_mono (Kd.R_far (p := ⟨gb249, 1, none⟩) (Kd.R_far (p := ⟨gb249, 0, none⟩) (Kd.R_types HO_221001.out BK249.out (by decide)) (fun _ hk => hk.2) (.int .i64 t244)) (fun _ hk => hk.2) (.slice Ao72 t245.length co72)) (fun _ h_ => h_.1))) : P := h
theorem q6_7 {P : Prop} (h : P := by (with_reducible repeat (first | apply Kd.R_alloc | apply Kd.R_drewN | apply Kd.R_drew)); exact (Kd.R_mono (Kd.R_far (p := ⟨gb249, 1, none⟩) (Kd.R_far (p := ⟨gb249, 0, none⟩) (Kd.R_types HO_230001.out BK249.out (by decide)) (fun _ hk => hk.2) (.int .i64 t244)) (fun _ hk => hk.2) (.slice Ao72 t245.length co72)) (fun _ h_ => h_.1))) : P := h
theorem q6_8 {P : Prop} (h : P := by (with_reducible repeat (first | apply Kd.R_alloc | apply Kd.R_drewN | apply Kd.R_drew)); exact (Kd.R_mono (Kd.R_far (p := ⟨gb220, 1, none⟩) (Kd.R_far (p := ⟨gb220, 0, none⟩) (Kd.R_types HO214.out BK220.out (by decide)) (fun _ hk => hk.2) (.int .i64 t215)) (fun _ hk => hk.2) (.slice Ao14 t216.length co14)) (fun _ h_ => h_.1))) : P := h
theorem q6_9 {P : Prop} (h : P := by (with_reducible repeat (first | apply Kd.R_alloc | apply Kd.R_drewN | apply Kd.R_drew)); exact (Kd.R_mono (Kd.R_far (p := ⟨gb220, 1, none⟩) (Kd.R_far (p := ⟨gb220, 0, none⟩) (Kd.R_types HO218.out BK220.out (by decide)) (fun _ hk => hk.2) (.int .i64 t215)) (fun _ hk => hk.2) (.slice Ao14 t216.length co14)) (fun _ h_ => h_.1))) : P := h
theorem q6_10 {P : Prop} (h : P := by (with_reducible repeat (first | apply Kd.R_alloc | apply Kd.R_drewN | apply Kd.R_drew)); exact (Kd.R_mono (Kd.R_far (p := ⟨gb229, 1, none⟩) (Kd.R_far (p := ⟨gb229, 0, none⟩) (Kd.R_types HO214.out BK229.out (by decide)) (fun _ hk => hk.2) (.int .i64 t224)) (fun _ hk => hk.2) (.slice Ao21 t225.length co21)) (fun _ h_ => h_.1))) : P := h
theorem q6_11 {P : Prop} (h : P := by (with_reducible repeat (first | apply Kd.R_alloc | apply Kd.R_drewN | apply Kd.R_drew)); exact (Kd.R_mono (Kd.R_far (p := ⟨gb229, 1, none⟩) (Kd.R_far (p := ⟨gb229, 0, none⟩) (Kd.R_types HO218.out BK229.out (by decide)) (fun _ hk => hk.2) (.int .i64 t224)) (fun _ hk => hk.2) (.slice Ao21 t225.length co21)) (fun _ h_ => h_.1))) : P := h
theorem q6_12 {P : Prop} (h : P := by (with_reducible repeat (first | apply Kd.R_alloc | apply Kd.R_drewN | apply Kd.R_drew)); exact (Kd.R_mono (Kd.R_far (p := ⟨gb229, 1, none⟩) (Kd.R_far (p := ⟨gb229, 0, none⟩) (Kd.R_types HO223.out BK229.out (by decide)) (fun _ hk => hk.2) (.int .i64 t224)) (fun _ hk => hk.2) (.slice Ao21 t225.length co21)) (fun _ h_ => h_.1))) : P := h
theorem q6_13 {P : Prop} (h : P := by (with_reducible repeat (first | apply Kd.R_alloc | apply Kd.R_drewN | apply Kd.R_drew)); exact (Kd.R_mono (Kd.R_far (p := ⟨gb229, 1, none⟩) (Kd.R_far (p := ⟨gb229, 0, none⟩) (Kd.R_types HO227.out BK229.out (by decide)) (fun _ hk => hk.2) (.int .i64 t224)) (fun _ hk => hk.2) (.slice Ao21 t225.length co21)) (fun _ h_ => h_.1))) : P := h
theorem q6_14 {P : Prop} (h : P := by (with_reducible repeat (first | apply Kd.R_alloc | apply Kd.R_drewN | apply Kd.R_drew)); exact (Kd.R_mono (Kd.R_far (p := ⟨gb249, 1, none⟩) (Kd.R_far (p := ⟨gb249, 0, none⟩) (Kd.R_types HO243.out BK249.out (by decide)) (fun _ hk => hk.2) (.int .i64 t244)) (fun _ hk => hk.2) (.slice Ao72 t245.length co72)) (fun _ h_ => h_.1))) : P := h
theorem q6_15 {P : Prop} (h : P := by (with_reducible repeat (first | apply Kd.R_alloc | apply Kd.R_drewN | apply Kd.R_drew)); exact (Kd.R_mono (Kd.R_far (p := ⟨gb249, 1, none⟩) (Kd.R_far (p := ⟨gb249, 0, none⟩) (Kd.R_types HO247.out BK249.out (by decide)) (fun _ hk => hk.2) (.int .i64 t244)) (fun _ hk => hk.2) (.slice Ao72 t245.length co72)) (fun _ h_ => h_.1))) : P := h
theorem q6_16 {P : Prop} (h : P := by repeat (first | (with_reducible first | exact HB.out | apply below_alloc | apply pw_below_drewN | apply below_drew1 | refine below_set ?_ GE220.out | refine below_set ?_ GE229.out | refine below_set ?_ GE249.out) | exact HB.out)) : P := h
theorem q6_17 {P : Prop} (h : P := by repeat (first | (with_reducible first | exact HB.out | apply below_alloc | apply pw_below_drewN | apply below_drew1 | refine below_set ?_ GE220.out | refine below_set ?_ GE229.out) | exact HB.out)) : P := h
theorem q6_18 {P : Prop} (h : P := by repeat (first | exact (Kd.R_reads' HO_221001.out).2.2 | (with_reducible refine Kd.C_alloc ?_ _) | (with_reducible refine Kd.C_drewN ?_ _) | (with_reducible refine Kd.C_drew ?_))) : P := h
theorem q6_19 {P : Prop} (h : P := by repeat (first | exact (Kd.R_reads' HO_230001.out).2.2 | (with_reducible refine Kd.C_alloc ?_ _) | (with_reducible refine Kd.C_drewN ?_ _) | (with_reducible refine Kd.C_drew ?_))) : P := h
theorem q6_20 {P : Prop} (h : P := by repeat (first | exact (Kd.C_below HR1.out HB.out) | (with_reducible refine Kd.C_alloc ?_ _) | (with_reducible refine Kd.C_drewN ?_ _) | (with_reducible refine Kd.C_drew ?_))) : P := h
theorem q6_21 {P : Prop} (h : P := by repeat (first | (with_reducible first | exact HB.out | apply below_alloc | apply pw_below_drewN | apply below_drew1 | refine below_set ?_ GE220.out) | exact HB.out)) : P := h
theorem q6_22 {P : Prop} (h : P := by (try simp only [List.map_toArray, List.map_cons, List.map_nil]); first | done | rfl | (simp only [List.length_drop, List.length_take]; rfl)) : P := h
theorem q6_23 {P : Prop} (h : P := by repeat (first | (with_reducible first | exact HB.out | apply below_alloc | apply pw_below_drewN | apply below_drew1) | exact HB.out)) : P := h
theorem q6_24 {P : Prop} (h : P := by (with_reducible repeat (first | refine blk_drewN ?_ _ | refine blk_drew ?_ | refine blk_alloc ?_ _)); exact BK220.out) : P := h
theorem q6_25 {P : Prop} (h : P := by (with_reducible repeat (first | refine blk_drewN ?_ _ | refine blk_drew ?_ | refine blk_alloc ?_ _)); exact BK229.out) : P := h
theorem q6_26 {P : Prop} (h : P := by (with_reducible repeat (first | apply Kd.R_alloc | apply Kd.R_drewN | apply Kd.R_drew)); exact HO_221001.out) : P := h
theorem q6_27 {P : Prop} (h : P := by (with_reducible repeat (first | apply Kd.R_alloc | apply Kd.R_drewN | apply Kd.R_drew)); exact HO_230001.out) : P := h
theorem q6_28 {P : Prop} (h : P := by (with_reducible repeat (first | apply Kd.R_alloc | apply Kd.R_drewN | apply Kd.R_drew)); exact HO214.out) : P := h
theorem q6_29 {P : Prop} (h : P := by (with_reducible repeat (first | apply Kd.R_alloc | apply Kd.R_drewN | apply Kd.R_drew)); exact HO218.out) : P := h
theorem q6_30 {P : Prop} (h : P := by (with_reducible repeat (first | apply Kd.R_alloc | apply Kd.R_drewN | apply Kd.R_drew)); exact HO223.out) : P := h
theorem q6_31 {P : Prop} (h : P := by (with_reducible repeat (first | apply Kd.R_alloc | apply Kd.R_drewN | apply Kd.R_drew)); exact HO243.out) : P := h
theorem q6_32 {P : Prop} (h : P := by (with_reducible repeat (first | apply Kd.R_alloc | apply Kd.R_drewN | apply Kd.R_drew)); exact HO_7.out) : P := h
theorem q6_33 {P : Prop} (h : P := by first | rfl | (simp; done) | (simp [*]; done) | (simp [i64_w, i32_w]; done)) : P := h
theorem q6_34 {P : Prop} (h : P := by rw [if_neg (show ¬ (false = true) by decide)] at H; exact H) : P := h
theorem q6_35 {P : Prop} (h : P := by rw [if_pos rfl] at H; exact H) : P := h
theorem q6_36 {P : Prop} (h : P := by kernel_rfl) : P := h
mutual
def laws_FnExactContextOfFamily.j0 : Nat → Int → List Int → Bool → List Int → Bool → Bool → Int → List Int → Int → List Int → Option (Bool)
 | 0, _, _, _, _, _, _, _, _, _, _ => none
 | k + 1, x0, x1, x6, x7, x9, x41, x221000, x221001, x230000, x230001 => if x41 = true then (some false) else ((laws_toIntS.f k x1).bind fun t231 => ((laws_eqIntS.f k x7 t231).bind fun t234 => (if t234 = true then ((laws_markIntS.f k x7 1).bind fun bt235 => (if bt235.1 < 0 then (laws_FnExactContextOfFamily.j1 k x0 x1 x6 true x221000 x221001 x230000 x230001) else ((laws_eqContext.f k x230000 x230001 x221000 x221001).bind fun t237 => (if t237 = true then (laws_FnExactContextOfFamily.j1 k x0 x1 x6 (x9 != x6) x221000 x221001 x230000 x230001) else (laws_FnExactContextOfFamily.j1 k x0 x1 x6 true x221000 x221001 x230000 x230001))))) else (some false))))
def laws_FnExactContextOfFamily.j1 : Nat → Int → List Int → Bool → Bool → Int → List Int → Int → List Int → Option (Bool)
 | 0, _, _, _, _, _, _, _, _ => none
 | k + 1, x0, x1, x6, x62, x221000, x221001, x230000, x230001 => if x62 = true then (some false) else ((laws_markContext.f k x230000 x230001 1).bind fun bt238 => ((laws_heldContext.f k x230000 bt238.2 1).bind fun t240 => (if t240 < 0 then (some false) else (if t240 = bt238.1 then ((laws_toIntS.f k x1).bind fun t241 => ((impl_ContextOfFamily.f k x0 t241).bind fun bt244 => ((laws_eqContext.f k bt244.1 bt244.2.1 x221000 x221001).bind fun t250 => (if t250 = true then (laws_FnExactContextOfFamily.j2 k bt238.1 (bt244.2.2 != x6) x230000 bt238.2) else (laws_FnExactContextOfFamily.j2 k bt238.1 true x230000 bt238.2))))) else (some false)))))
def laws_FnExactContextOfFamily.j2 : Nat → Int → Bool → Int → List Int → Option (Bool)
 | 0, _, _, _, _ => none
 | k + 1, x11, x89, x230000, x230001 => if x89 = true then (some false) else ((laws_heldContext.f k x230000 x230001 1).bind fun t251 => (if t251 < 0 then (some false) else (if t251 = x11 then (some true) else (some false))))
end
def laws_FnExactContextOfFamily.f (k : Nat) (a0 : Int) (l1 : List Int) : Option (Bool) := if (l1.length : Int) > 1048576 then (some true) else ((laws_toIntS.f k l1).bind fun t212 => ((spec_ContextOfFamily.f k a0 t212).bind fun bt215 => ((laws_toIntS.f k l1).bind fun t221 => ((impl_ContextOfFamily.f k a0 t221).bind fun bt224 => ((laws_eqContext.f k bt224.1 bt224.2.1 bt215.1 bt215.2.1).bind fun t230 => (if t230 = true then (laws_FnExactContextOfFamily.j0 k a0 l1 bt215.2.2 t221 bt224.2.2 (bt224.2.2 != bt215.2.2) bt215.1 bt215.2.1 bt224.1 bt224.2.1) else (laws_FnExactContextOfFamily.j0 k a0 l1 bt215.2.2 t221 bt224.2.2 true bt215.1 bt215.2.1 bt224.1 bt224.2.1)))))))
set_option maxHeartbeats 8000000 in
set_option maxRecDepth 100000 in
theorem laws_FnExactContextOfFamily.calls (k : Nat) (a0 : Int) (A1 : Option Addr) (c1 : Nat) (l1 : List Int) (r : Bool) (w : World) (hr1 : Kd.C (Kd.int .i64) w A1 l1.length l1) (hc1 : l1.length ≤ c1) (hrt : r = true) (htab : Tab64 w) (h : laws_FnExactContextOfFamily.f k a0 l1 = some r) :
  Calls Tryd.prog 6 #[.int .i64 a0, .slice A1 l1.length c1] w fun e w' => e = .returned (.bool r) ∧ Below w.heap.size w w' := by
 have HTB := Aside0.mk htab
 clear htab
 have hu43 := Tryd.underlying43
 have HR1 := Aside0.mk hr1
 have HC1 := Aside0.mk hc1
 clear hr1 hc1
 have HB := Aside0.mk (Below.refl w.heap.size w)
 have HRT := Aside0.mk hrt
 clear hrt
 have H : (if (l1.length : Int) > 1048576 then (some true) else ((laws_toIntS.f k l1).bind fun t212 => ((spec_ContextOfFamily.f k a0 t212).bind fun bt215 => ((laws_toIntS.f k l1).bind fun t221 => ((impl_ContextOfFamily.f k a0 t221).bind fun bt224 => ((laws_eqContext.f k bt224.1 bt224.2.1 bt215.1 bt215.2.1).bind fun t230 => (if t230 = true then (laws_FnExactContextOfFamily.j0 k a0 l1 bt215.2.2 t221 bt224.2.2 (bt224.2.2 != bt215.2.2) bt215.1 bt215.2.1 bt224.1 bt224.2.1) else (laws_FnExactContextOfFamily.j0 k a0 l1 bt215.2.2 t221 bt224.2.2 true bt215.1 bt215.2.1 bt224.1 bt224.2.1)))))))) = some r := h
 clear h
 by_cases c3 : (l1.length : Int) > 1048576
 ·
  rw [if_pos c3] at H
  have c3b0 : decide (1048576 < (l1.length : Int)) = true := decide_eq_true c3
  have c3b1 : decide (1048576 < l1.length) = true := decide_eq_true (by omega)
  clear c3
  obtain rfl := Option.some.inj H
  go_enter Tryd.func6, Tryd.ntmps6
  go_wp2
  go_ret
  exact ⟨by first | rfl | (simp [errW_none, errW_some] <;> rfl) | (simp [*, errW_none, errW_some] <;> rfl), by repeat (first | (with_reducible first | exact HB.out | apply below_alloc | apply pw_below_drewN | apply below_drew1) | exact HB.out)⟩
 ·
  rw [if_neg c3] at H
  have c3b0 : decide (1048576 < (l1.length : Int)) = false := decide_eq_false c3
  have c3b1 : decide (1048576 < l1.length) = false := decide_eq_false (by omega)
  clear c3
  replace H := Option.bind_eq_some_iff.mp H
  obtain ⟨t212, A40, H⟩ := H
  replace H : ((spec_ContextOfFamily.f k a0 t212).bind fun bt215 => ((laws_toIntS.f k l1).bind fun t221 => ((impl_ContextOfFamily.f k a0 t221).bind fun bt224 => ((laws_eqContext.f k bt224.1 bt224.2.1 bt215.1 bt215.2.1).bind fun t230 => (if t230 = true then (laws_FnExactContextOfFamily.j0 k a0 l1 bt215.2.2 t221 bt224.2.2 (bt224.2.2 != bt215.2.2) bt215.1 bt215.2.1 bt224.1 bt224.2.1) else (laws_FnExactContextOfFamily.j0 k a0 l1 bt215.2.2 t221 bt224.2.2 true bt215.1 bt215.2.1 bt224.1 bt224.2.1)))))) = some r := H
  have A4 := Aside0.mk A40
  clear A40
  replace H := Option.bind_eq_some_iff.mp H
  obtain ⟨⟨t215, t216, t219⟩, A50, H⟩ := H
  replace H : ((laws_toIntS.f k l1).bind fun t221 => ((impl_ContextOfFamily.f k a0 t221).bind fun bt224 => ((laws_eqContext.f k bt224.1 bt224.2.1 t215 t216).bind fun t230 => (if t230 = true then (laws_FnExactContextOfFamily.j0 k a0 l1 t219 t221 bt224.2.2 (bt224.2.2 != t219) t215 t216 bt224.1 bt224.2.1) else (laws_FnExactContextOfFamily.j0 k a0 l1 t219 t221 bt224.2.2 true t215 t216 bt224.1 bt224.2.1))))) = some r := H
  have A5 := Aside0.mk A50
  clear A50
  replace H := Option.bind_eq_some_iff.mp H
  obtain ⟨t221, A60, H⟩ := H
  replace H : ((impl_ContextOfFamily.f k a0 t221).bind fun bt224 => ((laws_eqContext.f k bt224.1 bt224.2.1 t215 t216).bind fun t230 => (if t230 = true then (laws_FnExactContextOfFamily.j0 k a0 l1 t219 t221 bt224.2.2 (bt224.2.2 != t219) t215 t216 bt224.1 bt224.2.1) else (laws_FnExactContextOfFamily.j0 k a0 l1 t219 t221 bt224.2.2 true t215 t216 bt224.1 bt224.2.1)))) = some r := H
  have A6 := Aside0.mk A60
  clear A60
  replace H := Option.bind_eq_some_iff.mp H
  obtain ⟨⟨t224, t225, t228⟩, A70, H⟩ := H
  replace H : ((laws_eqContext.f k t224 t225 t215 t216).bind fun t230 => (if t230 = true then (laws_FnExactContextOfFamily.j0 k a0 l1 t219 t221 t228 (t228 != t219) t215 t216 t224 t225) else (laws_FnExactContextOfFamily.j0 k a0 l1 t219 t221 t228 true t215 t216 t224 t225))) = some r := H
  have A7 := Aside0.mk A70
  clear A70
  have HC8 := Aside0.mk H
  clear H
  go_enter Tryd.func6, Tryd.ntmps6
  go_upto_region 6 with (first | ((with_reducible refine gate_callee (f := 16) rfl ?_); refine goesL_ (some 21) rfl rfl Tryd.func16 q6_36 rfl #[.slice A1 l1.length c1] rfl q6_22 ?_; (with_reducible refine (laws_toIntS.calls k _ _ l1 t212 _ ?side1 ?side2 A4.out).mono ?_); (case side1 => repeat (first | exact HR1.out | (with_reducible refine Kd.C_alloc ?_ _) | (with_reducible refine Kd.C_drewN ?_ _) | (with_reducible refine Kd.C_drew ?_))); (case side2 => exact HC1.out); rintro e w9 ⟨v213, rfl, ho0, hb⟩; refine ⟨_, rfl, ?_⟩; have n0_ := Aside0.mk (Kd.R_lower ho0 (below_size q6_23)); have n1_ := Aside0.mk (below_step q6_23 hb); clear HB; have HO214 := n0_; have HB := n1_; clear n0_ n1_; (try clear hb); (try clear hb2); (try clear hk); (try clear hi); (try clear ho0); obtain ⟨Ao10, co10, eo10⟩ := Kd.R_slice HO214.out; subst eo10) | ((with_reducible refine gate_callee (f := 19) rfl ?_); refine goesL_ (some 22) rfl rfl Tryd.func19 q6_36 rfl #[.int .i64 a0, .slice Ao10 t212.length co10] rfl q6_22 ?_; (with_reducible refine (spec_ContextOfFamily.calls k a0 _ _ t212 t215 t216 t219 _ ?side1 ?side2 A5.out).mono ?_); (case side1 => repeat (first | exact (Kd.R_reads' HO214.out).2.2 | (with_reducible refine Kd.C_alloc ?_ _) | (with_reducible refine Kd.C_drewN ?_ _) | (with_reducible refine Kd.C_drew ?_))); (case side2 => exact (Kd.R_reads' HO214.out).2.1); rintro e w11 ⟨v217, rfl, ho0, hb⟩; refine ⟨_, rfl, ?_⟩; have n0_ := Aside0.mk (Kd.R_elder' q6_28 (Kd.R_base ho0) hb); have n1_ := Aside0.mk (Kd.R_lower (Kd.R_new' ho0 (Kd.R_lt q6_28)) (below_size q6_23)); have n2_ := Aside0.mk (below_step q6_23 hb); clear HO214; clear HB; have HO214 := n0_; have HO218 := n1_; have HB := n2_; clear n0_ n1_ n2_; (try clear hb); (try clear hb2); (try clear hk); (try clear hi); (try clear ho0)) | ((with_reducible refine gate_dst (N := 5) rfl ?_); refine box_event ?hg (N := 5) ?hd (cs := #[.int .i64 0, .slice none 0 0]) (t := 43) ?hr ?_; (case hd => rfl); (case hg => rfl); (case hr => first | (go_simp; done) | (go_simp; rfl)); intro gb220 hg w12 hbox hb; have n0_ := Aside0.mk (Kd.R_below q6_28 hb); have n1_ := Aside0.mk (Kd.R_below q6_29 hb); have n2_ := Aside0.mk (below_step q6_23 hb); have n3_ := Aside0.mk (hbox); have n4_ := Aside0.mk ((by rw [hg]; exact (below_size q6_23) : w.heap.size ≤ gb220)); have n5_ := Aside0.mk ((by rw [hg]; exact (below_size q6_23) : w.heap.size ≤ gb220)); clear HO214; clear HO218; clear HB; have HO214 := n0_; have HO218 := n1_; have HB := n2_; have BK220 := n3_; have GW220 := n4_; have GE220 := n5_; clear n0_ n1_ n2_ n3_ n4_ n5_; clear hb hbox hg; have hcz13_0 : w12.cell? ⟨gb220, 0, none⟩ = some (.int .i64 0) := (blk_cell BK220.out 0).trans rfl; have hcz13_1 : w12.cell? ⟨gb220, 1, none⟩ = some (.slice none 0 0) := (blk_cell BK220.out 1).trans rfl; have hfz13_0 := blk_frozen BK220.out 0; have hfz13_1 := blk_frozen BK220.out 1; obtain ⟨Ao14, co14, eo14⟩ := Kd.R_slice HO218.out; subst eo14) | ((with_reducible refine gate_callee (f := 16) rfl ?_); refine goesL_ (some 26) rfl rfl Tryd.func16 q6_36 rfl #[.slice A1 l1.length c1] rfl q6_22 ?_; (with_reducible refine (laws_toIntS.calls k _ _ l1 t221 _ ?side1 ?side2 A6.out).mono ?_); (case side1 => exact Kd.C_below HR1.out q6_21); (case side2 => exact HC1.out); rintro e w15 ⟨v222, rfl, ho0, hb⟩; refine ⟨_, rfl, ?_⟩; have n0_ := Aside0.mk (Kd.R_elder' q6_8 (Kd.R_base ho0) hb); have n1_ := Aside0.mk (Kd.R_elder' q6_9 (Kd.R_base ho0) hb); have n2_ := Aside0.mk (Kd.R_lower (Kd.R_new' (Kd.R_new' ho0 (Kd.R_lt q6_8)) (Kd.R_lt q6_9)) (below_size q6_21)); have n3_ := Aside0.mk (blk_below (g := gb220) (o := .cells #[.int .i64 t215, .slice Ao14 t216.length co14] 43 (0, 0)) (by (with_reducible repeat (first | refine blk_drewN ?_ _ | refine blk_drew ?_ | refine blk_alloc ?_ _)); refine blk_put (cs := #[.int .i64 t215, .slice none 0 0]) ?_ 1 _ rfl; (with_reducible repeat (first | refine blk_drewN ?_ _ | refine blk_drew ?_ | refine blk_alloc ?_ _)); refine blk_put (cs := #[.int .i64 0, .slice none 0 0]) ?_ 0 _ rfl; (with_reducible repeat (first | refine blk_drewN ?_ _ | refine blk_drew ?_ | refine blk_alloc ?_ _)); exact BK220.out) hb); have n4_ := Aside0.mk (below_step q6_21 hb); clear HO214; clear HO218; clear BK220; clear HB; have HO214 := n0_; have HO218 := n1_; have HO223 := n2_; have BK220 := n3_; have HB := n4_; clear n0_ n1_ n2_ n3_ n4_; (try clear hb); (try clear hb2); (try clear hk); (try clear hi); (try clear ho0); obtain ⟨Ao16, co16, eo16⟩ := Kd.R_slice HO223.out; subst eo16) | ((with_reducible refine gate_callee (f := 20) rfl ?_); refine goesL_ (some 30) rfl rfl Tryd.func20 q6_36 rfl #[.int .i64 a0, .slice Ao16 t221.length co16] rfl q6_22 ?_; (with_reducible refine (impl_ContextOfFamily.calls k a0 _ _ t221 t224 t225 t228 _ ?side1 ?side2 ?tab A7.out).mono ?_); (case tab => first | exact HTB.out | (refine Tab64.below HTB.out ?_; repeat (first | (with_reducible first | exact HB.out | apply below_alloc | apply pw_below_drewN | apply below_drew1 | refine below_set ?_ GE220.out | refine below_set ?_ GE229.out | refine below_set ?_ GE249.out) | exact HB.out)) | (repeat (first | exact HTB.out | apply Tab64.drewN | apply Tab64.drew | apply Tab64.alloc))); (case side1 => repeat (first | exact (Kd.R_reads' HO223.out).2.2 | (with_reducible refine Kd.C_alloc ?_ _) | (with_reducible refine Kd.C_drewN ?_ _) | (with_reducible refine Kd.C_drew ?_))); (case side2 => exact (Kd.R_reads' HO223.out).2.1); rintro e w17 ⟨v226, rfl, ho0, hb⟩; refine ⟨_, rfl, ?_⟩; have n0_ := Aside0.mk (Kd.R_elder' q6_28 (Kd.R_base ho0) hb); have n1_ := Aside0.mk (Kd.R_elder' q6_29 (Kd.R_base ho0) hb); have n2_ := Aside0.mk (Kd.R_elder' q6_30 (Kd.R_base ho0) hb); have n3_ := Aside0.mk (Kd.R_lower (Kd.R_new' (Kd.R_new' (Kd.R_new' ho0 (Kd.R_lt q6_28)) (Kd.R_lt q6_29)) (Kd.R_lt q6_30)) (below_size q6_21)); have n4_ := Aside0.mk (blk_below (g := gb220) (o := .cells #[.int .i64 t215, .slice Ao14 t216.length co14] 43 (0, 0)) q6_24 hb); have n5_ := Aside0.mk (below_step q6_21 hb); clear HO214; clear HO218; clear HO223; clear BK220; clear HB; have HO214 := n0_; have HO218 := n1_; have HO223 := n2_; have HO227 := n3_; have BK220 := n4_; have HB := n5_; clear n0_ n1_ n2_ n3_ n4_ n5_; (try clear hb); (try clear hb2); (try clear hk); (try clear hi); (try clear ho0)) | ((with_reducible refine gate_dst (N := 8) rfl ?_); refine box_event ?hg (N := 8) ?hd (cs := #[.int .i64 0, .slice none 0 0]) (t := 43) ?hr ?_; (case hd => rfl); (case hg => rfl); (case hr => first | (go_simp; done) | (go_simp; rfl)); intro gb229 hg w18 hbox hb; have n0_ := Aside0.mk (Kd.R_below q6_28 hb); have n1_ := Aside0.mk (Kd.R_below q6_29 hb); have n2_ := Aside0.mk (Kd.R_below q6_30 hb); have n3_ := Aside0.mk (Kd.R_below (by (with_reducible repeat (first | apply Kd.R_alloc | apply Kd.R_drewN | apply Kd.R_drew)); exact HO227.out) hb); have n4_ := Aside0.mk (blk_below (g := gb220) (o := .cells #[.int .i64 t215, .slice Ao14 t216.length co14] 43 (0, 0)) q6_24 hb); have n5_ := Aside0.mk (below_step q6_21 hb); have n6_ := Aside0.mk (hbox); have n7_ := Aside0.mk ((by rw [hg]; exact (below_size q6_21) : w.heap.size ≤ gb229)); have n8_ := Aside0.mk ((by rw [hg]; exact (below_size q6_21) : w.heap.size ≤ gb229)); have n9_ := Aside0.mk ((by rw [hg]; exact Nat.ne_of_lt (blk_lt (g := gb220) (o := .cells #[.int .i64 t215, .slice Ao14 t216.length co14] 43 (0, 0)) q6_24) : gb220 ≠ gb229)); have n10_ := Aside0.mk ((by rw [hg]; exact Nat.ne_of_gt (blk_lt (g := gb220) (o := .cells #[.int .i64 t215, .slice Ao14 t216.length co14] 43 (0, 0)) q6_24) : gb229 ≠ gb220)); clear HO214; clear HO218; clear HO223; clear HO227; clear BK220; clear HB; have HO214 := n0_; have HO218 := n1_; have HO223 := n2_; have HO227 := n3_; have BK220 := n4_; have HB := n5_; have BK229 := n6_; have GW229 := n7_; have GE229 := n8_; have NB220_229 := n9_; have NB229_220 := n10_; clear n0_ n1_ n2_ n3_ n4_ n5_ n6_ n7_ n8_ n9_ n10_; clear hb hbox hg; have hnb19 := NB229_220.out; have hnc19 := NB220_229.out; have hcz20_0 : w18.cell? ⟨gb229, 0, none⟩ = some (.int .i64 0) := (blk_cell BK229.out 0).trans rfl; have hcz20_1 : w18.cell? ⟨gb229, 1, none⟩ = some (.slice none 0 0) := (blk_cell BK229.out 1).trans rfl; have hfz20_0 := blk_frozen BK229.out 0; have hfz20_1 := blk_frozen BK229.out 1; obtain ⟨Ao21, co21, eo21⟩ := Kd.R_slice HO227.out; subst eo21))
  (try simp only [Act.put, List.setIfInBounds_toArray, List.set_cons_zero, List.set_cons_succ])
  go_cut [41] (fun v41 wc => ∃ (kq : Nat) (x41_7 : Bool), v41 = .bool x41_7 ∧ Aside0 (laws_FnExactContextOfFamily.j0 kq a0 l1 t219 t221 t228 x41_7 t215 t216 t224 t225 = some r) ∧ Aside0 (kq ≤ k) ∧ Aside0 (Kd.R (Kd.int .i64) 3 wc w.heap.size (fun k_ => some k_ ≠ ((.slice Ao14 t216.length co14) : Value).ownBlock ∧ some k_ ≠ ((.slice Ao21 t225.length co21) : Value).ownBlock) (.slice Ao16 t221.length co16) t221) ∧ Aside0 (Kd.R (Kd.int .i64) 3 wc w.heap.size (fun k_ => some k_ ≠ ((.slice Ao16 t221.length co16) : Value).ownBlock ∧ some k_ ≠ ((.slice Ao21 t225.length co21) : Value).ownBlock) (.slice Ao14 t216.length co14) t216) ∧ Aside0 (Kd.R (Kd.int .i64) 3 wc w.heap.size (fun k_ => some k_ ≠ ((.slice Ao16 t221.length co16) : Value).ownBlock ∧ some k_ ≠ ((.slice Ao14 t216.length co14) : Value).ownBlock) (.slice Ao21 t225.length co21) t225) ∧ Aside0 (wc.heap[gb220]? = some (.cells #[.int .i64 t215, (.slice Ao14 t216.length co14)] 43 (0, 0))) ∧ Aside0 (wc.heap[gb229]? = some (.cells #[.int .i64 t224, (.slice Ao21 t225.length co21)] 43 (0, 0))) ∧ Aside0 (Below w.heap.size w wc))
  case first =>
   have H := HC8.out
   clear HC8
   replace H := Option.bind_eq_some_iff.mp H
   obtain ⟨t230, A220, H⟩ := H
   replace H : (if t230 = true then (laws_FnExactContextOfFamily.j0 k a0 l1 t219 t221 t228 (t228 != t219) t215 t216 t224 t225) else (laws_FnExactContextOfFamily.j0 k a0 l1 t219 t221 t228 true t215 t216 t224 t225)) = some r := H
   have A22 := Aside0.mk A220
   clear A220
   by_cases c23 : t230 = true
   ·
    subst c23
    have H1 : (laws_FnExactContextOfFamily.j0 k a0 l1 t219 t221 t228 (t228 != t219) t215 t216 t224 t225) = some r := q6_35
    clear H
    have H := H1
    clear H1
    have H' := Aside0.mk H
    clear H
    have hnb24 := NB229_220.out
    have hnc24 := NB220_229.out
    have hcz25_0 : w18.cell? ⟨gb229, 0, none⟩ = some (.int .i64 0) := (blk_cell BK229.out 0).trans rfl
    have hcz25_1 : w18.cell? ⟨gb229, 1, none⟩ = some (.slice none 0 0) := (blk_cell BK229.out 1).trans rfl
    have hfz25_0 := blk_frozen BK229.out 0
    have hfz25_1 := blk_frozen BK229.out 1
    have hcz26_0 : w18.cell? ⟨gb220, 0, none⟩ = some (.int .i64 t215) := (blk_cell BK220.out 0).trans rfl
    have hcz26_1 : w18.cell? ⟨gb220, 1, none⟩ = some (.slice Ao14 t216.length co14) := (blk_cell BK220.out 1).trans rfl
    have hfz26_0 := blk_frozen BK220.out 0
    have hfz26_1 := blk_frozen BK220.out 1
    go_wp2_with (first | ((with_reducible refine gate_callee (f := 21) rfl ?_); refine goesL_ (some 35) rfl rfl Tryd.func21 q6_36 rfl #[.agg #[.int .i64 t224, .slice Ao21 t225.length co21], .agg #[.int .i64 t215, .slice Ao14 t216.length co14]] rfl q6_22 ?_; (with_reducible refine (laws_eqContext.calls k t224 _ _ t225 t215 _ _ t216 true _ ?side1 ?side2 ?side3 ?side4 A22.out).mono ?_); (case side1 => refine (Kd.R_reads' (e := 3) (base := w.heap.size) (ok := fun k_ => (((True ∧ some k_ ≠ (.slice Ao10 t212.length co10 : Value).ownBlock) ∧ some k_ ≠ (.slice Ao14 t216.length co14 : Value).ownBlock) ∧ some k_ ≠ (.slice Ao16 t221.length co16 : Value).ownBlock)) (n := t225.length) (c := co21) ?_).2.2; exact q6_13); (case side2 => exact (Kd.R_reads' HO227.out).2.1); (case side3 => refine (Kd.R_reads' (e := 3) (base := w.heap.size) (ok := fun k_ => (((True ∧ some k_ ≠ (.slice Ao10 t212.length co10 : Value).ownBlock) ∧ some k_ ≠ (.slice Ao16 t221.length co16 : Value).ownBlock) ∧ some k_ ≠ (.slice Ao21 t225.length co21 : Value).ownBlock)) (n := t216.length) (c := co14) ?_).2.2; exact q6_11); (case side4 => exact (Kd.R_reads' HO218.out).2.1); rintro e w27 ⟨rfl, hb⟩; refine ⟨_, rfl, ?_⟩; have n0_ := Aside0.mk (Kd.R_below q6_10 hb); have n1_ := Aside0.mk (Kd.R_below q6_11 hb); have n2_ := Aside0.mk (Kd.R_below q6_12 hb); have n3_ := Aside0.mk (Kd.R_below q6_13 hb); have n4_ := Aside0.mk (blk_below (g := gb220) (o := .cells #[.int .i64 t215, .slice Ao14 t216.length co14] 43 (0, 0)) q6_3 hb); have n5_ := Aside0.mk (blk_below (g := gb229) (o := .cells #[.int .i64 t224, .slice Ao21 t225.length co21] 43 (0, 0)) q6_1 hb); have n6_ := Aside0.mk (below_step q6_17 hb); clear HO214; clear HO218; clear HO223; clear HO227; clear BK220; clear BK229; clear HB; have HO214 := n0_; have HO218 := n1_; have HO223 := n2_; have HO227 := n3_; have BK220 := n4_; have BK229 := n5_; have HB := n6_; clear n0_ n1_ n2_ n3_ n4_ n5_ n6_; (try clear hb); (try clear hb2); (try clear hk); (try clear hi)))
    go_meet
    case rel => exact ⟨_, ((t228 != t219)), q6_33, H', ⟨by first | omega | exact Nat.le_refl _⟩, ⟨by (with_reducible repeat (first | apply Kd.R_alloc | apply Kd.R_drewN | apply Kd.R_drew)); exact Kd.R_mono HO223.out (fun _ hk => ⟨hk.1.2, hk.2⟩)⟩, ⟨by (with_reducible repeat (first | apply Kd.R_alloc | apply Kd.R_drewN | apply Kd.R_drew)); exact Kd.R_mono HO218.out (fun _ hk => ⟨hk.1.2, hk.2⟩)⟩, ⟨by (with_reducible repeat (first | apply Kd.R_alloc | apply Kd.R_drewN | apply Kd.R_drew)); exact Kd.R_mono HO227.out (fun _ hk => ⟨hk.2, hk.1.2⟩)⟩, ⟨by (with_reducible repeat (first | refine blk_drewN ?_ _ | refine blk_drew ?_ | refine blk_alloc ?_ _)); exact BK220.out⟩, ⟨by (with_reducible repeat (first | refine blk_drewN ?_ _ | refine blk_drew ?_ | refine blk_alloc ?_ _)); exact BK229.out⟩, ⟨by repeat (first | (with_reducible first | exact HB.out | apply below_alloc | apply pw_below_drewN | apply below_drew1 | refine below_set ?_ GE220.out | refine below_set ?_ GE229.out) | exact HB.out)⟩⟩
   ·
    replace c23 := Bool.eq_false_iff.mpr c23
    subst c23
    have H1 : (laws_FnExactContextOfFamily.j0 k a0 l1 t219 t221 t228 true t215 t216 t224 t225) = some r := q6_34
    clear H
    have H := H1
    clear H1
    have H' := Aside0.mk H
    clear H
    have hnb28 := NB229_220.out
    have hnc28 := NB220_229.out
    have hcz29_0 : w18.cell? ⟨gb229, 0, none⟩ = some (.int .i64 0) := (blk_cell BK229.out 0).trans rfl
    have hcz29_1 : w18.cell? ⟨gb229, 1, none⟩ = some (.slice none 0 0) := (blk_cell BK229.out 1).trans rfl
    have hfz29_0 := blk_frozen BK229.out 0
    have hfz29_1 := blk_frozen BK229.out 1
    have hcz30_0 : w18.cell? ⟨gb220, 0, none⟩ = some (.int .i64 t215) := (blk_cell BK220.out 0).trans rfl
    have hcz30_1 : w18.cell? ⟨gb220, 1, none⟩ = some (.slice Ao14 t216.length co14) := (blk_cell BK220.out 1).trans rfl
    have hfz30_0 := blk_frozen BK220.out 0
    have hfz30_1 := blk_frozen BK220.out 1
    go_wp2_with (first | ((with_reducible refine gate_callee (f := 21) rfl ?_); refine goesL_ (some 35) rfl rfl Tryd.func21 q6_36 rfl #[.agg #[.int .i64 t224, .slice Ao21 t225.length co21], .agg #[.int .i64 t215, .slice Ao14 t216.length co14]] rfl q6_22 ?_; (with_reducible refine (laws_eqContext.calls k t224 _ _ t225 t215 _ _ t216 false _ ?side1 ?side2 ?side3 ?side4 A22.out).mono ?_); (case side1 => refine (Kd.R_reads' (e := 3) (base := w.heap.size) (ok := fun k_ => (((True ∧ some k_ ≠ (.slice Ao10 t212.length co10 : Value).ownBlock) ∧ some k_ ≠ (.slice Ao14 t216.length co14 : Value).ownBlock) ∧ some k_ ≠ (.slice Ao16 t221.length co16 : Value).ownBlock)) (n := t225.length) (c := co21) ?_).2.2; exact q6_13); (case side2 => exact (Kd.R_reads' HO227.out).2.1); (case side3 => refine (Kd.R_reads' (e := 3) (base := w.heap.size) (ok := fun k_ => (((True ∧ some k_ ≠ (.slice Ao10 t212.length co10 : Value).ownBlock) ∧ some k_ ≠ (.slice Ao16 t221.length co16 : Value).ownBlock) ∧ some k_ ≠ (.slice Ao21 t225.length co21 : Value).ownBlock)) (n := t216.length) (c := co14) ?_).2.2; exact q6_11); (case side4 => exact (Kd.R_reads' HO218.out).2.1); rintro e w31 ⟨rfl, hb⟩; refine ⟨_, rfl, ?_⟩; have n0_ := Aside0.mk (Kd.R_below q6_10 hb); have n1_ := Aside0.mk (Kd.R_below q6_11 hb); have n2_ := Aside0.mk (Kd.R_below q6_12 hb); have n3_ := Aside0.mk (Kd.R_below q6_13 hb); have n4_ := Aside0.mk (blk_below (g := gb220) (o := .cells #[.int .i64 t215, .slice Ao14 t216.length co14] 43 (0, 0)) q6_3 hb); have n5_ := Aside0.mk (blk_below (g := gb229) (o := .cells #[.int .i64 t224, .slice Ao21 t225.length co21] 43 (0, 0)) q6_1 hb); have n6_ := Aside0.mk (below_step q6_17 hb); clear HO214; clear HO218; clear HO223; clear HO227; clear BK220; clear BK229; clear HB; have HO214 := n0_; have HO218 := n1_; have HO223 := n2_; have HO227 := n3_; have BK220 := n4_; have BK229 := n5_; have HB := n6_; clear n0_ n1_ n2_ n3_ n4_ n5_ n6_; (try clear hb); (try clear hb2); (try clear hk); (try clear hi)))
    go_meet
    case rel => exact ⟨_, (true), q6_33, H', ⟨by first | omega | exact Nat.le_refl _⟩, ⟨by (with_reducible repeat (first | apply Kd.R_alloc | apply Kd.R_drewN | apply Kd.R_drew)); exact Kd.R_mono HO223.out (fun _ hk => ⟨hk.1.2, hk.2⟩)⟩, ⟨by (with_reducible repeat (first | apply Kd.R_alloc | apply Kd.R_drewN | apply Kd.R_drew)); exact Kd.R_mono HO218.out (fun _ hk => ⟨hk.1.2, hk.2⟩)⟩, ⟨by (with_reducible repeat (first | apply Kd.R_alloc | apply Kd.R_drewN | apply Kd.R_drew)); exact Kd.R_mono HO227.out (fun _ hk => ⟨hk.2, hk.1.2⟩)⟩, ⟨by (with_reducible repeat (first | refine blk_drewN ?_ _ | refine blk_drew ?_ | refine blk_alloc ?_ _)); exact BK220.out⟩, ⟨by (with_reducible repeat (first | refine blk_drewN ?_ _ | refine blk_drew ?_ | refine blk_alloc ?_ _)); exact BK229.out⟩, ⟨by repeat (first | (with_reducible first | exact HB.out | apply below_alloc | apply pw_below_drewN | apply below_drew1 | refine below_set ?_ GE220.out | refine below_set ?_ GE229.out) | exact HB.out)⟩⟩
  case rest =>
   clear HC8
   try clear c1
   try clear c2
   try clear p2
   try clear c3
   try clear c3b0
   try clear c3b1
   try clear c6
   try clear c16
   try clear c19
   try clear c20
   try clear c21
   try clear c23
   try clear c24
   try clear c28
   try clear hcz13_0
   try clear hcz13_1
   try clear hcz20_0
   try clear hcz20_1
   try clear hcz25_0
   try clear hcz25_1
   try clear hcz26_0
   try clear hcz26_1
   try clear hcz29_0
   try clear hcz29_1
   try clear hcz30_0
   try clear hcz30_1
   try clear hfz13_0
   try clear hfz13_1
   try clear hfz20_0
   try clear hfz20_1
   try clear hfz25_0
   try clear hfz25_1
   try clear hfz26_0
   try clear hfz26_1
   try clear hfz29_0
   try clear hfz29_1
   try clear hfz30_0
   try clear hfz30_1
   obtain ⟨kq, x41_7, rfl, HA, HJ7, HO_7, HO_221001, HO_230001, BK220, BK229, HB⟩ := hcut
   cases kq with
   | zero => exact absurd HA.out (by simp [laws_FnExactContextOfFamily.j0])
   | succ kj7 =>
    have H := HA.out
    clear HA
    simp only [laws_FnExactContextOfFamily.j0] at H
    by_cases c32 : x41_7 = true
    ·
     subst c32
     have H1 : (some false) = some r := q6_35
     clear H
     have H := H1
     clear H1
     exact absurd ((Option.some.inj H).trans HRT.out) Bool.false_ne_true
    ·
     replace c32 := Bool.eq_false_iff.mpr c32
     subst c32
     have H1 : ((laws_toIntS.f kj7 l1).bind fun t231 => ((laws_eqIntS.f kj7 t221 t231).bind fun t234 => (if t234 = true then ((laws_markIntS.f kj7 t221 1).bind fun bt235 => (if bt235.1 < 0 then (laws_FnExactContextOfFamily.j1 kj7 a0 l1 t219 true t215 t216 t224 t225) else ((laws_eqContext.f kj7 t224 t225 t215 t216).bind fun t237 => (if t237 = true then (laws_FnExactContextOfFamily.j1 kj7 a0 l1 t219 (t228 != t219) t215 t216 t224 t225) else (laws_FnExactContextOfFamily.j1 kj7 a0 l1 t219 true t215 t216 t224 t225))))) else (some false)))) = some r := q6_34
     clear H
     have H := H1
     clear H1
     replace H := Option.bind_eq_some_iff.mp H
     obtain ⟨t231, A330, H⟩ := H
     replace H : ((laws_eqIntS.f kj7 t221 t231).bind fun t234 => (if t234 = true then ((laws_markIntS.f kj7 t221 1).bind fun bt235 => (if bt235.1 < 0 then (laws_FnExactContextOfFamily.j1 kj7 a0 l1 t219 true t215 t216 t224 t225) else ((laws_eqContext.f kj7 t224 t225 t215 t216).bind fun t237 => (if t237 = true then (laws_FnExactContextOfFamily.j1 kj7 a0 l1 t219 (t228 != t219) t215 t216 t224 t225) else (laws_FnExactContextOfFamily.j1 kj7 a0 l1 t219 true t215 t216 t224 t225))))) else (some false))) = some r := H
     have A33 := Aside0.mk A330
     clear A330
     replace H := Option.bind_eq_some_iff.mp H
     obtain ⟨t234, A340, H⟩ := H
     replace H : (if t234 = true then ((laws_markIntS.f kj7 t221 1).bind fun bt235 => (if bt235.1 < 0 then (laws_FnExactContextOfFamily.j1 kj7 a0 l1 t219 true t215 t216 t224 t225) else ((laws_eqContext.f kj7 t224 t225 t215 t216).bind fun t237 => (if t237 = true then (laws_FnExactContextOfFamily.j1 kj7 a0 l1 t219 (t228 != t219) t215 t216 t224 t225) else (laws_FnExactContextOfFamily.j1 kj7 a0 l1 t219 true t215 t216 t224 t225))))) else (some false)) = some r := H
     have A34 := Aside0.mk A340
     clear A340
     by_cases c35 : t234 = true
     ·
      subst c35
      have H1 : ((laws_markIntS.f kj7 t221 1).bind fun bt235 => (if bt235.1 < 0 then (laws_FnExactContextOfFamily.j1 kj7 a0 l1 t219 true t215 t216 t224 t225) else ((laws_eqContext.f kj7 t224 t225 t215 t216).bind fun t237 => (if t237 = true then (laws_FnExactContextOfFamily.j1 kj7 a0 l1 t219 (t228 != t219) t215 t216 t224 t225) else (laws_FnExactContextOfFamily.j1 kj7 a0 l1 t219 true t215 t216 t224 t225))))) = some r := q6_35
      clear H
      have H := H1
      clear H1
      replace H := Option.bind_eq_some_iff.mp H
      obtain ⟨⟨t235, t236⟩, A360, H⟩ := H
      replace H : (if t235 < 0 then (laws_FnExactContextOfFamily.j1 kj7 a0 l1 t219 true t215 t216 t224 t225) else ((laws_eqContext.f kj7 t224 t225 t215 t216).bind fun t237 => (if t237 = true then (laws_FnExactContextOfFamily.j1 kj7 a0 l1 t219 (t228 != t219) t215 t216 t224 t225) else (laws_FnExactContextOfFamily.j1 kj7 a0 l1 t219 true t215 t216 t224 t225)))) = some r := H
      have A36 := Aside0.mk A360
      clear A360
      have HC37 := Aside0.mk H
      clear H
      go_upto_region 12 with (first | ((with_reducible refine gate_callee (f := 16) rfl ?_); refine goesL_ (some 44) rfl rfl Tryd.func16 q6_36 rfl #[.slice A1 l1.length c1] rfl q6_22 ?_; (with_reducible refine (laws_toIntS.calls kj7 _ _ l1 t231 _ ?side1 ?side2 A33.out).mono ?_); (case side1 => exact q6_20); (case side2 => exact HC1.out); rintro e w38 ⟨v232, rfl, ho0, hb⟩; refine ⟨_, rfl, ?_⟩; have n0_ := Aside0.mk (Kd.R_elder' q6_32 (Kd.R_base ho0) hb); have n1_ := Aside0.mk (Kd.R_elder' q6_26 (Kd.R_base ho0) hb); have n2_ := Aside0.mk (Kd.R_elder' q6_27 (Kd.R_base ho0) hb); have n3_ := Aside0.mk (Kd.R_lower (Kd.R_new' (Kd.R_new' (Kd.R_new' ho0 (Kd.R_lt q6_32)) (Kd.R_lt q6_26)) (Kd.R_lt q6_27)) (below_size q6_17)); have n4_ := Aside0.mk (blk_below (g := gb220) (o := .cells #[.int .i64 t215, .slice Ao14 t216.length co14] 43 (0, 0)) q6_24 hb); have n5_ := Aside0.mk (blk_below (g := gb229) (o := .cells #[.int .i64 t224, .slice Ao21 t225.length co21] 43 (0, 0)) q6_25 hb); have n6_ := Aside0.mk (below_step q6_17 hb); clear HO_7; clear HO_221001; clear HO_230001; clear BK220; clear BK229; clear HB; have HO_7 := n0_; have HO_221001 := n1_; have HO_230001 := n2_; have HO233 := n3_; have BK220 := n4_; have BK229 := n5_; have HB := n6_; clear n0_ n1_ n2_ n3_ n4_ n5_ n6_; (try clear hb); (try clear hb2); (try clear hk); (try clear hi); (try clear ho0); obtain ⟨Ao39, co39, eo39⟩ := Kd.R_slice HO233.out; subst eo39) | ((with_reducible refine gate_callee (f := 18) rfl ?_); refine goesL_ (some 45) rfl rfl Tryd.func18 q6_36 rfl #[.slice Ao16 t221.length co16, .slice Ao39 t231.length co39] rfl q6_22 ?_; (with_reducible refine (laws_eqIntS.calls kj7 _ _ t221 _ _ t231 true _ ?side1 ?side2 ?side3 ?side4 A34.out).mono ?_); (case side1 => repeat (first | exact (Kd.R_reads' HO_7.out).2.2 | (with_reducible refine Kd.C_alloc ?_ _) | (with_reducible refine Kd.C_drewN ?_ _) | (with_reducible refine Kd.C_drew ?_))); (case side2 => exact (Kd.R_reads' HO_7.out).2.1); (case side3 => repeat (first | exact (Kd.R_reads' HO233.out).2.2 | (with_reducible refine Kd.C_alloc ?_ _) | (with_reducible refine Kd.C_drewN ?_ _) | (with_reducible refine Kd.C_drew ?_))); (case side4 => exact (Kd.R_reads' HO233.out).2.1); rintro e w' ⟨rfl, ⟨nd, rfl⟩⟩; refine ⟨_, rfl, ?_⟩) | ((with_reducible refine gate_callee (f := 22) rfl ?_); refine goesL_ (some 49) rfl rfl Tryd.func22 q6_36 rfl #[.slice Ao16 t221.length co16, .int .i64 1] rfl q6_22 ?_; (with_reducible refine (laws_markIntS.calls kj7 (fun k_ => some k_ = (.slice Ao16 t221.length co16 : Value).ownBlock) (.slice Ao16 t221.length co16) t221 1 t235 t236 w _ ?side1 ?side2 A36.out).mono ?_); (case side1 => exact q6_17); (case side2 => exact Kd.R_tight rfl HO_7.out); rintro e w40 ⟨rfl, hy0, hb, hkp⟩; refine ⟨_, rfl, ?_⟩; have n0_ := Aside0.mk (Kd.R_reok rfl hy0 (fun k_ e_ => HO_7.out.1 k_ e_)); have n1_ := Aside0.mk (Kd.R_mono (ok' := fun k_ => some k_ ≠ (.slice Ao16 t221.length co16 : Value).ownBlock ∧ some k_ ≠ (.slice Ao21 t225.length co21 : Value).ownBlock ∧ some k_ ≠ (.slice Ao39 t231.length co39 : Value).ownBlock) (Kd.R_keptB (HO_221001.out) hkp (fun k_ hk_ hs_ => by first | exact hk_.1.1 hs_ | exact hk_.1.1.2 hs_ | exact hk_.1.2 hs_ | exact hk_.2 hs_ | exact hk_.1 hs_ | exact hk_.1.1.1 hs_ | exact hk_ hs_)) (fun k_ hk_ => ⟨hk_.1.1.1, hk_.1.1.2, hk_.1.2⟩)); have n2_ := Aside0.mk (Kd.R_mono (ok' := fun k_ => some k_ ≠ (.slice Ao16 t221.length co16 : Value).ownBlock ∧ some k_ ≠ (.slice Ao14 t216.length co14 : Value).ownBlock ∧ some k_ ≠ (.slice Ao39 t231.length co39 : Value).ownBlock) (Kd.R_keptB (HO_230001.out) hkp (fun k_ hk_ hs_ => by first | exact hk_.1.1 hs_ | exact hk_.1.1.2 hs_ | exact hk_.1.2 hs_ | exact hk_.2 hs_ | exact hk_.1 hs_ | exact hk_.1.1.1 hs_ | exact hk_ hs_)) (fun k_ hk_ => ⟨hk_.1.1.1, hk_.1.1.2, hk_.1.2⟩)); have n3_ := Aside0.mk (blk_kept q6_24 hkp (fun hs_ => (fun e_ => (Kd.R_ne HO_7.out BK220.out (by decide)) e_) hs_)); have n4_ := Aside0.mk (blk_kept q6_25 hkp (fun hs_ => (fun e_ => (Kd.R_ne HO_7.out BK229.out (by decide)) e_) hs_)); have n5_ := Aside0.mk (Kd.R_mono (ok' := fun k_ => some k_ ≠ (.slice Ao16 t221.length co16 : Value).ownBlock ∧ some k_ ≠ (.slice Ao14 t216.length co14 : Value).ownBlock ∧ some k_ ≠ (.slice Ao21 t225.length co21 : Value).ownBlock) (Kd.R_keptB (HO233.out) hkp (fun k_ hk_ hs_ => by first | exact hk_.1.1.2 hs_ | exact hk_.1.1 hs_ | exact hk_.1.2 hs_ | exact hk_.2 hs_ | exact hk_.1 hs_ | exact hk_.1.1.1 hs_ | exact hk_ hs_)) (fun k_ hk_ => ⟨hk_.1.1.1.2, hk_.1.1.2, hk_.1.2⟩)); have n6_ := Aside0.mk (hb); clear HO_7; clear HO_221001; clear HO_230001; clear BK220; clear BK229; clear HO233; clear HB; have HO_7 := n0_; have HO_221001 := n1_; have HO_230001 := n2_; have BK220 := n3_; have BK229 := n4_; have HO233 := n5_; have HB := n6_; clear n0_ n1_ n2_ n3_ n4_ n5_ n6_; (try clear hb); (try clear hkp); (try clear hy0)))
      (try simp only [Act.put, List.setIfInBounds_toArray, List.set_cons_zero, List.set_cons_succ])
      go_cut [62] (fun v62 wc => ∃ (kq : Nat) (x62_36 : Bool), v62 = .bool x62_36 ∧ Aside0 (laws_FnExactContextOfFamily.j1 kq a0 l1 t219 x62_36 t215 t216 t224 t225 = some r) ∧ Aside0 (kq ≤ kj7) ∧ Aside0 (Kd.R (Kd.int .i64) 3 wc w.heap.size (fun k_ => some k_ ≠ ((.slice Ao21 t225.length co21) : Value).ownBlock) (.slice Ao14 t216.length co14) t216) ∧ Aside0 (Kd.R (Kd.int .i64) 3 wc w.heap.size (fun k_ => some k_ ≠ ((.slice Ao14 t216.length co14) : Value).ownBlock) (.slice Ao21 t225.length co21) t225) ∧ Aside0 (wc.heap[gb220]? = some (.cells #[.int .i64 t215, (.slice Ao14 t216.length co14)] 43 (0, 0))) ∧ Aside0 (wc.heap[gb229]? = some (.cells #[.int .i64 t224, (.slice Ao21 t225.length co21)] 43 (0, 0))) ∧ Aside0 (Below w.heap.size w wc))
      case first =>
       have H := HC37.out
       clear HC37
       by_cases c41 : t235 < 0
       ·
        rw [if_pos c41] at H
        have c41b0 : decide (t235 < 0) = true := decide_eq_true c41
        clear c41
        (first | rw [c41b0] | (simp only [i64_w, i32_w]; rw [c41b0]) | skip)
        have H' := Aside0.mk H
        clear H
        go_wp2
        go_meet
        case rel => exact ⟨_, (true), q6_33, H', ⟨by have := HJ7.out; first | omega | exact Nat.le_refl _⟩, ⟨by (with_reducible repeat (first | apply Kd.R_alloc | apply Kd.R_drewN | apply Kd.R_drew)); exact Kd.R_mono HO_221001.out (fun _ hk => hk.2.1)⟩, ⟨by (with_reducible repeat (first | apply Kd.R_alloc | apply Kd.R_drewN | apply Kd.R_drew)); exact Kd.R_mono HO_230001.out (fun _ hk => hk.2.1)⟩, ⟨by (with_reducible repeat (first | refine blk_drewN ?_ _ | refine blk_drew ?_ | refine blk_alloc ?_ _)); exact BK220.out⟩, ⟨by (with_reducible repeat (first | refine blk_drewN ?_ _ | refine blk_drew ?_ | refine blk_alloc ?_ _)); exact BK229.out⟩, ⟨by repeat (first | (with_reducible first | exact HB.out | apply below_alloc | apply pw_below_drewN | apply below_drew1 | refine below_set ?_ GE220.out | refine below_set ?_ GE229.out) | exact HB.out)⟩⟩
       ·
        rw [if_neg c41] at H
        have c41b0 : decide (t235 < 0) = false := decide_eq_false c41
        clear c41
        (first | rw [c41b0] | (simp only [i64_w, i32_w]; rw [c41b0]) | skip)
        replace H := Option.bind_eq_some_iff.mp H
        obtain ⟨t237, A420, H⟩ := H
        replace H : (if t237 = true then (laws_FnExactContextOfFamily.j1 kj7 a0 l1 t219 (t228 != t219) t215 t216 t224 t225) else (laws_FnExactContextOfFamily.j1 kj7 a0 l1 t219 true t215 t216 t224 t225)) = some r := H
        have A42 := Aside0.mk A420
        clear A420
        by_cases c43 : t237 = true
        ·
         subst c43
         have H1 : (laws_FnExactContextOfFamily.j1 kj7 a0 l1 t219 (t228 != t219) t215 t216 t224 t225) = some r := q6_35
         clear H
         have H := H1
         clear H1
         have H' := Aside0.mk H
         clear H
         have hnb44 := NB229_220.out
         have hnc44 := NB220_229.out
         have hcz45_0 : w40.cell? ⟨gb229, 0, none⟩ = some (.int .i64 t224) := (blk_cell BK229.out 0).trans rfl
         have hcz45_1 : w40.cell? ⟨gb229, 1, none⟩ = some (.slice Ao21 t225.length co21) := (blk_cell BK229.out 1).trans rfl
         have hfz45_0 := blk_frozen BK229.out 0
         have hfz45_1 := blk_frozen BK229.out 1
         have hcz46_0 : w40.cell? ⟨gb220, 0, none⟩ = some (.int .i64 t215) := (blk_cell BK220.out 0).trans rfl
         have hcz46_1 : w40.cell? ⟨gb220, 1, none⟩ = some (.slice Ao14 t216.length co14) := (blk_cell BK220.out 1).trans rfl
         have hfz46_0 := blk_frozen BK220.out 0
         have hfz46_1 := blk_frozen BK220.out 1
         go_wp2_with (first | (go_at_call 21; (with_reducible refine (laws_eqContext.calls kj7 t224 _ _ t225 t215 _ _ t216 true _ ?side1 ?side2 ?side3 ?side4 A42.out).mono ?_); (case side1 => exact q6_19); (case side2 => exact (Kd.R_reads' HO_230001.out).2.1); (case side3 => exact q6_18); (case side4 => exact (Kd.R_reads' HO_221001.out).2.1); rintro e w47 ⟨rfl, hb⟩; have n0_ := Aside0.mk (Kd.R_below q6_32 hb); have n1_ := Aside0.mk (Kd.R_below q6_26 hb); have n2_ := Aside0.mk (Kd.R_below q6_27 hb); have n3_ := Aside0.mk (Kd.R_below (by (with_reducible repeat (first | apply Kd.R_alloc | apply Kd.R_drewN | apply Kd.R_drew)); exact HO233.out) hb); have n4_ := Aside0.mk (blk_below (g := gb220) (o := .cells #[.int .i64 t215, .slice Ao14 t216.length co14] 43 (0, 0)) q6_24 hb); have n5_ := Aside0.mk (blk_below (g := gb229) (o := .cells #[.int .i64 t224, .slice Ao21 t225.length co21] 43 (0, 0)) q6_25 hb); have n6_ := Aside0.mk (below_step q6_17 hb); clear HO_7; clear HO_221001; clear HO_230001; clear HO233; clear BK220; clear BK229; clear HB; have HO_7 := n0_; have HO_221001 := n1_; have HO_230001 := n2_; have HO233 := n3_; have BK220 := n4_; have BK229 := n5_; have HB := n6_; clear n0_ n1_ n2_ n3_ n4_ n5_ n6_; (try clear hb); (try clear hb2); (try clear hk); (try clear hi)))
         go_meet
         case rel => exact ⟨_, ((t228 != t219)), q6_33, H', ⟨by have := HJ7.out; first | omega | exact Nat.le_refl _⟩, ⟨by (with_reducible repeat (first | apply Kd.R_alloc | apply Kd.R_drewN | apply Kd.R_drew)); exact Kd.R_mono HO_221001.out (fun _ hk => hk.2.1)⟩, ⟨by (with_reducible repeat (first | apply Kd.R_alloc | apply Kd.R_drewN | apply Kd.R_drew)); exact Kd.R_mono HO_230001.out (fun _ hk => hk.2.1)⟩, ⟨by (with_reducible repeat (first | refine blk_drewN ?_ _ | refine blk_drew ?_ | refine blk_alloc ?_ _)); exact BK220.out⟩, ⟨by (with_reducible repeat (first | refine blk_drewN ?_ _ | refine blk_drew ?_ | refine blk_alloc ?_ _)); exact BK229.out⟩, ⟨by repeat (first | (with_reducible first | exact HB.out | apply below_alloc | apply pw_below_drewN | apply below_drew1 | refine below_set ?_ GE220.out | refine below_set ?_ GE229.out) | exact HB.out)⟩⟩
        ·
         replace c43 := Bool.eq_false_iff.mpr c43
         subst c43
         have H1 : (laws_FnExactContextOfFamily.j1 kj7 a0 l1 t219 true t215 t216 t224 t225) = some r := q6_34
         clear H
         have H := H1
         clear H1
         have H' := Aside0.mk H
         clear H
         have hnb48 := NB229_220.out
         have hnc48 := NB220_229.out
         have hcz49_0 : w40.cell? ⟨gb229, 0, none⟩ = some (.int .i64 t224) := (blk_cell BK229.out 0).trans rfl
         have hcz49_1 : w40.cell? ⟨gb229, 1, none⟩ = some (.slice Ao21 t225.length co21) := (blk_cell BK229.out 1).trans rfl
         have hfz49_0 := blk_frozen BK229.out 0
         have hfz49_1 := blk_frozen BK229.out 1
         have hcz50_0 : w40.cell? ⟨gb220, 0, none⟩ = some (.int .i64 t215) := (blk_cell BK220.out 0).trans rfl
         have hcz50_1 : w40.cell? ⟨gb220, 1, none⟩ = some (.slice Ao14 t216.length co14) := (blk_cell BK220.out 1).trans rfl
         have hfz50_0 := blk_frozen BK220.out 0
         have hfz50_1 := blk_frozen BK220.out 1
         go_wp2_with (first | (go_at_call 21; (with_reducible refine (laws_eqContext.calls kj7 t224 _ _ t225 t215 _ _ t216 false _ ?side1 ?side2 ?side3 ?side4 A42.out).mono ?_); (case side1 => exact q6_19); (case side2 => exact (Kd.R_reads' HO_230001.out).2.1); (case side3 => exact q6_18); (case side4 => exact (Kd.R_reads' HO_221001.out).2.1); rintro e w51 ⟨rfl, hb⟩; have n0_ := Aside0.mk (Kd.R_below q6_32 hb); have n1_ := Aside0.mk (Kd.R_below q6_26 hb); have n2_ := Aside0.mk (Kd.R_below q6_27 hb); have n3_ := Aside0.mk (Kd.R_below (by (with_reducible repeat (first | apply Kd.R_alloc | apply Kd.R_drewN | apply Kd.R_drew)); exact HO233.out) hb); have n4_ := Aside0.mk (blk_below (g := gb220) (o := .cells #[.int .i64 t215, .slice Ao14 t216.length co14] 43 (0, 0)) q6_24 hb); have n5_ := Aside0.mk (blk_below (g := gb229) (o := .cells #[.int .i64 t224, .slice Ao21 t225.length co21] 43 (0, 0)) q6_25 hb); have n6_ := Aside0.mk (below_step q6_17 hb); clear HO_7; clear HO_221001; clear HO_230001; clear HO233; clear BK220; clear BK229; clear HB; have HO_7 := n0_; have HO_221001 := n1_; have HO_230001 := n2_; have HO233 := n3_; have BK220 := n4_; have BK229 := n5_; have HB := n6_; clear n0_ n1_ n2_ n3_ n4_ n5_ n6_; (try clear hb); (try clear hb2); (try clear hk); (try clear hi)))
         go_meet
         case rel => exact ⟨_, (true), q6_33, H', ⟨by have := HJ7.out; first | omega | exact Nat.le_refl _⟩, ⟨by (with_reducible repeat (first | apply Kd.R_alloc | apply Kd.R_drewN | apply Kd.R_drew)); exact Kd.R_mono HO_221001.out (fun _ hk => hk.2.1)⟩, ⟨by (with_reducible repeat (first | apply Kd.R_alloc | apply Kd.R_drewN | apply Kd.R_drew)); exact Kd.R_mono HO_230001.out (fun _ hk => hk.2.1)⟩, ⟨by (with_reducible repeat (first | refine blk_drewN ?_ _ | refine blk_drew ?_ | refine blk_alloc ?_ _)); exact BK220.out⟩, ⟨by (with_reducible repeat (first | refine blk_drewN ?_ _ | refine blk_drew ?_ | refine blk_alloc ?_ _)); exact BK229.out⟩, ⟨by repeat (first | (with_reducible first | exact HB.out | apply below_alloc | apply pw_below_drewN | apply below_drew1 | refine below_set ?_ GE220.out | refine below_set ?_ GE229.out) | exact HB.out)⟩⟩
      case rest =>
       clear HC37
       try clear c1
       try clear c2
       try clear p2
       try clear c3
       try clear c3b0
       try clear c3b1
       try clear c4
       try clear c6
       try clear c16
       try clear c18
       try clear c19
       try clear c20
       try clear c21
       try clear c22
       try clear c23
       try clear c24
       try clear c28
       try clear c32
       try clear c35
       try clear c41
       try clear c41b0
       try clear c43
       try clear c44
       try clear c48
       try clear hcz13_0
       try clear hcz13_1
       try clear hcz20_0
       try clear hcz20_1
       try clear hcz25_0
       try clear hcz25_1
       try clear hcz26_0
       try clear hcz26_1
       try clear hcz29_0
       try clear hcz29_1
       try clear hcz30_0
       try clear hcz30_1
       try clear hcz45_0
       try clear hcz45_1
       try clear hcz46_0
       try clear hcz46_1
       try clear hcz49_0
       try clear hcz49_1
       try clear hcz50_0
       try clear hcz50_1
       try clear hfz13_0
       try clear hfz13_1
       try clear hfz20_0
       try clear hfz20_1
       try clear hfz25_0
       try clear hfz25_1
       try clear hfz26_0
       try clear hfz26_1
       try clear hfz29_0
       try clear hfz29_1
       try clear hfz30_0
       try clear hfz30_1
       try clear hfz45_0
       try clear hfz45_1
       try clear hfz46_0
       try clear hfz46_1
       try clear hfz49_0
       try clear hfz49_1
       try clear hfz50_0
       try clear hfz50_1
       try clear p2
       obtain ⟨kq, x62_36, rfl, HA, HJ36, HO_221001, HO_230001, BK220, BK229, HB⟩ := hcut
       cases kq with
       | zero => exact absurd HA.out (by simp [laws_FnExactContextOfFamily.j1])
       | succ kj36 =>
        have H := HA.out
        clear HA
        simp only [laws_FnExactContextOfFamily.j1] at H
        by_cases c52 : x62_36 = true
        ·
         subst c52
         have H1 : (some false) = some r := q6_35
         clear H
         have H := H1
         clear H1
         exact absurd ((Option.some.inj H).trans HRT.out) Bool.false_ne_true
        ·
         replace c52 := Bool.eq_false_iff.mpr c52
         subst c52
         have H1 : ((laws_markContext.f kj36 t224 t225 1).bind fun bt238 => ((laws_heldContext.f kj36 t224 bt238.2 1).bind fun t240 => (if t240 < 0 then (some false) else (if t240 = bt238.1 then ((laws_toIntS.f kj36 l1).bind fun t241 => ((impl_ContextOfFamily.f kj36 a0 t241).bind fun bt244 => ((laws_eqContext.f kj36 bt244.1 bt244.2.1 t215 t216).bind fun t250 => (if t250 = true then (laws_FnExactContextOfFamily.j2 kj36 bt238.1 (bt244.2.2 != t219) t224 bt238.2) else (laws_FnExactContextOfFamily.j2 kj36 bt238.1 true t224 bt238.2))))) else (some false))))) = some r := q6_34
         clear H
         have H := H1
         clear H1
         replace H := Option.bind_eq_some_iff.mp H
         obtain ⟨⟨t238, t239⟩, A530, H⟩ := H
         replace H : ((laws_heldContext.f kj36 t224 t239 1).bind fun t240 => (if t240 < 0 then (some false) else (if t240 = t238 then ((laws_toIntS.f kj36 l1).bind fun t241 => ((impl_ContextOfFamily.f kj36 a0 t241).bind fun bt244 => ((laws_eqContext.f kj36 bt244.1 bt244.2.1 t215 t216).bind fun t250 => (if t250 = true then (laws_FnExactContextOfFamily.j2 kj36 t238 (bt244.2.2 != t219) t224 t239) else (laws_FnExactContextOfFamily.j2 kj36 t238 true t224 t239))))) else (some false)))) = some r := H
         have A53 := Aside0.mk A530
         clear A530
         replace H := Option.bind_eq_some_iff.mp H
         obtain ⟨t240, A540, H⟩ := H
         replace H : (if t240 < 0 then (some false) else (if t240 = t238 then ((laws_toIntS.f kj36 l1).bind fun t241 => ((impl_ContextOfFamily.f kj36 a0 t241).bind fun bt244 => ((laws_eqContext.f kj36 bt244.1 bt244.2.1 t215 t216).bind fun t250 => (if t250 = true then (laws_FnExactContextOfFamily.j2 kj36 t238 (bt244.2.2 != t219) t224 t239) else (laws_FnExactContextOfFamily.j2 kj36 t238 true t224 t239))))) else (some false))) = some r := H
         have A54 := Aside0.mk A540
         clear A540
         by_cases c55 : t240 < 0
         ·
          rw [if_pos c55] at H
          exact absurd ((Option.some.inj H).trans HRT.out) Bool.false_ne_true
         ·
          rw [if_neg c55] at H
          have c55b0 : decide (t240 < 0) = false := decide_eq_false c55
          clear c55
          by_cases c56 : t240 = t238
          ·
           rw [if_pos c56] at H
           have c56b0 : (t240 == t238) = true := beq_iff_eq.mpr c56
           have c56b1 : (t240 != t238) = false := bne_eq_false_iff_eq.mpr c56
           clear c56
           replace H := Option.bind_eq_some_iff.mp H
           obtain ⟨t241, A570, H⟩ := H
           replace H : ((impl_ContextOfFamily.f kj36 a0 t241).bind fun bt244 => ((laws_eqContext.f kj36 bt244.1 bt244.2.1 t215 t216).bind fun t250 => (if t250 = true then (laws_FnExactContextOfFamily.j2 kj36 t238 (bt244.2.2 != t219) t224 t239) else (laws_FnExactContextOfFamily.j2 kj36 t238 true t224 t239)))) = some r := H
           have A57 := Aside0.mk A570
           clear A570
           replace H := Option.bind_eq_some_iff.mp H
           obtain ⟨⟨t244, t245, t248⟩, A580, H⟩ := H
           replace H : ((laws_eqContext.f kj36 t244 t245 t215 t216).bind fun t250 => (if t250 = true then (laws_FnExactContextOfFamily.j2 kj36 t238 (t248 != t219) t224 t239) else (laws_FnExactContextOfFamily.j2 kj36 t238 true t224 t239))) = some r := H
           have A58 := Aside0.mk A580
           clear A580
           have HC59 := Aside0.mk H
           clear H
           have hnb60 := NB229_220.out
           have hnc60 := NB220_229.out
           have hcz61_0 : wc.cell? ⟨gb229, 0, none⟩ = some (.int .i64 t224) := (blk_cell BK229.out 0).trans rfl
           have hcz61_1 : wc.cell? ⟨gb229, 1, none⟩ = some (.slice Ao21 t225.length co21) := (blk_cell BK229.out 1).trans rfl
           have hfz61_0 := blk_frozen BK229.out 0
           have hfz61_1 := blk_frozen BK229.out 1
           go_upto_region 23 with (first | ((with_reducible refine gate_callee (f := 23) rfl ?_); refine goesL_ (some 65) rfl rfl Tryd.func23 q6_36 rfl #[.agg #[.int .i64 t224, .slice Ao21 t225.length co21], .int .i64 1] rfl q6_22 ?_; (with_reducible refine (laws_markContext.calls kj36 t224 (fun k_ => some k_ = (.slice Ao21 t225.length co21 : Value).ownBlock) (.slice Ao21 t225.length co21) t225 1 t238 t239 w _ ?side1 ?side2 A53.out).mono ?_); (case side1 => exact q6_17); (case side2 => exact Kd.R_tight rfl HO_230001.out); rintro e w62 ⟨rfl, hy0, hb, hkp⟩; refine ⟨_, rfl, ?_⟩; have n0_ := Aside0.mk (Kd.R_mono (ok' := fun k_ => some k_ ≠ (.slice Ao21 t225.length co21 : Value).ownBlock) (Kd.R_keptB (HO_221001.out) hkp (fun k_ hk_ hs_ => by first | exact hk_ hs_ | exact hk_.1.1.2 hs_ | exact hk_.1.1 hs_ | exact hk_.1.2 hs_ | exact hk_.2 hs_ | exact hk_.1 hs_ | exact hk_.1.1.1 hs_)) (fun k_ hk_ => hk_.1)); have n1_ := Aside0.mk (Kd.R_reok rfl hy0 (fun k_ e_ => HO_230001.out.1 k_ e_)); have n2_ := Aside0.mk (blk_kept q6_24 hkp (fun hs_ => (fun e_ => (Kd.R_ne HO_230001.out BK220.out (by decide)) e_) hs_)); have n3_ := Aside0.mk (blk_kept q6_25 hkp (fun hs_ => (fun e_ => (Kd.R_ne HO_230001.out BK229.out (by decide)) e_) hs_)); have n4_ := Aside0.mk (hb); clear HO_221001; clear HO_230001; clear BK220; clear BK229; clear HB; have HO_221001 := n0_; have HO_230001 := n1_; have BK220 := n2_; have BK229 := n3_; have HB := n4_; clear n0_ n1_ n2_ n3_ n4_; (try clear hb); (try clear hkp); (try clear hy0); have hcz63_0 : w62.cell? ⟨gb229, 0, none⟩ = some (.int .i64 t224) := (blk_cell BK229.out 0).trans rfl; have hcz63_1 : w62.cell? ⟨gb229, 1, none⟩ = some (.slice Ao21 t225.length co21) := (blk_cell BK229.out 1).trans rfl; have hfz63_0 := blk_frozen BK229.out 0; have hfz63_1 := blk_frozen BK229.out 1) | ((with_reducible refine gate_callee (f := 24) rfl ?_); refine goesL_ (some 68) rfl rfl Tryd.func24 q6_36 rfl #[.agg #[.int .i64 t224, .slice Ao21 t239.length co21], .int .i64 1] rfl (by (try simp only [List.map_toArray, List.map_cons, List.map_nil]); first | done | (rw [show t239.length = t225.length from (Kd.R_reads' HO_230001.out).1.symm] <;> rfl) | rfl | (simp only [List.length_drop, List.length_take]; rfl)) ?_; (with_reducible refine (laws_heldContext.calls kj36 t224 _ _ t239 1 t240 _ ?side1 ?side2 A54.out).mono ?_); (case side1 => exact q6_19); (case side2 => rw [show t239.length = t225.length from (Kd.R_reads' HO_230001.out).1.symm]; exact (Kd.R_reads' HO_230001.out).2.1); rintro e w64 ⟨rfl, hb⟩; refine ⟨_, rfl, ?_⟩; have n0_ := Aside0.mk (Kd.R_below q6_26 hb); have n1_ := Aside0.mk (Kd.R_below q6_27 hb); have n2_ := Aside0.mk (blk_below (g := gb220) (o := .cells #[.int .i64 t215, .slice Ao14 t216.length co14] 43 (0, 0)) q6_24 hb); have n3_ := Aside0.mk (blk_below (g := gb229) (o := .cells #[.int .i64 t224, .slice Ao21 t225.length co21] 43 (0, 0)) q6_25 hb); have n4_ := Aside0.mk (below_step q6_17 hb); clear HO_221001; clear HO_230001; clear BK220; clear BK229; clear HB; have HO_221001 := n0_; have HO_230001 := n1_; have BK220 := n2_; have BK229 := n3_; have HB := n4_; clear n0_ n1_ n2_ n3_ n4_; (try clear hb); (try clear hb2); (try clear hk); (try clear hi)) | ((with_reducible refine gate_callee (f := 16) rfl ?_); refine goesL_ (some 77) rfl rfl Tryd.func16 q6_36 rfl #[.slice A1 l1.length c1] rfl q6_22 ?_; (with_reducible refine (laws_toIntS.calls kj36 _ _ l1 t241 _ ?side1 ?side2 A57.out).mono ?_); (case side1 => exact q6_20); (case side2 => exact HC1.out); rintro e w65 ⟨v242, rfl, ho0, hb⟩; refine ⟨_, rfl, ?_⟩; have n0_ := Aside0.mk (Kd.R_elder' q6_26 (Kd.R_base ho0) hb); have n1_ := Aside0.mk (Kd.R_elder' q6_27 (Kd.R_base ho0) hb); have n2_ := Aside0.mk (Kd.R_lower (Kd.R_new' (Kd.R_new' ho0 (Kd.R_lt q6_26)) (Kd.R_lt q6_27)) (below_size q6_17)); have n3_ := Aside0.mk (blk_below (g := gb220) (o := .cells #[.int .i64 t215, .slice Ao14 t216.length co14] 43 (0, 0)) q6_24 hb); have n4_ := Aside0.mk (blk_below (g := gb229) (o := .cells #[.int .i64 t224, .slice Ao21 t225.length co21] 43 (0, 0)) q6_25 hb); have n5_ := Aside0.mk (below_step q6_17 hb); clear HO_221001; clear HO_230001; clear BK220; clear BK229; clear HB; have HO_221001 := n0_; have HO_230001 := n1_; have HO243 := n2_; have BK220 := n3_; have BK229 := n4_; have HB := n5_; clear n0_ n1_ n2_ n3_ n4_ n5_; (try clear hb); (try clear hb2); (try clear hk); (try clear hi); (try clear ho0); obtain ⟨Ao66, co66, eo66⟩ := Kd.R_slice HO243.out; subst eo66) | ((with_reducible refine gate_callee (f := 20) rfl ?_); refine goesL_ (some 78) rfl rfl Tryd.func20 q6_36 rfl #[.int .i64 a0, .slice Ao66 t241.length co66] rfl q6_22 ?_; (with_reducible refine (impl_ContextOfFamily.calls kj36 a0 _ _ t241 t244 t245 t248 _ ?side1 ?side2 ?tab A58.out).mono ?_); (case tab => first | exact HTB.out | (refine Tab64.below HTB.out ?_; repeat (first | (with_reducible first | exact HB.out | apply below_alloc | apply pw_below_drewN | apply below_drew1 | refine below_set ?_ GE220.out | refine below_set ?_ GE229.out | refine below_set ?_ GE249.out) | exact HB.out)) | (repeat (first | exact HTB.out | apply Tab64.drewN | apply Tab64.drew | apply Tab64.alloc))); (case side1 => repeat (first | exact (Kd.R_reads' HO243.out).2.2 | (with_reducible refine Kd.C_alloc ?_ _) | (with_reducible refine Kd.C_drewN ?_ _) | (with_reducible refine Kd.C_drew ?_))); (case side2 => exact (Kd.R_reads' HO243.out).2.1); rintro e w67 ⟨v246, rfl, ho0, hb⟩; refine ⟨_, rfl, ?_⟩; have n0_ := Aside0.mk (Kd.R_elder' q6_26 (Kd.R_base ho0) hb); have n1_ := Aside0.mk (Kd.R_elder' q6_27 (Kd.R_base ho0) hb); have n2_ := Aside0.mk (Kd.R_elder' q6_31 (Kd.R_base ho0) hb); have n3_ := Aside0.mk (Kd.R_lower (Kd.R_new' (Kd.R_new' (Kd.R_new' ho0 (Kd.R_lt q6_26)) (Kd.R_lt q6_27)) (Kd.R_lt q6_31)) (below_size q6_17)); have n4_ := Aside0.mk (blk_below (g := gb220) (o := .cells #[.int .i64 t215, .slice Ao14 t216.length co14] 43 (0, 0)) q6_24 hb); have n5_ := Aside0.mk (blk_below (g := gb229) (o := .cells #[.int .i64 t224, .slice Ao21 t225.length co21] 43 (0, 0)) q6_25 hb); have n6_ := Aside0.mk (below_step q6_17 hb); clear HO_221001; clear HO_230001; clear HO243; clear BK220; clear BK229; clear HB; have HO_221001 := n0_; have HO_230001 := n1_; have HO243 := n2_; have HO247 := n3_; have BK220 := n4_; have BK229 := n5_; have HB := n6_; clear n0_ n1_ n2_ n3_ n4_ n5_ n6_; (try clear hb); (try clear hb2); (try clear hk); (try clear hi); (try clear ho0)) | ((with_reducible refine gate_dst (N := 13) rfl ?_); refine box_event ?hg (N := 13) ?hd (cs := #[.int .i64 0, .slice none 0 0]) (t := 43) ?hr ?_; (case hd => rfl); (case hg => rfl); (case hr => first | (go_simp; done) | (go_simp; rfl)); intro gb249 hg w68 hbox hb; have n0_ := Aside0.mk (Kd.R_below q6_26 hb); have n1_ := Aside0.mk (Kd.R_below q6_27 hb); have n2_ := Aside0.mk (Kd.R_below q6_31 hb); have n3_ := Aside0.mk (Kd.R_below (by (with_reducible repeat (first | apply Kd.R_alloc | apply Kd.R_drewN | apply Kd.R_drew)); exact HO247.out) hb); have n4_ := Aside0.mk (blk_below (g := gb220) (o := .cells #[.int .i64 t215, .slice Ao14 t216.length co14] 43 (0, 0)) q6_24 hb); have n5_ := Aside0.mk (blk_below (g := gb229) (o := .cells #[.int .i64 t224, .slice Ao21 t225.length co21] 43 (0, 0)) q6_25 hb); have n6_ := Aside0.mk (below_step q6_17 hb); have n7_ := Aside0.mk (hbox); have n8_ := Aside0.mk ((by rw [hg]; exact (below_size q6_17) : w.heap.size ≤ gb249)); have n9_ := Aside0.mk ((by rw [hg]; exact (below_size q6_17) : w.heap.size ≤ gb249)); have n10_ := Aside0.mk ((by rw [hg]; exact Nat.ne_of_lt (blk_lt (g := gb220) (o := .cells #[.int .i64 t215, .slice Ao14 t216.length co14] 43 (0, 0)) q6_24) : gb220 ≠ gb249)); have n11_ := Aside0.mk ((by rw [hg]; exact Nat.ne_of_gt (blk_lt (g := gb220) (o := .cells #[.int .i64 t215, .slice Ao14 t216.length co14] 43 (0, 0)) q6_24) : gb249 ≠ gb220)); have n12_ := Aside0.mk ((by rw [hg]; exact Nat.ne_of_lt (blk_lt (g := gb229) (o := .cells #[.int .i64 t224, .slice Ao21 t225.length co21] 43 (0, 0)) q6_25) : gb229 ≠ gb249)); have n13_ := Aside0.mk ((by rw [hg]; exact Nat.ne_of_gt (blk_lt (g := gb229) (o := .cells #[.int .i64 t224, .slice Ao21 t225.length co21] 43 (0, 0)) q6_25) : gb249 ≠ gb229)); clear HO_221001; clear HO_230001; clear HO243; clear HO247; clear BK220; clear BK229; clear HB; have HO_221001 := n0_; have HO_230001 := n1_; have HO243 := n2_; have HO247 := n3_; have BK220 := n4_; have BK229 := n5_; have HB := n6_; have BK249 := n7_; have GW249 := n8_; have GE249 := n9_; have NB220_249 := n10_; have NB249_220 := n11_; have NB229_249 := n12_; have NB249_229 := n13_; clear n0_ n1_ n2_ n3_ n4_ n5_ n6_ n7_ n8_ n9_ n10_ n11_ n12_ n13_; clear hb hbox hg; have hnb69 := NB249_220.out; have hnc69 := NB220_249.out; have hnb70 := NB249_229.out; have hnc70 := NB229_249.out; have hcz71_0 : w68.cell? ⟨gb249, 0, none⟩ = some (.int .i64 0) := (blk_cell BK249.out 0).trans rfl; have hcz71_1 : w68.cell? ⟨gb249, 1, none⟩ = some (.slice none 0 0) := (blk_cell BK249.out 1).trans rfl; have hfz71_0 := blk_frozen BK249.out 0; have hfz71_1 := blk_frozen BK249.out 1; obtain ⟨Ao72, co72, eo72⟩ := Kd.R_slice HO247.out; subst eo72))
           (try simp only [Act.put, List.setIfInBounds_toArray, List.set_cons_zero, List.set_cons_succ])
           go_cut [89] (fun v89 wc => ∃ (kq : Nat) (x89_58 : Bool), v89 = .bool x89_58 ∧ Aside0 (laws_FnExactContextOfFamily.j2 kq t238 x89_58 t224 t239 = some r) ∧ Aside0 (kq ≤ kj36) ∧ Aside0 (Kd.R (Kd.int .i64) 3 wc w.heap.size (fun k_ => some k_ ≠ ((.slice Ao21 t225.length co21) : Value).ownBlock ∧ some k_ ≠ ((.slice Ao72 t245.length co72) : Value).ownBlock) (.slice Ao14 t216.length co14) t216) ∧ Aside0 (Kd.R (Kd.int .i64) 3 wc w.heap.size (fun k_ => some k_ ≠ ((.slice Ao14 t216.length co14) : Value).ownBlock ∧ some k_ ≠ ((.slice Ao72 t245.length co72) : Value).ownBlock) (.slice Ao21 t225.length co21) t239) ∧ Aside0 (Kd.R (Kd.int .i64) 3 wc w.heap.size (fun k_ => some k_ ≠ ((.slice Ao14 t216.length co14) : Value).ownBlock ∧ some k_ ≠ ((.slice Ao21 t225.length co21) : Value).ownBlock) (.slice Ao72 t245.length co72) t245) ∧ Aside0 (wc.heap[gb220]? = some (.cells #[.int .i64 t215, (.slice Ao14 t216.length co14)] 43 (0, 0))) ∧ Aside0 (wc.heap[gb229]? = some (.cells #[.int .i64 t224, (.slice Ao21 t225.length co21)] 43 (0, 0))) ∧ Aside0 (wc.heap[gb249]? = some (.cells #[.int .i64 t244, (.slice Ao72 t245.length co72)] 43 (0, 0))) ∧ Aside0 (Below w.heap.size w wc))
           case first =>
            have H := HC59.out
            clear HC59
            replace H := Option.bind_eq_some_iff.mp H
            obtain ⟨t250, A730, H⟩ := H
            replace H : (if t250 = true then (laws_FnExactContextOfFamily.j2 kj36 t238 (t248 != t219) t224 t239) else (laws_FnExactContextOfFamily.j2 kj36 t238 true t224 t239)) = some r := H
            have A73 := Aside0.mk A730
            clear A730
            by_cases c74 : t250 = true
            ·
             subst c74
             have H1 : (laws_FnExactContextOfFamily.j2 kj36 t238 (t248 != t219) t224 t239) = some r := q6_35
             clear H
             have H := H1
             clear H1
             have H' := Aside0.mk H
             clear H
             have hnb75 := NB249_220.out
             have hnc75 := NB220_249.out
             have hnb76 := NB249_229.out
             have hnc76 := NB229_249.out
             have hcz77_0 : w68.cell? ⟨gb249, 0, none⟩ = some (.int .i64 0) := (blk_cell BK249.out 0).trans rfl
             have hcz77_1 : w68.cell? ⟨gb249, 1, none⟩ = some (.slice none 0 0) := (blk_cell BK249.out 1).trans rfl
             have hfz77_0 := blk_frozen BK249.out 0
             have hfz77_1 := blk_frozen BK249.out 1
             have hnb78 := NB220_229.out
             have hnc78 := NB229_220.out
             have hcz79_0 : w68.cell? ⟨gb220, 0, none⟩ = some (.int .i64 t215) := (blk_cell BK220.out 0).trans rfl
             have hcz79_1 : w68.cell? ⟨gb220, 1, none⟩ = some (.slice Ao14 t216.length co14) := (blk_cell BK220.out 1).trans rfl
             have hfz79_0 := blk_frozen BK220.out 0
             have hfz79_1 := blk_frozen BK220.out 1
             go_wp2_with (first | ((with_reducible refine gate_callee (f := 21) rfl ?_); refine goesL_ (some 83) rfl rfl Tryd.func21 q6_36 rfl #[.agg #[.int .i64 t244, .slice Ao72 t245.length co72], .agg #[.int .i64 t215, .slice Ao14 t216.length co14]] rfl q6_22 ?_; (with_reducible refine (laws_eqContext.calls kj36 t244 _ _ t245 t215 _ _ t216 true _ ?side1 ?side2 ?side3 ?side4 A73.out).mono ?_); (case side1 => refine (Kd.R_reads' (e := 3) (base := w.heap.size) (ok := fun k_ => (((True ∧ some k_ ≠ (.slice Ao14 t216.length co14 : Value).ownBlock) ∧ some k_ ≠ (.slice Ao21 t225.length co21 : Value).ownBlock) ∧ some k_ ≠ (.slice Ao66 t241.length co66 : Value).ownBlock)) (n := t245.length) (c := co72) ?_).2.2; exact q6_15); (case side2 => exact (Kd.R_reads' HO247.out).2.1); (case side3 => refine (Kd.R_reads' (e := 3) (base := w.heap.size) (ok := fun k_ => ((some k_ ≠ (.slice Ao21 t225.length co21 : Value).ownBlock ∧ some k_ ≠ (.slice Ao66 t241.length co66 : Value).ownBlock) ∧ some k_ ≠ (.slice Ao72 t245.length co72 : Value).ownBlock)) (n := t216.length) (c := co14) ?_).2.2; exact q6_6); (case side4 => exact (Kd.R_reads' HO_221001.out).2.1); rintro e w80 ⟨rfl, hb⟩; refine ⟨_, rfl, ?_⟩; have n0_ := Aside0.mk (Kd.R_below q6_6 hb); have n1_ := Aside0.mk (Kd.R_below q6_7 hb); have n2_ := Aside0.mk (Kd.R_below q6_14 hb); have n3_ := Aside0.mk (Kd.R_below q6_15 hb); have n4_ := Aside0.mk (blk_below (g := gb220) (o := .cells #[.int .i64 t215, .slice Ao14 t216.length co14] 43 (0, 0)) q6_4 hb); have n5_ := Aside0.mk (blk_below (g := gb229) (o := .cells #[.int .i64 t224, .slice Ao21 t225.length co21] 43 (0, 0)) q6_5 hb); have n6_ := Aside0.mk (blk_below (g := gb249) (o := .cells #[.int .i64 t244, .slice Ao72 t245.length co72] 43 (0, 0)) q6_2 hb); have n7_ := Aside0.mk (below_step q6_16 hb); clear HO_221001; clear HO_230001; clear HO243; clear HO247; clear BK220; clear BK229; clear BK249; clear HB; have HO_221001 := n0_; have HO_230001 := n1_; have HO243 := n2_; have HO247 := n3_; have BK220 := n4_; have BK229 := n5_; have BK249 := n6_; have HB := n7_; clear n0_ n1_ n2_ n3_ n4_ n5_ n6_ n7_; (try clear hb); (try clear hb2); (try clear hk); (try clear hi)))
             go_meet
             case rel => exact ⟨_, ((t248 != t219)), q6_33, H', ⟨by have := HJ7.out; have := HJ36.out; first | omega | exact Nat.le_refl _⟩, ⟨by (with_reducible repeat (first | apply Kd.R_alloc | apply Kd.R_drewN | apply Kd.R_drew)); exact Kd.R_mono HO_221001.out (fun _ hk => ⟨hk.1.1, hk.2⟩)⟩, ⟨by (with_reducible repeat (first | apply Kd.R_alloc | apply Kd.R_drewN | apply Kd.R_drew)); exact Kd.R_mono HO_230001.out (fun _ hk => ⟨hk.1.1, hk.2⟩)⟩, ⟨by (with_reducible repeat (first | apply Kd.R_alloc | apply Kd.R_drewN | apply Kd.R_drew)); exact Kd.R_mono HO247.out (fun _ hk => ⟨hk.1.1.2, hk.1.2⟩)⟩, ⟨by (with_reducible repeat (first | refine blk_drewN ?_ _ | refine blk_drew ?_ | refine blk_alloc ?_ _)); exact BK220.out⟩, ⟨by (with_reducible repeat (first | refine blk_drewN ?_ _ | refine blk_drew ?_ | refine blk_alloc ?_ _)); exact BK229.out⟩, ⟨by (with_reducible repeat (first | refine blk_drewN ?_ _ | refine blk_drew ?_ | refine blk_alloc ?_ _)); exact BK249.out⟩, ⟨by repeat (first | (with_reducible first | exact HB.out | apply below_alloc | apply pw_below_drewN | apply below_drew1 | refine below_set ?_ GE220.out | refine below_set ?_ GE229.out | refine below_set ?_ GE249.out) | exact HB.out)⟩⟩
            ·
             replace c74 := Bool.eq_false_iff.mpr c74
             subst c74
             have H1 : (laws_FnExactContextOfFamily.j2 kj36 t238 true t224 t239) = some r := q6_34
             clear H
             have H := H1
             clear H1
             have H' := Aside0.mk H
             clear H
             have hnb81 := NB249_220.out
             have hnc81 := NB220_249.out
             have hnb82 := NB249_229.out
             have hnc82 := NB229_249.out
             have hcz83_0 : w68.cell? ⟨gb249, 0, none⟩ = some (.int .i64 0) := (blk_cell BK249.out 0).trans rfl
             have hcz83_1 : w68.cell? ⟨gb249, 1, none⟩ = some (.slice none 0 0) := (blk_cell BK249.out 1).trans rfl
             have hfz83_0 := blk_frozen BK249.out 0
             have hfz83_1 := blk_frozen BK249.out 1
             have hnb84 := NB220_229.out
             have hnc84 := NB229_220.out
             have hcz85_0 : w68.cell? ⟨gb220, 0, none⟩ = some (.int .i64 t215) := (blk_cell BK220.out 0).trans rfl
             have hcz85_1 : w68.cell? ⟨gb220, 1, none⟩ = some (.slice Ao14 t216.length co14) := (blk_cell BK220.out 1).trans rfl
             have hfz85_0 := blk_frozen BK220.out 0
             have hfz85_1 := blk_frozen BK220.out 1
             go_wp2_with (first | ((with_reducible refine gate_callee (f := 21) rfl ?_); refine goesL_ (some 83) rfl rfl Tryd.func21 q6_36 rfl #[.agg #[.int .i64 t244, .slice Ao72 t245.length co72], .agg #[.int .i64 t215, .slice Ao14 t216.length co14]] rfl q6_22 ?_; (with_reducible refine (laws_eqContext.calls kj36 t244 _ _ t245 t215 _ _ t216 false _ ?side1 ?side2 ?side3 ?side4 A73.out).mono ?_); (case side1 => refine (Kd.R_reads' (e := 3) (base := w.heap.size) (ok := fun k_ => (((True ∧ some k_ ≠ (.slice Ao14 t216.length co14 : Value).ownBlock) ∧ some k_ ≠ (.slice Ao21 t225.length co21 : Value).ownBlock) ∧ some k_ ≠ (.slice Ao66 t241.length co66 : Value).ownBlock)) (n := t245.length) (c := co72) ?_).2.2; exact q6_15); (case side2 => exact (Kd.R_reads' HO247.out).2.1); (case side3 => refine (Kd.R_reads' (e := 3) (base := w.heap.size) (ok := fun k_ => ((some k_ ≠ (.slice Ao21 t225.length co21 : Value).ownBlock ∧ some k_ ≠ (.slice Ao66 t241.length co66 : Value).ownBlock) ∧ some k_ ≠ (.slice Ao72 t245.length co72 : Value).ownBlock)) (n := t216.length) (c := co14) ?_).2.2; exact q6_6); (case side4 => exact (Kd.R_reads' HO_221001.out).2.1); rintro e w86 ⟨rfl, hb⟩; refine ⟨_, rfl, ?_⟩; have n0_ := Aside0.mk (Kd.R_below q6_6 hb); have n1_ := Aside0.mk (Kd.R_below q6_7 hb); have n2_ := Aside0.mk (Kd.R_below q6_14 hb); have n3_ := Aside0.mk (Kd.R_below q6_15 hb); have n4_ := Aside0.mk (blk_below (g := gb220) (o := .cells #[.int .i64 t215, .slice Ao14 t216.length co14] 43 (0, 0)) q6_4 hb); have n5_ := Aside0.mk (blk_below (g := gb229) (o := .cells #[.int .i64 t224, .slice Ao21 t225.length co21] 43 (0, 0)) q6_5 hb); have n6_ := Aside0.mk (blk_below (g := gb249) (o := .cells #[.int .i64 t244, .slice Ao72 t245.length co72] 43 (0, 0)) q6_2 hb); have n7_ := Aside0.mk (below_step q6_16 hb); clear HO_221001; clear HO_230001; clear HO243; clear HO247; clear BK220; clear BK229; clear BK249; clear HB; have HO_221001 := n0_; have HO_230001 := n1_; have HO243 := n2_; have HO247 := n3_; have BK220 := n4_; have BK229 := n5_; have BK249 := n6_; have HB := n7_; clear n0_ n1_ n2_ n3_ n4_ n5_ n6_ n7_; (try clear hb); (try clear hb2); (try clear hk); (try clear hi)))
             go_meet
             case rel => exact ⟨_, (true), q6_33, H', ⟨by have := HJ7.out; have := HJ36.out; first | omega | exact Nat.le_refl _⟩, ⟨by (with_reducible repeat (first | apply Kd.R_alloc | apply Kd.R_drewN | apply Kd.R_drew)); exact Kd.R_mono HO_221001.out (fun _ hk => ⟨hk.1.1, hk.2⟩)⟩, ⟨by (with_reducible repeat (first | apply Kd.R_alloc | apply Kd.R_drewN | apply Kd.R_drew)); exact Kd.R_mono HO_230001.out (fun _ hk => ⟨hk.1.1, hk.2⟩)⟩, ⟨by (with_reducible repeat (first | apply Kd.R_alloc | apply Kd.R_drewN | apply Kd.R_drew)); exact Kd.R_mono HO247.out (fun _ hk => ⟨hk.1.1.2, hk.1.2⟩)⟩, ⟨by (with_reducible repeat (first | refine blk_drewN ?_ _ | refine blk_drew ?_ | refine blk_alloc ?_ _)); exact BK220.out⟩, ⟨by (with_reducible repeat (first | refine blk_drewN ?_ _ | refine blk_drew ?_ | refine blk_alloc ?_ _)); exact BK229.out⟩, ⟨by (with_reducible repeat (first | refine blk_drewN ?_ _ | refine blk_drew ?_ | refine blk_alloc ?_ _)); exact BK249.out⟩, ⟨by repeat (first | (with_reducible first | exact HB.out | apply below_alloc | apply pw_below_drewN | apply below_drew1 | refine below_set ?_ GE220.out | refine below_set ?_ GE229.out | refine below_set ?_ GE249.out) | exact HB.out)⟩⟩
           case rest =>
            clear HC59
            try clear c1
            try clear c2
            try clear p2
            try clear c3
            try clear c3b0
            try clear c3b1
            try clear c4
            try clear c5
            try clear c6
            try clear c7
            try clear c8
            try clear c16
            try clear c18
            try clear c19
            try clear c20
            try clear c21
            try clear c22
            try clear c23
            try clear c24
            try clear c28
            try clear c32
            try clear c35
            try clear c41
            try clear c41b0
            try clear c43
            try clear c44
            try clear c48
            try clear c52
            try clear c55
            try clear c55b0
            try clear c56
            try clear c56b0
            try clear c56b1
            try clear c60
            try clear c69
            try clear c70
            try clear c74
            try clear c75
            try clear c76
            try clear c78
            try clear c81
            try clear c82
            try clear c84
            try clear hcz13_0
            try clear hcz13_1
            try clear hcz20_0
            try clear hcz20_1
            try clear hcz25_0
            try clear hcz25_1
            try clear hcz26_0
            try clear hcz26_1
            try clear hcz29_0
            try clear hcz29_1
            try clear hcz30_0
            try clear hcz30_1
            try clear hcz45_0
            try clear hcz45_1
            try clear hcz46_0
            try clear hcz46_1
            try clear hcz49_0
            try clear hcz49_1
            try clear hcz50_0
            try clear hcz50_1
            try clear hcz61_0
            try clear hcz61_1
            try clear hcz63_0
            try clear hcz63_1
            try clear hcz71_0
            try clear hcz71_1
            try clear hcz77_0
            try clear hcz77_1
            try clear hcz79_0
            try clear hcz79_1
            try clear hcz83_0
            try clear hcz83_1
            try clear hcz85_0
            try clear hcz85_1
            try clear hfz13_0
            try clear hfz13_1
            try clear hfz20_0
            try clear hfz20_1
            try clear hfz25_0
            try clear hfz25_1
            try clear hfz26_0
            try clear hfz26_1
            try clear hfz29_0
            try clear hfz29_1
            try clear hfz30_0
            try clear hfz30_1
            try clear hfz45_0
            try clear hfz45_1
            try clear hfz46_0
            try clear hfz46_1
            try clear hfz49_0
            try clear hfz49_1
            try clear hfz50_0
            try clear hfz50_1
            try clear hfz61_0
            try clear hfz61_1
            try clear hfz63_0
            try clear hfz63_1
            try clear hfz71_0
            try clear hfz71_1
            try clear hfz77_0
            try clear hfz77_1
            try clear hfz79_0
            try clear hfz79_1
            try clear hfz83_0
            try clear hfz83_1
            try clear hfz85_0
            try clear hfz85_1
            try clear p2
            obtain ⟨kq, x89_58, rfl, HA, HJ58, HO_221001, HO_230001, HO_250001, BK220, BK229, BK249, HB⟩ := hcut
            have hl230001_58 := (Kd.R_reads' HO_230001.out).1
            rw [hl230001_58] at HO_230001
            (try simp only [hl230001_58])
            (try simp only [hl230001_58] at BK220)
            (try simp only [hl230001_58] at BK229)
            (try simp only [hl230001_58] at BK249)
            (try simp only [hl230001_58] at HO_221001)
            (try simp only [hl230001_58] at HO_250001)
            cases kq with
            | zero => exact absurd HA.out (by simp [laws_FnExactContextOfFamily.j2])
            | succ kj58 =>
             have H := HA.out
             clear HA
             simp only [laws_FnExactContextOfFamily.j2] at H
             by_cases c87 : x89_58 = true
             ·
              subst c87
              have H1 : (some false) = some r := q6_35
              clear H
              have H := H1
              clear H1
              exact absurd ((Option.some.inj H).trans HRT.out) Bool.false_ne_true
             ·
              replace c87 := Bool.eq_false_iff.mpr c87
              subst c87
              have H1 : ((laws_heldContext.f kj58 t224 t239 1).bind fun t251 => (if t251 < 0 then (some false) else (if t251 = t238 then (some true) else (some false)))) = some r := q6_34
              clear H
              have H := H1
              clear H1
              replace H := Option.bind_eq_some_iff.mp H
              obtain ⟨t251, A880, H⟩ := H
              replace H : (if t251 < 0 then (some false) else (if t251 = t238 then (some true) else (some false))) = some r := H
              have A88 := Aside0.mk A880
              clear A880
              by_cases c89 : t251 < 0
              ·
               rw [if_pos c89] at H
               exact absurd ((Option.some.inj H).trans HRT.out) Bool.false_ne_true
              ·
               rw [if_neg c89] at H
               have c89b0 : decide (t251 < 0) = false := decide_eq_false c89
               clear c89
               by_cases c90 : t251 = t238
               ·
                rw [if_pos c90] at H
                have c90b0 : (t251 == t238) = true := beq_iff_eq.mpr c90
                have c90b1 : (t251 != t238) = false := bne_eq_false_iff_eq.mpr c90
                clear c90
                obtain rfl := Option.some.inj H
                have hnb91 := NB229_220.out
                have hnc91 := NB220_229.out
                have hnb92 := NB229_249.out
                have hnc92 := NB249_229.out
                have hcz93_0 : wc.cell? ⟨gb229, 0, none⟩ = some (.int .i64 t224) := (blk_cell BK229.out 0).trans rfl
                have hcz93_1 : wc.cell? ⟨gb229, 1, none⟩ = some (.slice Ao21 t239.length co21) := (blk_cell BK229.out 1).trans rfl
                have hfz93_0 := blk_frozen BK229.out 0
                have hfz93_1 := blk_frozen BK229.out 1
                go_wp2_with (first | ((with_reducible refine gate_callee (f := 24) rfl ?_); refine goesL_ (some 92) rfl rfl Tryd.func24 q6_36 rfl #[.agg #[.int .i64 t224, .slice Ao21 t239.length co21], .int .i64 1] rfl q6_22 ?_; (with_reducible refine (laws_heldContext.calls kj58 t224 _ _ t239 1 t251 _ ?side1 ?side2 A88.out).mono ?_); (case side1 => exact q6_19); (case side2 => exact (Kd.R_reads' HO_230001.out).2.1); rintro e w94 ⟨rfl, hb⟩; refine ⟨_, rfl, ?_⟩; have n0_ := Aside0.mk (Kd.R_below q6_26 hb); have n1_ := Aside0.mk (Kd.R_below q6_27 hb); have n2_ := Aside0.mk (Kd.R_below (by (with_reducible repeat (first | apply Kd.R_alloc | apply Kd.R_drewN | apply Kd.R_drew)); exact HO_250001.out) hb); have n3_ := Aside0.mk (blk_below (g := gb220) (o := .cells #[.int .i64 t215, .slice Ao14 t216.length co14] 43 (0, 0)) q6_24 hb); have n4_ := Aside0.mk (blk_below (g := gb229) (o := .cells #[.int .i64 t224, .slice Ao21 t239.length co21] 43 (0, 0)) q6_25 hb); have n5_ := Aside0.mk (blk_below (g := gb249) (o := .cells #[.int .i64 t244, .slice Ao72 t245.length co72] 43 (0, 0)) (by (with_reducible repeat (first | refine blk_drewN ?_ _ | refine blk_drew ?_ | refine blk_alloc ?_ _)); exact BK249.out) hb); have n6_ := Aside0.mk (below_step q6_16 hb); clear HO_221001; clear HO_230001; clear HO_250001; clear BK220; clear BK229; clear BK249; clear HB; have HO_221001 := n0_; have HO_230001 := n1_; have HO_250001 := n2_; have BK220 := n3_; have BK229 := n4_; have BK249 := n5_; have HB := n6_; clear n0_ n1_ n2_ n3_ n4_ n5_ n6_; (try clear hb); (try clear hb2); (try clear hk); (try clear hi)))
                go_ret
                exact ⟨by first | rfl | (simp [errW_none, errW_some] <;> rfl) | (simp [*, errW_none, errW_some] <;> rfl), by repeat (first | (with_reducible first | exact HB.out | apply below_alloc | apply pw_below_drewN | apply below_drew1 | refine below_set ?_ GE220.out | refine below_set ?_ GE229.out | refine below_set ?_ GE249.out) | exact HB.out)⟩
               ·
                rw [if_neg c90] at H
                exact absurd ((Option.some.inj H).trans HRT.out) Bool.false_ne_true
          ·
           rw [if_neg c56] at H
           exact absurd ((Option.some.inj H).trans HRT.out) Bool.false_ne_true
     ·
      replace c35 := Bool.eq_false_iff.mpr c35
      subst c35
      have H1 : (some false) = some r := q6_34
      clear H
      have H := H1
      clear H1
      exact absurd ((Option.some.inj H).trans HRT.out) Bool.false_ne_true
end Go.Proofs.YtamjnninbdnjhaaDoor.Pr
