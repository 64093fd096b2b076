/- What the law needs of the program's functions as plain functions, of the proofs that their calls answer so, and of plain laws: gathered by a program of this place (pack.py) out of its printed texts. No condition beyond what each statement says. -/
import Derived.Test.YtemhlblajnlogaaZXDropObjects2
import Derived.Test.YtemhlblajnlogaaZXDropObjects3
import Derived.Test.YtemhlblajnlogaaZXDropObjects4
import Derived.Test.YtemhlblajnlogaaZXDropObjects5
import Derived.Test.YtemhlblajnlogaaZXDropObjects7
namespace Go.Proofs.Ytemhlblajnlogaa.Pr
open Go.RowKit Go.Proofs.YtemhlblajnlogaaW.PrintWords Go.Proofs.YtemhlblajnlogaaW.PrintLast Go.Proofs.YtemhlblajnlogaaW.PrintMore
attribute [local go_sem] max2_int min2_int max_two min_two max_three min_three max_four min_four   -- for this text's walks alone
set_option linter.unusedVariables false
set_option linter.unusedSimpArgs false
theorem put36_ {P : Prop} (h : P := by simp only [Act.put, List.setIfInBounds_toArray, List.set_cons_zero, List.set_cons_succ, i64_w, i32_w]; rfl) : P := h
theorem q36_1 {P : Prop} (h : P := by (with_reducible repeat (first | refine blk_drewN ?_ _ | refine blk_drew ?_ | refine blk_alloc ?_ _)); refine blk_put (cs := #[.int .i64 t499, .slice none 0 0]) ?_ 1 _ rfl; (with_reducible repeat (first | refine blk_drewN ?_ _ | refine blk_drew ?_ | refine blk_alloc ?_ _)); refine blk_put (cs := #[.int .i64 0, .slice none 0 0]) ?_ 0 _ rfl; (with_reducible repeat (first | refine blk_drewN ?_ _ | refine blk_drew ?_ | refine blk_alloc ?_ _)); exact BK504.out) : P := h
theorem q36_2 {P : Prop} (h : P := by (with_reducible repeat (first | refine blk_drewN ?_ _ | refine blk_drew ?_ | refine blk_alloc ?_ _)); refine blk_put (cs := #[.int .i64 t521, .slice none 0 0]) ?_ 1 _ rfl; (with_reducible repeat (first | refine blk_drewN ?_ _ | refine blk_drew ?_ | refine blk_alloc ?_ _)); refine blk_put (cs := #[.int .i64 0, .slice none 0 0]) ?_ 0 _ rfl; (with_reducible repeat (first | refine blk_drewN ?_ _ | refine blk_drew ?_ | refine blk_alloc ?_ _)); exact BK526.out) : P := h
theorem q36_3 {P : Prop} (h : P := by (with_reducible repeat (first | refine blk_drewN ?_ _ | refine blk_drew ?_ | refine blk_alloc ?_ _)); refine blk_far ?_ NB482_504.out _; (with_reducible repeat (first | refine blk_drewN ?_ _ | refine blk_drew ?_ | refine blk_alloc ?_ _)); refine blk_far ?_ NB482_504.out _; (with_reducible repeat (first | refine blk_drewN ?_ _ | refine blk_drew ?_ | refine blk_alloc ?_ _)); exact BK482.out) : P := h
theorem q36_4 {P : Prop} (h : P := by (with_reducible repeat (first | refine blk_drewN ?_ _ | refine blk_drew ?_ | refine blk_alloc ?_ _)); refine blk_far ?_ NB482_526.out _; (with_reducible repeat (first | refine blk_drewN ?_ _ | refine blk_drew ?_ | refine blk_alloc ?_ _)); refine blk_far ?_ NB482_526.out _; (with_reducible repeat (first | refine blk_drewN ?_ _ | refine blk_drew ?_ | refine blk_alloc ?_ _)); exact BK482.out) : P := h
theorem q36_5 {P : Prop} (h : P := by (with_reducible repeat (first | refine blk_drewN ?_ _ | refine blk_drew ?_ | refine blk_alloc ?_ _)); refine blk_far ?_ NB493_504.out _; (with_reducible repeat (first | refine blk_drewN ?_ _ | refine blk_drew ?_ | refine blk_alloc ?_ _)); refine blk_far ?_ NB493_504.out _; (with_reducible repeat (first | refine blk_drewN ?_ _ | refine blk_drew ?_ | refine blk_alloc ?_ _)); exact BK493.out) : P := h
theorem q36_6 {P : Prop} (h : P := by (with_reducible repeat (first | refine blk_drewN ?_ _ | refine blk_drew ?_ | refine blk_alloc ?_ _)); refine blk_far ?_ NB493_526.out _; (with_reducible repeat (first | refine blk_drewN ?_ _ | refine blk_drew ?_ | refine blk_alloc ?_ _)); refine blk_far ?_ NB493_526.out _; (with_reducible repeat (first | refine blk_drewN ?_ _ | refine blk_drew ?_ | refine blk_alloc ?_ _)); exact BK493.out) : P := h
theorem q36_7 {P : Prop} (h : P := by (with_reducible repeat (first | refine blk_drewN ?_ _ | refine blk_drew ?_ | refine blk_alloc ?_ _)); refine blk_far ?_ NB498_504.out _; (with_reducible repeat (first | refine blk_drewN ?_ _ | refine blk_drew ?_ | refine blk_alloc ?_ _)); refine blk_far ?_ NB498_504.out _; (with_reducible repeat (first | refine blk_drewN ?_ _ | refine blk_drew ?_ | refine blk_alloc ?_ _)); exact BK498.out) : P := h
theorem q36_8 {P : Prop} (h : P := by (with_reducible repeat (first | refine blk_drewN ?_ _ | refine blk_drew ?_ | refine blk_alloc ?_ _)); refine blk_far ?_ NB498_526.out _; (with_reducible repeat (first | refine blk_drewN ?_ _ | refine blk_drew ?_ | refine blk_alloc ?_ _)); refine blk_far ?_ NB498_526.out _; (with_reducible repeat (first | refine blk_drewN ?_ _ | refine blk_drew ?_ | refine blk_alloc ?_ _)); exact BK498.out) : P := h
theorem q36_9 {P : Prop} (h : P := by (with_reducible repeat (first | refine blk_drewN ?_ _ | refine blk_drew ?_ | refine blk_alloc ?_ _)); refine blk_far ?_ NB504_526.out _; (with_reducible repeat (first | refine blk_drewN ?_ _ | refine blk_drew ?_ | refine blk_alloc ?_ _)); refine blk_far ?_ NB504_526.out _; (with_reducible repeat (first | refine blk_drewN ?_ _ | refine blk_drew ?_ | refine blk_alloc ?_ _)); exact BK504.out) : P := h
theorem q36_10 {P : Prop} (h : P := by (with_reducible repeat (first | apply Kd.R_alloc | apply Kd.R_drewN | apply Kd.R_drew)); exact (Kd.R_mono (Kd.R_far (p := ⟨gb526, 1, none⟩) (Kd.R_far (p := ⟨gb526, 0, none⟩) (Kd.R_types HO_494001.out BK526.out (by decide)) (fun _ hk => hk.2) (.int .i64 t521)) (fun _ hk => hk.2) (.slice Ao124 t522.length co124)) (fun _ h_ => h_.1))) : P := h
theorem q36_11 {P : Prop} (h : P := by (with_reducible repeat (first | apply Kd.R_alloc | apply Kd.R_drewN | apply Kd.R_drew)); exact (Kd.R_mono (Kd.R_far (p := ⟨gb526, 1, none⟩) (Kd.R_far (p := ⟨gb526, 0, none⟩) (Kd.R_types HO_499001.out BK526.out (by decide)) (fun _ hk => hk.2) (.int .i64 t521)) (fun _ hk => hk.2) (.slice Ao124 t522.length co124)) (fun _ h_ => h_.1))) : P := h
theorem q36_12 {P : Prop} (h : P := by (with_reducible repeat (first | apply Kd.R_alloc | apply Kd.R_drewN | apply Kd.R_drew)); exact (Kd.R_mono (Kd.R_far (p := ⟨gb526, 1, none⟩) (Kd.R_far (p := ⟨gb526, 0, none⟩) (Kd.R_types HO_505001.out BK526.out (by decide)) (fun _ hk => hk.2) (.int .i64 t521)) (fun _ hk => hk.2) (.slice Ao124 t522.length co124)) (fun _ h_ => h_.1))) : P := h
theorem q36_13 {P : Prop} (h : P := by (with_reducible repeat (first | apply Kd.R_alloc | apply Kd.R_drewN | apply Kd.R_drew)); exact (Kd.R_mono (Kd.R_far (p := ⟨gb526, 1, none⟩) (Kd.R_far (p := ⟨gb526, 0, none⟩) (Kd.R_types HO520.out BK526.out (by decide)) (fun _ hk => hk.2) (.int .i64 t521)) (fun _ hk => hk.2) (.slice Ao124 t522.length co124)) (fun _ h_ => h_.1))) : P := h
theorem q36_14 {P : Prop} (h : P := by (with_reducible repeat (first | apply Kd.R_alloc | apply Kd.R_drewN | apply Kd.R_drew)); exact (Kd.R_mono (Kd.R_far (p := ⟨gb526, 1, none⟩) (Kd.R_far (p := ⟨gb526, 0, none⟩) (Kd.R_types HO524.out BK526.out (by decide)) (fun _ hk => hk.2) (.int .i64 t521)) (fun _ hk => hk.2) (.slice Ao124 t522.length co124)) (fun _ h_ => h_.1))) : P := h
theorem q36_15 {P : Prop} (h : P := by (with_reducible repeat (first | apply Kd.R_alloc | apply Kd.R_drewN | apply Kd.R_drew)); exact (Kd.R_mono (Kd.R_far (p := ⟨gb493, 1, none⟩) (Kd.R_far (p := ⟨gb493, 0, none⟩) (Kd.R_types HO487.out BK493.out (by decide)) (fun _ hk => hk.2) (.int .i64 t488)) (fun _ hk => hk.2) (.slice Ao23 t489.length co23)) (fun _ h_ => h_.1))) : P := h
theorem q36_16 {P : Prop} (h : P := by (with_reducible repeat (first | apply Kd.R_alloc | apply Kd.R_drewN | apply Kd.R_drew)); exact (Kd.R_mono (Kd.R_far (p := ⟨gb493, 1, none⟩) (Kd.R_far (p := ⟨gb493, 0, none⟩) (Kd.R_types HO491.out BK493.out (by decide)) (fun _ hk => hk.2) (.int .i64 t488)) (fun _ hk => hk.2) (.slice Ao23 t489.length co23)) (fun _ h_ => h_.1))) : P := h
theorem q36_17 {P : Prop} (h : P := by (with_reducible repeat (first | apply Kd.R_alloc | apply Kd.R_drewN | apply Kd.R_drew)); exact (Kd.R_mono (Kd.R_far (p := ⟨gb498, 1, none⟩) (Kd.R_far (p := ⟨gb498, 0, none⟩) (Kd.R_types HO487.out BK498.out (by decide)) (fun _ hk => hk.2) (.int .i64 t494)) (fun _ hk => hk.2) (.slice Ao30 t495.length co30)) (fun _ h_ => h_.1))) : P := h
theorem q36_18 {P : Prop} (h : P := by (with_reducible repeat (first | apply Kd.R_alloc | apply Kd.R_drewN | apply Kd.R_drew)); exact (Kd.R_mono (Kd.R_far (p := ⟨gb498, 1, none⟩) (Kd.R_far (p := ⟨gb498, 0, none⟩) (Kd.R_types HO491.out BK498.out (by decide)) (fun _ hk => hk.2) (.int .i64 t494)) (fun _ hk => hk.2) (.slice Ao30 t495.length co30)) (fun _ h_ => h_.1))) : P := h
theorem q36_19 {P : Prop} (h : P := by (with_reducible repeat (first | apply Kd.R_alloc | apply Kd.R_drewN | apply Kd.R_drew)); exact (Kd.R_mono (Kd.R_far (p := ⟨gb498, 1, none⟩) (Kd.R_far (p := ⟨gb498, 0, none⟩) (Kd.R_types HO497.out BK498.out (by decide)) (fun _ hk => hk.2) (.int .i64 t494)) (fun _ hk => hk.2) (.slice Ao30 t495.length co30)) (fun _ h_ => h_.1))) : P := h
theorem q36_20 {P : Prop} (h : P := by (with_reducible repeat (first | apply Kd.R_alloc | apply Kd.R_drewN | apply Kd.R_drew)); exact (Kd.R_mono (Kd.R_far (p := ⟨gb504, 1, none⟩) (Kd.R_far (p := ⟨gb504, 0, none⟩) (Kd.R_types HO487.out BK504.out (by decide)) (fun _ hk => hk.2) (.int .i64 t499)) (fun _ hk => hk.2) (.slice Ao37 t500.length co37)) (fun _ h_ => h_.1))) : P := h
theorem q36_21 {P : Prop} (h : P := by (with_reducible repeat (first | apply Kd.R_alloc | apply Kd.R_drewN | apply Kd.R_drew)); exact (Kd.R_mono (Kd.R_far (p := ⟨gb504, 1, none⟩) (Kd.R_far (p := ⟨gb504, 0, none⟩) (Kd.R_types HO491.out BK504.out (by decide)) (fun _ hk => hk.2) (.int .i64 t499)) (fun _ hk => hk.2) (.slice Ao37 t500.length co37)) (fun _ h_ => h_.1))) : P := h
theorem q36_22 {P : Prop} (h : P := by (with_reducible repeat (first | apply Kd.R_alloc | apply Kd.R_drewN | apply Kd.R_drew)); exact (Kd.R_mono (Kd.R_far (p := ⟨gb504, 1, none⟩) (Kd.R_far (p := ⟨gb504, 0, none⟩) (Kd.R_types HO497.out BK504.out (by decide)) (fun _ hk => hk.2) (.int .i64 t499)) (fun _ hk => hk.2) (.slice Ao37 t500.length co37)) (fun _ h_ => h_.1))) : P := h
theorem q36_23 {P : Prop} (h : P := by (with_reducible repeat (first | apply Kd.R_alloc | apply Kd.R_drewN | apply Kd.R_drew)); exact (Kd.R_mono (Kd.R_far (p := ⟨gb504, 1, none⟩) (Kd.R_far (p := ⟨gb504, 0, none⟩) (Kd.R_types HO502.out BK504.out (by decide)) (fun _ hk => hk.2) (.int .i64 t499)) (fun _ hk => hk.2) (.slice Ao37 t500.length co37)) (fun _ h_ => h_.1))) : P := h
theorem q36_24 {P : Prop} (h : P := by repeat (first | (with_reducible first | exact HB.out | apply below_alloc | apply pw_below_drewN | apply below_drew1 | refine below_set ?_ GE482.out | refine below_set ?_ GE493.out | refine below_set ?_ GE498.out | refine below_set ?_ GE504.out | refine below_set ?_ GE526.out) | exact HB.out)) : P := h
theorem q36_25 {P : Prop} (h : P := by repeat (first | (with_reducible first | exact HB.out | apply below_alloc | apply pw_below_drewN | apply below_drew1 | refine below_set ?_ GE482.out | refine below_set ?_ GE493.out | refine below_set ?_ GE498.out | refine below_set ?_ GE504.out) | exact HB.out)) : P := h
theorem q36_26 {P : Prop} (h : P := by repeat (first | (with_reducible first | exact HB.out | apply below_alloc | apply pw_below_drewN | apply below_drew1 | refine below_set ?_ GE482.out | refine below_set ?_ GE493.out | refine below_set ?_ GE498.out) | exact HB.out)) : P := h
theorem q36_27 {P : Prop} (h : P := by (try simp only [List.map_toArray, List.map_cons, List.map_nil]); first | done | (rw [show t515.length = t500.length from (Kd.R_reads' HO_505001.out).1.symm] <;> rfl) | rfl | (simp only [List.length_drop, List.length_take]; rfl)) : P := h
theorem q36_28 {P : Prop} (h : P := by repeat (first | (with_reducible first | exact HB.out | apply below_alloc | apply pw_below_drewN | apply below_drew1 | refine below_set ?_ GE482.out | refine below_set ?_ GE493.out) | exact HB.out)) : P := h
theorem q36_29 {P : Prop} (h : P := by repeat (first | exact (Kd.R_reads' HO_494001.out).2.2 | (with_reducible refine Kd.C_alloc ?_ _) | (with_reducible refine Kd.C_drewN ?_ _) | (with_reducible refine Kd.C_drew ?_))) : P := h
theorem q36_30 {P : Prop} (h : P := by repeat (first | exact (Kd.R_reads' HO_499001.out).2.2 | (with_reducible refine Kd.C_alloc ?_ _) | (with_reducible refine Kd.C_drewN ?_ _) | (with_reducible refine Kd.C_drew ?_))) : P := h
theorem q36_31 {P : Prop} (h : P := by repeat (first | exact (Kd.R_reads' HO_505001.out).2.2 | (with_reducible refine Kd.C_alloc ?_ _) | (with_reducible refine Kd.C_drewN ?_ _) | (with_reducible refine Kd.C_drew ?_))) : P := h
theorem q36_32 {P : Prop} (h : P := by repeat (first | exact (Kd.C_below HR0_1.out HB.out) | (with_reducible refine Kd.C_alloc ?_ _) | (with_reducible refine Kd.C_drewN ?_ _) | (with_reducible refine Kd.C_drew ?_))) : P := h
theorem q36_33 {P : Prop} (h : P := by repeat (first | exact (Kd.R_reads' HO509.out).2.2 | (with_reducible refine Kd.C_alloc ?_ _) | (with_reducible refine Kd.C_drewN ?_ _) | (with_reducible refine Kd.C_drew ?_))) : P := h
theorem q36_34 {P : Prop} (h : P := by repeat (first | (with_reducible first | exact HB.out | apply below_alloc | apply pw_below_drewN | apply below_drew1 | refine below_set ?_ GE482.out) | exact HB.out)) : P := h
theorem q36_35 {P : Prop} (h : P := by (try simp only [List.map_toArray, List.map_cons, List.map_nil]); first | done | rfl | (simp only [List.length_drop, List.length_take]; rfl)) : P := h
theorem q36_36 {P : Prop} (h : P := by repeat (first | (with_reducible first | exact HB.out | apply below_alloc | apply pw_below_drewN | apply below_drew1) | exact HB.out)) : P := h
theorem q36_37 {P : Prop} (h : P := by (with_reducible repeat (first | refine blk_drewN ?_ _ | refine blk_drew ?_ | refine blk_alloc ?_ _)); exact BK482.out) : P := h
theorem q36_38 {P : Prop} (h : P := by (with_reducible repeat (first | refine blk_drewN ?_ _ | refine blk_drew ?_ | refine blk_alloc ?_ _)); exact BK493.out) : P := h
theorem q36_39 {P : Prop} (h : P := by (with_reducible repeat (first | refine blk_drewN ?_ _ | refine blk_drew ?_ | refine blk_alloc ?_ _)); exact BK498.out) : P := h
theorem q36_40 {P : Prop} (h : P := by (with_reducible repeat (first | refine blk_drewN ?_ _ | refine blk_drew ?_ | refine blk_alloc ?_ _)); exact BK504.out) : P := h
theorem q36_41 {P : Prop} (h : P := by (with_reducible repeat (first | refine blk_drewN ?_ _ | refine blk_drew ?_ | refine blk_alloc ?_ _)); exact BK526.out) : P := h
theorem q36_42 {P : Prop} (h : P := by (with_reducible repeat (first | apply Kd.R_alloc | apply Kd.R_drewN | apply Kd.R_drew)); exact HO_494001.out) : P := h
theorem q36_43 {P : Prop} (h : P := by (with_reducible repeat (first | apply Kd.R_alloc | apply Kd.R_drewN | apply Kd.R_drew)); exact HO_499001.out) : P := h
theorem q36_44 {P : Prop} (h : P := by (with_reducible repeat (first | apply Kd.R_alloc | apply Kd.R_drewN | apply Kd.R_drew)); exact HO_505001.out) : P := h
theorem q36_45 {P : Prop} (h : P := by (with_reducible repeat (first | apply Kd.R_alloc | apply Kd.R_drewN | apply Kd.R_drew)); exact HO_527001.out) : P := h
theorem q36_46 {P : Prop} (h : P := by (with_reducible repeat (first | apply Kd.R_alloc | apply Kd.R_drewN | apply Kd.R_drew)); exact HO487.out) : P := h
theorem q36_47 {P : Prop} (h : P := by (with_reducible repeat (first | apply Kd.R_alloc | apply Kd.R_drewN | apply Kd.R_drew)); exact HO491.out) : P := h
theorem q36_48 {P : Prop} (h : P := by (with_reducible repeat (first | apply Kd.R_alloc | apply Kd.R_drewN | apply Kd.R_drew)); exact HO509.out) : P := h
theorem q36_49 {P : Prop} (h : P := by (with_reducible repeat (first | apply Kd.R_alloc | apply Kd.R_drewN | apply Kd.R_drew)); exact HO520.out) : P := h
theorem q36_50 {P : Prop} (h : P := by first | rfl | (simp; done) | (simp [*]; done) | (simp [i64_w, i32_w]; done)) : P := h
theorem q36_51 {P : Prop} (h : P := by rw [if_neg (show ¬ (false = true) by decide)] at H; exact H) : P := h
theorem q36_52 {P : Prop} (h : P := by rw [if_pos rfl] at H; exact H) : P := h
theorem q36_53 {P : Prop} (h : P := by kernel_rfl) : P := h
mutual
def laws_FnExactDropObjects.j0 : Nat → Int → Bool → Bool → Bool → Int → List Int → Int → List Int → Int → List Int → Int → List Int → Option (Bool)
 | 0, _, _, _, _, _, _, _, _, _, _, _, _ => none
 | k + 1, x1, x7, x10, x44, x483000, x483001, x494000, x494001, x499000, x499001, x505000, x505001 => if x44 = true then (some false) else ((laws_toContext.f k x483000 x483001).bind fun bt506 => ((laws_eqContext.f k x499000 x499001 bt506.1 bt506.2).bind fun t510 => (if t510 = true then ((laws_markContext.f k x499000 x499001 1).bind fun bt511 => (if bt511.1 < 0 then (laws_FnExactDropObjects.j1 k x1 x7 true x483000 x483001 x494000 x494001 x505000 x505001) else ((laws_eqContext.f k x505000 x505001 x494000 x494001).bind fun t513 => (if t513 = true then (laws_FnExactDropObjects.j1 k x1 x7 (x10 != x7) x483000 x483001 x494000 x494001 x505000 x505001) else (laws_FnExactDropObjects.j1 k x1 x7 true x483000 x483001 x494000 x494001 x505000 x505001))))) else (some false))))
def laws_FnExactDropObjects.j1 : Nat → Int → Bool → Bool → Int → List Int → Int → List Int → Int → List Int → Option (Bool)
 | 0, _, _, _, _, _, _, _, _, _ => none
 | k + 1, x1, x7, x65, x483000, x483001, x494000, x494001, x505000, x505001 => if x65 = true then (some false) else ((laws_markContext.f k x505000 x505001 1).bind fun bt514 => ((laws_heldContext.f k x505000 bt514.2 1).bind fun t516 => (if t516 < 0 then (some false) else (if t516 = bt514.1 then ((laws_toContext.f k x483000 x483001).bind fun bt517 => ((impl_DropObjects.f k bt517.1 bt517.2 x1).bind fun bt521 => ((laws_eqContext.f k bt521.1 bt521.2.1 x494000 x494001).bind fun t527 => (if t527 = true then (laws_FnExactDropObjects.j2 k bt514.1 (bt521.2.2 != x7) x505000 bt514.2) else (laws_FnExactDropObjects.j2 k bt514.1 true x505000 bt514.2))))) else (some false)))))
def laws_FnExactDropObjects.j2 : Nat → Int → Bool → Int → List Int → Option (Bool)
 | 0, _, _, _, _ => none
 | k + 1, x12, x92, x505000, x505001 => if x92 = true then (some false) else ((laws_heldContext.f k x505000 x505001 1).bind fun t528 => (if t528 < 0 then (some false) else (if t528 = x12 then (some true) else (some false))))
end
def laws_FnExactDropObjects.f (k : Nat) (a0_0 : Int) (l0_1 : List Int) (a1 : Int) : Option (Bool) := (laws_szContext.f a0_0 l0_1 1048576).bind fun t483 => (if t483 < 0 then (some true) else ((laws_toContext.f k a0_0 l0_1).bind fun bt484 => ((spec_DropObjects.f k bt484.1 bt484.2 a1).bind fun bt488 => ((laws_toContext.f k a0_0 l0_1).bind fun bt494 => ((impl_DropObjects.f k bt494.1 bt494.2 a1).bind fun bt499 => ((laws_eqContext.f k bt499.1 bt499.2.1 bt488.1 bt488.2.1).bind fun t505 => (if t505 = true then (laws_FnExactDropObjects.j0 k a1 bt488.2.2 bt499.2.2 (bt499.2.2 != bt488.2.2) a0_0 l0_1 bt488.1 bt488.2.1 bt494.1 bt494.2 bt499.1 bt499.2.1) else (laws_FnExactDropObjects.j0 k a1 bt488.2.2 bt499.2.2 true a0_0 l0_1 bt488.1 bt488.2.1 bt494.1 bt494.2 bt499.1 bt499.2.1))))))))
set_option maxHeartbeats 8000000 in
set_option maxRecDepth 100000 in
theorem laws_FnExactDropObjects.calls (k : Nat) (a0_0 : Int) (A0_1 : Option Addr) (c0_1 : Nat) (l0_1 : List Int) (a1 : Int) (r : Bool) (w : World) (hr0_1 : Kd.C (Kd.int .i64) w A0_1 l0_1.length l0_1) (hc0_1 : l0_1.length ≤ c0_1) (h : laws_FnExactDropObjects.f k a0_0 l0_1 a1 = some r) :
  Calls Try.prog 11 #[.agg #[.int .i64 a0_0, .slice A0_1 l0_1.length c0_1], .int .i64 a1] w fun e w' => e = .returned (.bool r) ∧ Below w.heap.size w w' := by
 have hu24 := Try.underlying24
 have hu27 := Try.underlying27
 have HR0_1 := Aside0.mk hr0_1
 have HC0_1 := Aside0.mk hc0_1
 clear hr0_1 hc0_1
 have HB := Aside0.mk (Below.refl w.heap.size w)
 have H : ((laws_szContext.f a0_0 l0_1 1048576).bind fun t483 => (if t483 < 0 then (some true) else ((laws_toContext.f k a0_0 l0_1).bind fun bt484 => ((spec_DropObjects.f k bt484.1 bt484.2 a1).bind fun bt488 => ((laws_toContext.f k a0_0 l0_1).bind fun bt494 => ((impl_DropObjects.f k bt494.1 bt494.2 a1).bind fun bt499 => ((laws_eqContext.f k bt499.1 bt499.2.1 bt488.1 bt488.2.1).bind fun t505 => (if t505 = true then (laws_FnExactDropObjects.j0 k a1 bt488.2.2 bt499.2.2 (bt499.2.2 != bt488.2.2) a0_0 l0_1 bt488.1 bt488.2.1 bt494.1 bt494.2 bt499.1 bt499.2.1) else (laws_FnExactDropObjects.j0 k a1 bt488.2.2 bt499.2.2 true a0_0 l0_1 bt488.1 bt488.2.1 bt494.1 bt494.2 bt499.1 bt499.2.1))))))))) = some r := h
 clear h
 replace H := Option.bind_eq_some_iff.mp H
 obtain ⟨t483, A30, H⟩ := H
 replace H : (if t483 < 0 then (some true) else ((laws_toContext.f k a0_0 l0_1).bind fun bt484 => ((spec_DropObjects.f k bt484.1 bt484.2 a1).bind fun bt488 => ((laws_toContext.f k a0_0 l0_1).bind fun bt494 => ((impl_DropObjects.f k bt494.1 bt494.2 a1).bind fun bt499 => ((laws_eqContext.f k bt499.1 bt499.2.1 bt488.1 bt488.2.1).bind fun t505 => (if t505 = true then (laws_FnExactDropObjects.j0 k a1 bt488.2.2 bt499.2.2 (bt499.2.2 != bt488.2.2) a0_0 l0_1 bt488.1 bt488.2.1 bt494.1 bt494.2 bt499.1 bt499.2.1) else (laws_FnExactDropObjects.j0 k a1 bt488.2.2 bt499.2.2 true a0_0 l0_1 bt488.1 bt488.2.1 bt494.1 bt494.2 bt499.1 bt499.2.1)))))))) = some r := H
 have A3 := Aside0.mk A30
 clear A30
 by_cases c4 : t483 < 0
 ·
  rw [if_pos c4] at H
  have c4b0 : decide (t483 < 0) = true := decide_eq_true c4
  clear c4
  obtain rfl := Option.some.inj H
  go_enter Try.func11, Try.ntmps11
  go_wp2_with (first | ((with_reducible refine gate_dst (N := 2) rfl ?_); refine box_event ?hg (N := 2) ?hd (cs := #[.int .i64 a0_0, .slice A0_1 l0_1.length c0_1]) (t := 24) ?hr ?_; (case hd => rfl); (case hg => rfl); (case hr => first | (go_simp; done) | (go_simp; rfl)); intro gb482 hg w5 hbox hb; have n0_ := Aside0.mk (below_step q36_36 hb); have n1_ := Aside0.mk (hbox); have n2_ := Aside0.mk ((by rw [hg]; exact (below_size q36_36) : w.heap.size ≤ gb482)); have n3_ := Aside0.mk ((by rw [hg]; exact (below_size q36_36) : w.heap.size ≤ gb482)); clear HB; have HB := n0_; have BK482 := n1_; have GW482 := n2_; have GE482 := n3_; clear n0_ n1_ n2_ n3_; clear hb hbox hg; have hcz6_0 : w5.cell? ⟨gb482, 0, none⟩ = some (.int .i64 a0_0) := (blk_cell BK482.out 0).trans rfl; have hcz6_1 : w5.cell? ⟨gb482, 1, none⟩ = some (.slice A0_1 l0_1.length c0_1) := (blk_cell BK482.out 1).trans rfl; have hfz6_0 := blk_frozen BK482.out 0; have hfz6_1 := blk_frozen BK482.out 1) | ((with_reducible refine gate_callee (f := 15) rfl ?_); refine goesL_ (some 18) rfl rfl Try.func15 q36_53 rfl #[.agg #[.int .i64 a0_0, .slice A0_1 l0_1.length c0_1], .int .i64 1048576] rfl q36_35 ?_; (with_reducible refine (laws_szContext.calls a0_0 _ _ l0_1 1048576 t483 _ ?side1 ?side2 A3.out).mono ?_); (case side1 => exact q36_32); (case side2 => exact HC0_1.out); rintro e w7 ⟨rfl, hb⟩; refine ⟨_, rfl, ?_⟩; have n0_ := Aside0.mk (blk_below (g := gb482) (o := .cells #[.int .i64 a0_0, .slice A0_1 l0_1.length c0_1] 24 (0, 0)) q36_37 hb); have n1_ := Aside0.mk (below_step q36_34 hb); clear BK482; clear HB; have BK482 := n0_; have HB := n1_; clear n0_ n1_; (try clear hb); (try clear hb2); (try clear hk); (try clear hi)))
  go_ret
  exact ⟨by first | rfl | (simp [errW_none, errW_some] <;> rfl) | (simp [*, errW_none, errW_some] <;> rfl), by repeat (first | (with_reducible first | exact HB.out | apply below_alloc | apply pw_below_drewN | apply below_drew1 | refine below_set ?_ GE482.out) | exact HB.out)⟩
 ·
  rw [if_neg c4] at H
  have c4b0 : decide (t483 < 0) = false := decide_eq_false c4
  clear c4
  replace H := Option.bind_eq_some_iff.mp H
  obtain ⟨⟨t484, t485⟩, A80, H⟩ := H
  replace H : ((spec_DropObjects.f k t484 t485 a1).bind fun bt488 => ((laws_toContext.f k a0_0 l0_1).bind fun bt494 => ((impl_DropObjects.f k bt494.1 bt494.2 a1).bind fun bt499 => ((laws_eqContext.f k bt499.1 bt499.2.1 bt488.1 bt488.2.1).bind fun t505 => (if t505 = true then (laws_FnExactDropObjects.j0 k a1 bt488.2.2 bt499.2.2 (bt499.2.2 != bt488.2.2) a0_0 l0_1 bt488.1 bt488.2.1 bt494.1 bt494.2 bt499.1 bt499.2.1) else (laws_FnExactDropObjects.j0 k a1 bt488.2.2 bt499.2.2 true a0_0 l0_1 bt488.1 bt488.2.1 bt494.1 bt494.2 bt499.1 bt499.2.1)))))) = some r := H
  have A8 := Aside0.mk A80
  clear A80
  replace H := Option.bind_eq_some_iff.mp H
  obtain ⟨⟨t488, t489, t492⟩, A90, H⟩ := H
  replace H : ((laws_toContext.f k a0_0 l0_1).bind fun bt494 => ((impl_DropObjects.f k bt494.1 bt494.2 a1).bind fun bt499 => ((laws_eqContext.f k bt499.1 bt499.2.1 t488 t489).bind fun t505 => (if t505 = true then (laws_FnExactDropObjects.j0 k a1 t492 bt499.2.2 (bt499.2.2 != t492) a0_0 l0_1 t488 t489 bt494.1 bt494.2 bt499.1 bt499.2.1) else (laws_FnExactDropObjects.j0 k a1 t492 bt499.2.2 true a0_0 l0_1 t488 t489 bt494.1 bt494.2 bt499.1 bt499.2.1))))) = some r := H
  have A9 := Aside0.mk A90
  clear A90
  replace H := Option.bind_eq_some_iff.mp H
  obtain ⟨⟨t494, t495⟩, A100, H⟩ := H
  replace H : ((impl_DropObjects.f k t494 t495 a1).bind fun bt499 => ((laws_eqContext.f k bt499.1 bt499.2.1 t488 t489).bind fun t505 => (if t505 = true then (laws_FnExactDropObjects.j0 k a1 t492 bt499.2.2 (bt499.2.2 != t492) a0_0 l0_1 t488 t489 t494 t495 bt499.1 bt499.2.1) else (laws_FnExactDropObjects.j0 k a1 t492 bt499.2.2 true a0_0 l0_1 t488 t489 t494 t495 bt499.1 bt499.2.1)))) = some r := H
  have A10 := Aside0.mk A100
  clear A100
  replace H := Option.bind_eq_some_iff.mp H
  obtain ⟨⟨t499, t500, t503⟩, A110, H⟩ := H
  replace H : ((laws_eqContext.f k t499 t500 t488 t489).bind fun t505 => (if t505 = true then (laws_FnExactDropObjects.j0 k a1 t492 t503 (t503 != t492) a0_0 l0_1 t488 t489 t494 t495 t499 t500) else (laws_FnExactDropObjects.j0 k a1 t492 t503 true a0_0 l0_1 t488 t489 t494 t495 t499 t500))) = some r := H
  have A11 := Aside0.mk A110
  clear A110
  have HC12 := Aside0.mk H
  clear H
  go_enter Try.func11, Try.ntmps11
  go_upto_region 8 with (first | ((with_reducible refine gate_dst (N := 2) rfl ?_); refine box_event ?hg (N := 2) ?hd (cs := #[.int .i64 a0_0, .slice A0_1 l0_1.length c0_1]) (t := 24) ?hr ?_; (case hd => rfl); (case hg => rfl); (case hr => first | (go_simp; done) | (go_simp; rfl)); intro gb482 hg w13 hbox hb; have n0_ := Aside0.mk (below_step q36_36 hb); have n1_ := Aside0.mk (hbox); have n2_ := Aside0.mk ((by rw [hg]; exact (below_size q36_36) : w.heap.size ≤ gb482)); have n3_ := Aside0.mk ((by rw [hg]; exact (below_size q36_36) : w.heap.size ≤ gb482)); clear HB; have HB := n0_; have BK482 := n1_; have GW482 := n2_; have GE482 := n3_; clear n0_ n1_ n2_ n3_; clear hb hbox hg; have hcz14_0 : w13.cell? ⟨gb482, 0, none⟩ = some (.int .i64 a0_0) := (blk_cell BK482.out 0).trans rfl; have hcz14_1 : w13.cell? ⟨gb482, 1, none⟩ = some (.slice A0_1 l0_1.length c0_1) := (blk_cell BK482.out 1).trans rfl; have hfz14_0 := blk_frozen BK482.out 0; have hfz14_1 := blk_frozen BK482.out 1) | ((with_reducible refine gate_callee (f := 15) rfl ?_); refine goesL_ (some 18) rfl rfl Try.func15 q36_53 rfl #[.agg #[.int .i64 a0_0, .slice A0_1 l0_1.length c0_1], .int .i64 1048576] rfl q36_35 ?_; (with_reducible refine (laws_szContext.calls a0_0 _ _ l0_1 1048576 t483 _ ?side1 ?side2 A3.out).mono ?_); (case side1 => exact q36_32); (case side2 => exact HC0_1.out); rintro e w15 ⟨rfl, hb⟩; refine ⟨_, rfl, ?_⟩; have n0_ := Aside0.mk (blk_below (g := gb482) (o := .cells #[.int .i64 a0_0, .slice A0_1 l0_1.length c0_1] 24 (0, 0)) q36_37 hb); have n1_ := Aside0.mk (below_step q36_34 hb); clear BK482; clear HB; have BK482 := n0_; have HB := n1_; clear n0_ n1_; (try clear hb); (try clear hb2); (try clear hk); (try clear hi); have hcz16_0 : w15.cell? ⟨gb482, 0, none⟩ = some (.int .i64 a0_0) := (blk_cell BK482.out 0).trans rfl; have hcz16_1 : w15.cell? ⟨gb482, 1, none⟩ = some (.slice A0_1 l0_1.length c0_1) := (blk_cell BK482.out 1).trans rfl; have hfz16_0 := blk_frozen BK482.out 0; have hfz16_1 := blk_frozen BK482.out 1) | ((with_reducible refine gate_callee (f := 17) rfl ?_); refine goesL_ (some 23) rfl rfl Try.func17 q36_53 rfl #[.agg #[.int .i64 a0_0, .slice A0_1 l0_1.length c0_1]] rfl q36_35 ?_; (with_reducible refine (laws_toContext.calls k a0_0 _ _ l0_1 t484 t485 _ ?side1 ?side2 A8.out).mono ?_); (case side1 => exact q36_32); (case side2 => exact HC0_1.out); rintro e w17 ⟨v486, rfl, ho0, hb⟩; refine ⟨_, rfl, ?_⟩; have n0_ := Aside0.mk (Kd.R_lower ho0 (below_size q36_34)); have n1_ := Aside0.mk (blk_below (g := gb482) (o := .cells #[.int .i64 a0_0, .slice A0_1 l0_1.length c0_1] 24 (0, 0)) q36_37 hb); have n2_ := Aside0.mk (below_step q36_34 hb); clear BK482; clear HB; have HO487 := n0_; have BK482 := n1_; have HB := n2_; clear n0_ n1_ n2_; (try clear hb); (try clear hb2); (try clear hk); (try clear hi); (try clear ho0); obtain ⟨Ao18, co18, eo18⟩ := Kd.R_slice HO487.out; subst eo18) | ((with_reducible refine gate_callee (f := 35) rfl ?_); refine goesL_ (some 25) rfl rfl Try.func35 q36_53 rfl #[.agg #[.int .i64 t484, .slice Ao18 t485.length co18], .int .i64 a1] rfl q36_35 ?_; (with_reducible refine (spec_DropObjects.calls k t484 _ _ t485 a1 t488 t489 t492 _ ?side1 ?side2 A9.out).mono ?_); (case side1 => repeat (first | exact (Kd.R_reads' HO487.out).2.2 | (with_reducible refine Kd.C_alloc ?_ _) | (with_reducible refine Kd.C_drewN ?_ _) | (with_reducible refine Kd.C_drew ?_))); (case side2 => exact (Kd.R_reads' HO487.out).2.1); rintro e w19 ⟨v490, rfl, ho0, hb⟩; refine ⟨_, rfl, ?_⟩; have n0_ := Aside0.mk (Kd.R_elder' q36_46 (Kd.R_base ho0) hb); have n1_ := Aside0.mk (Kd.R_lower (Kd.R_new' ho0 (Kd.R_lt q36_46)) (below_size q36_34)); have n2_ := Aside0.mk (blk_below (g := gb482) (o := .cells #[.int .i64 a0_0, .slice A0_1 l0_1.length c0_1] 24 (0, 0)) q36_37 hb); have n3_ := Aside0.mk (below_step q36_34 hb); clear HO487; clear BK482; clear HB; have HO487 := n0_; have HO491 := n1_; have BK482 := n2_; have HB := n3_; clear n0_ n1_ n2_ n3_; (try clear hb); (try clear hb2); (try clear hk); (try clear hi); (try clear ho0)) | ((with_reducible refine gate_dst (N := 6) rfl ?_); refine box_event ?hg (N := 6) ?hd (cs := #[.int .i64 0, .slice none 0 0]) (t := 27) ?hr ?_; (case hd => rfl); (case hg => rfl); (case hr => first | (go_simp; done) | (go_simp; rfl)); intro gb493 hg w20 hbox hb; have n0_ := Aside0.mk (Kd.R_below q36_46 hb); have n1_ := Aside0.mk (Kd.R_below q36_47 hb); have n2_ := Aside0.mk (blk_below (g := gb482) (o := .cells #[.int .i64 a0_0, .slice A0_1 l0_1.length c0_1] 24 (0, 0)) q36_37 hb); have n3_ := Aside0.mk (below_step q36_34 hb); have n4_ := Aside0.mk (hbox); have n5_ := Aside0.mk ((by rw [hg]; exact (below_size q36_34) : w.heap.size ≤ gb493)); have n6_ := Aside0.mk ((by rw [hg]; exact (below_size q36_34) : w.heap.size ≤ gb493)); have n7_ := Aside0.mk ((by rw [hg]; exact Nat.ne_of_lt (blk_lt (g := gb482) (o := .cells #[.int .i64 a0_0, .slice A0_1 l0_1.length c0_1] 24 (0, 0)) q36_37) : gb482 ≠ gb493)); have n8_ := Aside0.mk ((by rw [hg]; exact Nat.ne_of_gt (blk_lt (g := gb482) (o := .cells #[.int .i64 a0_0, .slice A0_1 l0_1.length c0_1] 24 (0, 0)) q36_37) : gb493 ≠ gb482)); clear HO487; clear HO491; clear BK482; clear HB; have HO487 := n0_; have HO491 := n1_; have BK482 := n2_; have HB := n3_; have BK493 := n4_; have GW493 := n5_; have GE493 := n6_; have NB482_493 := n7_; have NB493_482 := n8_; clear n0_ n1_ n2_ n3_ n4_ n5_ n6_ n7_ n8_; clear hb hbox hg; have hnb21 := NB493_482.out; have hnc21 := NB482_493.out; have hcz22_0 : w20.cell? ⟨gb493, 0, none⟩ = some (.int .i64 0) := (blk_cell BK493.out 0).trans rfl; have hcz22_1 : w20.cell? ⟨gb493, 1, none⟩ = some (.slice none 0 0) := (blk_cell BK493.out 1).trans rfl; have hfz22_0 := blk_frozen BK493.out 0; have hfz22_1 := blk_frozen BK493.out 1; obtain ⟨Ao23, co23, eo23⟩ := Kd.R_slice HO491.out; subst eo23; have hcz24_0 : w20.cell? ⟨gb482, 0, none⟩ = some (.int .i64 a0_0) := (blk_cell BK482.out 0).trans rfl; have hcz24_1 : w20.cell? ⟨gb482, 1, none⟩ = some (.slice A0_1 l0_1.length c0_1) := (blk_cell BK482.out 1).trans rfl; have hfz24_0 := blk_frozen BK482.out 0; have hfz24_1 := blk_frozen BK482.out 1) | ((with_reducible refine gate_callee (f := 17) rfl ?_); refine goesL_ (some 29) rfl rfl Try.func17 q36_53 rfl #[.agg #[.int .i64 a0_0, .slice A0_1 l0_1.length c0_1]] rfl q36_35 ?_; (with_reducible refine (laws_toContext.calls k a0_0 _ _ l0_1 t494 t495 _ ?side1 ?side2 A10.out).mono ?_); (case side1 => exact Kd.C_below HR0_1.out q36_28); (case side2 => exact HC0_1.out); rintro e w25 ⟨v496, rfl, ho0, hb⟩; refine ⟨_, rfl, ?_⟩; have n0_ := Aside0.mk (Kd.R_elder' q36_15 (Kd.R_base ho0) hb); have n1_ := Aside0.mk (Kd.R_elder' q36_16 (Kd.R_base ho0) hb); have n2_ := Aside0.mk (Kd.R_lower (Kd.R_new' (Kd.R_new' ho0 (Kd.R_lt q36_15)) (Kd.R_lt q36_16)) (below_size q36_28)); have n3_ := Aside0.mk (blk_below (g := gb482) (o := .cells #[.int .i64 a0_0, .slice A0_1 l0_1.length c0_1] 24 (0, 0)) (by (with_reducible repeat (first | refine blk_drewN ?_ _ | refine blk_drew ?_ | refine blk_alloc ?_ _)); refine blk_far ?_ NB482_493.out _; (with_reducible repeat (first | refine blk_drewN ?_ _ | refine blk_drew ?_ | refine blk_alloc ?_ _)); refine blk_far ?_ NB482_493.out _; (with_reducible repeat (first | refine blk_drewN ?_ _ | refine blk_drew ?_ | refine blk_alloc ?_ _)); exact BK482.out) hb); have n4_ := Aside0.mk (blk_below (g := gb493) (o := .cells #[.int .i64 t488, .slice Ao23 t489.length co23] 27 (0, 0)) (by (with_reducible repeat (first | refine blk_drewN ?_ _ | refine blk_drew ?_ | refine blk_alloc ?_ _)); refine blk_put (cs := #[.int .i64 t488, .slice none 0 0]) ?_ 1 _ rfl; (with_reducible repeat (first | refine blk_drewN ?_ _ | refine blk_drew ?_ | refine blk_alloc ?_ _)); refine blk_put (cs := #[.int .i64 0, .slice none 0 0]) ?_ 0 _ rfl; (with_reducible repeat (first | refine blk_drewN ?_ _ | refine blk_drew ?_ | refine blk_alloc ?_ _)); exact BK493.out) hb); have n5_ := Aside0.mk (below_step q36_28 hb); clear HO487; clear HO491; clear BK482; clear BK493; clear HB; have HO487 := n0_; have HO491 := n1_; have HO497 := n2_; have BK482 := n3_; have BK493 := n4_; have HB := n5_; clear n0_ n1_ n2_ n3_ n4_ n5_; (try clear hb); (try clear hb2); (try clear hk); (try clear hi); (try clear ho0)) | ((with_reducible refine gate_dst (N := 8) rfl ?_); refine box_event ?hg (N := 8) ?hd (cs := #[.int .i64 0, .slice none 0 0]) (t := 27) ?hr ?_; (case hd => rfl); (case hg => rfl); (case hr => first | (go_simp; done) | (go_simp; rfl)); intro gb498 hg w26 hbox hb; have n0_ := Aside0.mk (Kd.R_below q36_46 hb); have n1_ := Aside0.mk (Kd.R_below q36_47 hb); have n2_ := Aside0.mk (Kd.R_below (by (with_reducible repeat (first | apply Kd.R_alloc | apply Kd.R_drewN | apply Kd.R_drew)); exact HO497.out) hb); have n3_ := Aside0.mk (blk_below (g := gb482) (o := .cells #[.int .i64 a0_0, .slice A0_1 l0_1.length c0_1] 24 (0, 0)) q36_37 hb); have n4_ := Aside0.mk (blk_below (g := gb493) (o := .cells #[.int .i64 t488, .slice Ao23 t489.length co23] 27 (0, 0)) q36_38 hb); have n5_ := Aside0.mk (below_step q36_28 hb); have n6_ := Aside0.mk (hbox); have n7_ := Aside0.mk ((by rw [hg]; exact (below_size q36_28) : w.heap.size ≤ gb498)); have n8_ := Aside0.mk ((by rw [hg]; exact (below_size q36_28) : w.heap.size ≤ gb498)); have n9_ := Aside0.mk ((by rw [hg]; exact Nat.ne_of_lt (blk_lt (g := gb482) (o := .cells #[.int .i64 a0_0, .slice A0_1 l0_1.length c0_1] 24 (0, 0)) q36_37) : gb482 ≠ gb498)); have n10_ := Aside0.mk ((by rw [hg]; exact Nat.ne_of_gt (blk_lt (g := gb482) (o := .cells #[.int .i64 a0_0, .slice A0_1 l0_1.length c0_1] 24 (0, 0)) q36_37) : gb498 ≠ gb482)); have n11_ := Aside0.mk ((by rw [hg]; exact Nat.ne_of_lt (blk_lt (g := gb493) (o := .cells #[.int .i64 t488, .slice Ao23 t489.length co23] 27 (0, 0)) q36_38) : gb493 ≠ gb498)); have n12_ := Aside0.mk ((by rw [hg]; exact Nat.ne_of_gt (blk_lt (g := gb493) (o := .cells #[.int .i64 t488, .slice Ao23 t489.length co23] 27 (0, 0)) q36_38) : gb498 ≠ gb493)); clear HO487; clear HO491; clear HO497; clear BK482; clear BK493; clear HB; have HO487 := n0_; have HO491 := n1_; have HO497 := n2_; have BK482 := n3_; have BK493 := n4_; have HB := n5_; have BK498 := n6_; have GW498 := n7_; have GE498 := n8_; have NB482_498 := n9_; have NB498_482 := n10_; have NB493_498 := n11_; have NB498_493 := n12_; clear n0_ n1_ n2_ n3_ n4_ n5_ n6_ n7_ n8_ n9_ n10_ n11_ n12_; clear hb hbox hg; have hnb27 := NB498_482.out; have hnc27 := NB482_498.out; have hnb28 := NB498_493.out; have hnc28 := NB493_498.out; have hcz29_0 : w26.cell? ⟨gb498, 0, none⟩ = some (.int .i64 0) := (blk_cell BK498.out 0).trans rfl; have hcz29_1 : w26.cell? ⟨gb498, 1, none⟩ = some (.slice none 0 0) := (blk_cell BK498.out 1).trans rfl; have hfz29_0 := blk_frozen BK498.out 0; have hfz29_1 := blk_frozen BK498.out 1; obtain ⟨Ao30, co30, eo30⟩ := Kd.R_slice HO497.out; subst eo30) | ((with_reducible refine gate_callee (f := 36) rfl ?_); refine goesL_ (some 33) rfl rfl Try.func36 q36_53 rfl #[.agg #[.int .i64 t494, .slice Ao30 t495.length co30], .int .i64 a1] rfl q36_35 ?_; (with_reducible refine (impl_DropObjects.calls k t494 _ _ t495 a1 t499 t500 t503 _ ?side1 ?side2 A11.out).mono ?_); (case side1 => refine (Kd.R_reads' (e := 3) (base := w.heap.size) (ok := fun k_ => ((True ∧ some k_ ≠ (.slice Ao18 t485.length co18 : Value).ownBlock) ∧ some k_ ≠ (.slice Ao23 t489.length co23 : Value).ownBlock)) (n := t495.length) (c := co30) ?_).2.2; exact q36_19); (case side2 => exact (Kd.R_reads' HO497.out).2.1); rintro e w31 ⟨v501, rfl, ho0, hb⟩; refine ⟨_, rfl, ?_⟩; have n0_ := Aside0.mk (Kd.R_elder' q36_17 (Kd.R_base ho0) hb); have n1_ := Aside0.mk (Kd.R_elder' q36_18 (Kd.R_base ho0) hb); have n2_ := Aside0.mk (Kd.R_elder' q36_19 (Kd.R_base ho0) hb); have n3_ := Aside0.mk (Kd.R_lower (Kd.R_new' (Kd.R_new' (Kd.R_new' ho0 (Kd.R_lt q36_17)) (Kd.R_lt q36_18)) (Kd.R_lt q36_19)) (below_size q36_26)); have n4_ := Aside0.mk (blk_below (g := gb482) (o := .cells #[.int .i64 a0_0, .slice A0_1 l0_1.length c0_1] 24 (0, 0)) (by (with_reducible repeat (first | refine blk_drewN ?_ _ | refine blk_drew ?_ | refine blk_alloc ?_ _)); refine blk_far ?_ NB482_498.out _; (with_reducible repeat (first | refine blk_drewN ?_ _ | refine blk_drew ?_ | refine blk_alloc ?_ _)); refine blk_far ?_ NB482_498.out _; (with_reducible repeat (first | refine blk_drewN ?_ _ | refine blk_drew ?_ | refine blk_alloc ?_ _)); exact BK482.out) hb); have n5_ := Aside0.mk (blk_below (g := gb493) (o := .cells #[.int .i64 t488, .slice Ao23 t489.length co23] 27 (0, 0)) (by (with_reducible repeat (first | refine blk_drewN ?_ _ | refine blk_drew ?_ | refine blk_alloc ?_ _)); refine blk_far ?_ NB493_498.out _; (with_reducible repeat (first | refine blk_drewN ?_ _ | refine blk_drew ?_ | refine blk_alloc ?_ _)); refine blk_far ?_ NB493_498.out _; (with_reducible repeat (first | refine blk_drewN ?_ _ | refine blk_drew ?_ | refine blk_alloc ?_ _)); exact BK493.out) hb); have n6_ := Aside0.mk (blk_below (g := gb498) (o := .cells #[.int .i64 t494, .slice Ao30 t495.length co30] 27 (0, 0)) (by (with_reducible repeat (first | refine blk_drewN ?_ _ | refine blk_drew ?_ | refine blk_alloc ?_ _)); refine blk_put (cs := #[.int .i64 t494, .slice none 0 0]) ?_ 1 _ rfl; (with_reducible repeat (first | refine blk_drewN ?_ _ | refine blk_drew ?_ | refine blk_alloc ?_ _)); refine blk_put (cs := #[.int .i64 0, .slice none 0 0]) ?_ 0 _ rfl; (with_reducible repeat (first | refine blk_drewN ?_ _ | refine blk_drew ?_ | refine blk_alloc ?_ _)); exact BK498.out) hb); have n7_ := Aside0.mk (below_step q36_26 hb); clear HO487; clear HO491; clear HO497; clear BK482; clear BK493; clear BK498; clear HB; have HO487 := n0_; have HO491 := n1_; have HO497 := n2_; have HO502 := n3_; have BK482 := n4_; have BK493 := n5_; have BK498 := n6_; have HB := n7_; clear n0_ n1_ n2_ n3_ n4_ n5_ n6_ n7_; (try clear hb); (try clear hb2); (try clear hk); (try clear hi); (try clear ho0)) | ((with_reducible refine gate_dst (N := 9) rfl ?_); refine box_event ?hg (N := 9) ?hd (cs := #[.int .i64 0, .slice none 0 0]) (t := 27) ?hr ?_; (case hd => rfl); (case hg => rfl); (case hr => first | (go_simp; done) | (go_simp; rfl)); intro gb504 hg w32 hbox hb; have n0_ := Aside0.mk (Kd.R_below q36_46 hb); have n1_ := Aside0.mk (Kd.R_below q36_47 hb); have n2_ := Aside0.mk (Kd.R_below (by (with_reducible repeat (first | apply Kd.R_alloc | apply Kd.R_drewN | apply Kd.R_drew)); exact HO497.out) hb); have n3_ := Aside0.mk (Kd.R_below (by (with_reducible repeat (first | apply Kd.R_alloc | apply Kd.R_drewN | apply Kd.R_drew)); exact HO502.out) hb); have n4_ := Aside0.mk (blk_below (g := gb482) (o := .cells #[.int .i64 a0_0, .slice A0_1 l0_1.length c0_1] 24 (0, 0)) q36_37 hb); have n5_ := Aside0.mk (blk_below (g := gb493) (o := .cells #[.int .i64 t488, .slice Ao23 t489.length co23] 27 (0, 0)) q36_38 hb); have n6_ := Aside0.mk (blk_below (g := gb498) (o := .cells #[.int .i64 t494, .slice Ao30 t495.length co30] 27 (0, 0)) q36_39 hb); have n7_ := Aside0.mk (below_step q36_26 hb); have n8_ := Aside0.mk (hbox); have n9_ := Aside0.mk ((by rw [hg]; exact (below_size q36_26) : w.heap.size ≤ gb504)); have n10_ := Aside0.mk ((by rw [hg]; exact (below_size q36_26) : w.heap.size ≤ gb504)); have n11_ := Aside0.mk ((by rw [hg]; exact Nat.ne_of_lt (blk_lt (g := gb482) (o := .cells #[.int .i64 a0_0, .slice A0_1 l0_1.length c0_1] 24 (0, 0)) q36_37) : gb482 ≠ gb504)); have n12_ := Aside0.mk ((by rw [hg]; exact Nat.ne_of_gt (blk_lt (g := gb482) (o := .cells #[.int .i64 a0_0, .slice A0_1 l0_1.length c0_1] 24 (0, 0)) q36_37) : gb504 ≠ gb482)); have n13_ := Aside0.mk ((by rw [hg]; exact Nat.ne_of_lt (blk_lt (g := gb493) (o := .cells #[.int .i64 t488, .slice Ao23 t489.length co23] 27 (0, 0)) q36_38) : gb493 ≠ gb504)); have n14_ := Aside0.mk ((by rw [hg]; exact Nat.ne_of_gt (blk_lt (g := gb493) (o := .cells #[.int .i64 t488, .slice Ao23 t489.length co23] 27 (0, 0)) q36_38) : gb504 ≠ gb493)); have n15_ := Aside0.mk ((by rw [hg]; exact Nat.ne_of_lt (blk_lt (g := gb498) (o := .cells #[.int .i64 t494, .slice Ao30 t495.length co30] 27 (0, 0)) q36_39) : gb498 ≠ gb504)); have n16_ := Aside0.mk ((by rw [hg]; exact Nat.ne_of_gt (blk_lt (g := gb498) (o := .cells #[.int .i64 t494, .slice Ao30 t495.length co30] 27 (0, 0)) q36_39) : gb504 ≠ gb498)); clear HO487; clear HO491; clear HO497; clear HO502; clear BK482; clear BK493; clear BK498; clear HB; have HO487 := n0_; have HO491 := n1_; have HO497 := n2_; have HO502 := n3_; have BK482 := n4_; have BK493 := n5_; have BK498 := n6_; have HB := n7_; have BK504 := n8_; have GW504 := n9_; have GE504 := n10_; have NB482_504 := n11_; have NB504_482 := n12_; have NB493_504 := n13_; have NB504_493 := n14_; have NB498_504 := n15_; have NB504_498 := n16_; clear n0_ n1_ n2_ n3_ n4_ n5_ n6_ n7_ n8_ n9_ n10_ n11_ n12_ n13_ n14_ n15_ n16_; clear hb hbox hg; have hnb33 := NB504_482.out; have hnc33 := NB482_504.out; have hnb34 := NB504_493.out; have hnc34 := NB493_504.out; have hnb35 := NB504_498.out; have hnc35 := NB498_504.out; have hcz36_0 : w32.cell? ⟨gb504, 0, none⟩ = some (.int .i64 0) := (blk_cell BK504.out 0).trans rfl; have hcz36_1 : w32.cell? ⟨gb504, 1, none⟩ = some (.slice none 0 0) := (blk_cell BK504.out 1).trans rfl; have hfz36_0 := blk_frozen BK504.out 0; have hfz36_1 := blk_frozen BK504.out 1; obtain ⟨Ao37, co37, eo37⟩ := Kd.R_slice HO502.out; subst eo37))
  (try simp only [Act.put, List.setIfInBounds_toArray, List.set_cons_zero, List.set_cons_succ])
  go_cut [44] (fun v44 wc => ∃ (kq : Nat) (x44_11 : Bool), v44 = .bool x44_11 ∧ Aside0 (laws_FnExactDropObjects.j0 kq a1 t492 t503 x44_11 a0_0 l0_1 t488 t489 t494 t495 t499 t500 = some r) ∧ Aside0 (kq ≤ k) ∧ Aside0 (Kd.R (Kd.int .i64) 3 wc w.heap.size (fun k_ => some k_ ≠ ((.slice Ao30 t495.length co30) : Value).ownBlock ∧ some k_ ≠ ((.slice Ao37 t500.length co37) : Value).ownBlock) (.slice Ao23 t489.length co23) t489) ∧ Aside0 (Kd.R (Kd.int .i64) 3 wc w.heap.size (fun k_ => some k_ ≠ ((.slice Ao23 t489.length co23) : Value).ownBlock ∧ some k_ ≠ ((.slice Ao37 t500.length co37) : Value).ownBlock) (.slice Ao30 t495.length co30) t495) ∧ Aside0 (Kd.R (Kd.int .i64) 3 wc w.heap.size (fun k_ => some k_ ≠ ((.slice Ao23 t489.length co23) : Value).ownBlock ∧ some k_ ≠ ((.slice Ao30 t495.length co30) : Value).ownBlock) (.slice Ao37 t500.length co37) t500) ∧ Aside0 (wc.heap[gb482]? = some (.cells #[.int .i64 a0_0, (.slice A0_1 l0_1.length c0_1)] 24 (0, 0))) ∧ Aside0 (wc.heap[gb493]? = some (.cells #[.int .i64 t488, (.slice Ao23 t489.length co23)] 27 (0, 0))) ∧ Aside0 (wc.heap[gb498]? = some (.cells #[.int .i64 t494, (.slice Ao30 t495.length co30)] 27 (0, 0))) ∧ Aside0 (wc.heap[gb504]? = some (.cells #[.int .i64 t499, (.slice Ao37 t500.length co37)] 27 (0, 0))) ∧ Aside0 (Below w.heap.size w wc))
  case first =>
   have H := HC12.out
   clear HC12
   replace H := Option.bind_eq_some_iff.mp H
   obtain ⟨t505, A380, H⟩ := H
   replace H : (if t505 = true then (laws_FnExactDropObjects.j0 k a1 t492 t503 (t503 != t492) a0_0 l0_1 t488 t489 t494 t495 t499 t500) else (laws_FnExactDropObjects.j0 k a1 t492 t503 true a0_0 l0_1 t488 t489 t494 t495 t499 t500)) = some r := H
   have A38 := Aside0.mk A380
   clear A380
   by_cases c39 : t505 = true
   ·
    subst c39
    have H1 : (laws_FnExactDropObjects.j0 k a1 t492 t503 (t503 != t492) a0_0 l0_1 t488 t489 t494 t495 t499 t500) = some r := q36_52
    clear H
    have H := H1
    clear H1
    have H' := Aside0.mk H
    clear H
    have hnb40 := NB504_482.out
    have hnc40 := NB482_504.out
    have hnb41 := NB504_493.out
    have hnc41 := NB493_504.out
    have hnb42 := NB504_498.out
    have hnc42 := NB498_504.out
    have hcz43_0 : w32.cell? ⟨gb504, 0, none⟩ = some (.int .i64 0) := (blk_cell BK504.out 0).trans rfl
    have hcz43_1 : w32.cell? ⟨gb504, 1, none⟩ = some (.slice none 0 0) := (blk_cell BK504.out 1).trans rfl
    have hfz43_0 := blk_frozen BK504.out 0
    have hfz43_1 := blk_frozen BK504.out 1
    have hnb44 := NB493_482.out
    have hnc44 := NB482_493.out
    have hnb45 := NB493_498.out
    have hnc45 := NB498_493.out
    have hcz46_0 : w32.cell? ⟨gb493, 0, none⟩ = some (.int .i64 t488) := (blk_cell BK493.out 0).trans rfl
    have hcz46_1 : w32.cell? ⟨gb493, 1, none⟩ = some (.slice Ao23 t489.length co23) := (blk_cell BK493.out 1).trans rfl
    have hfz46_0 := blk_frozen BK493.out 0
    have hfz46_1 := blk_frozen BK493.out 1
    go_wp2_with (first | ((with_reducible refine gate_callee (f := 19) rfl ?_); refine goesL_ (some 38) rfl rfl Try.func19 q36_53 rfl #[.agg #[.int .i64 t499, .slice Ao37 t500.length co37], .agg #[.int .i64 t488, .slice Ao23 t489.length co23]] rfl q36_35 ?_; (with_reducible refine (laws_eqContext.calls k t499 _ _ t500 t488 _ _ t489 true _ ?side1 ?side2 ?side3 ?side4 A38.out).mono ?_); (case side1 => refine (Kd.R_reads' (e := 3) (base := w.heap.size) (ok := fun k_ => (((True ∧ some k_ ≠ (.slice Ao18 t485.length co18 : Value).ownBlock) ∧ some k_ ≠ (.slice Ao23 t489.length co23 : Value).ownBlock) ∧ some k_ ≠ (.slice Ao30 t495.length co30 : Value).ownBlock)) (n := t500.length) (c := co37) ?_).2.2; exact q36_23); (case side2 => exact (Kd.R_reads' HO502.out).2.1); (case side3 => refine (Kd.R_reads' (e := 3) (base := w.heap.size) (ok := fun k_ => (((True ∧ some k_ ≠ (.slice Ao18 t485.length co18 : Value).ownBlock) ∧ some k_ ≠ (.slice Ao30 t495.length co30 : Value).ownBlock) ∧ some k_ ≠ (.slice Ao37 t500.length co37 : Value).ownBlock)) (n := t489.length) (c := co23) ?_).2.2; exact q36_21); (case side4 => exact (Kd.R_reads' HO491.out).2.1); rintro e w47 ⟨rfl, hb⟩; refine ⟨_, rfl, ?_⟩; have n0_ := Aside0.mk (Kd.R_below q36_20 hb); have n1_ := Aside0.mk (Kd.R_below q36_21 hb); have n2_ := Aside0.mk (Kd.R_below q36_22 hb); have n3_ := Aside0.mk (Kd.R_below q36_23 hb); have n4_ := Aside0.mk (blk_below (g := gb482) (o := .cells #[.int .i64 a0_0, .slice A0_1 l0_1.length c0_1] 24 (0, 0)) q36_3 hb); have n5_ := Aside0.mk (blk_below (g := gb493) (o := .cells #[.int .i64 t488, .slice Ao23 t489.length co23] 27 (0, 0)) q36_5 hb); have n6_ := Aside0.mk (blk_below (g := gb498) (o := .cells #[.int .i64 t494, .slice Ao30 t495.length co30] 27 (0, 0)) q36_7 hb); have n7_ := Aside0.mk (blk_below (g := gb504) (o := .cells #[.int .i64 t499, .slice Ao37 t500.length co37] 27 (0, 0)) q36_1 hb); have n8_ := Aside0.mk (below_step q36_25 hb); clear HO487; clear HO491; clear HO497; clear HO502; clear BK482; clear BK493; clear BK498; clear BK504; clear HB; have HO487 := n0_; have HO491 := n1_; have HO497 := n2_; have HO502 := n3_; have BK482 := n4_; have BK493 := n5_; have BK498 := n6_; have BK504 := n7_; have HB := n8_; clear n0_ n1_ n2_ n3_ n4_ n5_ n6_ n7_ n8_; (try clear hb); (try clear hb2); (try clear hk); (try clear hi)))
    go_meet
    case rel => exact ⟨_, ((t503 != t492)), q36_50, H', ⟨by first | omega | exact Nat.le_refl _⟩, ⟨by (with_reducible repeat (first | apply Kd.R_alloc | apply Kd.R_drewN | apply Kd.R_drew)); exact Kd.R_mono HO491.out (fun _ hk => ⟨hk.1.2, hk.2⟩)⟩, ⟨by (with_reducible repeat (first | apply Kd.R_alloc | apply Kd.R_drewN | apply Kd.R_drew)); exact Kd.R_mono HO497.out (fun _ hk => ⟨hk.1.2, hk.2⟩)⟩, ⟨by (with_reducible repeat (first | apply Kd.R_alloc | apply Kd.R_drewN | apply Kd.R_drew)); exact Kd.R_mono HO502.out (fun _ hk => ⟨hk.1.2, hk.2⟩)⟩, ⟨by (with_reducible repeat (first | refine blk_drewN ?_ _ | refine blk_drew ?_ | refine blk_alloc ?_ _)); exact BK482.out⟩, ⟨by (with_reducible repeat (first | refine blk_drewN ?_ _ | refine blk_drew ?_ | refine blk_alloc ?_ _)); exact BK493.out⟩, ⟨by (with_reducible repeat (first | refine blk_drewN ?_ _ | refine blk_drew ?_ | refine blk_alloc ?_ _)); exact BK498.out⟩, ⟨by (with_reducible repeat (first | refine blk_drewN ?_ _ | refine blk_drew ?_ | refine blk_alloc ?_ _)); exact BK504.out⟩, ⟨by repeat (first | (with_reducible first | exact HB.out | apply below_alloc | apply pw_below_drewN | apply below_drew1 | refine below_set ?_ GE482.out | refine below_set ?_ GE493.out | refine below_set ?_ GE498.out | refine below_set ?_ GE504.out) | exact HB.out)⟩⟩
   ·
    replace c39 := Bool.eq_false_iff.mpr c39
    subst c39
    have H1 : (laws_FnExactDropObjects.j0 k a1 t492 t503 true a0_0 l0_1 t488 t489 t494 t495 t499 t500) = some r := q36_51
    clear H
    have H := H1
    clear H1
    have H' := Aside0.mk H
    clear H
    have hnb48 := NB504_482.out
    have hnc48 := NB482_504.out
    have hnb49 := NB504_493.out
    have hnc49 := NB493_504.out
    have hnb50 := NB504_498.out
    have hnc50 := NB498_504.out
    have hcz51_0 : w32.cell? ⟨gb504, 0, none⟩ = some (.int .i64 0) := (blk_cell BK504.out 0).trans rfl
    have hcz51_1 : w32.cell? ⟨gb504, 1, none⟩ = some (.slice none 0 0) := (blk_cell BK504.out 1).trans rfl
    have hfz51_0 := blk_frozen BK504.out 0
    have hfz51_1 := blk_frozen BK504.out 1
    have hnb52 := NB493_482.out
    have hnc52 := NB482_493.out
    have hnb53 := NB493_498.out
    have hnc53 := NB498_493.out
    have hcz54_0 : w32.cell? ⟨gb493, 0, none⟩ = some (.int .i64 t488) := (blk_cell BK493.out 0).trans rfl
    have hcz54_1 : w32.cell? ⟨gb493, 1, none⟩ = some (.slice Ao23 t489.length co23) := (blk_cell BK493.out 1).trans rfl
    have hfz54_0 := blk_frozen BK493.out 0
    have hfz54_1 := blk_frozen BK493.out 1
    go_wp2_with (first | ((with_reducible refine gate_callee (f := 19) rfl ?_); refine goesL_ (some 38) rfl rfl Try.func19 q36_53 rfl #[.agg #[.int .i64 t499, .slice Ao37 t500.length co37], .agg #[.int .i64 t488, .slice Ao23 t489.length co23]] rfl q36_35 ?_; (with_reducible refine (laws_eqContext.calls k t499 _ _ t500 t488 _ _ t489 false _ ?side1 ?side2 ?side3 ?side4 A38.out).mono ?_); (case side1 => refine (Kd.R_reads' (e := 3) (base := w.heap.size) (ok := fun k_ => (((True ∧ some k_ ≠ (.slice Ao18 t485.length co18 : Value).ownBlock) ∧ some k_ ≠ (.slice Ao23 t489.length co23 : Value).ownBlock) ∧ some k_ ≠ (.slice Ao30 t495.length co30 : Value).ownBlock)) (n := t500.length) (c := co37) ?_).2.2; exact q36_23); (case side2 => exact (Kd.R_reads' HO502.out).2.1); (case side3 => refine (Kd.R_reads' (e := 3) (base := w.heap.size) (ok := fun k_ => (((True ∧ some k_ ≠ (.slice Ao18 t485.length co18 : Value).ownBlock) ∧ some k_ ≠ (.slice Ao30 t495.length co30 : Value).ownBlock) ∧ some k_ ≠ (.slice Ao37 t500.length co37 : Value).ownBlock)) (n := t489.length) (c := co23) ?_).2.2; exact q36_21); (case side4 => exact (Kd.R_reads' HO491.out).2.1); rintro e w55 ⟨rfl, hb⟩; refine ⟨_, rfl, ?_⟩; have n0_ := Aside0.mk (Kd.R_below q36_20 hb); have n1_ := Aside0.mk (Kd.R_below q36_21 hb); have n2_ := Aside0.mk (Kd.R_below q36_22 hb); have n3_ := Aside0.mk (Kd.R_below q36_23 hb); have n4_ := Aside0.mk (blk_below (g := gb482) (o := .cells #[.int .i64 a0_0, .slice A0_1 l0_1.length c0_1] 24 (0, 0)) q36_3 hb); have n5_ := Aside0.mk (blk_below (g := gb493) (o := .cells #[.int .i64 t488, .slice Ao23 t489.length co23] 27 (0, 0)) q36_5 hb); have n6_ := Aside0.mk (blk_below (g := gb498) (o := .cells #[.int .i64 t494, .slice Ao30 t495.length co30] 27 (0, 0)) q36_7 hb); have n7_ := Aside0.mk (blk_below (g := gb504) (o := .cells #[.int .i64 t499, .slice Ao37 t500.length co37] 27 (0, 0)) q36_1 hb); have n8_ := Aside0.mk (below_step q36_25 hb); clear HO487; clear HO491; clear HO497; clear HO502; clear BK482; clear BK493; clear BK498; clear BK504; clear HB; have HO487 := n0_; have HO491 := n1_; have HO497 := n2_; have HO502 := n3_; have BK482 := n4_; have BK493 := n5_; have BK498 := n6_; have BK504 := n7_; have HB := n8_; clear n0_ n1_ n2_ n3_ n4_ n5_ n6_ n7_ n8_; (try clear hb); (try clear hb2); (try clear hk); (try clear hi)))
    go_meet
    case rel => exact ⟨_, (true), q36_50, H', ⟨by first | omega | exact Nat.le_refl _⟩, ⟨by (with_reducible repeat (first | apply Kd.R_alloc | apply Kd.R_drewN | apply Kd.R_drew)); exact Kd.R_mono HO491.out (fun _ hk => ⟨hk.1.2, hk.2⟩)⟩, ⟨by (with_reducible repeat (first | apply Kd.R_alloc | apply Kd.R_drewN | apply Kd.R_drew)); exact Kd.R_mono HO497.out (fun _ hk => ⟨hk.1.2, hk.2⟩)⟩, ⟨by (with_reducible repeat (first | apply Kd.R_alloc | apply Kd.R_drewN | apply Kd.R_drew)); exact Kd.R_mono HO502.out (fun _ hk => ⟨hk.1.2, hk.2⟩)⟩, ⟨by (with_reducible repeat (first | refine blk_drewN ?_ _ | refine blk_drew ?_ | refine blk_alloc ?_ _)); exact BK482.out⟩, ⟨by (with_reducible repeat (first | refine blk_drewN ?_ _ | refine blk_drew ?_ | refine blk_alloc ?_ _)); exact BK493.out⟩, ⟨by (with_reducible repeat (first | refine blk_drewN ?_ _ | refine blk_drew ?_ | refine blk_alloc ?_ _)); exact BK498.out⟩, ⟨by (with_reducible repeat (first | refine blk_drewN ?_ _ | refine blk_drew ?_ | refine blk_alloc ?_ _)); exact BK504.out⟩, ⟨by repeat (first | (with_reducible first | exact HB.out | apply below_alloc | apply pw_below_drewN | apply below_drew1 | refine below_set ?_ GE482.out | refine below_set ?_ GE493.out | refine below_set ?_ GE498.out | refine below_set ?_ GE504.out) | exact HB.out)⟩⟩
  case rest =>
   clear HC12
   try clear c1
   try clear c2
   try clear p2
   try clear c3
   try clear c4
   try clear c4b0
   try clear c5
   try clear c11
   try clear c15
   try clear c17
   try clear c19
   try clear c21
   try clear c27
   try clear c28
   try clear c33
   try clear c34
   try clear c35
   try clear c36
   try clear c39
   try clear c40
   try clear c41
   try clear c42
   try clear c44
   try clear c45
   try clear c48
   try clear c49
   try clear c50
   try clear c52
   try clear c53
   try clear hcz14_0
   try clear hcz14_1
   try clear hcz16_0
   try clear hcz16_1
   try clear hcz22_0
   try clear hcz22_1
   try clear hcz24_0
   try clear hcz24_1
   try clear hcz29_0
   try clear hcz29_1
   try clear hcz36_0
   try clear hcz36_1
   try clear hcz43_0
   try clear hcz43_1
   try clear hcz46_0
   try clear hcz46_1
   try clear hcz51_0
   try clear hcz51_1
   try clear hcz54_0
   try clear hcz54_1
   try clear hcz6_0
   try clear hcz6_1
   try clear hfz14_0
   try clear hfz14_1
   try clear hfz16_0
   try clear hfz16_1
   try clear hfz22_0
   try clear hfz22_1
   try clear hfz24_0
   try clear hfz24_1
   try clear hfz29_0
   try clear hfz29_1
   try clear hfz36_0
   try clear hfz36_1
   try clear hfz43_0
   try clear hfz43_1
   try clear hfz46_0
   try clear hfz46_1
   try clear hfz51_0
   try clear hfz51_1
   try clear hfz54_0
   try clear hfz54_1
   try clear hfz6_0
   try clear hfz6_1
   obtain ⟨kq, x44_11, rfl, HA, HJ11, HO_494001, HO_499001, HO_505001, BK482, BK493, BK498, BK504, HB⟩ := hcut
   cases kq with
   | zero => exact absurd HA.out (by simp [laws_FnExactDropObjects.j0])
   | succ kj11 =>
    have H := HA.out
    clear HA
    simp only [laws_FnExactDropObjects.j0] at H
    by_cases c56 : x44_11 = true
    ·
     subst c56
     have H1 : (some false) = some r := q36_52
     clear H
     have H := H1
     clear H1
     obtain rfl := Option.some.inj H
     go_wp2
     go_ret
     exact ⟨by first | rfl | (simp [errW_none, errW_some] <;> rfl) | (simp [*, errW_none, errW_some] <;> rfl), by repeat (first | (with_reducible first | exact HB.out | apply below_alloc | apply pw_below_drewN | apply below_drew1 | refine below_set ?_ GE482.out | refine below_set ?_ GE493.out | refine below_set ?_ GE498.out | refine below_set ?_ GE504.out) | exact HB.out)⟩
    ·
     replace c56 := Bool.eq_false_iff.mpr c56
     subst c56
     have H1 : ((laws_toContext.f kj11 a0_0 l0_1).bind fun bt506 => ((laws_eqContext.f kj11 t494 t495 bt506.1 bt506.2).bind fun t510 => (if t510 = true then ((laws_markContext.f kj11 t494 t495 1).bind fun bt511 => (if bt511.1 < 0 then (laws_FnExactDropObjects.j1 kj11 a1 t492 true a0_0 l0_1 t488 t489 t499 t500) else ((laws_eqContext.f kj11 t499 t500 t488 t489).bind fun t513 => (if t513 = true then (laws_FnExactDropObjects.j1 kj11 a1 t492 (t503 != t492) a0_0 l0_1 t488 t489 t499 t500) else (laws_FnExactDropObjects.j1 kj11 a1 t492 true a0_0 l0_1 t488 t489 t499 t500))))) else (some false)))) = some r := q36_51
     clear H
     have H := H1
     clear H1
     replace H := Option.bind_eq_some_iff.mp H
     obtain ⟨⟨t506, t507⟩, A570, H⟩ := H
     replace H : ((laws_eqContext.f kj11 t494 t495 t506 t507).bind fun t510 => (if t510 = true then ((laws_markContext.f kj11 t494 t495 1).bind fun bt511 => (if bt511.1 < 0 then (laws_FnExactDropObjects.j1 kj11 a1 t492 true a0_0 l0_1 t488 t489 t499 t500) else ((laws_eqContext.f kj11 t499 t500 t488 t489).bind fun t513 => (if t513 = true then (laws_FnExactDropObjects.j1 kj11 a1 t492 (t503 != t492) a0_0 l0_1 t488 t489 t499 t500) else (laws_FnExactDropObjects.j1 kj11 a1 t492 true a0_0 l0_1 t488 t489 t499 t500))))) else (some false))) = some r := H
     have A57 := Aside0.mk A570
     clear A570
     replace H := Option.bind_eq_some_iff.mp H
     obtain ⟨t510, A580, H⟩ := H
     replace H : (if t510 = true then ((laws_markContext.f kj11 t494 t495 1).bind fun bt511 => (if bt511.1 < 0 then (laws_FnExactDropObjects.j1 kj11 a1 t492 true a0_0 l0_1 t488 t489 t499 t500) else ((laws_eqContext.f kj11 t499 t500 t488 t489).bind fun t513 => (if t513 = true then (laws_FnExactDropObjects.j1 kj11 a1 t492 (t503 != t492) a0_0 l0_1 t488 t489 t499 t500) else (laws_FnExactDropObjects.j1 kj11 a1 t492 true a0_0 l0_1 t488 t489 t499 t500))))) else (some false)) = some r := H
     have A58 := Aside0.mk A580
     clear A580
     by_cases c59 : t510 = true
     ·
      subst c59
      have H1 : ((laws_markContext.f kj11 t494 t495 1).bind fun bt511 => (if bt511.1 < 0 then (laws_FnExactDropObjects.j1 kj11 a1 t492 true a0_0 l0_1 t488 t489 t499 t500) else ((laws_eqContext.f kj11 t499 t500 t488 t489).bind fun t513 => (if t513 = true then (laws_FnExactDropObjects.j1 kj11 a1 t492 (t503 != t492) a0_0 l0_1 t488 t489 t499 t500) else (laws_FnExactDropObjects.j1 kj11 a1 t492 true a0_0 l0_1 t488 t489 t499 t500))))) = some r := q36_52
      clear H
      have H := H1
      clear H1
      replace H := Option.bind_eq_some_iff.mp H
      obtain ⟨⟨t511, t512⟩, A600, H⟩ := H
      replace H : (if t511 < 0 then (laws_FnExactDropObjects.j1 kj11 a1 t492 true a0_0 l0_1 t488 t489 t499 t500) else ((laws_eqContext.f kj11 t499 t500 t488 t489).bind fun t513 => (if t513 = true then (laws_FnExactDropObjects.j1 kj11 a1 t492 (t503 != t492) a0_0 l0_1 t488 t489 t499 t500) else (laws_FnExactDropObjects.j1 kj11 a1 t492 true a0_0 l0_1 t488 t489 t499 t500)))) = some r := H
      have A60 := Aside0.mk A600
      clear A600
      have HC61 := Aside0.mk H
      clear H
      try go_wp2
      have n0_ := Aside0.mk (Kd.R_drew HO_494001.out)
      have n1_ := Aside0.mk (Kd.R_drew HO_499001.out)
      have n2_ := Aside0.mk (Kd.R_drew HO_505001.out)
      have n3_ := Aside0.mk (blk_drew BK482.out)
      have n4_ := Aside0.mk (blk_drew BK493.out)
      have n5_ := Aside0.mk (blk_drew BK498.out)
      have n6_ := Aside0.mk (blk_drew BK504.out)
      have n7_ := Aside0.mk (below_drew1 HB.out)
      clear HO_494001
      clear HO_499001
      clear HO_505001
      clear BK482
      clear BK493
      clear BK498
      clear BK504
      clear HB
      have HO_494001 := n0_
      have HO_499001 := n1_
      have HO_505001 := n2_
      have BK482 := n3_
      have BK493 := n4_
      have BK498 := n5_
      have BK504 := n6_
      have HB := n7_
      clear n0_ n1_ n2_ n3_ n4_ n5_ n6_ n7_
      refine start_ (n := 5) (S := fun w' => w'.cell? ⟨gb498, 0, none⟩ = some (.int .i64 t494) ∧ w'.cell? ⟨gb498, 1, none⟩ = some (.slice Ao30 t495.length co30) ∧ w'.cell? ⟨gb482, 0, none⟩ = some (.int .i64 a0_0) ∧ w'.cell? ⟨gb482, 1, none⟩ = some (.slice A0_1 l0_1.length c0_1)) (ds := []) #[false, false, false, false, false] q36_53 rfl rfl ⟨(blk_cell BK498.out 0).trans rfl, (blk_cell BK498.out 1).trans rfl, (blk_cell BK482.out 0).trans rfl, (blk_cell BK482.out 1).trans rfl⟩ (fun hHeld => ?_)
      generalize wc.drew = w62 at HO_494001 HO_499001 HO_505001 BK482 BK493 BK498 BK504 HB hHeld ⊢
      refine take_ (i := 0) (N := some 45) (v := ?_) (a' := ?_) #[true, false, false, false, false] rfl rfl q36_53 (fun _ _ _ h => h) (Or.inl ⟨by rfl, ?_⟩) hHeld ?_ ?_
      rotate_left
      ·
       rintro w' ⟨s0, s1, s2, s3⟩
       go_simp
       with_reducible rfl
      rotate_left
      ·
       exact put36_
      refine take_ (i := 1) (N := some 46) (v := ?_) (a' := ?_) #[true, true, false, false, false] rfl rfl q36_53 (fun _ _ _ h => h) (Or.inl ⟨by rfl, ?_⟩) hHeld ?_ ?_
      rotate_left
      ·
       rintro w' ⟨s0, s1, s2, s3⟩
       go_simp
       with_reducible rfl
      rotate_left
      ·
       exact put36_
      refine one_ (i := 2) (N := some 47) #[true, true, true, false, false] rfl rfl q36_53 (by decide) (fun K hK => ?_)
      refine goes_ Try.func17 q36_53 rfl #[.agg #[.int .i64 a0_0, .slice A0_1 l0_1.length c0_1]] (by rfl) rfl rfl q36_35 ?_
      with_reducible refine (laws_toContext.calls kj11 a0_0 _ _ l0_1 t506 t507 _ ?side1 ?side2 A57.out).mono ?_
      (case side1 => exact q36_32)
      (case side2 => exact HC0_1.out)
      rintro e w63 ⟨v508, rfl, ho0, hb⟩
      refine ⟨_, rfl, ?_⟩
      have n0_ := Aside0.mk (Kd.R_elder' q36_42 (Kd.R_base ho0) hb)
      have n1_ := Aside0.mk (Kd.R_elder' q36_43 (Kd.R_base ho0) hb)
      have n2_ := Aside0.mk (Kd.R_elder' q36_44 (Kd.R_base ho0) hb)
      have n3_ := Aside0.mk (Kd.R_lower (Kd.R_new' (Kd.R_new' (Kd.R_new' ho0 (Kd.R_lt q36_42)) (Kd.R_lt q36_43)) (Kd.R_lt q36_44)) (below_size q36_25))
      have n4_ := Aside0.mk (blk_below (g := gb482) (o := .cells #[.int .i64 a0_0, .slice A0_1 l0_1.length c0_1] 24 (0, 0)) q36_37 hb)
      have n5_ := Aside0.mk (blk_below (g := gb493) (o := .cells #[.int .i64 t488, .slice Ao23 t489.length co23] 27 (0, 0)) q36_38 hb)
      have n6_ := Aside0.mk (blk_below (g := gb498) (o := .cells #[.int .i64 t494, .slice Ao30 t495.length co30] 27 (0, 0)) q36_39 hb)
      have n7_ := Aside0.mk (blk_below (g := gb504) (o := .cells #[.int .i64 t499, .slice Ao37 t500.length co37] 27 (0, 0)) q36_40 hb)
      have n8_ := Aside0.mk (below_step q36_25 hb)
      clear HO_494001
      clear HO_499001
      clear HO_505001
      clear BK482
      clear BK493
      clear BK498
      clear BK504
      clear HB
      have HO_494001 := n0_
      have HO_499001 := n1_
      have HO_505001 := n2_
      have HO509 := n3_
      have BK482 := n4_
      have BK493 := n5_
      have BK498 := n6_
      have BK504 := n7_
      have HB := n8_
      clear n0_ n1_ n2_ n3_ n4_ n5_ n6_ n7_ n8_
      (try clear hb)
      (try clear hb2)
      (try clear hk)
      (try clear hi)
      (try clear ho0)
      obtain ⟨Ao64, co64, eo64⟩ := Kd.R_slice HO509.out
      (first | subst eo64 | (injection eo64 with f1_ f2_ f3_; have f4_ := f1_.symm; have f5_ := f3_.symm; clear f1_ f2_ f3_; subst f4_; subst f5_))
      refine hK.out _ _ ⟨(blk_cell BK498.out 0).trans rfl, (blk_cell BK498.out 1).trans rfl, (blk_cell BK482.out 0).trans rfl, (blk_cell BK482.out 1).trans rfl⟩ (fun hHeld => ?_)
      clear hK K
      refine norm_ (a' := ?_) ?_ ?_
      rotate_left
      ·
       show Act.put _ (some 47) _ = _
       exact put36_
      refine one_ (i := 3) (N := some 48) #[true, true, true, true, false] rfl rfl q36_53 (by decide) (fun K hK => ?_)
      refine goes_ Try.func19 q36_53 rfl #[.agg #[.int .i64 t494, .slice Ao30 t495.length co30], .agg #[.int .i64 t506, .slice Ao64 t507.length co64]] (by rfl) rfl rfl q36_35 ?_
      with_reducible refine (laws_eqContext.calls kj11 t494 _ _ t495 t506 _ _ t507 true _ ?side1 ?side2 ?side3 ?side4 A58.out).mono ?_
      (case side1 => exact q36_30)
      (case side2 => exact (Kd.R_reads' HO_499001.out).2.1)
      (case side3 => exact q36_33)
      (case side4 => exact (Kd.R_reads' HO509.out).2.1)
      rintro e w65 ⟨rfl, hb⟩
      refine ⟨_, rfl, ?_⟩
      have n0_ := Aside0.mk (Kd.R_below q36_42 hb)
      have n1_ := Aside0.mk (Kd.R_below q36_43 hb)
      have n2_ := Aside0.mk (Kd.R_below q36_44 hb)
      have n3_ := Aside0.mk (Kd.R_below q36_48 hb)
      have n4_ := Aside0.mk (blk_below (g := gb482) (o := .cells #[.int .i64 a0_0, .slice A0_1 l0_1.length c0_1] 24 (0, 0)) q36_37 hb)
      have n5_ := Aside0.mk (blk_below (g := gb493) (o := .cells #[.int .i64 t488, .slice Ao23 t489.length co23] 27 (0, 0)) q36_38 hb)
      have n6_ := Aside0.mk (blk_below (g := gb498) (o := .cells #[.int .i64 t494, .slice Ao30 t495.length co30] 27 (0, 0)) q36_39 hb)
      have n7_ := Aside0.mk (blk_below (g := gb504) (o := .cells #[.int .i64 t499, .slice Ao37 t500.length co37] 27 (0, 0)) q36_40 hb)
      have n8_ := Aside0.mk (below_step q36_25 hb)
      clear HO_494001
      clear HO_499001
      clear HO_505001
      clear HO509
      clear BK482
      clear BK493
      clear BK498
      clear BK504
      clear HB
      have HO_494001 := n0_
      have HO_499001 := n1_
      have HO_505001 := n2_
      have HO509 := n3_
      have BK482 := n4_
      have BK493 := n5_
      have BK498 := n6_
      have BK504 := n7_
      have HB := n8_
      clear n0_ n1_ n2_ n3_ n4_ n5_ n6_ n7_ n8_
      (try clear hb)
      (try clear hb2)
      (try clear hk)
      (try clear hi)
      refine hK.out _ _ ⟨(blk_cell BK498.out 0).trans rfl, (blk_cell BK498.out 1).trans rfl, (blk_cell BK482.out 0).trans rfl, (blk_cell BK482.out 1).trans rfl⟩ (fun hHeld => ?_)
      clear hK K
      refine norm_ (a' := ?_) ?_ ?_
      rotate_left
      ·
       show Act.put _ (some 48) _ = _
       exact put36_
      refine pure_ (i := 4) (N := some 49) (v := ?_) (a' := ?_) #[true, true, true, true, true] rfl rfl q36_53 (fun _ _ _ h => h) (Or.inl ⟨by rfl, ?_⟩) ?_ ?_
      rotate_left
      ·
       intro w'
       go_simp
       with_reducible rfl
      rotate_left
      ·
       exact put36_
      refine done_ q36_53 ?_
      have hnb66 := NB498_482.out
      have hnc66 := NB482_498.out
      have hnb67 := NB498_493.out
      have hnc67 := NB493_498.out
      have hnb68 := NB498_504.out
      have hnc68 := NB504_498.out
      have hcz69_0 : w65.cell? ⟨gb498, 0, none⟩ = some (.int .i64 t494) := (blk_cell BK498.out 0).trans rfl
      have hcz69_1 : w65.cell? ⟨gb498, 1, none⟩ = some (.slice Ao30 t495.length co30) := (blk_cell BK498.out 1).trans rfl
      have hfz69_0 := blk_frozen BK498.out 0
      have hfz69_1 := blk_frozen BK498.out 1
      go_upto_region 14 with (first | ((with_reducible refine gate_callee (f := 37) rfl ?_); refine goesL_ (some 52) rfl rfl Try.func37 q36_53 rfl #[.agg #[.int .i64 t494, .slice Ao30 t495.length co30], .int .i64 1] rfl q36_35 ?_; (with_reducible refine (laws_markContext.calls kj11 t494 (fun k_ => some k_ = (.slice Ao30 t495.length co30 : Value).ownBlock) (.slice Ao30 t495.length co30) t495 1 t511 t512 w _ ?side1 ?side2 A60.out).mono ?_); (case side1 => exact q36_25); (case side2 => exact Kd.R_tight rfl HO_499001.out); rintro e w70 ⟨rfl, hy0, hb, hkp⟩; refine ⟨_, rfl, ?_⟩; have n0_ := Aside0.mk (Kd.R_mono (ok' := fun k_ => some k_ ≠ (.slice Ao30 t495.length co30 : Value).ownBlock ∧ some k_ ≠ (.slice Ao37 t500.length co37 : Value).ownBlock ∧ some k_ ≠ (.slice Ao64 t507.length co64 : Value).ownBlock) (Kd.R_keptB (HO_494001.out) hkp (fun k_ hk_ hs_ => (hk_.1.1) hs_)) (fun k_ hk_ => ⟨hk_.1.1.1, hk_.1.1.2, hk_.1.2⟩)); have n1_ := Aside0.mk (Kd.R_reok rfl hy0 (fun k_ e_ => HO_499001.out.1 k_ e_)); have n2_ := Aside0.mk (Kd.R_mono (ok' := fun k_ => some k_ ≠ (.slice Ao23 t489.length co23 : Value).ownBlock ∧ some k_ ≠ (.slice Ao30 t495.length co30 : Value).ownBlock ∧ some k_ ≠ (.slice Ao64 t507.length co64 : Value).ownBlock) (Kd.R_keptB (HO_505001.out) hkp (fun k_ hk_ hs_ => (hk_.1.2) hs_)) (fun k_ hk_ => ⟨hk_.1.1.1, hk_.1.1.2, hk_.1.2⟩)); have n3_ := Aside0.mk (blk_kept q36_37 hkp (fun hs_ => (fun e_ => (Kd.R_ne HO_499001.out BK482.out (by decide)) e_) hs_)); have n4_ := Aside0.mk (blk_kept q36_38 hkp (fun hs_ => (fun e_ => (Kd.R_ne HO_499001.out BK493.out (by decide)) e_) hs_)); have n5_ := Aside0.mk (blk_kept q36_39 hkp (fun hs_ => (fun e_ => (Kd.R_ne HO_499001.out BK498.out (by decide)) e_) hs_)); have n6_ := Aside0.mk (blk_kept q36_40 hkp (fun hs_ => (fun e_ => (Kd.R_ne HO_499001.out BK504.out (by decide)) e_) hs_)); have n7_ := Aside0.mk (Kd.R_mono (ok' := fun k_ => some k_ ≠ (.slice Ao23 t489.length co23 : Value).ownBlock ∧ some k_ ≠ (.slice Ao30 t495.length co30 : Value).ownBlock ∧ some k_ ≠ (.slice Ao37 t500.length co37 : Value).ownBlock) (Kd.R_keptB (HO509.out) hkp (fun k_ hk_ hs_ => (hk_.1.2) hs_)) (fun k_ hk_ => ⟨hk_.1.1.1.2, hk_.1.1.2, hk_.1.2⟩)); have n8_ := Aside0.mk (hb); clear HO_494001; clear HO_499001; clear HO_505001; clear BK482; clear BK493; clear BK498; clear BK504; clear HO509; clear HB; have HO_494001 := n0_; have HO_499001 := n1_; have HO_505001 := n2_; have BK482 := n3_; have BK493 := n4_; have BK498 := n5_; have BK504 := n6_; have HO509 := n7_; have HB := n8_; clear n0_ n1_ n2_ n3_ n4_ n5_ n6_ n7_ n8_; (try clear hb); (try clear hkp); (try clear hy0)))
      (try simp only [Act.put, List.setIfInBounds_toArray, List.set_cons_zero, List.set_cons_succ])
      go_cut [65] (fun v65 wc => ∃ (kq : Nat) (x65_60 : Bool), v65 = .bool x65_60 ∧ Aside0 (laws_FnExactDropObjects.j1 kq a1 t492 x65_60 a0_0 l0_1 t488 t489 t499 t500 = some r) ∧ Aside0 (kq ≤ kj11) ∧ Aside0 (Kd.R (Kd.int .i64) 3 wc w.heap.size (fun k_ => some k_ ≠ ((.slice Ao30 t495.length co30) : Value).ownBlock ∧ some k_ ≠ ((.slice Ao37 t500.length co37) : Value).ownBlock) (.slice Ao23 t489.length co23) t489) ∧ Aside0 (Kd.R (Kd.int .i64) 3 wc w.heap.size (fun k_ => some k_ ≠ ((.slice Ao23 t489.length co23) : Value).ownBlock ∧ some k_ ≠ ((.slice Ao37 t500.length co37) : Value).ownBlock) (.slice Ao30 t495.length co30) t512) ∧ Aside0 (Kd.R (Kd.int .i64) 3 wc w.heap.size (fun k_ => some k_ ≠ ((.slice Ao23 t489.length co23) : Value).ownBlock ∧ some k_ ≠ ((.slice Ao30 t495.length co30) : Value).ownBlock) (.slice Ao37 t500.length co37) t500) ∧ Aside0 (wc.heap[gb482]? = some (.cells #[.int .i64 a0_0, (.slice A0_1 l0_1.length c0_1)] 24 (0, 0))) ∧ Aside0 (wc.heap[gb493]? = some (.cells #[.int .i64 t488, (.slice Ao23 t489.length co23)] 27 (0, 0))) ∧ Aside0 (wc.heap[gb498]? = some (.cells #[.int .i64 t494, (.slice Ao30 t495.length co30)] 27 (0, 0))) ∧ Aside0 (wc.heap[gb504]? = some (.cells #[.int .i64 t499, (.slice Ao37 t500.length co37)] 27 (0, 0))) ∧ Aside0 (Below w.heap.size w wc))
      case first =>
       have H := HC61.out
       clear HC61
       by_cases c71 : t511 < 0
       ·
        rw [if_pos c71] at H
        have c71b0 : decide (t511 < 0) = true := decide_eq_true c71
        clear c71
        (first | rw [c71b0] | (simp only [i64_w, i32_w]; rw [c71b0]) | skip)
        have H' := Aside0.mk H
        clear H
        go_wp2
        go_meet
        case rel => exact ⟨_, (true), q36_50, H', ⟨by have := HJ11.out; first | omega | exact Nat.le_refl _⟩, ⟨by (with_reducible repeat (first | apply Kd.R_alloc | apply Kd.R_drewN | apply Kd.R_drew)); exact Kd.R_mono HO_494001.out (fun _ hk => ⟨hk.1, hk.2.1⟩)⟩, ⟨by (with_reducible repeat (first | apply Kd.R_alloc | apply Kd.R_drewN | apply Kd.R_drew)); exact Kd.R_mono HO_499001.out (fun _ hk => ⟨hk.1.1, hk.1.2⟩)⟩, ⟨by (with_reducible repeat (first | apply Kd.R_alloc | apply Kd.R_drewN | apply Kd.R_drew)); exact Kd.R_mono HO_505001.out (fun _ hk => ⟨hk.1, hk.2.1⟩)⟩, ⟨by (with_reducible repeat (first | refine blk_drewN ?_ _ | refine blk_drew ?_ | refine blk_alloc ?_ _)); exact BK482.out⟩, ⟨by (with_reducible repeat (first | refine blk_drewN ?_ _ | refine blk_drew ?_ | refine blk_alloc ?_ _)); exact BK493.out⟩, ⟨by (with_reducible repeat (first | refine blk_drewN ?_ _ | refine blk_drew ?_ | refine blk_alloc ?_ _)); exact BK498.out⟩, ⟨by (with_reducible repeat (first | refine blk_drewN ?_ _ | refine blk_drew ?_ | refine blk_alloc ?_ _)); exact BK504.out⟩, ⟨by repeat (first | (with_reducible first | exact HB.out | apply below_alloc | apply pw_below_drewN | apply below_drew1 | refine below_set ?_ GE482.out | refine below_set ?_ GE493.out | refine below_set ?_ GE498.out | refine below_set ?_ GE504.out) | exact HB.out)⟩⟩
       ·
        rw [if_neg c71] at H
        have c71b0 : decide (t511 < 0) = false := decide_eq_false c71
        clear c71
        (first | rw [c71b0] | (simp only [i64_w, i32_w]; rw [c71b0]) | skip)
        replace H := Option.bind_eq_some_iff.mp H
        obtain ⟨t513, A720, H⟩ := H
        replace H : (if t513 = true then (laws_FnExactDropObjects.j1 kj11 a1 t492 (t503 != t492) a0_0 l0_1 t488 t489 t499 t500) else (laws_FnExactDropObjects.j1 kj11 a1 t492 true a0_0 l0_1 t488 t489 t499 t500)) = some r := H
        have A72 := Aside0.mk A720
        clear A720
        by_cases c73 : t513 = true
        ·
         subst c73
         have H1 : (laws_FnExactDropObjects.j1 kj11 a1 t492 (t503 != t492) a0_0 l0_1 t488 t489 t499 t500) = some r := q36_52
         clear H
         have H := H1
         clear H1
         have H' := Aside0.mk H
         clear H
         have hnb74 := NB504_482.out
         have hnc74 := NB482_504.out
         have hnb75 := NB504_493.out
         have hnc75 := NB493_504.out
         have hnb76 := NB504_498.out
         have hnc76 := NB498_504.out
         have hcz77_0 : w70.cell? ⟨gb504, 0, none⟩ = some (.int .i64 t499) := (blk_cell BK504.out 0).trans rfl
         have hcz77_1 : w70.cell? ⟨gb504, 1, none⟩ = some (.slice Ao37 t500.length co37) := (blk_cell BK504.out 1).trans rfl
         have hfz77_0 := blk_frozen BK504.out 0
         have hfz77_1 := blk_frozen BK504.out 1
         have hnb78 := NB493_482.out
         have hnc78 := NB482_493.out
         have hnb79 := NB493_498.out
         have hnc79 := NB498_493.out
         have hcz80_0 : w70.cell? ⟨gb493, 0, none⟩ = some (.int .i64 t488) := (blk_cell BK493.out 0).trans rfl
         have hcz80_1 : w70.cell? ⟨gb493, 1, none⟩ = some (.slice Ao23 t489.length co23) := (blk_cell BK493.out 1).trans rfl
         have hfz80_0 := blk_frozen BK493.out 0
         have hfz80_1 := blk_frozen BK493.out 1
         go_wp2_with (first | (go_at_call 19; (with_reducible refine (laws_eqContext.calls kj11 t499 _ _ t500 t488 _ _ t489 true _ ?side1 ?side2 ?side3 ?side4 A72.out).mono ?_); (case side1 => exact q36_31); (case side2 => exact (Kd.R_reads' HO_505001.out).2.1); (case side3 => exact q36_29); (case side4 => exact (Kd.R_reads' HO_494001.out).2.1); rintro e w81 ⟨rfl, hb⟩; have n0_ := Aside0.mk (Kd.R_below q36_42 hb); have n1_ := Aside0.mk (Kd.R_below q36_43 hb); have n2_ := Aside0.mk (Kd.R_below q36_44 hb); have n3_ := Aside0.mk (Kd.R_below q36_48 hb); have n4_ := Aside0.mk (blk_below (g := gb482) (o := .cells #[.int .i64 a0_0, .slice A0_1 l0_1.length c0_1] 24 (0, 0)) q36_37 hb); have n5_ := Aside0.mk (blk_below (g := gb493) (o := .cells #[.int .i64 t488, .slice Ao23 t489.length co23] 27 (0, 0)) q36_38 hb); have n6_ := Aside0.mk (blk_below (g := gb498) (o := .cells #[.int .i64 t494, .slice Ao30 t495.length co30] 27 (0, 0)) q36_39 hb); have n7_ := Aside0.mk (blk_below (g := gb504) (o := .cells #[.int .i64 t499, .slice Ao37 t500.length co37] 27 (0, 0)) q36_40 hb); have n8_ := Aside0.mk (below_step q36_25 hb); clear HO_494001; clear HO_499001; clear HO_505001; clear HO509; clear BK482; clear BK493; clear BK498; clear BK504; clear HB; have HO_494001 := n0_; have HO_499001 := n1_; have HO_505001 := n2_; have HO509 := n3_; have BK482 := n4_; have BK493 := n5_; have BK498 := n6_; have BK504 := n7_; have HB := n8_; clear n0_ n1_ n2_ n3_ n4_ n5_ n6_ n7_ n8_; (try clear hb); (try clear hb2); (try clear hk); (try clear hi)))
         go_meet
         case rel => exact ⟨_, ((t503 != t492)), q36_50, H', ⟨by have := HJ11.out; first | omega | exact Nat.le_refl _⟩, ⟨by (with_reducible repeat (first | apply Kd.R_alloc | apply Kd.R_drewN | apply Kd.R_drew)); exact Kd.R_mono HO_494001.out (fun _ hk => ⟨hk.1, hk.2.1⟩)⟩, ⟨by (with_reducible repeat (first | apply Kd.R_alloc | apply Kd.R_drewN | apply Kd.R_drew)); exact Kd.R_mono HO_499001.out (fun _ hk => ⟨hk.1.1, hk.1.2⟩)⟩, ⟨by (with_reducible repeat (first | apply Kd.R_alloc | apply Kd.R_drewN | apply Kd.R_drew)); exact Kd.R_mono HO_505001.out (fun _ hk => ⟨hk.1, hk.2.1⟩)⟩, ⟨by (with_reducible repeat (first | refine blk_drewN ?_ _ | refine blk_drew ?_ | refine blk_alloc ?_ _)); exact BK482.out⟩, ⟨by (with_reducible repeat (first | refine blk_drewN ?_ _ | refine blk_drew ?_ | refine blk_alloc ?_ _)); exact BK493.out⟩, ⟨by (with_reducible repeat (first | refine blk_drewN ?_ _ | refine blk_drew ?_ | refine blk_alloc ?_ _)); exact BK498.out⟩, ⟨by (with_reducible repeat (first | refine blk_drewN ?_ _ | refine blk_drew ?_ | refine blk_alloc ?_ _)); exact BK504.out⟩, ⟨by repeat (first | (with_reducible first | exact HB.out | apply below_alloc | apply pw_below_drewN | apply below_drew1 | refine below_set ?_ GE482.out | refine below_set ?_ GE493.out | refine below_set ?_ GE498.out | refine below_set ?_ GE504.out) | exact HB.out)⟩⟩
        ·
         replace c73 := Bool.eq_false_iff.mpr c73
         subst c73
         have H1 : (laws_FnExactDropObjects.j1 kj11 a1 t492 true a0_0 l0_1 t488 t489 t499 t500) = some r := q36_51
         clear H
         have H := H1
         clear H1
         have H' := Aside0.mk H
         clear H
         have hnb82 := NB504_482.out
         have hnc82 := NB482_504.out
         have hnb83 := NB504_493.out
         have hnc83 := NB493_504.out
         have hnb84 := NB504_498.out
         have hnc84 := NB498_504.out
         have hcz85_0 : w70.cell? ⟨gb504, 0, none⟩ = some (.int .i64 t499) := (blk_cell BK504.out 0).trans rfl
         have hcz85_1 : w70.cell? ⟨gb504, 1, none⟩ = some (.slice Ao37 t500.length co37) := (blk_cell BK504.out 1).trans rfl
         have hfz85_0 := blk_frozen BK504.out 0
         have hfz85_1 := blk_frozen BK504.out 1
         have hnb86 := NB493_482.out
         have hnc86 := NB482_493.out
         have hnb87 := NB493_498.out
         have hnc87 := NB498_493.out
         have hcz88_0 : w70.cell? ⟨gb493, 0, none⟩ = some (.int .i64 t488) := (blk_cell BK493.out 0).trans rfl
         have hcz88_1 : w70.cell? ⟨gb493, 1, none⟩ = some (.slice Ao23 t489.length co23) := (blk_cell BK493.out 1).trans rfl
         have hfz88_0 := blk_frozen BK493.out 0
         have hfz88_1 := blk_frozen BK493.out 1
         go_wp2_with (first | (go_at_call 19; (with_reducible refine (laws_eqContext.calls kj11 t499 _ _ t500 t488 _ _ t489 false _ ?side1 ?side2 ?side3 ?side4 A72.out).mono ?_); (case side1 => exact q36_31); (case side2 => exact (Kd.R_reads' HO_505001.out).2.1); (case side3 => exact q36_29); (case side4 => exact (Kd.R_reads' HO_494001.out).2.1); rintro e w89 ⟨rfl, hb⟩; have n0_ := Aside0.mk (Kd.R_below q36_42 hb); have n1_ := Aside0.mk (Kd.R_below q36_43 hb); have n2_ := Aside0.mk (Kd.R_below q36_44 hb); have n3_ := Aside0.mk (Kd.R_below q36_48 hb); have n4_ := Aside0.mk (blk_below (g := gb482) (o := .cells #[.int .i64 a0_0, .slice A0_1 l0_1.length c0_1] 24 (0, 0)) q36_37 hb); have n5_ := Aside0.mk (blk_below (g := gb493) (o := .cells #[.int .i64 t488, .slice Ao23 t489.length co23] 27 (0, 0)) q36_38 hb); have n6_ := Aside0.mk (blk_below (g := gb498) (o := .cells #[.int .i64 t494, .slice Ao30 t495.length co30] 27 (0, 0)) q36_39 hb); have n7_ := Aside0.mk (blk_below (g := gb504) (o := .cells #[.int .i64 t499, .slice Ao37 t500.length co37] 27 (0, 0)) q36_40 hb); have n8_ := Aside0.mk (below_step q36_25 hb); clear HO_494001; clear HO_499001; clear HO_505001; clear HO509; clear BK482; clear BK493; clear BK498; clear BK504; clear HB; have HO_494001 := n0_; have HO_499001 := n1_; have HO_505001 := n2_; have HO509 := n3_; have BK482 := n4_; have BK493 := n5_; have BK498 := n6_; have BK504 := n7_; have HB := n8_; clear n0_ n1_ n2_ n3_ n4_ n5_ n6_ n7_ n8_; (try clear hb); (try clear hb2); (try clear hk); (try clear hi)))
         go_meet
         case rel => exact ⟨_, (true), q36_50, H', ⟨by have := HJ11.out; first | omega | exact Nat.le_refl _⟩, ⟨by (with_reducible repeat (first | apply Kd.R_alloc | apply Kd.R_drewN | apply Kd.R_drew)); exact Kd.R_mono HO_494001.out (fun _ hk => ⟨hk.1, hk.2.1⟩)⟩, ⟨by (with_reducible repeat (first | apply Kd.R_alloc | apply Kd.R_drewN | apply Kd.R_drew)); exact Kd.R_mono HO_499001.out (fun _ hk => ⟨hk.1.1, hk.1.2⟩)⟩, ⟨by (with_reducible repeat (first | apply Kd.R_alloc | apply Kd.R_drewN | apply Kd.R_drew)); exact Kd.R_mono HO_505001.out (fun _ hk => ⟨hk.1, hk.2.1⟩)⟩, ⟨by (with_reducible repeat (first | refine blk_drewN ?_ _ | refine blk_drew ?_ | refine blk_alloc ?_ _)); exact BK482.out⟩, ⟨by (with_reducible repeat (first | refine blk_drewN ?_ _ | refine blk_drew ?_ | refine blk_alloc ?_ _)); exact BK493.out⟩, ⟨by (with_reducible repeat (first | refine blk_drewN ?_ _ | refine blk_drew ?_ | refine blk_alloc ?_ _)); exact BK498.out⟩, ⟨by (with_reducible repeat (first | refine blk_drewN ?_ _ | refine blk_drew ?_ | refine blk_alloc ?_ _)); exact BK504.out⟩, ⟨by repeat (first | (with_reducible first | exact HB.out | apply below_alloc | apply pw_below_drewN | apply below_drew1 | refine below_set ?_ GE482.out | refine below_set ?_ GE493.out | refine below_set ?_ GE498.out | refine below_set ?_ GE504.out) | exact HB.out)⟩⟩
      case rest =>
       clear HC61
       try clear c1
       try clear c2
       try clear p2
       try clear c3
       try clear c4
       try clear c4b0
       try clear c5
       try clear c6
       try clear c7
       try clear c8
       try clear c11
       try clear c15
       try clear c17
       try clear c19
       try clear c21
       try clear c27
       try clear c28
       try clear c33
       try clear c34
       try clear c35
       try clear c36
       try clear c37
       try clear c39
       try clear c40
       try clear c41
       try clear c42
       try clear c44
       try clear c45
       try clear c48
       try clear c49
       try clear c50
       try clear c52
       try clear c53
       try clear c56
       try clear c59
       try clear c66
       try clear c67
       try clear c68
       try clear c71
       try clear c71b0
       try clear c73
       try clear c74
       try clear c75
       try clear c76
       try clear c78
       try clear c79
       try clear c82
       try clear c83
       try clear c84
       try clear c86
       try clear c87
       try clear hcz14_0
       try clear hcz14_1
       try clear hcz16_0
       try clear hcz16_1
       try clear hcz22_0
       try clear hcz22_1
       try clear hcz24_0
       try clear hcz24_1
       try clear hcz29_0
       try clear hcz29_1
       try clear hcz36_0
       try clear hcz36_1
       try clear hcz43_0
       try clear hcz43_1
       try clear hcz46_0
       try clear hcz46_1
       try clear hcz51_0
       try clear hcz51_1
       try clear hcz54_0
       try clear hcz54_1
       try clear hcz69_0
       try clear hcz69_1
       try clear hcz6_0
       try clear hcz6_1
       try clear hcz77_0
       try clear hcz77_1
       try clear hcz80_0
       try clear hcz80_1
       try clear hcz85_0
       try clear hcz85_1
       try clear hcz88_0
       try clear hcz88_1
       try clear hfz14_0
       try clear hfz14_1
       try clear hfz16_0
       try clear hfz16_1
       try clear hfz22_0
       try clear hfz22_1
       try clear hfz24_0
       try clear hfz24_1
       try clear hfz29_0
       try clear hfz29_1
       try clear hfz36_0
       try clear hfz36_1
       try clear hfz43_0
       try clear hfz43_1
       try clear hfz46_0
       try clear hfz46_1
       try clear hfz51_0
       try clear hfz51_1
       try clear hfz54_0
       try clear hfz54_1
       try clear hfz69_0
       try clear hfz69_1
       try clear hfz6_0
       try clear hfz6_1
       try clear hfz77_0
       try clear hfz77_1
       try clear hfz80_0
       try clear hfz80_1
       try clear hfz85_0
       try clear hfz85_1
       try clear hfz88_0
       try clear hfz88_1
       try clear p2
       obtain ⟨kq, x65_60, rfl, HA, HJ60, HO_494001, HO_499001, HO_505001, BK482, BK493, BK498, BK504, HB⟩ := hcut
       have hl499001_60 := (Kd.R_reads' HO_499001.out).1
       rw [hl499001_60] at HO_499001
       (try simp only [hl499001_60])
       (try simp only [hl499001_60] at BK482)
       (try simp only [hl499001_60] at BK493)
       (try simp only [hl499001_60] at BK498)
       (try simp only [hl499001_60] at BK504)
       (try simp only [hl499001_60] at HO_494001)
       (try simp only [hl499001_60] at HO_505001)
       cases kq with
       | zero => exact absurd HA.out (by simp [laws_FnExactDropObjects.j1])
       | succ kj60 =>
        have H := HA.out
        clear HA
        simp only [laws_FnExactDropObjects.j1] at H
        by_cases c90 : x65_60 = true
        ·
         subst c90
         have H1 : (some false) = some r := q36_52
         clear H
         have H := H1
         clear H1
         obtain rfl := Option.some.inj H
         go_wp2
         go_ret
         exact ⟨by first | rfl | (simp [errW_none, errW_some] <;> rfl) | (simp [*, errW_none, errW_some] <;> rfl), by repeat (first | (with_reducible first | exact HB.out | apply below_alloc | apply pw_below_drewN | apply below_drew1 | refine below_set ?_ GE482.out | refine below_set ?_ GE493.out | refine below_set ?_ GE498.out | refine below_set ?_ GE504.out) | exact HB.out)⟩
        ·
         replace c90 := Bool.eq_false_iff.mpr c90
         subst c90
         have H1 : ((laws_markContext.f kj60 t499 t500 1).bind fun bt514 => ((laws_heldContext.f kj60 t499 bt514.2 1).bind fun t516 => (if t516 < 0 then (some false) else (if t516 = bt514.1 then ((laws_toContext.f kj60 a0_0 l0_1).bind fun bt517 => ((impl_DropObjects.f kj60 bt517.1 bt517.2 a1).bind fun bt521 => ((laws_eqContext.f kj60 bt521.1 bt521.2.1 t488 t489).bind fun t527 => (if t527 = true then (laws_FnExactDropObjects.j2 kj60 bt514.1 (bt521.2.2 != t492) t499 bt514.2) else (laws_FnExactDropObjects.j2 kj60 bt514.1 true t499 bt514.2))))) else (some false))))) = some r := q36_51
         clear H
         have H := H1
         clear H1
         replace H := Option.bind_eq_some_iff.mp H
         obtain ⟨⟨t514, t515⟩, A910, H⟩ := H
         replace H : ((laws_heldContext.f kj60 t499 t515 1).bind fun t516 => (if t516 < 0 then (some false) else (if t516 = t514 then ((laws_toContext.f kj60 a0_0 l0_1).bind fun bt517 => ((impl_DropObjects.f kj60 bt517.1 bt517.2 a1).bind fun bt521 => ((laws_eqContext.f kj60 bt521.1 bt521.2.1 t488 t489).bind fun t527 => (if t527 = true then (laws_FnExactDropObjects.j2 kj60 t514 (bt521.2.2 != t492) t499 t515) else (laws_FnExactDropObjects.j2 kj60 t514 true t499 t515))))) else (some false)))) = some r := H
         have A91 := Aside0.mk A910
         clear A910
         replace H := Option.bind_eq_some_iff.mp H
         obtain ⟨t516, A920, H⟩ := H
         replace H : (if t516 < 0 then (some false) else (if t516 = t514 then ((laws_toContext.f kj60 a0_0 l0_1).bind fun bt517 => ((impl_DropObjects.f kj60 bt517.1 bt517.2 a1).bind fun bt521 => ((laws_eqContext.f kj60 bt521.1 bt521.2.1 t488 t489).bind fun t527 => (if t527 = true then (laws_FnExactDropObjects.j2 kj60 t514 (bt521.2.2 != t492) t499 t515) else (laws_FnExactDropObjects.j2 kj60 t514 true t499 t515))))) else (some false))) = some r := H
         have A92 := Aside0.mk A920
         clear A920
         by_cases c93 : t516 < 0
         ·
          rw [if_pos c93] at H
          have c93b0 : decide (t516 < 0) = true := decide_eq_true c93
          clear c93
          obtain rfl := Option.some.inj H
          have hnb94 := NB504_482.out
          have hnc94 := NB482_504.out
          have hnb95 := NB504_493.out
          have hnc95 := NB493_504.out
          have hnb96 := NB504_498.out
          have hnc96 := NB498_504.out
          have hcz97_0 : wc.cell? ⟨gb504, 0, none⟩ = some (.int .i64 t499) := (blk_cell BK504.out 0).trans rfl
          have hcz97_1 : wc.cell? ⟨gb504, 1, none⟩ = some (.slice Ao37 t500.length co37) := (blk_cell BK504.out 1).trans rfl
          have hfz97_0 := blk_frozen BK504.out 0
          have hfz97_1 := blk_frozen BK504.out 1
          go_wp2_with (first | ((with_reducible refine gate_callee (f := 37) rfl ?_); refine goesL_ (some 68) rfl rfl Try.func37 q36_53 rfl #[.agg #[.int .i64 t499, .slice Ao37 t500.length co37], .int .i64 1] rfl q36_35 ?_; (with_reducible refine (laws_markContext.calls kj60 t499 (fun k_ => some k_ = (.slice Ao37 t500.length co37 : Value).ownBlock) (.slice Ao37 t500.length co37) t500 1 t514 t515 w _ ?side1 ?side2 A91.out).mono ?_); (case side1 => exact q36_25); (case side2 => exact Kd.R_tight rfl HO_505001.out); rintro e w98 ⟨rfl, hy0, hb, hkp⟩; refine ⟨_, rfl, ?_⟩; have n0_ := Aside0.mk (Kd.R_mono (ok' := fun k_ => some k_ ≠ (.slice Ao30 t512.length co30 : Value).ownBlock ∧ some k_ ≠ (.slice Ao37 t500.length co37 : Value).ownBlock) (Kd.R_keptB (HO_494001.out) hkp (fun k_ hk_ hs_ => (hk_.2) hs_)) (fun k_ hk_ => ⟨hk_.1.1, hk_.1.2⟩)); have n1_ := Aside0.mk (Kd.R_mono (ok' := fun k_ => some k_ ≠ (.slice Ao23 t489.length co23 : Value).ownBlock ∧ some k_ ≠ (.slice Ao37 t500.length co37 : Value).ownBlock) (Kd.R_keptB (HO_499001.out) hkp (fun k_ hk_ hs_ => (hk_.2) hs_)) (fun k_ hk_ => ⟨hk_.1.1, hk_.1.2⟩)); have n2_ := Aside0.mk (Kd.R_reok rfl hy0 (fun k_ e_ => HO_505001.out.1 k_ e_)); have n3_ := Aside0.mk (blk_kept q36_37 hkp (fun hs_ => (fun e_ => (Kd.R_ne HO_505001.out BK482.out (by decide)) e_) hs_)); have n4_ := Aside0.mk (blk_kept q36_38 hkp (fun hs_ => (fun e_ => (Kd.R_ne HO_505001.out BK493.out (by decide)) e_) hs_)); have n5_ := Aside0.mk (blk_kept q36_39 hkp (fun hs_ => (fun e_ => (Kd.R_ne HO_505001.out BK498.out (by decide)) e_) hs_)); have n6_ := Aside0.mk (blk_kept q36_40 hkp (fun hs_ => (fun e_ => (Kd.R_ne HO_505001.out BK504.out (by decide)) e_) hs_)); have n7_ := Aside0.mk (hb); clear HO_494001; clear HO_499001; clear HO_505001; clear BK482; clear BK493; clear BK498; clear BK504; clear HB; have HO_494001 := n0_; have HO_499001 := n1_; have HO_505001 := n2_; have BK482 := n3_; have BK493 := n4_; have BK498 := n5_; have BK504 := n6_; have HB := n7_; clear n0_ n1_ n2_ n3_ n4_ n5_ n6_ n7_; (try clear hb); (try clear hkp); (try clear hy0); have hcz99_0 : w98.cell? ⟨gb504, 0, none⟩ = some (.int .i64 t499) := (blk_cell BK504.out 0).trans rfl; have hcz99_1 : w98.cell? ⟨gb504, 1, none⟩ = some (.slice Ao37 t500.length co37) := (blk_cell BK504.out 1).trans rfl; have hfz99_0 := blk_frozen BK504.out 0; have hfz99_1 := blk_frozen BK504.out 1) | ((with_reducible refine gate_callee (f := 38) rfl ?_); refine goesL_ (some 71) rfl rfl Try.func38 q36_53 rfl #[.agg #[.int .i64 t499, .slice Ao37 t515.length co37], .int .i64 1] rfl q36_27 ?_; (with_reducible refine (laws_heldContext.calls kj60 t499 _ _ t515 1 t516 _ ?side1 ?side2 A92.out).mono ?_); (case side1 => exact q36_31); (case side2 => rw [show t515.length = t500.length from (Kd.R_reads' HO_505001.out).1.symm]; exact (Kd.R_reads' HO_505001.out).2.1); rintro e w100 ⟨rfl, hb⟩; refine ⟨_, rfl, ?_⟩; have n0_ := Aside0.mk (Kd.R_below q36_42 hb); have n1_ := Aside0.mk (Kd.R_below q36_43 hb); have n2_ := Aside0.mk (Kd.R_below q36_44 hb); have n3_ := Aside0.mk (blk_below (g := gb482) (o := .cells #[.int .i64 a0_0, .slice A0_1 l0_1.length c0_1] 24 (0, 0)) q36_37 hb); have n4_ := Aside0.mk (blk_below (g := gb493) (o := .cells #[.int .i64 t488, .slice Ao23 t489.length co23] 27 (0, 0)) q36_38 hb); have n5_ := Aside0.mk (blk_below (g := gb498) (o := .cells #[.int .i64 t494, .slice Ao30 t512.length co30] 27 (0, 0)) q36_39 hb); have n6_ := Aside0.mk (blk_below (g := gb504) (o := .cells #[.int .i64 t499, .slice Ao37 t500.length co37] 27 (0, 0)) q36_40 hb); have n7_ := Aside0.mk (below_step q36_25 hb); clear HO_494001; clear HO_499001; clear HO_505001; clear BK482; clear BK493; clear BK498; clear BK504; clear HB; have HO_494001 := n0_; have HO_499001 := n1_; have HO_505001 := n2_; have BK482 := n3_; have BK493 := n4_; have BK498 := n5_; have BK504 := n6_; have HB := n7_; clear n0_ n1_ n2_ n3_ n4_ n5_ n6_ n7_; (try clear hb); (try clear hb2); (try clear hk); (try clear hi)))
          go_ret
          exact ⟨by first | rfl | (simp [errW_none, errW_some] <;> rfl) | (simp [*, errW_none, errW_some] <;> rfl), by repeat (first | (with_reducible first | exact HB.out | apply below_alloc | apply pw_below_drewN | apply below_drew1 | refine below_set ?_ GE482.out | refine below_set ?_ GE493.out | refine below_set ?_ GE498.out | refine below_set ?_ GE504.out) | exact HB.out)⟩
         ·
          rw [if_neg c93] at H
          have c93b0 : decide (t516 < 0) = false := decide_eq_false c93
          clear c93
          by_cases c101 : t516 = t514
          ·
           rw [if_pos c101] at H
           have c101b0 : (t516 == t514) = true := beq_iff_eq.mpr c101
           have c101b1 : (t516 != t514) = false := bne_eq_false_iff_eq.mpr c101
           clear c101
           replace H := Option.bind_eq_some_iff.mp H
           obtain ⟨⟨t517, t518⟩, A1020, H⟩ := H
           replace H : ((impl_DropObjects.f kj60 t517 t518 a1).bind fun bt521 => ((laws_eqContext.f kj60 bt521.1 bt521.2.1 t488 t489).bind fun t527 => (if t527 = true then (laws_FnExactDropObjects.j2 kj60 t514 (bt521.2.2 != t492) t499 t515) else (laws_FnExactDropObjects.j2 kj60 t514 true t499 t515)))) = some r := H
           have A102 := Aside0.mk A1020
           clear A1020
           replace H := Option.bind_eq_some_iff.mp H
           obtain ⟨⟨t521, t522, t525⟩, A1030, H⟩ := H
           replace H : ((laws_eqContext.f kj60 t521 t522 t488 t489).bind fun t527 => (if t527 = true then (laws_FnExactDropObjects.j2 kj60 t514 (t525 != t492) t499 t515) else (laws_FnExactDropObjects.j2 kj60 t514 true t499 t515))) = some r := H
           have A103 := Aside0.mk A1030
           clear A1030
           have HC104 := Aside0.mk H
           clear H
           have hnb105 := NB504_482.out
           have hnc105 := NB482_504.out
           have hnb106 := NB504_493.out
           have hnc106 := NB493_504.out
           have hnb107 := NB504_498.out
           have hnc107 := NB498_504.out
           have hcz108_0 : wc.cell? ⟨gb504, 0, none⟩ = some (.int .i64 t499) := (blk_cell BK504.out 0).trans rfl
           have hcz108_1 : wc.cell? ⟨gb504, 1, none⟩ = some (.slice Ao37 t500.length co37) := (blk_cell BK504.out 1).trans rfl
           have hfz108_0 := blk_frozen BK504.out 0
           have hfz108_1 := blk_frozen BK504.out 1
           go_upto_region 25 with (first | ((with_reducible refine gate_callee (f := 37) rfl ?_); refine goesL_ (some 68) rfl rfl Try.func37 q36_53 rfl #[.agg #[.int .i64 t499, .slice Ao37 t500.length co37], .int .i64 1] rfl q36_35 ?_; (with_reducible refine (laws_markContext.calls kj60 t499 (fun k_ => some k_ = (.slice Ao37 t500.length co37 : Value).ownBlock) (.slice Ao37 t500.length co37) t500 1 t514 t515 w _ ?side1 ?side2 A91.out).mono ?_); (case side1 => exact q36_25); (case side2 => exact Kd.R_tight rfl HO_505001.out); rintro e w109 ⟨rfl, hy0, hb, hkp⟩; refine ⟨_, rfl, ?_⟩; have n0_ := Aside0.mk (Kd.R_mono (ok' := fun k_ => some k_ ≠ (.slice Ao30 t512.length co30 : Value).ownBlock ∧ some k_ ≠ (.slice Ao37 t500.length co37 : Value).ownBlock) (Kd.R_keptB (HO_494001.out) hkp (fun k_ hk_ hs_ => (hk_.2) hs_)) (fun k_ hk_ => ⟨hk_.1.1, hk_.1.2⟩)); have n1_ := Aside0.mk (Kd.R_mono (ok' := fun k_ => some k_ ≠ (.slice Ao23 t489.length co23 : Value).ownBlock ∧ some k_ ≠ (.slice Ao37 t500.length co37 : Value).ownBlock) (Kd.R_keptB (HO_499001.out) hkp (fun k_ hk_ hs_ => (hk_.2) hs_)) (fun k_ hk_ => ⟨hk_.1.1, hk_.1.2⟩)); have n2_ := Aside0.mk (Kd.R_reok rfl hy0 (fun k_ e_ => HO_505001.out.1 k_ e_)); have n3_ := Aside0.mk (blk_kept q36_37 hkp (fun hs_ => (fun e_ => (Kd.R_ne HO_505001.out BK482.out (by decide)) e_) hs_)); have n4_ := Aside0.mk (blk_kept q36_38 hkp (fun hs_ => (fun e_ => (Kd.R_ne HO_505001.out BK493.out (by decide)) e_) hs_)); have n5_ := Aside0.mk (blk_kept q36_39 hkp (fun hs_ => (fun e_ => (Kd.R_ne HO_505001.out BK498.out (by decide)) e_) hs_)); have n6_ := Aside0.mk (blk_kept q36_40 hkp (fun hs_ => (fun e_ => (Kd.R_ne HO_505001.out BK504.out (by decide)) e_) hs_)); have n7_ := Aside0.mk (hb); clear HO_494001; clear HO_499001; clear HO_505001; clear BK482; clear BK493; clear BK498; clear BK504; clear HB; have HO_494001 := n0_; have HO_499001 := n1_; have HO_505001 := n2_; have BK482 := n3_; have BK493 := n4_; have BK498 := n5_; have BK504 := n6_; have HB := n7_; clear n0_ n1_ n2_ n3_ n4_ n5_ n6_ n7_; (try clear hb); (try clear hkp); (try clear hy0); have hcz110_0 : w109.cell? ⟨gb504, 0, none⟩ = some (.int .i64 t499) := (blk_cell BK504.out 0).trans rfl; have hcz110_1 : w109.cell? ⟨gb504, 1, none⟩ = some (.slice Ao37 t500.length co37) := (blk_cell BK504.out 1).trans rfl; have hfz110_0 := blk_frozen BK504.out 0; have hfz110_1 := blk_frozen BK504.out 1) | ((with_reducible refine gate_callee (f := 38) rfl ?_); refine goesL_ (some 71) rfl rfl Try.func38 q36_53 rfl #[.agg #[.int .i64 t499, .slice Ao37 t515.length co37], .int .i64 1] rfl q36_27 ?_; (with_reducible refine (laws_heldContext.calls kj60 t499 _ _ t515 1 t516 _ ?side1 ?side2 A92.out).mono ?_); (case side1 => exact q36_31); (case side2 => rw [show t515.length = t500.length from (Kd.R_reads' HO_505001.out).1.symm]; exact (Kd.R_reads' HO_505001.out).2.1); rintro e w111 ⟨rfl, hb⟩; refine ⟨_, rfl, ?_⟩; have n0_ := Aside0.mk (Kd.R_below q36_42 hb); have n1_ := Aside0.mk (Kd.R_below q36_43 hb); have n2_ := Aside0.mk (Kd.R_below q36_44 hb); have n3_ := Aside0.mk (blk_below (g := gb482) (o := .cells #[.int .i64 a0_0, .slice A0_1 l0_1.length c0_1] 24 (0, 0)) q36_37 hb); have n4_ := Aside0.mk (blk_below (g := gb493) (o := .cells #[.int .i64 t488, .slice Ao23 t489.length co23] 27 (0, 0)) q36_38 hb); have n5_ := Aside0.mk (blk_below (g := gb498) (o := .cells #[.int .i64 t494, .slice Ao30 t512.length co30] 27 (0, 0)) q36_39 hb); have n6_ := Aside0.mk (blk_below (g := gb504) (o := .cells #[.int .i64 t499, .slice Ao37 t500.length co37] 27 (0, 0)) q36_40 hb); have n7_ := Aside0.mk (below_step q36_25 hb); clear HO_494001; clear HO_499001; clear HO_505001; clear BK482; clear BK493; clear BK498; clear BK504; clear HB; have HO_494001 := n0_; have HO_499001 := n1_; have HO_505001 := n2_; have BK482 := n3_; have BK493 := n4_; have BK498 := n5_; have BK504 := n6_; have HB := n7_; clear n0_ n1_ n2_ n3_ n4_ n5_ n6_ n7_; (try clear hb); (try clear hb2); (try clear hk); (try clear hi); have hnb112 := NB482_493.out; have hnc112 := NB493_482.out; have hnb113 := NB482_498.out; have hnc113 := NB498_482.out; have hcz114_0 : w111.cell? ⟨gb482, 0, none⟩ = some (.int .i64 a0_0) := (blk_cell BK482.out 0).trans rfl; have hcz114_1 : w111.cell? ⟨gb482, 1, none⟩ = some (.slice A0_1 l0_1.length c0_1) := (blk_cell BK482.out 1).trans rfl; have hfz114_0 := blk_frozen BK482.out 0; have hfz114_1 := blk_frozen BK482.out 1) | ((with_reducible refine gate_callee (f := 17) rfl ?_); refine goesL_ (some 79) rfl rfl Try.func17 q36_53 rfl #[.agg #[.int .i64 a0_0, .slice A0_1 l0_1.length c0_1]] rfl q36_35 ?_; (with_reducible refine (laws_toContext.calls kj60 a0_0 _ _ l0_1 t517 t518 _ ?side1 ?side2 A102.out).mono ?_); (case side1 => exact q36_32); (case side2 => exact HC0_1.out); rintro e w115 ⟨v519, rfl, ho0, hb⟩; refine ⟨_, rfl, ?_⟩; have n0_ := Aside0.mk (Kd.R_elder' q36_42 (Kd.R_base ho0) hb); have n1_ := Aside0.mk (Kd.R_elder' q36_43 (Kd.R_base ho0) hb); have n2_ := Aside0.mk (Kd.R_elder' q36_44 (Kd.R_base ho0) hb); have n3_ := Aside0.mk (Kd.R_lower (Kd.R_new' (Kd.R_new' (Kd.R_new' ho0 (Kd.R_lt q36_42)) (Kd.R_lt q36_43)) (Kd.R_lt q36_44)) (below_size q36_25)); have n4_ := Aside0.mk (blk_below (g := gb482) (o := .cells #[.int .i64 a0_0, .slice A0_1 l0_1.length c0_1] 24 (0, 0)) q36_37 hb); have n5_ := Aside0.mk (blk_below (g := gb493) (o := .cells #[.int .i64 t488, .slice Ao23 t489.length co23] 27 (0, 0)) q36_38 hb); have n6_ := Aside0.mk (blk_below (g := gb498) (o := .cells #[.int .i64 t494, .slice Ao30 t512.length co30] 27 (0, 0)) q36_39 hb); have n7_ := Aside0.mk (blk_below (g := gb504) (o := .cells #[.int .i64 t499, .slice Ao37 t500.length co37] 27 (0, 0)) q36_40 hb); have n8_ := Aside0.mk (below_step q36_25 hb); clear HO_494001; clear HO_499001; clear HO_505001; clear BK482; clear BK493; clear BK498; clear BK504; clear HB; have HO_494001 := n0_; have HO_499001 := n1_; have HO_505001 := n2_; have HO520 := n3_; have BK482 := n4_; have BK493 := n5_; have BK498 := n6_; have BK504 := n7_; have HB := n8_; clear n0_ n1_ n2_ n3_ n4_ n5_ n6_ n7_ n8_; (try clear hb); (try clear hb2); (try clear hk); (try clear hi); (try clear ho0); obtain ⟨Ao116, co116, eo116⟩ := Kd.R_slice HO520.out; subst eo116) | ((with_reducible refine gate_callee (f := 36) rfl ?_); refine goesL_ (some 81) rfl rfl Try.func36 q36_53 rfl #[.agg #[.int .i64 t517, .slice Ao116 t518.length co116], .int .i64 a1] rfl q36_35 ?_; (with_reducible refine (impl_DropObjects.calls kj60 t517 _ _ t518 a1 t521 t522 t525 _ ?side1 ?side2 A103.out).mono ?_); (case side1 => repeat (first | exact (Kd.R_reads' HO520.out).2.2 | (with_reducible refine Kd.C_alloc ?_ _) | (with_reducible refine Kd.C_drewN ?_ _) | (with_reducible refine Kd.C_drew ?_))); (case side2 => exact (Kd.R_reads' HO520.out).2.1); rintro e w117 ⟨v523, rfl, ho0, hb⟩; refine ⟨_, rfl, ?_⟩; have n0_ := Aside0.mk (Kd.R_elder' q36_42 (Kd.R_base ho0) hb); have n1_ := Aside0.mk (Kd.R_elder' q36_43 (Kd.R_base ho0) hb); have n2_ := Aside0.mk (Kd.R_elder' q36_44 (Kd.R_base ho0) hb); have n3_ := Aside0.mk (Kd.R_elder' q36_49 (Kd.R_base ho0) hb); have n4_ := Aside0.mk (Kd.R_lower (Kd.R_new' (Kd.R_new' (Kd.R_new' (Kd.R_new' ho0 (Kd.R_lt q36_42)) (Kd.R_lt q36_43)) (Kd.R_lt q36_44)) (Kd.R_lt q36_49)) (below_size q36_25)); have n5_ := Aside0.mk (blk_below (g := gb482) (o := .cells #[.int .i64 a0_0, .slice A0_1 l0_1.length c0_1] 24 (0, 0)) q36_37 hb); have n6_ := Aside0.mk (blk_below (g := gb493) (o := .cells #[.int .i64 t488, .slice Ao23 t489.length co23] 27 (0, 0)) q36_38 hb); have n7_ := Aside0.mk (blk_below (g := gb498) (o := .cells #[.int .i64 t494, .slice Ao30 t512.length co30] 27 (0, 0)) q36_39 hb); have n8_ := Aside0.mk (blk_below (g := gb504) (o := .cells #[.int .i64 t499, .slice Ao37 t500.length co37] 27 (0, 0)) q36_40 hb); have n9_ := Aside0.mk (below_step q36_25 hb); clear HO_494001; clear HO_499001; clear HO_505001; clear HO520; clear BK482; clear BK493; clear BK498; clear BK504; clear HB; have HO_494001 := n0_; have HO_499001 := n1_; have HO_505001 := n2_; have HO520 := n3_; have HO524 := n4_; have BK482 := n5_; have BK493 := n6_; have BK498 := n7_; have BK504 := n8_; have HB := n9_; clear n0_ n1_ n2_ n3_ n4_ n5_ n6_ n7_ n8_ n9_; (try clear hb); (try clear hb2); (try clear hk); (try clear hi); (try clear ho0)) | ((with_reducible refine gate_dst (N := 14) rfl ?_); refine box_event ?hg (N := 14) ?hd (cs := #[.int .i64 0, .slice none 0 0]) (t := 27) ?hr ?_; (case hd => rfl); (case hg => rfl); (case hr => first | (go_simp; done) | (go_simp; rfl)); intro gb526 hg w118 hbox hb; have n0_ := Aside0.mk (Kd.R_below q36_42 hb); have n1_ := Aside0.mk (Kd.R_below q36_43 hb); have n2_ := Aside0.mk (Kd.R_below q36_44 hb); have n3_ := Aside0.mk (Kd.R_below q36_49 hb); have n4_ := Aside0.mk (Kd.R_below (by (with_reducible repeat (first | apply Kd.R_alloc | apply Kd.R_drewN | apply Kd.R_drew)); exact HO524.out) hb); have n5_ := Aside0.mk (blk_below (g := gb482) (o := .cells #[.int .i64 a0_0, .slice A0_1 l0_1.length c0_1] 24 (0, 0)) q36_37 hb); have n6_ := Aside0.mk (blk_below (g := gb493) (o := .cells #[.int .i64 t488, .slice Ao23 t489.length co23] 27 (0, 0)) q36_38 hb); have n7_ := Aside0.mk (blk_below (g := gb498) (o := .cells #[.int .i64 t494, .slice Ao30 t512.length co30] 27 (0, 0)) q36_39 hb); have n8_ := Aside0.mk (blk_below (g := gb504) (o := .cells #[.int .i64 t499, .slice Ao37 t500.length co37] 27 (0, 0)) q36_40 hb); have n9_ := Aside0.mk (below_step q36_25 hb); have n10_ := Aside0.mk (hbox); have n11_ := Aside0.mk ((by rw [hg]; exact (below_size q36_25) : w.heap.size ≤ gb526)); have n12_ := Aside0.mk ((by rw [hg]; exact (below_size q36_25) : w.heap.size ≤ gb526)); have n13_ := Aside0.mk ((by rw [hg]; exact Nat.ne_of_lt (blk_lt (g := gb482) (o := .cells #[.int .i64 a0_0, .slice A0_1 l0_1.length c0_1] 24 (0, 0)) q36_37) : gb482 ≠ gb526)); have n14_ := Aside0.mk ((by rw [hg]; exact Nat.ne_of_gt (blk_lt (g := gb482) (o := .cells #[.int .i64 a0_0, .slice A0_1 l0_1.length c0_1] 24 (0, 0)) q36_37) : gb526 ≠ gb482)); have n15_ := Aside0.mk ((by rw [hg]; exact Nat.ne_of_lt (blk_lt (g := gb493) (o := .cells #[.int .i64 t488, .slice Ao23 t489.length co23] 27 (0, 0)) q36_38) : gb493 ≠ gb526)); have n16_ := Aside0.mk ((by rw [hg]; exact Nat.ne_of_gt (blk_lt (g := gb493) (o := .cells #[.int .i64 t488, .slice Ao23 t489.length co23] 27 (0, 0)) q36_38) : gb526 ≠ gb493)); have n17_ := Aside0.mk ((by rw [hg]; exact Nat.ne_of_lt (blk_lt (g := gb498) (o := .cells #[.int .i64 t494, .slice Ao30 t512.length co30] 27 (0, 0)) q36_39) : gb498 ≠ gb526)); have n18_ := Aside0.mk ((by rw [hg]; exact Nat.ne_of_gt (blk_lt (g := gb498) (o := .cells #[.int .i64 t494, .slice Ao30 t512.length co30] 27 (0, 0)) q36_39) : gb526 ≠ gb498)); have n19_ := Aside0.mk ((by rw [hg]; exact Nat.ne_of_lt (blk_lt (g := gb504) (o := .cells #[.int .i64 t499, .slice Ao37 t500.length co37] 27 (0, 0)) q36_40) : gb504 ≠ gb526)); have n20_ := Aside0.mk ((by rw [hg]; exact Nat.ne_of_gt (blk_lt (g := gb504) (o := .cells #[.int .i64 t499, .slice Ao37 t500.length co37] 27 (0, 0)) q36_40) : gb526 ≠ gb504)); clear HO_494001; clear HO_499001; clear HO_505001; clear HO520; clear HO524; clear BK482; clear BK493; clear BK498; clear BK504; clear HB; have HO_494001 := n0_; have HO_499001 := n1_; have HO_505001 := n2_; have HO520 := n3_; have HO524 := n4_; have BK482 := n5_; have BK493 := n6_; have BK498 := n7_; have BK504 := n8_; have HB := n9_; have BK526 := n10_; have GW526 := n11_; have GE526 := n12_; have NB482_526 := n13_; have NB526_482 := n14_; have NB493_526 := n15_; have NB526_493 := n16_; have NB498_526 := n17_; have NB526_498 := n18_; have NB504_526 := n19_; have NB526_504 := n20_; clear n0_ n1_ n2_ n3_ n4_ n5_ n6_ n7_ n8_ n9_ n10_ n11_ n12_ n13_ n14_ n15_ n16_ n17_ n18_ n19_ n20_; clear hb hbox hg; have hnb119 := NB526_482.out; have hnc119 := NB482_526.out; have hnb120 := NB526_493.out; have hnc120 := NB493_526.out; have hnb121 := NB526_498.out; have hnc121 := NB498_526.out; have hnb122 := NB526_504.out; have hnc122 := NB504_526.out; have hcz123_0 : w118.cell? ⟨gb526, 0, none⟩ = some (.int .i64 0) := (blk_cell BK526.out 0).trans rfl; have hcz123_1 : w118.cell? ⟨gb526, 1, none⟩ = some (.slice none 0 0) := (blk_cell BK526.out 1).trans rfl; have hfz123_0 := blk_frozen BK526.out 0; have hfz123_1 := blk_frozen BK526.out 1; obtain ⟨Ao124, co124, eo124⟩ := Kd.R_slice HO524.out; subst eo124))
           (try simp only [Act.put, List.setIfInBounds_toArray, List.set_cons_zero, List.set_cons_succ])
           go_cut [92] (fun v92 wc => ∃ (kq : Nat) (x92_103 : Bool), v92 = .bool x92_103 ∧ Aside0 (laws_FnExactDropObjects.j2 kq t514 x92_103 t499 t515 = some r) ∧ Aside0 (kq ≤ kj60) ∧ Aside0 (Kd.R (Kd.int .i64) 3 wc w.heap.size (fun k_ => some k_ ≠ ((.slice Ao30 t512.length co30) : Value).ownBlock ∧ some k_ ≠ ((.slice Ao37 t500.length co37) : Value).ownBlock ∧ some k_ ≠ ((.slice Ao124 t522.length co124) : Value).ownBlock) (.slice Ao23 t489.length co23) t489) ∧ Aside0 (Kd.R (Kd.int .i64) 3 wc w.heap.size (fun k_ => some k_ ≠ ((.slice Ao23 t489.length co23) : Value).ownBlock ∧ some k_ ≠ ((.slice Ao37 t500.length co37) : Value).ownBlock ∧ some k_ ≠ ((.slice Ao124 t522.length co124) : Value).ownBlock) (.slice Ao30 t512.length co30) t512) ∧ Aside0 (Kd.R (Kd.int .i64) 3 wc w.heap.size (fun k_ => some k_ ≠ ((.slice Ao23 t489.length co23) : Value).ownBlock ∧ some k_ ≠ ((.slice Ao30 t512.length co30) : Value).ownBlock ∧ some k_ ≠ ((.slice Ao124 t522.length co124) : Value).ownBlock) (.slice Ao37 t500.length co37) t515) ∧ Aside0 (Kd.R (Kd.int .i64) 3 wc w.heap.size (fun k_ => some k_ ≠ ((.slice Ao23 t489.length co23) : Value).ownBlock ∧ some k_ ≠ ((.slice Ao30 t512.length co30) : Value).ownBlock ∧ some k_ ≠ ((.slice Ao37 t500.length co37) : Value).ownBlock) (.slice Ao124 t522.length co124) t522) ∧ Aside0 (wc.heap[gb482]? = some (.cells #[.int .i64 a0_0, (.slice A0_1 l0_1.length c0_1)] 24 (0, 0))) ∧ Aside0 (wc.heap[gb493]? = some (.cells #[.int .i64 t488, (.slice Ao23 t489.length co23)] 27 (0, 0))) ∧ Aside0 (wc.heap[gb498]? = some (.cells #[.int .i64 t494, (.slice Ao30 t512.length co30)] 27 (0, 0))) ∧ Aside0 (wc.heap[gb504]? = some (.cells #[.int .i64 t499, (.slice Ao37 t500.length co37)] 27 (0, 0))) ∧ Aside0 (wc.heap[gb526]? = some (.cells #[.int .i64 t521, (.slice Ao124 t522.length co124)] 27 (0, 0))) ∧ Aside0 (Below w.heap.size w wc))
           case first =>
            have H := HC104.out
            clear HC104
            replace H := Option.bind_eq_some_iff.mp H
            obtain ⟨t527, A1250, H⟩ := H
            replace H : (if t527 = true then (laws_FnExactDropObjects.j2 kj60 t514 (t525 != t492) t499 t515) else (laws_FnExactDropObjects.j2 kj60 t514 true t499 t515)) = some r := H
            have A125 := Aside0.mk A1250
            clear A1250
            by_cases c126 : t527 = true
            ·
             subst c126
             have H1 : (laws_FnExactDropObjects.j2 kj60 t514 (t525 != t492) t499 t515) = some r := q36_52
             clear H
             have H := H1
             clear H1
             have H' := Aside0.mk H
             clear H
             have hnb127 := NB526_482.out
             have hnc127 := NB482_526.out
             have hnb128 := NB526_493.out
             have hnc128 := NB493_526.out
             have hnb129 := NB526_498.out
             have hnc129 := NB498_526.out
             have hnb130 := NB526_504.out
             have hnc130 := NB504_526.out
             have hcz131_0 : w118.cell? ⟨gb526, 0, none⟩ = some (.int .i64 0) := (blk_cell BK526.out 0).trans rfl
             have hcz131_1 : w118.cell? ⟨gb526, 1, none⟩ = some (.slice none 0 0) := (blk_cell BK526.out 1).trans rfl
             have hfz131_0 := blk_frozen BK526.out 0
             have hfz131_1 := blk_frozen BK526.out 1
             have hnb132 := NB493_482.out
             have hnc132 := NB482_493.out
             have hnb133 := NB493_498.out
             have hnc133 := NB498_493.out
             have hnb134 := NB493_504.out
             have hnc134 := NB504_493.out
             have hcz135_0 : w118.cell? ⟨gb493, 0, none⟩ = some (.int .i64 t488) := (blk_cell BK493.out 0).trans rfl
             have hcz135_1 : w118.cell? ⟨gb493, 1, none⟩ = some (.slice Ao23 t489.length co23) := (blk_cell BK493.out 1).trans rfl
             have hfz135_0 := blk_frozen BK493.out 0
             have hfz135_1 := blk_frozen BK493.out 1
             go_wp2_with (first | ((with_reducible refine gate_callee (f := 19) rfl ?_); refine goesL_ (some 86) rfl rfl Try.func19 q36_53 rfl #[.agg #[.int .i64 t521, .slice Ao124 t522.length co124], .agg #[.int .i64 t488, .slice Ao23 t489.length co23]] rfl q36_35 ?_; (with_reducible refine (laws_eqContext.calls kj60 t521 _ _ t522 t488 _ _ t489 true _ ?side1 ?side2 ?side3 ?side4 A125.out).mono ?_); (case side1 => refine (Kd.R_reads' (e := 3) (base := w.heap.size) (ok := fun k_ => ((((True ∧ some k_ ≠ (.slice Ao23 t489.length co23 : Value).ownBlock) ∧ some k_ ≠ (.slice Ao30 t512.length co30 : Value).ownBlock) ∧ some k_ ≠ (.slice Ao37 t500.length co37 : Value).ownBlock) ∧ some k_ ≠ (.slice Ao116 t518.length co116 : Value).ownBlock)) (n := t522.length) (c := co124) ?_).2.2; exact q36_14); (case side2 => exact (Kd.R_reads' HO524.out).2.1); (case side3 => refine (Kd.R_reads' (e := 3) (base := w.heap.size) (ok := fun k_ => (((some k_ ≠ (.slice Ao30 t512.length co30 : Value).ownBlock ∧ some k_ ≠ (.slice Ao37 t500.length co37 : Value).ownBlock) ∧ some k_ ≠ (.slice Ao116 t518.length co116 : Value).ownBlock) ∧ some k_ ≠ (.slice Ao124 t522.length co124 : Value).ownBlock)) (n := t489.length) (c := co23) ?_).2.2; exact q36_10); (case side4 => exact (Kd.R_reads' HO_494001.out).2.1); rintro e w136 ⟨rfl, hb⟩; refine ⟨_, rfl, ?_⟩; have n0_ := Aside0.mk (Kd.R_below q36_10 hb); have n1_ := Aside0.mk (Kd.R_below q36_11 hb); have n2_ := Aside0.mk (Kd.R_below q36_12 hb); have n3_ := Aside0.mk (Kd.R_below q36_13 hb); have n4_ := Aside0.mk (Kd.R_below q36_14 hb); have n5_ := Aside0.mk (blk_below (g := gb482) (o := .cells #[.int .i64 a0_0, .slice A0_1 l0_1.length c0_1] 24 (0, 0)) q36_4 hb); have n6_ := Aside0.mk (blk_below (g := gb493) (o := .cells #[.int .i64 t488, .slice Ao23 t489.length co23] 27 (0, 0)) q36_6 hb); have n7_ := Aside0.mk (blk_below (g := gb498) (o := .cells #[.int .i64 t494, .slice Ao30 t512.length co30] 27 (0, 0)) q36_8 hb); have n8_ := Aside0.mk (blk_below (g := gb504) (o := .cells #[.int .i64 t499, .slice Ao37 t500.length co37] 27 (0, 0)) q36_9 hb); have n9_ := Aside0.mk (blk_below (g := gb526) (o := .cells #[.int .i64 t521, .slice Ao124 t522.length co124] 27 (0, 0)) q36_2 hb); have n10_ := Aside0.mk (below_step q36_24 hb); clear HO_494001; clear HO_499001; clear HO_505001; clear HO520; clear HO524; clear BK482; clear BK493; clear BK498; clear BK504; clear BK526; clear HB; have HO_494001 := n0_; have HO_499001 := n1_; have HO_505001 := n2_; have HO520 := n3_; have HO524 := n4_; have BK482 := n5_; have BK493 := n6_; have BK498 := n7_; have BK504 := n8_; have BK526 := n9_; have HB := n10_; clear n0_ n1_ n2_ n3_ n4_ n5_ n6_ n7_ n8_ n9_ n10_; (try clear hb); (try clear hb2); (try clear hk); (try clear hi)))
             go_meet
             case rel => exact ⟨_, ((t525 != t492)), q36_50, H', ⟨by have := HJ11.out; have := HJ60.out; first | omega | exact Nat.le_refl _⟩, ⟨by (try simp only [hl499001_60]); (with_reducible repeat (first | apply Kd.R_alloc | apply Kd.R_drewN | apply Kd.R_drew)); exact Kd.R_mono HO_494001.out (fun _ hk => ⟨hk.1.1.1, ⟨hk.1.1.2, hk.2⟩⟩)⟩, ⟨by (try simp only [hl499001_60]); (with_reducible repeat (first | apply Kd.R_alloc | apply Kd.R_drewN | apply Kd.R_drew)); exact Kd.R_mono HO_499001.out (fun _ hk => ⟨hk.1.1.1, ⟨hk.1.1.2, hk.2⟩⟩)⟩, ⟨by (try simp only [hl499001_60]); (with_reducible repeat (first | apply Kd.R_alloc | apply Kd.R_drewN | apply Kd.R_drew)); exact Kd.R_mono HO_505001.out (fun _ hk => ⟨hk.1.1.1, ⟨hk.1.1.2, hk.2⟩⟩)⟩, ⟨by (try simp only [hl499001_60]); (with_reducible repeat (first | apply Kd.R_alloc | apply Kd.R_drewN | apply Kd.R_drew)); exact Kd.R_mono HO524.out (fun _ hk => ⟨hk.1.1.1.2, ⟨hk.1.1.2, hk.1.2⟩⟩)⟩, ⟨by (try simp only [hl499001_60]); (with_reducible repeat (first | refine blk_drewN ?_ _ | refine blk_drew ?_ | refine blk_alloc ?_ _)); exact BK482.out⟩, ⟨by (try simp only [hl499001_60]); (with_reducible repeat (first | refine blk_drewN ?_ _ | refine blk_drew ?_ | refine blk_alloc ?_ _)); exact BK493.out⟩, ⟨by (try simp only [hl499001_60]); (with_reducible repeat (first | refine blk_drewN ?_ _ | refine blk_drew ?_ | refine blk_alloc ?_ _)); exact BK498.out⟩, ⟨by (try simp only [hl499001_60]); (with_reducible repeat (first | refine blk_drewN ?_ _ | refine blk_drew ?_ | refine blk_alloc ?_ _)); exact BK504.out⟩, ⟨by (try simp only [hl499001_60]); (with_reducible repeat (first | refine blk_drewN ?_ _ | refine blk_drew ?_ | refine blk_alloc ?_ _)); exact BK526.out⟩, ⟨by repeat (first | (with_reducible first | exact HB.out | apply below_alloc | apply pw_below_drewN | apply below_drew1 | refine below_set ?_ GE482.out | refine below_set ?_ GE493.out | refine below_set ?_ GE498.out | refine below_set ?_ GE504.out | refine below_set ?_ GE526.out) | exact HB.out)⟩⟩
            ·
             replace c126 := Bool.eq_false_iff.mpr c126
             subst c126
             have H1 : (laws_FnExactDropObjects.j2 kj60 t514 true t499 t515) = some r := q36_51
             clear H
             have H := H1
             clear H1
             have H' := Aside0.mk H
             clear H
             have hnb137 := NB526_482.out
             have hnc137 := NB482_526.out
             have hnb138 := NB526_493.out
             have hnc138 := NB493_526.out
             have hnb139 := NB526_498.out
             have hnc139 := NB498_526.out
             have hnb140 := NB526_504.out
             have hnc140 := NB504_526.out
             have hcz141_0 : w118.cell? ⟨gb526, 0, none⟩ = some (.int .i64 0) := (blk_cell BK526.out 0).trans rfl
             have hcz141_1 : w118.cell? ⟨gb526, 1, none⟩ = some (.slice none 0 0) := (blk_cell BK526.out 1).trans rfl
             have hfz141_0 := blk_frozen BK526.out 0
             have hfz141_1 := blk_frozen BK526.out 1
             have hnb142 := NB493_482.out
             have hnc142 := NB482_493.out
             have hnb143 := NB493_498.out
             have hnc143 := NB498_493.out
             have hnb144 := NB493_504.out
             have hnc144 := NB504_493.out
             have hcz145_0 : w118.cell? ⟨gb493, 0, none⟩ = some (.int .i64 t488) := (blk_cell BK493.out 0).trans rfl
             have hcz145_1 : w118.cell? ⟨gb493, 1, none⟩ = some (.slice Ao23 t489.length co23) := (blk_cell BK493.out 1).trans rfl
             have hfz145_0 := blk_frozen BK493.out 0
             have hfz145_1 := blk_frozen BK493.out 1
             go_wp2_with (first | ((with_reducible refine gate_callee (f := 19) rfl ?_); refine goesL_ (some 86) rfl rfl Try.func19 q36_53 rfl #[.agg #[.int .i64 t521, .slice Ao124 t522.length co124], .agg #[.int .i64 t488, .slice Ao23 t489.length co23]] rfl q36_35 ?_; (with_reducible refine (laws_eqContext.calls kj60 t521 _ _ t522 t488 _ _ t489 false _ ?side1 ?side2 ?side3 ?side4 A125.out).mono ?_); (case side1 => refine (Kd.R_reads' (e := 3) (base := w.heap.size) (ok := fun k_ => ((((True ∧ some k_ ≠ (.slice Ao23 t489.length co23 : Value).ownBlock) ∧ some k_ ≠ (.slice Ao30 t512.length co30 : Value).ownBlock) ∧ some k_ ≠ (.slice Ao37 t500.length co37 : Value).ownBlock) ∧ some k_ ≠ (.slice Ao116 t518.length co116 : Value).ownBlock)) (n := t522.length) (c := co124) ?_).2.2; exact q36_14); (case side2 => exact (Kd.R_reads' HO524.out).2.1); (case side3 => refine (Kd.R_reads' (e := 3) (base := w.heap.size) (ok := fun k_ => (((some k_ ≠ (.slice Ao30 t512.length co30 : Value).ownBlock ∧ some k_ ≠ (.slice Ao37 t500.length co37 : Value).ownBlock) ∧ some k_ ≠ (.slice Ao116 t518.length co116 : Value).ownBlock) ∧ some k_ ≠ (.slice Ao124 t522.length co124 : Value).ownBlock)) (n := t489.length) (c := co23) ?_).2.2; exact q36_10); (case side4 => exact (Kd.R_reads' HO_494001.out).2.1); rintro e w146 ⟨rfl, hb⟩; refine ⟨_, rfl, ?_⟩; have n0_ := Aside0.mk (Kd.R_below q36_10 hb); have n1_ := Aside0.mk (Kd.R_below q36_11 hb); have n2_ := Aside0.mk (Kd.R_below q36_12 hb); have n3_ := Aside0.mk (Kd.R_below q36_13 hb); have n4_ := Aside0.mk (Kd.R_below q36_14 hb); have n5_ := Aside0.mk (blk_below (g := gb482) (o := .cells #[.int .i64 a0_0, .slice A0_1 l0_1.length c0_1] 24 (0, 0)) q36_4 hb); have n6_ := Aside0.mk (blk_below (g := gb493) (o := .cells #[.int .i64 t488, .slice Ao23 t489.length co23] 27 (0, 0)) q36_6 hb); have n7_ := Aside0.mk (blk_below (g := gb498) (o := .cells #[.int .i64 t494, .slice Ao30 t512.length co30] 27 (0, 0)) q36_8 hb); have n8_ := Aside0.mk (blk_below (g := gb504) (o := .cells #[.int .i64 t499, .slice Ao37 t500.length co37] 27 (0, 0)) q36_9 hb); have n9_ := Aside0.mk (blk_below (g := gb526) (o := .cells #[.int .i64 t521, .slice Ao124 t522.length co124] 27 (0, 0)) q36_2 hb); have n10_ := Aside0.mk (below_step q36_24 hb); clear HO_494001; clear HO_499001; clear HO_505001; clear HO520; clear HO524; clear BK482; clear BK493; clear BK498; clear BK504; clear BK526; clear HB; have HO_494001 := n0_; have HO_499001 := n1_; have HO_505001 := n2_; have HO520 := n3_; have HO524 := n4_; have BK482 := n5_; have BK493 := n6_; have BK498 := n7_; have BK504 := n8_; have BK526 := n9_; have HB := n10_; clear n0_ n1_ n2_ n3_ n4_ n5_ n6_ n7_ n8_ n9_ n10_; (try clear hb); (try clear hb2); (try clear hk); (try clear hi)))
             go_meet
             case rel => exact ⟨_, (true), q36_50, H', ⟨by have := HJ11.out; have := HJ60.out; first | omega | exact Nat.le_refl _⟩, ⟨by (try simp only [hl499001_60]); (with_reducible repeat (first | apply Kd.R_alloc | apply Kd.R_drewN | apply Kd.R_drew)); exact Kd.R_mono HO_494001.out (fun _ hk => ⟨hk.1.1.1, ⟨hk.1.1.2, hk.2⟩⟩)⟩, ⟨by (try simp only [hl499001_60]); (with_reducible repeat (first | apply Kd.R_alloc | apply Kd.R_drewN | apply Kd.R_drew)); exact Kd.R_mono HO_499001.out (fun _ hk => ⟨hk.1.1.1, ⟨hk.1.1.2, hk.2⟩⟩)⟩, ⟨by (try simp only [hl499001_60]); (with_reducible repeat (first | apply Kd.R_alloc | apply Kd.R_drewN | apply Kd.R_drew)); exact Kd.R_mono HO_505001.out (fun _ hk => ⟨hk.1.1.1, ⟨hk.1.1.2, hk.2⟩⟩)⟩, ⟨by (try simp only [hl499001_60]); (with_reducible repeat (first | apply Kd.R_alloc | apply Kd.R_drewN | apply Kd.R_drew)); exact Kd.R_mono HO524.out (fun _ hk => ⟨hk.1.1.1.2, ⟨hk.1.1.2, hk.1.2⟩⟩)⟩, ⟨by (try simp only [hl499001_60]); (with_reducible repeat (first | refine blk_drewN ?_ _ | refine blk_drew ?_ | refine blk_alloc ?_ _)); exact BK482.out⟩, ⟨by (try simp only [hl499001_60]); (with_reducible repeat (first | refine blk_drewN ?_ _ | refine blk_drew ?_ | refine blk_alloc ?_ _)); exact BK493.out⟩, ⟨by (try simp only [hl499001_60]); (with_reducible repeat (first | refine blk_drewN ?_ _ | refine blk_drew ?_ | refine blk_alloc ?_ _)); exact BK498.out⟩, ⟨by (try simp only [hl499001_60]); (with_reducible repeat (first | refine blk_drewN ?_ _ | refine blk_drew ?_ | refine blk_alloc ?_ _)); exact BK504.out⟩, ⟨by (try simp only [hl499001_60]); (with_reducible repeat (first | refine blk_drewN ?_ _ | refine blk_drew ?_ | refine blk_alloc ?_ _)); exact BK526.out⟩, ⟨by repeat (first | (with_reducible first | exact HB.out | apply below_alloc | apply pw_below_drewN | apply below_drew1 | refine below_set ?_ GE482.out | refine below_set ?_ GE493.out | refine below_set ?_ GE498.out | refine below_set ?_ GE504.out | refine below_set ?_ GE526.out) | exact HB.out)⟩⟩
           case rest =>
            clear HC104
            try clear c1
            try clear c2
            try clear p2
            try clear c3
            try clear c4
            try clear c4b0
            try clear c5
            try clear c6
            try clear c7
            try clear c8
            try clear c9
            try clear c10
            try clear c11
            try clear c12
            try clear c13
            try clear c14
            try clear c15
            try clear c17
            try clear c19
            try clear c21
            try clear c27
            try clear c28
            try clear c33
            try clear c34
            try clear c35
            try clear c36
            try clear c37
            try clear c38
            try clear c39
            try clear c40
            try clear c41
            try clear c42
            try clear c44
            try clear c45
            try clear c48
            try clear c49
            try clear c50
            try clear c52
            try clear c53
            try clear c56
            try clear c59
            try clear c66
            try clear c67
            try clear c68
            try clear c71
            try clear c71b0
            try clear c73
            try clear c74
            try clear c75
            try clear c76
            try clear c78
            try clear c79
            try clear c82
            try clear c83
            try clear c84
            try clear c86
            try clear c87
            try clear c90
            try clear c93
            try clear c93b0
            try clear c94
            try clear c95
            try clear c96
            try clear c101
            try clear c101b0
            try clear c101b1
            try clear c105
            try clear c106
            try clear c107
            try clear c112
            try clear c113
            try clear c119
            try clear c120
            try clear c121
            try clear c122
            try clear c126
            try clear c127
            try clear c128
            try clear c129
            try clear c130
            try clear c132
            try clear c133
            try clear c134
            try clear c137
            try clear c138
            try clear c139
            try clear c140
            try clear c142
            try clear c143
            try clear c144
            try clear hcz108_0
            try clear hcz108_1
            try clear hcz110_0
            try clear hcz110_1
            try clear hcz114_0
            try clear hcz114_1
            try clear hcz123_0
            try clear hcz123_1
            try clear hcz131_0
            try clear hcz131_1
            try clear hcz135_0
            try clear hcz135_1
            try clear hcz141_0
            try clear hcz141_1
            try clear hcz145_0
            try clear hcz145_1
            try clear hcz14_0
            try clear hcz14_1
            try clear hcz16_0
            try clear hcz16_1
            try clear hcz22_0
            try clear hcz22_1
            try clear hcz24_0
            try clear hcz24_1
            try clear hcz29_0
            try clear hcz29_1
            try clear hcz36_0
            try clear hcz36_1
            try clear hcz43_0
            try clear hcz43_1
            try clear hcz46_0
            try clear hcz46_1
            try clear hcz51_0
            try clear hcz51_1
            try clear hcz54_0
            try clear hcz54_1
            try clear hcz69_0
            try clear hcz69_1
            try clear hcz6_0
            try clear hcz6_1
            try clear hcz77_0
            try clear hcz77_1
            try clear hcz80_0
            try clear hcz80_1
            try clear hcz85_0
            try clear hcz85_1
            try clear hcz88_0
            try clear hcz88_1
            try clear hcz97_0
            try clear hcz97_1
            try clear hcz99_0
            try clear hcz99_1
            try clear hfz108_0
            try clear hfz108_1
            try clear hfz110_0
            try clear hfz110_1
            try clear hfz114_0
            try clear hfz114_1
            try clear hfz123_0
            try clear hfz123_1
            try clear hfz131_0
            try clear hfz131_1
            try clear hfz135_0
            try clear hfz135_1
            try clear hfz141_0
            try clear hfz141_1
            try clear hfz145_0
            try clear hfz145_1
            try clear hfz14_0
            try clear hfz14_1
            try clear hfz16_0
            try clear hfz16_1
            try clear hfz22_0
            try clear hfz22_1
            try clear hfz24_0
            try clear hfz24_1
            try clear hfz29_0
            try clear hfz29_1
            try clear hfz36_0
            try clear hfz36_1
            try clear hfz43_0
            try clear hfz43_1
            try clear hfz46_0
            try clear hfz46_1
            try clear hfz51_0
            try clear hfz51_1
            try clear hfz54_0
            try clear hfz54_1
            try clear hfz69_0
            try clear hfz69_1
            try clear hfz6_0
            try clear hfz6_1
            try clear hfz77_0
            try clear hfz77_1
            try clear hfz80_0
            try clear hfz80_1
            try clear hfz85_0
            try clear hfz85_1
            try clear hfz88_0
            try clear hfz88_1
            try clear hfz97_0
            try clear hfz97_1
            try clear hfz99_0
            try clear hfz99_1
            try clear p2
            obtain ⟨kq, x92_103, rfl, HA, HJ103, HO_494001, HO_499001, HO_505001, HO_527001, BK482, BK493, BK498, BK504, BK526, HB⟩ := hcut
            have hl505001_103 := (Kd.R_reads' HO_505001.out).1
            rw [hl505001_103] at HO_505001
            (try simp only [hl505001_103])
            (try simp only [hl505001_103] at BK482)
            (try simp only [hl505001_103] at BK493)
            (try simp only [hl505001_103] at BK498)
            (try simp only [hl505001_103] at BK504)
            (try simp only [hl505001_103] at BK526)
            (try simp only [hl505001_103] at HO_494001)
            (try simp only [hl505001_103] at HO_499001)
            (try simp only [hl505001_103] at HO_527001)
            cases kq with
            | zero => exact absurd HA.out (by simp [laws_FnExactDropObjects.j2])
            | succ kj103 =>
             have H := HA.out
             clear HA
             simp only [laws_FnExactDropObjects.j2] at H
             by_cases c147 : x92_103 = true
             ·
              subst c147
              have H1 : (some false) = some r := q36_52
              clear H
              have H := H1
              clear H1
              obtain rfl := Option.some.inj H
              go_wp2
              go_ret
              exact ⟨by first | rfl | (simp [errW_none, errW_some] <;> rfl) | (simp [*, errW_none, errW_some] <;> rfl), by repeat (first | (with_reducible first | exact HB.out | apply below_alloc | apply pw_below_drewN | apply below_drew1 | refine below_set ?_ GE482.out | refine below_set ?_ GE493.out | refine below_set ?_ GE498.out | refine below_set ?_ GE504.out | refine below_set ?_ GE526.out) | exact HB.out)⟩
             ·
              replace c147 := Bool.eq_false_iff.mpr c147
              subst c147
              have H1 : ((laws_heldContext.f kj103 t499 t515 1).bind fun t528 => (if t528 < 0 then (some false) else (if t528 = t514 then (some true) else (some false)))) = some r := q36_51
              clear H
              have H := H1
              clear H1
              replace H := Option.bind_eq_some_iff.mp H
              obtain ⟨t528, A1480, H⟩ := H
              replace H : (if t528 < 0 then (some false) else (if t528 = t514 then (some true) else (some false))) = some r := H
              have A148 := Aside0.mk A1480
              clear A1480
              by_cases c149 : t528 < 0
              ·
               rw [if_pos c149] at H
               have c149b0 : decide (t528 < 0) = true := decide_eq_true c149
               clear c149
               obtain rfl := Option.some.inj H
               have hnb150 := NB504_482.out
               have hnc150 := NB482_504.out
               have hnb151 := NB504_493.out
               have hnc151 := NB493_504.out
               have hnb152 := NB504_498.out
               have hnc152 := NB498_504.out
               have hnb153 := NB504_526.out
               have hnc153 := NB526_504.out
               have hcz154_0 : wc.cell? ⟨gb504, 0, none⟩ = some (.int .i64 t499) := (blk_cell BK504.out 0).trans rfl
               have hcz154_1 : wc.cell? ⟨gb504, 1, none⟩ = some (.slice Ao37 t515.length co37) := (blk_cell BK504.out 1).trans rfl
               have hfz154_0 := blk_frozen BK504.out 0
               have hfz154_1 := blk_frozen BK504.out 1
               go_wp2_with (first | ((with_reducible refine gate_callee (f := 38) rfl ?_); refine goesL_ (some 95) rfl rfl Try.func38 q36_53 rfl #[.agg #[.int .i64 t499, .slice Ao37 t515.length co37], .int .i64 1] rfl q36_35 ?_; (with_reducible refine (laws_heldContext.calls kj103 t499 _ _ t515 1 t528 _ ?side1 ?side2 A148.out).mono ?_); (case side1 => exact q36_31); (case side2 => exact (Kd.R_reads' HO_505001.out).2.1); rintro e w155 ⟨rfl, hb⟩; refine ⟨_, rfl, ?_⟩; have n0_ := Aside0.mk (Kd.R_below q36_42 hb); have n1_ := Aside0.mk (Kd.R_below q36_43 hb); have n2_ := Aside0.mk (Kd.R_below q36_44 hb); have n3_ := Aside0.mk (Kd.R_below q36_45 hb); have n4_ := Aside0.mk (blk_below (g := gb482) (o := .cells #[.int .i64 a0_0, .slice A0_1 l0_1.length c0_1] 24 (0, 0)) q36_37 hb); have n5_ := Aside0.mk (blk_below (g := gb493) (o := .cells #[.int .i64 t488, .slice Ao23 t489.length co23] 27 (0, 0)) q36_38 hb); have n6_ := Aside0.mk (blk_below (g := gb498) (o := .cells #[.int .i64 t494, .slice Ao30 t512.length co30] 27 (0, 0)) q36_39 hb); have n7_ := Aside0.mk (blk_below (g := gb504) (o := .cells #[.int .i64 t499, .slice Ao37 t515.length co37] 27 (0, 0)) q36_40 hb); have n8_ := Aside0.mk (blk_below (g := gb526) (o := .cells #[.int .i64 t521, .slice Ao124 t522.length co124] 27 (0, 0)) q36_41 hb); have n9_ := Aside0.mk (below_step q36_24 hb); clear HO_494001; clear HO_499001; clear HO_505001; clear HO_527001; clear BK482; clear BK493; clear BK498; clear BK504; clear BK526; clear HB; have HO_494001 := n0_; have HO_499001 := n1_; have HO_505001 := n2_; have HO_527001 := n3_; have BK482 := n4_; have BK493 := n5_; have BK498 := n6_; have BK504 := n7_; have BK526 := n8_; have HB := n9_; clear n0_ n1_ n2_ n3_ n4_ n5_ n6_ n7_ n8_ n9_; (try clear hb); (try clear hb2); (try clear hk); (try clear hi)))
               go_ret
               exact ⟨by first | rfl | (simp [errW_none, errW_some] <;> rfl) | (simp [*, errW_none, errW_some] <;> rfl), by repeat (first | (with_reducible first | exact HB.out | apply below_alloc | apply pw_below_drewN | apply below_drew1 | refine below_set ?_ GE482.out | refine below_set ?_ GE493.out | refine below_set ?_ GE498.out | refine below_set ?_ GE504.out | refine below_set ?_ GE526.out) | exact HB.out)⟩
              ·
               rw [if_neg c149] at H
               have c149b0 : decide (t528 < 0) = false := decide_eq_false c149
               clear c149
               by_cases c156 : t528 = t514
               ·
                rw [if_pos c156] at H
                have c156b0 : (t528 == t514) = true := beq_iff_eq.mpr c156
                have c156b1 : (t528 != t514) = false := bne_eq_false_iff_eq.mpr c156
                clear c156
                obtain rfl := Option.some.inj H
                have hnb157 := NB504_482.out
                have hnc157 := NB482_504.out
                have hnb158 := NB504_493.out
                have hnc158 := NB493_504.out
                have hnb159 := NB504_498.out
                have hnc159 := NB498_504.out
                have hnb160 := NB504_526.out
                have hnc160 := NB526_504.out
                have hcz161_0 : wc.cell? ⟨gb504, 0, none⟩ = some (.int .i64 t499) := (blk_cell BK504.out 0).trans rfl
                have hcz161_1 : wc.cell? ⟨gb504, 1, none⟩ = some (.slice Ao37 t515.length co37) := (blk_cell BK504.out 1).trans rfl
                have hfz161_0 := blk_frozen BK504.out 0
                have hfz161_1 := blk_frozen BK504.out 1
                go_wp2_with (first | ((with_reducible refine gate_callee (f := 38) rfl ?_); refine goesL_ (some 95) rfl rfl Try.func38 q36_53 rfl #[.agg #[.int .i64 t499, .slice Ao37 t515.length co37], .int .i64 1] rfl q36_35 ?_; (with_reducible refine (laws_heldContext.calls kj103 t499 _ _ t515 1 t528 _ ?side1 ?side2 A148.out).mono ?_); (case side1 => exact q36_31); (case side2 => exact (Kd.R_reads' HO_505001.out).2.1); rintro e w162 ⟨rfl, hb⟩; refine ⟨_, rfl, ?_⟩; have n0_ := Aside0.mk (Kd.R_below q36_42 hb); have n1_ := Aside0.mk (Kd.R_below q36_43 hb); have n2_ := Aside0.mk (Kd.R_below q36_44 hb); have n3_ := Aside0.mk (Kd.R_below q36_45 hb); have n4_ := Aside0.mk (blk_below (g := gb482) (o := .cells #[.int .i64 a0_0, .slice A0_1 l0_1.length c0_1] 24 (0, 0)) q36_37 hb); have n5_ := Aside0.mk (blk_below (g := gb493) (o := .cells #[.int .i64 t488, .slice Ao23 t489.length co23] 27 (0, 0)) q36_38 hb); have n6_ := Aside0.mk (blk_below (g := gb498) (o := .cells #[.int .i64 t494, .slice Ao30 t512.length co30] 27 (0, 0)) q36_39 hb); have n7_ := Aside0.mk (blk_below (g := gb504) (o := .cells #[.int .i64 t499, .slice Ao37 t515.length co37] 27 (0, 0)) q36_40 hb); have n8_ := Aside0.mk (blk_below (g := gb526) (o := .cells #[.int .i64 t521, .slice Ao124 t522.length co124] 27 (0, 0)) q36_41 hb); have n9_ := Aside0.mk (below_step q36_24 hb); clear HO_494001; clear HO_499001; clear HO_505001; clear HO_527001; clear BK482; clear BK493; clear BK498; clear BK504; clear BK526; clear HB; have HO_494001 := n0_; have HO_499001 := n1_; have HO_505001 := n2_; have HO_527001 := n3_; have BK482 := n4_; have BK493 := n5_; have BK498 := n6_; have BK504 := n7_; have BK526 := n8_; have HB := n9_; clear n0_ n1_ n2_ n3_ n4_ n5_ n6_ n7_ n8_ n9_; (try clear hb); (try clear hb2); (try clear hk); (try clear hi)))
                go_ret
                exact ⟨by first | rfl | (simp [errW_none, errW_some] <;> rfl) | (simp [*, errW_none, errW_some] <;> rfl), by repeat (first | (with_reducible first | exact HB.out | apply below_alloc | apply pw_below_drewN | apply below_drew1 | refine below_set ?_ GE482.out | refine below_set ?_ GE493.out | refine below_set ?_ GE498.out | refine below_set ?_ GE504.out | refine below_set ?_ GE526.out) | exact HB.out)⟩
               ·
                rw [if_neg c156] at H
                have c156b0 : (t528 == t514) = false := beq_eq_false_iff_ne.mpr c156
                have c156b1 : (t528 != t514) = true := bne_iff_ne.mpr c156
                obtain rfl := Option.some.inj H
                have hnb163 := NB504_482.out
                have hnc163 := NB482_504.out
                have hnb164 := NB504_493.out
                have hnc164 := NB493_504.out
                have hnb165 := NB504_498.out
                have hnc165 := NB498_504.out
                have hnb166 := NB504_526.out
                have hnc166 := NB526_504.out
                have hcz167_0 : wc.cell? ⟨gb504, 0, none⟩ = some (.int .i64 t499) := (blk_cell BK504.out 0).trans rfl
                have hcz167_1 : wc.cell? ⟨gb504, 1, none⟩ = some (.slice Ao37 t515.length co37) := (blk_cell BK504.out 1).trans rfl
                have hfz167_0 := blk_frozen BK504.out 0
                have hfz167_1 := blk_frozen BK504.out 1
                go_wp2_with (first | ((with_reducible refine gate_callee (f := 38) rfl ?_); refine goesL_ (some 95) rfl rfl Try.func38 q36_53 rfl #[.agg #[.int .i64 t499, .slice Ao37 t515.length co37], .int .i64 1] rfl q36_35 ?_; (with_reducible refine (laws_heldContext.calls kj103 t499 _ _ t515 1 t528 _ ?side1 ?side2 A148.out).mono ?_); (case side1 => exact q36_31); (case side2 => exact (Kd.R_reads' HO_505001.out).2.1); rintro e w168 ⟨rfl, hb⟩; refine ⟨_, rfl, ?_⟩; have n0_ := Aside0.mk (Kd.R_below q36_42 hb); have n1_ := Aside0.mk (Kd.R_below q36_43 hb); have n2_ := Aside0.mk (Kd.R_below q36_44 hb); have n3_ := Aside0.mk (Kd.R_below q36_45 hb); have n4_ := Aside0.mk (blk_below (g := gb482) (o := .cells #[.int .i64 a0_0, .slice A0_1 l0_1.length c0_1] 24 (0, 0)) q36_37 hb); have n5_ := Aside0.mk (blk_below (g := gb493) (o := .cells #[.int .i64 t488, .slice Ao23 t489.length co23] 27 (0, 0)) q36_38 hb); have n6_ := Aside0.mk (blk_below (g := gb498) (o := .cells #[.int .i64 t494, .slice Ao30 t512.length co30] 27 (0, 0)) q36_39 hb); have n7_ := Aside0.mk (blk_below (g := gb504) (o := .cells #[.int .i64 t499, .slice Ao37 t515.length co37] 27 (0, 0)) q36_40 hb); have n8_ := Aside0.mk (blk_below (g := gb526) (o := .cells #[.int .i64 t521, .slice Ao124 t522.length co124] 27 (0, 0)) q36_41 hb); have n9_ := Aside0.mk (below_step q36_24 hb); clear HO_494001; clear HO_499001; clear HO_505001; clear HO_527001; clear BK482; clear BK493; clear BK498; clear BK504; clear BK526; clear HB; have HO_494001 := n0_; have HO_499001 := n1_; have HO_505001 := n2_; have HO_527001 := n3_; have BK482 := n4_; have BK493 := n5_; have BK498 := n6_; have BK504 := n7_; have BK526 := n8_; have HB := n9_; clear n0_ n1_ n2_ n3_ n4_ n5_ n6_ n7_ n8_ n9_; (try clear hb); (try clear hb2); (try clear hk); (try clear hi)))
                go_ret
                exact ⟨by first | rfl | (simp [errW_none, errW_some] <;> rfl) | (simp [*, errW_none, errW_some] <;> rfl), by repeat (first | (with_reducible first | exact HB.out | apply below_alloc | apply pw_below_drewN | apply below_drew1 | refine below_set ?_ GE482.out | refine below_set ?_ GE493.out | refine below_set ?_ GE498.out | refine below_set ?_ GE504.out | refine below_set ?_ GE526.out) | exact HB.out)⟩
          ·
           rw [if_neg c101] at H
           have c101b0 : (t516 == t514) = false := beq_eq_false_iff_ne.mpr c101
           have c101b1 : (t516 != t514) = true := bne_iff_ne.mpr c101
           obtain rfl := Option.some.inj H
           have hnb169 := NB504_482.out
           have hnc169 := NB482_504.out
           have hnb170 := NB504_493.out
           have hnc170 := NB493_504.out
           have hnb171 := NB504_498.out
           have hnc171 := NB498_504.out
           have hcz172_0 : wc.cell? ⟨gb504, 0, none⟩ = some (.int .i64 t499) := (blk_cell BK504.out 0).trans rfl
           have hcz172_1 : wc.cell? ⟨gb504, 1, none⟩ = some (.slice Ao37 t500.length co37) := (blk_cell BK504.out 1).trans rfl
           have hfz172_0 := blk_frozen BK504.out 0
           have hfz172_1 := blk_frozen BK504.out 1
           go_wp2_with (first | ((with_reducible refine gate_callee (f := 37) rfl ?_); refine goesL_ (some 68) rfl rfl Try.func37 q36_53 rfl #[.agg #[.int .i64 t499, .slice Ao37 t500.length co37], .int .i64 1] rfl q36_35 ?_; (with_reducible refine (laws_markContext.calls kj60 t499 (fun k_ => some k_ = (.slice Ao37 t500.length co37 : Value).ownBlock) (.slice Ao37 t500.length co37) t500 1 t514 t515 w _ ?side1 ?side2 A91.out).mono ?_); (case side1 => exact q36_25); (case side2 => exact Kd.R_tight rfl HO_505001.out); rintro e w173 ⟨rfl, hy0, hb, hkp⟩; refine ⟨_, rfl, ?_⟩; have n0_ := Aside0.mk (Kd.R_mono (ok' := fun k_ => some k_ ≠ (.slice Ao30 t512.length co30 : Value).ownBlock ∧ some k_ ≠ (.slice Ao37 t500.length co37 : Value).ownBlock) (Kd.R_keptB (HO_494001.out) hkp (fun k_ hk_ hs_ => (hk_.2) hs_)) (fun k_ hk_ => ⟨hk_.1.1, hk_.1.2⟩)); have n1_ := Aside0.mk (Kd.R_mono (ok' := fun k_ => some k_ ≠ (.slice Ao23 t489.length co23 : Value).ownBlock ∧ some k_ ≠ (.slice Ao37 t500.length co37 : Value).ownBlock) (Kd.R_keptB (HO_499001.out) hkp (fun k_ hk_ hs_ => (hk_.2) hs_)) (fun k_ hk_ => ⟨hk_.1.1, hk_.1.2⟩)); have n2_ := Aside0.mk (Kd.R_reok rfl hy0 (fun k_ e_ => HO_505001.out.1 k_ e_)); have n3_ := Aside0.mk (blk_kept q36_37 hkp (fun hs_ => (fun e_ => (Kd.R_ne HO_505001.out BK482.out (by decide)) e_) hs_)); have n4_ := Aside0.mk (blk_kept q36_38 hkp (fun hs_ => (fun e_ => (Kd.R_ne HO_505001.out BK493.out (by decide)) e_) hs_)); have n5_ := Aside0.mk (blk_kept q36_39 hkp (fun hs_ => (fun e_ => (Kd.R_ne HO_505001.out BK498.out (by decide)) e_) hs_)); have n6_ := Aside0.mk (blk_kept q36_40 hkp (fun hs_ => (fun e_ => (Kd.R_ne HO_505001.out BK504.out (by decide)) e_) hs_)); have n7_ := Aside0.mk (hb); clear HO_494001; clear HO_499001; clear HO_505001; clear BK482; clear BK493; clear BK498; clear BK504; clear HB; have HO_494001 := n0_; have HO_499001 := n1_; have HO_505001 := n2_; have BK482 := n3_; have BK493 := n4_; have BK498 := n5_; have BK504 := n6_; have HB := n7_; clear n0_ n1_ n2_ n3_ n4_ n5_ n6_ n7_; (try clear hb); (try clear hkp); (try clear hy0); have hcz174_0 : w173.cell? ⟨gb504, 0, none⟩ = some (.int .i64 t499) := (blk_cell BK504.out 0).trans rfl; have hcz174_1 : w173.cell? ⟨gb504, 1, none⟩ = some (.slice Ao37 t500.length co37) := (blk_cell BK504.out 1).trans rfl; have hfz174_0 := blk_frozen BK504.out 0; have hfz174_1 := blk_frozen BK504.out 1) | ((with_reducible refine gate_callee (f := 38) rfl ?_); refine goesL_ (some 71) rfl rfl Try.func38 q36_53 rfl #[.agg #[.int .i64 t499, .slice Ao37 t515.length co37], .int .i64 1] rfl q36_27 ?_; (with_reducible refine (laws_heldContext.calls kj60 t499 _ _ t515 1 t516 _ ?side1 ?side2 A92.out).mono ?_); (case side1 => exact q36_31); (case side2 => rw [show t515.length = t500.length from (Kd.R_reads' HO_505001.out).1.symm]; exact (Kd.R_reads' HO_505001.out).2.1); rintro e w175 ⟨rfl, hb⟩; refine ⟨_, rfl, ?_⟩; have n0_ := Aside0.mk (Kd.R_below q36_42 hb); have n1_ := Aside0.mk (Kd.R_below q36_43 hb); have n2_ := Aside0.mk (Kd.R_below q36_44 hb); have n3_ := Aside0.mk (blk_below (g := gb482) (o := .cells #[.int .i64 a0_0, .slice A0_1 l0_1.length c0_1] 24 (0, 0)) q36_37 hb); have n4_ := Aside0.mk (blk_below (g := gb493) (o := .cells #[.int .i64 t488, .slice Ao23 t489.length co23] 27 (0, 0)) q36_38 hb); have n5_ := Aside0.mk (blk_below (g := gb498) (o := .cells #[.int .i64 t494, .slice Ao30 t512.length co30] 27 (0, 0)) q36_39 hb); have n6_ := Aside0.mk (blk_below (g := gb504) (o := .cells #[.int .i64 t499, .slice Ao37 t500.length co37] 27 (0, 0)) q36_40 hb); have n7_ := Aside0.mk (below_step q36_25 hb); clear HO_494001; clear HO_499001; clear HO_505001; clear BK482; clear BK493; clear BK498; clear BK504; clear HB; have HO_494001 := n0_; have HO_499001 := n1_; have HO_505001 := n2_; have BK482 := n3_; have BK493 := n4_; have BK498 := n5_; have BK504 := n6_; have HB := n7_; clear n0_ n1_ n2_ n3_ n4_ n5_ n6_ n7_; (try clear hb); (try clear hb2); (try clear hk); (try clear hi)))
           go_ret
           exact ⟨by first | rfl | (simp [errW_none, errW_some] <;> rfl) | (simp [*, errW_none, errW_some] <;> rfl), by repeat (first | (with_reducible first | exact HB.out | apply below_alloc | apply pw_below_drewN | apply below_drew1 | refine below_set ?_ GE482.out | refine below_set ?_ GE493.out | refine below_set ?_ GE498.out | refine below_set ?_ GE504.out) | exact HB.out)⟩
     ·
      replace c59 := Bool.eq_false_iff.mpr c59
      subst c59
      have H1 : (some false) = some r := q36_51
      clear H
      have H := H1
      clear H1
      obtain rfl := Option.some.inj H
      try go_wp2
      have n0_ := Aside0.mk (Kd.R_drew HO_494001.out)
      have n1_ := Aside0.mk (Kd.R_drew HO_499001.out)
      have n2_ := Aside0.mk (Kd.R_drew HO_505001.out)
      have n3_ := Aside0.mk (blk_drew BK482.out)
      have n4_ := Aside0.mk (blk_drew BK493.out)
      have n5_ := Aside0.mk (blk_drew BK498.out)
      have n6_ := Aside0.mk (blk_drew BK504.out)
      have n7_ := Aside0.mk (below_drew1 HB.out)
      clear HO_494001
      clear HO_499001
      clear HO_505001
      clear BK482
      clear BK493
      clear BK498
      clear BK504
      clear HB
      have HO_494001 := n0_
      have HO_499001 := n1_
      have HO_505001 := n2_
      have BK482 := n3_
      have BK493 := n4_
      have BK498 := n5_
      have BK504 := n6_
      have HB := n7_
      clear n0_ n1_ n2_ n3_ n4_ n5_ n6_ n7_
      refine start_ (n := 5) (S := fun w' => w'.cell? ⟨gb498, 0, none⟩ = some (.int .i64 t494) ∧ w'.cell? ⟨gb498, 1, none⟩ = some (.slice Ao30 t495.length co30) ∧ w'.cell? ⟨gb482, 0, none⟩ = some (.int .i64 a0_0) ∧ w'.cell? ⟨gb482, 1, none⟩ = some (.slice A0_1 l0_1.length c0_1)) (ds := []) #[false, false, false, false, false] q36_53 rfl rfl ⟨(blk_cell BK498.out 0).trans rfl, (blk_cell BK498.out 1).trans rfl, (blk_cell BK482.out 0).trans rfl, (blk_cell BK482.out 1).trans rfl⟩ (fun hHeld => ?_)
      generalize wc.drew = w176 at HO_494001 HO_499001 HO_505001 BK482 BK493 BK498 BK504 HB hHeld ⊢
      refine take_ (i := 0) (N := some 45) (v := ?_) (a' := ?_) #[true, false, false, false, false] rfl rfl q36_53 (fun _ _ _ h => h) (Or.inl ⟨by rfl, ?_⟩) hHeld ?_ ?_
      rotate_left
      ·
       rintro w' ⟨s0, s1, s2, s3⟩
       go_simp
       with_reducible rfl
      rotate_left
      ·
       exact put36_
      refine take_ (i := 1) (N := some 46) (v := ?_) (a' := ?_) #[true, true, false, false, false] rfl rfl q36_53 (fun _ _ _ h => h) (Or.inl ⟨by rfl, ?_⟩) hHeld ?_ ?_
      rotate_left
      ·
       rintro w' ⟨s0, s1, s2, s3⟩
       go_simp
       with_reducible rfl
      rotate_left
      ·
       exact put36_
      refine one_ (i := 2) (N := some 47) #[true, true, true, false, false] rfl rfl q36_53 (by decide) (fun K hK => ?_)
      refine goes_ Try.func17 q36_53 rfl #[.agg #[.int .i64 a0_0, .slice A0_1 l0_1.length c0_1]] (by rfl) rfl rfl q36_35 ?_
      with_reducible refine (laws_toContext.calls kj11 a0_0 _ _ l0_1 t506 t507 _ ?side1 ?side2 A57.out).mono ?_
      (case side1 => exact q36_32)
      (case side2 => exact HC0_1.out)
      rintro e w177 ⟨v508, rfl, ho0, hb⟩
      refine ⟨_, rfl, ?_⟩
      have n0_ := Aside0.mk (Kd.R_elder' q36_42 (Kd.R_base ho0) hb)
      have n1_ := Aside0.mk (Kd.R_elder' q36_43 (Kd.R_base ho0) hb)
      have n2_ := Aside0.mk (Kd.R_elder' q36_44 (Kd.R_base ho0) hb)
      have n3_ := Aside0.mk (Kd.R_lower (Kd.R_new' (Kd.R_new' (Kd.R_new' ho0 (Kd.R_lt q36_42)) (Kd.R_lt q36_43)) (Kd.R_lt q36_44)) (below_size q36_25))
      have n4_ := Aside0.mk (blk_below (g := gb482) (o := .cells #[.int .i64 a0_0, .slice A0_1 l0_1.length c0_1] 24 (0, 0)) q36_37 hb)
      have n5_ := Aside0.mk (blk_below (g := gb493) (o := .cells #[.int .i64 t488, .slice Ao23 t489.length co23] 27 (0, 0)) q36_38 hb)
      have n6_ := Aside0.mk (blk_below (g := gb498) (o := .cells #[.int .i64 t494, .slice Ao30 t495.length co30] 27 (0, 0)) q36_39 hb)
      have n7_ := Aside0.mk (blk_below (g := gb504) (o := .cells #[.int .i64 t499, .slice Ao37 t500.length co37] 27 (0, 0)) q36_40 hb)
      have n8_ := Aside0.mk (below_step q36_25 hb)
      clear HO_494001
      clear HO_499001
      clear HO_505001
      clear BK482
      clear BK493
      clear BK498
      clear BK504
      clear HB
      have HO_494001 := n0_
      have HO_499001 := n1_
      have HO_505001 := n2_
      have HO509 := n3_
      have BK482 := n4_
      have BK493 := n5_
      have BK498 := n6_
      have BK504 := n7_
      have HB := n8_
      clear n0_ n1_ n2_ n3_ n4_ n5_ n6_ n7_ n8_
      (try clear hb)
      (try clear hb2)
      (try clear hk)
      (try clear hi)
      (try clear ho0)
      obtain ⟨Ao178, co178, eo178⟩ := Kd.R_slice HO509.out
      (first | subst eo178 | (injection eo178 with f1_ f2_ f3_; have f4_ := f1_.symm; have f5_ := f3_.symm; clear f1_ f2_ f3_; subst f4_; subst f5_))
      refine hK.out _ _ ⟨(blk_cell BK498.out 0).trans rfl, (blk_cell BK498.out 1).trans rfl, (blk_cell BK482.out 0).trans rfl, (blk_cell BK482.out 1).trans rfl⟩ (fun hHeld => ?_)
      clear hK K
      refine norm_ (a' := ?_) ?_ ?_
      rotate_left
      ·
       show Act.put _ (some 47) _ = _
       exact put36_
      refine one_ (i := 3) (N := some 48) #[true, true, true, true, false] rfl rfl q36_53 (by decide) (fun K hK => ?_)
      refine goes_ Try.func19 q36_53 rfl #[.agg #[.int .i64 t494, .slice Ao30 t495.length co30], .agg #[.int .i64 t506, .slice Ao178 t507.length co178]] (by rfl) rfl rfl q36_35 ?_
      with_reducible refine (laws_eqContext.calls kj11 t494 _ _ t495 t506 _ _ t507 false _ ?side1 ?side2 ?side3 ?side4 A58.out).mono ?_
      (case side1 => exact q36_30)
      (case side2 => exact (Kd.R_reads' HO_499001.out).2.1)
      (case side3 => exact q36_33)
      (case side4 => exact (Kd.R_reads' HO509.out).2.1)
      rintro e w179 ⟨rfl, hb⟩
      refine ⟨_, rfl, ?_⟩
      have n0_ := Aside0.mk (Kd.R_below q36_42 hb)
      have n1_ := Aside0.mk (Kd.R_below q36_43 hb)
      have n2_ := Aside0.mk (Kd.R_below q36_44 hb)
      have n3_ := Aside0.mk (Kd.R_below q36_48 hb)
      have n4_ := Aside0.mk (blk_below (g := gb482) (o := .cells #[.int .i64 a0_0, .slice A0_1 l0_1.length c0_1] 24 (0, 0)) q36_37 hb)
      have n5_ := Aside0.mk (blk_below (g := gb493) (o := .cells #[.int .i64 t488, .slice Ao23 t489.length co23] 27 (0, 0)) q36_38 hb)
      have n6_ := Aside0.mk (blk_below (g := gb498) (o := .cells #[.int .i64 t494, .slice Ao30 t495.length co30] 27 (0, 0)) q36_39 hb)
      have n7_ := Aside0.mk (blk_below (g := gb504) (o := .cells #[.int .i64 t499, .slice Ao37 t500.length co37] 27 (0, 0)) q36_40 hb)
      have n8_ := Aside0.mk (below_step q36_25 hb)
      clear HO_494001
      clear HO_499001
      clear HO_505001
      clear HO509
      clear BK482
      clear BK493
      clear BK498
      clear BK504
      clear HB
      have HO_494001 := n0_
      have HO_499001 := n1_
      have HO_505001 := n2_
      have HO509 := n3_
      have BK482 := n4_
      have BK493 := n5_
      have BK498 := n6_
      have BK504 := n7_
      have HB := n8_
      clear n0_ n1_ n2_ n3_ n4_ n5_ n6_ n7_ n8_
      (try clear hb)
      (try clear hb2)
      (try clear hk)
      (try clear hi)
      refine hK.out _ _ ⟨(blk_cell BK498.out 0).trans rfl, (blk_cell BK498.out 1).trans rfl, (blk_cell BK482.out 0).trans rfl, (blk_cell BK482.out 1).trans rfl⟩ (fun hHeld => ?_)
      clear hK K
      refine norm_ (a' := ?_) ?_ ?_
      rotate_left
      ·
       show Act.put _ (some 48) _ = _
       exact put36_
      refine pure_ (i := 4) (N := some 49) (v := ?_) (a' := ?_) #[true, true, true, true, true] rfl rfl q36_53 (fun _ _ _ h => h) (Or.inl ⟨by rfl, ?_⟩) ?_ ?_
      rotate_left
      ·
       intro w'
       go_simp
       with_reducible rfl
      rotate_left
      ·
       exact put36_
      refine done_ q36_53 ?_
      try go_wp2
      go_ret
      exact ⟨by first | rfl | (simp [errW_none, errW_some] <;> rfl) | (simp [*, errW_none, errW_some] <;> rfl), by repeat (first | (with_reducible first | exact HB.out | apply below_alloc | apply pw_below_drewN | apply below_drew1 | refine below_set ?_ GE482.out | refine below_set ?_ GE493.out | refine below_set ?_ GE498.out | refine below_set ?_ GE504.out) | exact HB.out)⟩
end Go.Proofs.Ytemhlblajnlogaa.Pr
