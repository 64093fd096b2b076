/- What the law needs of the program's functions as plain functions, of the proofs that their calls answer so, and of plain laws: gathered by a program of this place (pack.py) out of its printed texts. No condition beyond what each statement says. -/
import Derived.Test.YtemhlblajnlogaaZXClarify2
import Derived.Test.YtemhlblajnlogaaZXClarify3
import Derived.Test.YtemhlblajnlogaaZXClarify4
import Derived.Test.YtemhlblajnlogaaZXClarify8
import Derived.Test.YtemhlblajnlogaaZXClarify12
namespace Go.Proofs.Ytemhlblajnlogaa.Pr
open Go.RowKit Go.Proofs.YtemhlblajnlogaaW.PrintWords Go.Proofs.YtemhlblajnlogaaW.PrintLast Go.Proofs.YtemhlblajnlogaaW.PrintMore
attribute [local go_sem] max2_int min2_int max_two min_two max_three min_three max_four min_four   -- for this text's walks alone
set_option linter.unusedVariables false
set_option linter.unusedSimpArgs false
theorem put33_ {P : Prop} (h : P := by simp only [Act.put, List.setIfInBounds_toArray, List.set_cons_zero, List.set_cons_succ, i64_w, i32_w]; rfl) : P := h
theorem q33_1 {P : Prop} (h : P := by (with_reducible repeat (first | refine blk_drewN ?_ _ | refine blk_drew ?_ | refine blk_alloc ?_ _)); refine blk_put (cs := #[.int .i64 t656, .slice none 0 0]) ?_ 1 _ rfl; (with_reducible repeat (first | refine blk_drewN ?_ _ | refine blk_drew ?_ | refine blk_alloc ?_ _)); refine blk_put (cs := #[.int .i64 0, .slice none 0 0]) ?_ 0 _ rfl; (with_reducible repeat (first | refine blk_drewN ?_ _ | refine blk_drew ?_ | refine blk_alloc ?_ _)); exact BK661.out) : P := h
theorem q33_2 {P : Prop} (h : P := by (with_reducible repeat (first | refine blk_drewN ?_ _ | refine blk_drew ?_ | refine blk_alloc ?_ _)); refine blk_put (cs := #[.int .i64 t678, .slice none 0 0]) ?_ 1 _ rfl; (with_reducible repeat (first | refine blk_drewN ?_ _ | refine blk_drew ?_ | refine blk_alloc ?_ _)); refine blk_put (cs := #[.int .i64 0, .slice none 0 0]) ?_ 0 _ rfl; (with_reducible repeat (first | refine blk_drewN ?_ _ | refine blk_drew ?_ | refine blk_alloc ?_ _)); exact BK683.out) : P := h
theorem q33_3 {P : Prop} (h : P := by (with_reducible repeat (first | refine blk_drewN ?_ _ | refine blk_drew ?_ | refine blk_alloc ?_ _)); refine blk_far ?_ NB639_661.out _; (with_reducible repeat (first | refine blk_drewN ?_ _ | refine blk_drew ?_ | refine blk_alloc ?_ _)); refine blk_far ?_ NB639_661.out _; (with_reducible repeat (first | refine blk_drewN ?_ _ | refine blk_drew ?_ | refine blk_alloc ?_ _)); exact BK639.out) : P := h
theorem q33_4 {P : Prop} (h : P := by (with_reducible repeat (first | refine blk_drewN ?_ _ | refine blk_drew ?_ | refine blk_alloc ?_ _)); refine blk_far ?_ NB639_683.out _; (with_reducible repeat (first | refine blk_drewN ?_ _ | refine blk_drew ?_ | refine blk_alloc ?_ _)); refine blk_far ?_ NB639_683.out _; (with_reducible repeat (first | refine blk_drewN ?_ _ | refine blk_drew ?_ | refine blk_alloc ?_ _)); exact BK639.out) : P := h
theorem q33_5 {P : Prop} (h : P := by (with_reducible repeat (first | refine blk_drewN ?_ _ | refine blk_drew ?_ | refine blk_alloc ?_ _)); refine blk_far ?_ NB650_661.out _; (with_reducible repeat (first | refine blk_drewN ?_ _ | refine blk_drew ?_ | refine blk_alloc ?_ _)); refine blk_far ?_ NB650_661.out _; (with_reducible repeat (first | refine blk_drewN ?_ _ | refine blk_drew ?_ | refine blk_alloc ?_ _)); exact BK650.out) : P := h
theorem q33_6 {P : Prop} (h : P := by (with_reducible repeat (first | refine blk_drewN ?_ _ | refine blk_drew ?_ | refine blk_alloc ?_ _)); refine blk_far ?_ NB650_683.out _; (with_reducible repeat (first | refine blk_drewN ?_ _ | refine blk_drew ?_ | refine blk_alloc ?_ _)); refine blk_far ?_ NB650_683.out _; (with_reducible repeat (first | refine blk_drewN ?_ _ | refine blk_drew ?_ | refine blk_alloc ?_ _)); exact BK650.out) : P := h
theorem q33_7 {P : Prop} (h : P := by (with_reducible repeat (first | refine blk_drewN ?_ _ | refine blk_drew ?_ | refine blk_alloc ?_ _)); refine blk_far ?_ NB655_661.out _; (with_reducible repeat (first | refine blk_drewN ?_ _ | refine blk_drew ?_ | refine blk_alloc ?_ _)); refine blk_far ?_ NB655_661.out _; (with_reducible repeat (first | refine blk_drewN ?_ _ | refine blk_drew ?_ | refine blk_alloc ?_ _)); exact BK655.out) : P := h
theorem q33_8 {P : Prop} (h : P := by (with_reducible repeat (first | refine blk_drewN ?_ _ | refine blk_drew ?_ | refine blk_alloc ?_ _)); refine blk_far ?_ NB655_683.out _; (with_reducible repeat (first | refine blk_drewN ?_ _ | refine blk_drew ?_ | refine blk_alloc ?_ _)); refine blk_far ?_ NB655_683.out _; (with_reducible repeat (first | refine blk_drewN ?_ _ | refine blk_drew ?_ | refine blk_alloc ?_ _)); exact BK655.out) : P := h
theorem q33_9 {P : Prop} (h : P := by (with_reducible repeat (first | refine blk_drewN ?_ _ | refine blk_drew ?_ | refine blk_alloc ?_ _)); refine blk_far ?_ NB661_683.out _; (with_reducible repeat (first | refine blk_drewN ?_ _ | refine blk_drew ?_ | refine blk_alloc ?_ _)); refine blk_far ?_ NB661_683.out _; (with_reducible repeat (first | refine blk_drewN ?_ _ | refine blk_drew ?_ | refine blk_alloc ?_ _)); exact BK661.out) : P := h
theorem q33_10 {P : Prop} (h : P := by (with_reducible repeat (first | apply Kd.R_alloc | apply Kd.R_drewN | apply Kd.R_drew)); exact (Kd.R_mono (Kd.R_far (p := ⟨gb683, 1, none⟩) (Kd.R_far (p := ⟨gb683, 0, none⟩) (Kd.R_types HO_651001.out BK683.out (by decide)) (fun _ hk => hk.2) (.int .i64 t678)) (fun _ hk => hk.2) (.slice Ao123 t679.length co123)) (fun _ h_ => h_.1))) : P := h
theorem q33_11 {P : Prop} (h : P := by (with_reducible repeat (first | apply Kd.R_alloc | apply Kd.R_drewN | apply Kd.R_drew)); exact (Kd.R_mono (Kd.R_far (p := ⟨gb683, 1, none⟩) (Kd.R_far (p := ⟨gb683, 0, none⟩) (Kd.R_types HO_656001.out BK683.out (by decide)) (fun _ hk => hk.2) (.int .i64 t678)) (fun _ hk => hk.2) (.slice Ao123 t679.length co123)) (fun _ h_ => h_.1))) : P := h
theorem q33_12 {P : Prop} (h : P := by (with_reducible repeat (first | apply Kd.R_alloc | apply Kd.R_drewN | apply Kd.R_drew)); exact (Kd.R_mono (Kd.R_far (p := ⟨gb683, 1, none⟩) (Kd.R_far (p := ⟨gb683, 0, none⟩) (Kd.R_types HO_662001.out BK683.out (by decide)) (fun _ hk => hk.2) (.int .i64 t678)) (fun _ hk => hk.2) (.slice Ao123 t679.length co123)) (fun _ h_ => h_.1))) : P := h
theorem q33_13 {P : Prop} (h : P := by (with_reducible repeat (first | apply Kd.R_alloc | apply Kd.R_drewN | apply Kd.R_drew)); exact (Kd.R_mono (Kd.R_far (p := ⟨gb683, 1, none⟩) (Kd.R_far (p := ⟨gb683, 0, none⟩) (Kd.R_types HO677.out BK683.out (by decide)) (fun _ hk => hk.2) (.int .i64 t678)) (fun _ hk => hk.2) (.slice Ao123 t679.length co123)) (fun _ h_ => h_.1))) : P := h
theorem q33_14 {P : Prop} (h : P := by (with_reducible repeat (first | apply Kd.R_alloc | apply Kd.R_drewN | apply Kd.R_drew)); exact (Kd.R_mono (Kd.R_far (p := ⟨gb683, 1, none⟩) (Kd.R_far (p := ⟨gb683, 0, none⟩) (Kd.R_types HO681.out BK683.out (by decide)) (fun _ hk => hk.2) (.int .i64 t678)) (fun _ hk => hk.2) (.slice Ao123 t679.length co123)) (fun _ h_ => h_.1))) : P := h
theorem q33_15 {P : Prop} (h : P := by (with_reducible repeat (first | apply Kd.R_alloc | apply Kd.R_drewN | apply Kd.R_drew)); exact (Kd.R_mono (Kd.R_far (p := ⟨gb650, 1, none⟩) (Kd.R_far (p := ⟨gb650, 0, none⟩) (Kd.R_types HO644.out BK650.out (by decide)) (fun _ hk => hk.2) (.int .i64 t645)) (fun _ hk => hk.2) (.slice Ao22 t646.length co22)) (fun _ h_ => h_.1))) : P := h
theorem q33_16 {P : Prop} (h : P := by (with_reducible repeat (first | apply Kd.R_alloc | apply Kd.R_drewN | apply Kd.R_drew)); exact (Kd.R_mono (Kd.R_far (p := ⟨gb650, 1, none⟩) (Kd.R_far (p := ⟨gb650, 0, none⟩) (Kd.R_types HO648.out BK650.out (by decide)) (fun _ hk => hk.2) (.int .i64 t645)) (fun _ hk => hk.2) (.slice Ao22 t646.length co22)) (fun _ h_ => h_.1))) : P := h
theorem q33_17 {P : Prop} (h : P := by (with_reducible repeat (first | apply Kd.R_alloc | apply Kd.R_drewN | apply Kd.R_drew)); exact (Kd.R_mono (Kd.R_far (p := ⟨gb655, 1, none⟩) (Kd.R_far (p := ⟨gb655, 0, none⟩) (Kd.R_types HO644.out BK655.out (by decide)) (fun _ hk => hk.2) (.int .i64 t651)) (fun _ hk => hk.2) (.slice Ao29 t652.length co29)) (fun _ h_ => h_.1))) : P := h
theorem q33_18 {P : Prop} (h : P := by (with_reducible repeat (first | apply Kd.R_alloc | apply Kd.R_drewN | apply Kd.R_drew)); exact (Kd.R_mono (Kd.R_far (p := ⟨gb655, 1, none⟩) (Kd.R_far (p := ⟨gb655, 0, none⟩) (Kd.R_types HO648.out BK655.out (by decide)) (fun _ hk => hk.2) (.int .i64 t651)) (fun _ hk => hk.2) (.slice Ao29 t652.length co29)) (fun _ h_ => h_.1))) : P := h
theorem q33_19 {P : Prop} (h : P := by (with_reducible repeat (first | apply Kd.R_alloc | apply Kd.R_drewN | apply Kd.R_drew)); exact (Kd.R_mono (Kd.R_far (p := ⟨gb655, 1, none⟩) (Kd.R_far (p := ⟨gb655, 0, none⟩) (Kd.R_types HO654.out BK655.out (by decide)) (fun _ hk => hk.2) (.int .i64 t651)) (fun _ hk => hk.2) (.slice Ao29 t652.length co29)) (fun _ h_ => h_.1))) : P := h
theorem q33_20 {P : Prop} (h : P := by (with_reducible repeat (first | apply Kd.R_alloc | apply Kd.R_drewN | apply Kd.R_drew)); exact (Kd.R_mono (Kd.R_far (p := ⟨gb661, 1, none⟩) (Kd.R_far (p := ⟨gb661, 0, none⟩) (Kd.R_types HO644.out BK661.out (by decide)) (fun _ hk => hk.2) (.int .i64 t656)) (fun _ hk => hk.2) (.slice Ao36 t657.length co36)) (fun _ h_ => h_.1))) : P := h
theorem q33_21 {P : Prop} (h : P := by (with_reducible repeat (first | apply Kd.R_alloc | apply Kd.R_drewN | apply Kd.R_drew)); exact (Kd.R_mono (Kd.R_far (p := ⟨gb661, 1, none⟩) (Kd.R_far (p := ⟨gb661, 0, none⟩) (Kd.R_types HO648.out BK661.out (by decide)) (fun _ hk => hk.2) (.int .i64 t656)) (fun _ hk => hk.2) (.slice Ao36 t657.length co36)) (fun _ h_ => h_.1))) : P := h
theorem q33_22 {P : Prop} (h : P := by (with_reducible repeat (first | apply Kd.R_alloc | apply Kd.R_drewN | apply Kd.R_drew)); exact (Kd.R_mono (Kd.R_far (p := ⟨gb661, 1, none⟩) (Kd.R_far (p := ⟨gb661, 0, none⟩) (Kd.R_types HO654.out BK661.out (by decide)) (fun _ hk => hk.2) (.int .i64 t656)) (fun _ hk => hk.2) (.slice Ao36 t657.length co36)) (fun _ h_ => h_.1))) : P := h
theorem q33_23 {P : Prop} (h : P := by (with_reducible repeat (first | apply Kd.R_alloc | apply Kd.R_drewN | apply Kd.R_drew)); exact (Kd.R_mono (Kd.R_far (p := ⟨gb661, 1, none⟩) (Kd.R_far (p := ⟨gb661, 0, none⟩) (Kd.R_types HO659.out BK661.out (by decide)) (fun _ hk => hk.2) (.int .i64 t656)) (fun _ hk => hk.2) (.slice Ao36 t657.length co36)) (fun _ h_ => h_.1))) : P := h
theorem q33_24 {P : Prop} (h : P := by repeat (first | (with_reducible first | exact HB.out | apply below_alloc | apply pw_below_drewN | apply below_drew1 | refine below_set ?_ GE639.out | refine below_set ?_ GE650.out | refine below_set ?_ GE655.out | refine below_set ?_ GE661.out | refine below_set ?_ GE683.out) | exact HB.out)) : P := h
theorem q33_25 {P : Prop} (h : P := by repeat (first | (with_reducible first | exact HB.out | apply below_alloc | apply pw_below_drewN | apply below_drew1 | refine below_set ?_ GE639.out | refine below_set ?_ GE650.out | refine below_set ?_ GE655.out | refine below_set ?_ GE661.out) | exact HB.out)) : P := h
theorem q33_26 {P : Prop} (h : P := by repeat (first | (with_reducible first | exact HB.out | apply below_alloc | apply pw_below_drewN | apply below_drew1 | refine below_set ?_ GE639.out | refine below_set ?_ GE650.out | refine below_set ?_ GE655.out) | exact HB.out)) : P := h
theorem q33_27 {P : Prop} (h : P := by (try simp only [List.map_toArray, List.map_cons, List.map_nil]); first | done | (rw [show t672.length = t657.length from (Kd.R_reads' HO_662001.out).1.symm] <;> rfl) | rfl | (simp only [List.length_drop, List.length_take]; rfl)) : P := h
theorem q33_28 {P : Prop} (h : P := by repeat (first | (with_reducible first | exact HB.out | apply below_alloc | apply pw_below_drewN | apply below_drew1 | refine below_set ?_ GE639.out | refine below_set ?_ GE650.out) | exact HB.out)) : P := h
theorem q33_29 {P : Prop} (h : P := by repeat (first | exact (Kd.R_reads' HO_651001.out).2.2 | (with_reducible refine Kd.C_alloc ?_ _) | (with_reducible refine Kd.C_drewN ?_ _) | (with_reducible refine Kd.C_drew ?_))) : P := h
theorem q33_30 {P : Prop} (h : P := by repeat (first | exact (Kd.R_reads' HO_656001.out).2.2 | (with_reducible refine Kd.C_alloc ?_ _) | (with_reducible refine Kd.C_drewN ?_ _) | (with_reducible refine Kd.C_drew ?_))) : P := h
theorem q33_31 {P : Prop} (h : P := by repeat (first | exact (Kd.R_reads' HO_662001.out).2.2 | (with_reducible refine Kd.C_alloc ?_ _) | (with_reducible refine Kd.C_drewN ?_ _) | (with_reducible refine Kd.C_drew ?_))) : P := h
theorem q33_32 {P : Prop} (h : P := by repeat (first | exact (Kd.C_below HR0_1.out HB.out) | (with_reducible refine Kd.C_alloc ?_ _) | (with_reducible refine Kd.C_drewN ?_ _) | (with_reducible refine Kd.C_drew ?_))) : P := h
theorem q33_33 {P : Prop} (h : P := by repeat (first | exact (Kd.R_reads' HO666.out).2.2 | (with_reducible refine Kd.C_alloc ?_ _) | (with_reducible refine Kd.C_drewN ?_ _) | (with_reducible refine Kd.C_drew ?_))) : P := h
theorem q33_34 {P : Prop} (h : P := by repeat (first | (with_reducible first | exact HB.out | apply below_alloc | apply pw_below_drewN | apply below_drew1 | refine below_set ?_ GE639.out) | exact HB.out)) : P := h
theorem q33_35 {P : Prop} (h : P := by (try simp only [List.map_toArray, List.map_cons, List.map_nil]); first | done | rfl | (simp only [List.length_drop, List.length_take]; rfl)) : P := h
theorem q33_36 {P : Prop} (h : P := by repeat (first | (with_reducible first | exact HB.out | apply below_alloc | apply pw_below_drewN | apply below_drew1) | exact HB.out)) : P := h
theorem q33_37 {P : Prop} (h : P := by (with_reducible repeat (first | refine blk_drewN ?_ _ | refine blk_drew ?_ | refine blk_alloc ?_ _)); exact BK639.out) : P := h
theorem q33_38 {P : Prop} (h : P := by (with_reducible repeat (first | refine blk_drewN ?_ _ | refine blk_drew ?_ | refine blk_alloc ?_ _)); exact BK650.out) : P := h
theorem q33_39 {P : Prop} (h : P := by (with_reducible repeat (first | refine blk_drewN ?_ _ | refine blk_drew ?_ | refine blk_alloc ?_ _)); exact BK655.out) : P := h
theorem q33_40 {P : Prop} (h : P := by (with_reducible repeat (first | refine blk_drewN ?_ _ | refine blk_drew ?_ | refine blk_alloc ?_ _)); exact BK661.out) : P := h
theorem q33_41 {P : Prop} (h : P := by (with_reducible repeat (first | refine blk_drewN ?_ _ | refine blk_drew ?_ | refine blk_alloc ?_ _)); exact BK683.out) : P := h
theorem q33_42 {P : Prop} (h : P := by (with_reducible repeat (first | apply Kd.R_alloc | apply Kd.R_drewN | apply Kd.R_drew)); exact HO_651001.out) : P := h
theorem q33_43 {P : Prop} (h : P := by (with_reducible repeat (first | apply Kd.R_alloc | apply Kd.R_drewN | apply Kd.R_drew)); exact HO_656001.out) : P := h
theorem q33_44 {P : Prop} (h : P := by (with_reducible repeat (first | apply Kd.R_alloc | apply Kd.R_drewN | apply Kd.R_drew)); exact HO_662001.out) : P := h
theorem q33_45 {P : Prop} (h : P := by (with_reducible repeat (first | apply Kd.R_alloc | apply Kd.R_drewN | apply Kd.R_drew)); exact HO_684001.out) : P := h
theorem q33_46 {P : Prop} (h : P := by (with_reducible repeat (first | apply Kd.R_alloc | apply Kd.R_drewN | apply Kd.R_drew)); exact HO644.out) : P := h
theorem q33_47 {P : Prop} (h : P := by (with_reducible repeat (first | apply Kd.R_alloc | apply Kd.R_drewN | apply Kd.R_drew)); exact HO648.out) : P := h
theorem q33_48 {P : Prop} (h : P := by (with_reducible repeat (first | apply Kd.R_alloc | apply Kd.R_drewN | apply Kd.R_drew)); exact HO666.out) : P := h
theorem q33_49 {P : Prop} (h : P := by (with_reducible repeat (first | apply Kd.R_alloc | apply Kd.R_drewN | apply Kd.R_drew)); exact HO677.out) : P := h
theorem q33_50 {P : Prop} (h : P := by first | rfl | (simp; done) | (simp [*]; done) | (simp [i64_w, i32_w]; done)) : P := h
theorem q33_51 {P : Prop} (h : P := by rw [if_neg (show ¬ (false = true) by decide)] at H; exact H) : P := h
theorem q33_52 {P : Prop} (h : P := by rw [if_pos rfl] at H; exact H) : P := h
theorem q33_53 {P : Prop} (h : P := by kernel_rfl) : P := h
mutual
def laws_FnExactClarify.j0 : Nat → Bool → Bool → Bool → Int → List Int → Int → List Int → Int → List Int → Int → List Int → Option (Bool)
 | 0, _, _, _, _, _, _, _, _, _, _, _ => none
 | k + 1, x5, x8, x40, x640000, x640001, x651000, x651001, x656000, x656001, x662000, x662001 => if x40 = true then (some false) else ((laws_toContext.f k x640000 x640001).bind fun bt663 => ((laws_eqContext.f k x656000 x656001 bt663.1 bt663.2).bind fun t667 => (if t667 = true then ((laws_markContext.f k x656000 x656001 1).bind fun bt668 => (if bt668.1 < 0 then (laws_FnExactClarify.j1 k x5 true x640000 x640001 x651000 x651001 x662000 x662001) else ((laws_eqContext.f k x662000 x662001 x651000 x651001).bind fun t670 => (if t670 = true then (laws_FnExactClarify.j1 k x5 (x8 != x5) x640000 x640001 x651000 x651001 x662000 x662001) else (laws_FnExactClarify.j1 k x5 true x640000 x640001 x651000 x651001 x662000 x662001))))) else (some false))))
def laws_FnExactClarify.j1 : Nat → Bool → Bool → Int → List Int → Int → List Int → Int → List Int → Option (Bool)
 | 0, _, _, _, _, _, _, _, _ => none
 | k + 1, x5, x61, x640000, x640001, x651000, x651001, x662000, x662001 => if x61 = true then (some false) else ((laws_markContext.f k x662000 x662001 1).bind fun bt671 => ((laws_heldContext.f k x662000 bt671.2 1).bind fun t673 => (if t673 < 0 then (some false) else (if t673 = bt671.1 then ((laws_toContext.f k x640000 x640001).bind fun bt674 => ((impl_Clarify.f k bt674.1 bt674.2).bind fun bt678 => ((laws_eqContext.f k bt678.1 bt678.2.1 x651000 x651001).bind fun t684 => (if t684 = true then (laws_FnExactClarify.j2 k bt671.1 (bt678.2.2 != x5) x662000 bt671.2) else (laws_FnExactClarify.j2 k bt671.1 true x662000 bt671.2))))) else (some false)))))
def laws_FnExactClarify.j2 : Nat → Int → Bool → Int → List Int → Option (Bool)
 | 0, _, _, _, _ => none
 | k + 1, x10, x87, x662000, x662001 => if x87 = true then (some false) else ((laws_heldContext.f k x662000 x662001 1).bind fun t685 => (if t685 < 0 then (some false) else (if t685 = x10 then (some true) else (some false))))
end
def laws_FnExactClarify.f (k : Nat) (a0_0 : Int) (l0_1 : List Int) : Option (Bool) := (laws_szContext.f a0_0 l0_1 1048576).bind fun t640 => (if t640 < 0 then (some true) else ((laws_toContext.f k a0_0 l0_1).bind fun bt641 => ((spec_Clarify.f k bt641.1 bt641.2).bind fun bt645 => ((laws_toContext.f k a0_0 l0_1).bind fun bt651 => ((impl_Clarify.f k bt651.1 bt651.2).bind fun bt656 => ((laws_eqContext.f k bt656.1 bt656.2.1 bt645.1 bt645.2.1).bind fun t662 => (if t662 = true then (laws_FnExactClarify.j0 k bt645.2.2 bt656.2.2 (bt656.2.2 != bt645.2.2) a0_0 l0_1 bt645.1 bt645.2.1 bt651.1 bt651.2 bt656.1 bt656.2.1) else (laws_FnExactClarify.j0 k bt645.2.2 bt656.2.2 true a0_0 l0_1 bt645.1 bt645.2.1 bt651.1 bt651.2 bt656.1 bt656.2.1))))))))
set_option maxHeartbeats 8000000 in
set_option maxRecDepth 100000 in
theorem laws_FnExactClarify.calls (k : Nat) (a0_0 : Int) (A0_1 : Option Addr) (c0_1 : Nat) (l0_1 : List Int) (r : Bool) (w : World) (hr0_1 : Kd.C (Kd.int .i64) w A0_1 l0_1.length l0_1) (hc0_1 : l0_1.length ≤ c0_1) (h : laws_FnExactClarify.f k a0_0 l0_1 = some r) :
  Calls Try.prog 13 #[.agg #[.int .i64 a0_0, .slice A0_1 l0_1.length c0_1]] w fun e w' => e = .returned (.bool r) ∧ Below w.heap.size w w' := by
 have hu24 := Try.underlying24
 have hu27 := Try.underlying27
 have HR0_1 := Aside0.mk hr0_1
 have HC0_1 := Aside0.mk hc0_1
 clear hr0_1 hc0_1
 have HB := Aside0.mk (Below.refl w.heap.size w)
 have H : ((laws_szContext.f a0_0 l0_1 1048576).bind fun t640 => (if t640 < 0 then (some true) else ((laws_toContext.f k a0_0 l0_1).bind fun bt641 => ((spec_Clarify.f k bt641.1 bt641.2).bind fun bt645 => ((laws_toContext.f k a0_0 l0_1).bind fun bt651 => ((impl_Clarify.f k bt651.1 bt651.2).bind fun bt656 => ((laws_eqContext.f k bt656.1 bt656.2.1 bt645.1 bt645.2.1).bind fun t662 => (if t662 = true then (laws_FnExactClarify.j0 k bt645.2.2 bt656.2.2 (bt656.2.2 != bt645.2.2) a0_0 l0_1 bt645.1 bt645.2.1 bt651.1 bt651.2 bt656.1 bt656.2.1) else (laws_FnExactClarify.j0 k bt645.2.2 bt656.2.2 true a0_0 l0_1 bt645.1 bt645.2.1 bt651.1 bt651.2 bt656.1 bt656.2.1))))))))) = some r := h
 clear h
 replace H := Option.bind_eq_some_iff.mp H
 obtain ⟨t640, A20, H⟩ := H
 replace H : (if t640 < 0 then (some true) else ((laws_toContext.f k a0_0 l0_1).bind fun bt641 => ((spec_Clarify.f k bt641.1 bt641.2).bind fun bt645 => ((laws_toContext.f k a0_0 l0_1).bind fun bt651 => ((impl_Clarify.f k bt651.1 bt651.2).bind fun bt656 => ((laws_eqContext.f k bt656.1 bt656.2.1 bt645.1 bt645.2.1).bind fun t662 => (if t662 = true then (laws_FnExactClarify.j0 k bt645.2.2 bt656.2.2 (bt656.2.2 != bt645.2.2) a0_0 l0_1 bt645.1 bt645.2.1 bt651.1 bt651.2 bt656.1 bt656.2.1) else (laws_FnExactClarify.j0 k bt645.2.2 bt656.2.2 true a0_0 l0_1 bt645.1 bt645.2.1 bt651.1 bt651.2 bt656.1 bt656.2.1)))))))) = some r := H
 have A2 := Aside0.mk A20
 clear A20
 by_cases c3 : t640 < 0
 ·
  rw [if_pos c3] at H
  have c3b0 : decide (t640 < 0) = true := decide_eq_true c3
  clear c3
  obtain rfl := Option.some.inj H
  go_enter Try.func13, Try.ntmps13
  go_wp2_with (first | ((with_reducible refine gate_dst (N := 1) rfl ?_); refine box_event ?hg (N := 1) ?hd (cs := #[.int .i64 a0_0, .slice A0_1 l0_1.length c0_1]) (t := 24) ?hr ?_; (case hd => rfl); (case hg => rfl); (case hr => first | (go_simp; done) | (go_simp; rfl)); intro gb639 hg w4 hbox hb; have n0_ := Aside0.mk (below_step q33_36 hb); have n1_ := Aside0.mk (hbox); have n2_ := Aside0.mk ((by rw [hg]; exact (below_size q33_36) : w.heap.size ≤ gb639)); have n3_ := Aside0.mk ((by rw [hg]; exact (below_size q33_36) : w.heap.size ≤ gb639)); clear HB; have HB := n0_; have BK639 := n1_; have GW639 := n2_; have GE639 := n3_; clear n0_ n1_ n2_ n3_; clear hb hbox hg; have hcz5_0 : w4.cell? ⟨gb639, 0, none⟩ = some (.int .i64 a0_0) := (blk_cell BK639.out 0).trans rfl; have hcz5_1 : w4.cell? ⟨gb639, 1, none⟩ = some (.slice A0_1 l0_1.length c0_1) := (blk_cell BK639.out 1).trans rfl; have hfz5_0 := blk_frozen BK639.out 0; have hfz5_1 := blk_frozen BK639.out 1) | ((with_reducible refine gate_callee (f := 15) rfl ?_); refine goesL_ (some 16) rfl rfl Try.func15 q33_53 rfl #[.agg #[.int .i64 a0_0, .slice A0_1 l0_1.length c0_1], .int .i64 1048576] rfl q33_35 ?_; (with_reducible refine (laws_szContext.calls a0_0 _ _ l0_1 1048576 t640 _ ?side1 ?side2 A2.out).mono ?_); (case side1 => exact q33_32); (case side2 => exact HC0_1.out); rintro e w6 ⟨rfl, hb⟩; refine ⟨_, rfl, ?_⟩; have n0_ := Aside0.mk (blk_below (g := gb639) (o := .cells #[.int .i64 a0_0, .slice A0_1 l0_1.length c0_1] 24 (0, 0)) q33_37 hb); have n1_ := Aside0.mk (below_step q33_34 hb); clear BK639; clear HB; have BK639 := n0_; have HB := n1_; clear n0_ n1_; (try clear hb); (try clear hb2); (try clear hk); (try clear hi)))
  go_ret
  exact ⟨by first | rfl | (simp [errW_none, errW_some] <;> rfl) | (simp [*, errW_none, errW_some] <;> rfl), by repeat (first | (with_reducible first | exact HB.out | apply below_alloc | apply pw_below_drewN | apply below_drew1 | refine below_set ?_ GE639.out) | exact HB.out)⟩
 ·
  rw [if_neg c3] at H
  have c3b0 : decide (t640 < 0) = false := decide_eq_false c3
  clear c3
  replace H := Option.bind_eq_some_iff.mp H
  obtain ⟨⟨t641, t642⟩, A70, H⟩ := H
  replace H : ((spec_Clarify.f k t641 t642).bind fun bt645 => ((laws_toContext.f k a0_0 l0_1).bind fun bt651 => ((impl_Clarify.f k bt651.1 bt651.2).bind fun bt656 => ((laws_eqContext.f k bt656.1 bt656.2.1 bt645.1 bt645.2.1).bind fun t662 => (if t662 = true then (laws_FnExactClarify.j0 k bt645.2.2 bt656.2.2 (bt656.2.2 != bt645.2.2) a0_0 l0_1 bt645.1 bt645.2.1 bt651.1 bt651.2 bt656.1 bt656.2.1) else (laws_FnExactClarify.j0 k bt645.2.2 bt656.2.2 true a0_0 l0_1 bt645.1 bt645.2.1 bt651.1 bt651.2 bt656.1 bt656.2.1)))))) = some r := H
  have A7 := Aside0.mk A70
  clear A70
  replace H := Option.bind_eq_some_iff.mp H
  obtain ⟨⟨t645, t646, t649⟩, A80, H⟩ := H
  replace H : ((laws_toContext.f k a0_0 l0_1).bind fun bt651 => ((impl_Clarify.f k bt651.1 bt651.2).bind fun bt656 => ((laws_eqContext.f k bt656.1 bt656.2.1 t645 t646).bind fun t662 => (if t662 = true then (laws_FnExactClarify.j0 k t649 bt656.2.2 (bt656.2.2 != t649) a0_0 l0_1 t645 t646 bt651.1 bt651.2 bt656.1 bt656.2.1) else (laws_FnExactClarify.j0 k t649 bt656.2.2 true a0_0 l0_1 t645 t646 bt651.1 bt651.2 bt656.1 bt656.2.1))))) = some r := H
  have A8 := Aside0.mk A80
  clear A80
  replace H := Option.bind_eq_some_iff.mp H
  obtain ⟨⟨t651, t652⟩, A90, H⟩ := H
  replace H : ((impl_Clarify.f k t651 t652).bind fun bt656 => ((laws_eqContext.f k bt656.1 bt656.2.1 t645 t646).bind fun t662 => (if t662 = true then (laws_FnExactClarify.j0 k t649 bt656.2.2 (bt656.2.2 != t649) a0_0 l0_1 t645 t646 t651 t652 bt656.1 bt656.2.1) else (laws_FnExactClarify.j0 k t649 bt656.2.2 true a0_0 l0_1 t645 t646 t651 t652 bt656.1 bt656.2.1)))) = some r := H
  have A9 := Aside0.mk A90
  clear A90
  replace H := Option.bind_eq_some_iff.mp H
  obtain ⟨⟨t656, t657, t660⟩, A100, H⟩ := H
  replace H : ((laws_eqContext.f k t656 t657 t645 t646).bind fun t662 => (if t662 = true then (laws_FnExactClarify.j0 k t649 t660 (t660 != t649) a0_0 l0_1 t645 t646 t651 t652 t656 t657) else (laws_FnExactClarify.j0 k t649 t660 true a0_0 l0_1 t645 t646 t651 t652 t656 t657))) = some r := H
  have A10 := Aside0.mk A100
  clear A100
  have HC11 := Aside0.mk H
  clear H
  go_enter Try.func13, Try.ntmps13
  go_upto_region 8 with (first | ((with_reducible refine gate_dst (N := 1) rfl ?_); refine box_event ?hg (N := 1) ?hd (cs := #[.int .i64 a0_0, .slice A0_1 l0_1.length c0_1]) (t := 24) ?hr ?_; (case hd => rfl); (case hg => rfl); (case hr => first | (go_simp; done) | (go_simp; rfl)); intro gb639 hg w12 hbox hb; have n0_ := Aside0.mk (below_step q33_36 hb); have n1_ := Aside0.mk (hbox); have n2_ := Aside0.mk ((by rw [hg]; exact (below_size q33_36) : w.heap.size ≤ gb639)); have n3_ := Aside0.mk ((by rw [hg]; exact (below_size q33_36) : w.heap.size ≤ gb639)); clear HB; have HB := n0_; have BK639 := n1_; have GW639 := n2_; have GE639 := n3_; clear n0_ n1_ n2_ n3_; clear hb hbox hg; have hcz13_0 : w12.cell? ⟨gb639, 0, none⟩ = some (.int .i64 a0_0) := (blk_cell BK639.out 0).trans rfl; have hcz13_1 : w12.cell? ⟨gb639, 1, none⟩ = some (.slice A0_1 l0_1.length c0_1) := (blk_cell BK639.out 1).trans rfl; have hfz13_0 := blk_frozen BK639.out 0; have hfz13_1 := blk_frozen BK639.out 1) | ((with_reducible refine gate_callee (f := 15) rfl ?_); refine goesL_ (some 16) rfl rfl Try.func15 q33_53 rfl #[.agg #[.int .i64 a0_0, .slice A0_1 l0_1.length c0_1], .int .i64 1048576] rfl q33_35 ?_; (with_reducible refine (laws_szContext.calls a0_0 _ _ l0_1 1048576 t640 _ ?side1 ?side2 A2.out).mono ?_); (case side1 => exact q33_32); (case side2 => exact HC0_1.out); rintro e w14 ⟨rfl, hb⟩; refine ⟨_, rfl, ?_⟩; have n0_ := Aside0.mk (blk_below (g := gb639) (o := .cells #[.int .i64 a0_0, .slice A0_1 l0_1.length c0_1] 24 (0, 0)) q33_37 hb); have n1_ := Aside0.mk (below_step q33_34 hb); clear BK639; clear HB; have BK639 := n0_; have HB := n1_; clear n0_ n1_; (try clear hb); (try clear hb2); (try clear hk); (try clear hi); have hcz15_0 : w14.cell? ⟨gb639, 0, none⟩ = some (.int .i64 a0_0) := (blk_cell BK639.out 0).trans rfl; have hcz15_1 : w14.cell? ⟨gb639, 1, none⟩ = some (.slice A0_1 l0_1.length c0_1) := (blk_cell BK639.out 1).trans rfl; have hfz15_0 := blk_frozen BK639.out 0; have hfz15_1 := blk_frozen BK639.out 1) | ((with_reducible refine gate_callee (f := 17) rfl ?_); refine goesL_ (some 21) rfl rfl Try.func17 q33_53 rfl #[.agg #[.int .i64 a0_0, .slice A0_1 l0_1.length c0_1]] rfl q33_35 ?_; (with_reducible refine (laws_toContext.calls k a0_0 _ _ l0_1 t641 t642 _ ?side1 ?side2 A7.out).mono ?_); (case side1 => exact q33_32); (case side2 => exact HC0_1.out); rintro e w16 ⟨v643, rfl, ho0, hb⟩; refine ⟨_, rfl, ?_⟩; have n0_ := Aside0.mk (Kd.R_lower ho0 (below_size q33_34)); have n1_ := Aside0.mk (blk_below (g := gb639) (o := .cells #[.int .i64 a0_0, .slice A0_1 l0_1.length c0_1] 24 (0, 0)) q33_37 hb); have n2_ := Aside0.mk (below_step q33_34 hb); clear BK639; clear HB; have HO644 := n0_; have BK639 := n1_; have HB := n2_; clear n0_ n1_ n2_; (try clear hb); (try clear hb2); (try clear hk); (try clear hi); (try clear ho0); obtain ⟨Ao17, co17, eo17⟩ := Kd.R_slice HO644.out; subst eo17) | ((with_reducible refine gate_callee (f := 41) rfl ?_); refine goesL_ (some 22) rfl rfl Try.func41 q33_53 rfl #[.agg #[.int .i64 t641, .slice Ao17 t642.length co17]] rfl q33_35 ?_; (with_reducible refine (spec_Clarify.calls k t641 _ _ t642 t645 t646 t649 _ ?side1 ?side2 A8.out).mono ?_); (case side1 => repeat (first | exact (Kd.R_reads' HO644.out).2.2 | (with_reducible refine Kd.C_alloc ?_ _) | (with_reducible refine Kd.C_drewN ?_ _) | (with_reducible refine Kd.C_drew ?_))); (case side2 => exact (Kd.R_reads' HO644.out).2.1); rintro e w18 ⟨v647, rfl, ho0, hb⟩; refine ⟨_, rfl, ?_⟩; have n0_ := Aside0.mk (Kd.R_elder' q33_46 (Kd.R_base ho0) hb); have n1_ := Aside0.mk (Kd.R_lower (Kd.R_new' ho0 (Kd.R_lt q33_46)) (below_size q33_34)); have n2_ := Aside0.mk (blk_below (g := gb639) (o := .cells #[.int .i64 a0_0, .slice A0_1 l0_1.length c0_1] 24 (0, 0)) q33_37 hb); have n3_ := Aside0.mk (below_step q33_34 hb); clear HO644; clear BK639; clear HB; have HO644 := n0_; have HO648 := n1_; have BK639 := n2_; have HB := n3_; clear n0_ n1_ n2_ n3_; (try clear hb); (try clear hb2); (try clear hk); (try clear hi); (try clear ho0)) | ((with_reducible refine gate_dst (N := 4) rfl ?_); refine box_event ?hg (N := 4) ?hd (cs := #[.int .i64 0, .slice none 0 0]) (t := 27) ?hr ?_; (case hd => rfl); (case hg => rfl); (case hr => first | (go_simp; done) | (go_simp; rfl)); intro gb650 hg w19 hbox hb; have n0_ := Aside0.mk (Kd.R_below q33_46 hb); have n1_ := Aside0.mk (Kd.R_below q33_47 hb); have n2_ := Aside0.mk (blk_below (g := gb639) (o := .cells #[.int .i64 a0_0, .slice A0_1 l0_1.length c0_1] 24 (0, 0)) q33_37 hb); have n3_ := Aside0.mk (below_step q33_34 hb); have n4_ := Aside0.mk (hbox); have n5_ := Aside0.mk ((by rw [hg]; exact (below_size q33_34) : w.heap.size ≤ gb650)); have n6_ := Aside0.mk ((by rw [hg]; exact (below_size q33_34) : w.heap.size ≤ gb650)); have n7_ := Aside0.mk ((by rw [hg]; exact Nat.ne_of_lt (blk_lt (g := gb639) (o := .cells #[.int .i64 a0_0, .slice A0_1 l0_1.length c0_1] 24 (0, 0)) q33_37) : gb639 ≠ gb650)); have n8_ := Aside0.mk ((by rw [hg]; exact Nat.ne_of_gt (blk_lt (g := gb639) (o := .cells #[.int .i64 a0_0, .slice A0_1 l0_1.length c0_1] 24 (0, 0)) q33_37) : gb650 ≠ gb639)); clear HO644; clear HO648; clear BK639; clear HB; have HO644 := n0_; have HO648 := n1_; have BK639 := n2_; have HB := n3_; have BK650 := n4_; have GW650 := n5_; have GE650 := n6_; have NB639_650 := n7_; have NB650_639 := n8_; clear n0_ n1_ n2_ n3_ n4_ n5_ n6_ n7_ n8_; clear hb hbox hg; have hnb20 := NB650_639.out; have hnc20 := NB639_650.out; have hcz21_0 : w19.cell? ⟨gb650, 0, none⟩ = some (.int .i64 0) := (blk_cell BK650.out 0).trans rfl; have hcz21_1 : w19.cell? ⟨gb650, 1, none⟩ = some (.slice none 0 0) := (blk_cell BK650.out 1).trans rfl; have hfz21_0 := blk_frozen BK650.out 0; have hfz21_1 := blk_frozen BK650.out 1; obtain ⟨Ao22, co22, eo22⟩ := Kd.R_slice HO648.out; subst eo22; have hcz23_0 : w19.cell? ⟨gb639, 0, none⟩ = some (.int .i64 a0_0) := (blk_cell BK639.out 0).trans rfl; have hcz23_1 : w19.cell? ⟨gb639, 1, none⟩ = some (.slice A0_1 l0_1.length c0_1) := (blk_cell BK639.out 1).trans rfl; have hfz23_0 := blk_frozen BK639.out 0; have hfz23_1 := blk_frozen BK639.out 1) | ((with_reducible refine gate_callee (f := 17) rfl ?_); refine goesL_ (some 26) rfl rfl Try.func17 q33_53 rfl #[.agg #[.int .i64 a0_0, .slice A0_1 l0_1.length c0_1]] rfl q33_35 ?_; (with_reducible refine (laws_toContext.calls k a0_0 _ _ l0_1 t651 t652 _ ?side1 ?side2 A9.out).mono ?_); (case side1 => exact Kd.C_below HR0_1.out q33_28); (case side2 => exact HC0_1.out); rintro e w24 ⟨v653, rfl, ho0, hb⟩; refine ⟨_, rfl, ?_⟩; have n0_ := Aside0.mk (Kd.R_elder' q33_15 (Kd.R_base ho0) hb); have n1_ := Aside0.mk (Kd.R_elder' q33_16 (Kd.R_base ho0) hb); have n2_ := Aside0.mk (Kd.R_lower (Kd.R_new' (Kd.R_new' ho0 (Kd.R_lt q33_15)) (Kd.R_lt q33_16)) (below_size q33_28)); have n3_ := Aside0.mk (blk_below (g := gb639) (o := .cells #[.int .i64 a0_0, .slice A0_1 l0_1.length c0_1] 24 (0, 0)) (by (with_reducible repeat (first | refine blk_drewN ?_ _ | refine blk_drew ?_ | refine blk_alloc ?_ _)); refine blk_far ?_ NB639_650.out _; (with_reducible repeat (first | refine blk_drewN ?_ _ | refine blk_drew ?_ | refine blk_alloc ?_ _)); refine blk_far ?_ NB639_650.out _; (with_reducible repeat (first | refine blk_drewN ?_ _ | refine blk_drew ?_ | refine blk_alloc ?_ _)); exact BK639.out) hb); have n4_ := Aside0.mk (blk_below (g := gb650) (o := .cells #[.int .i64 t645, .slice Ao22 t646.length co22] 27 (0, 0)) (by (with_reducible repeat (first | refine blk_drewN ?_ _ | refine blk_drew ?_ | refine blk_alloc ?_ _)); refine blk_put (cs := #[.int .i64 t645, .slice none 0 0]) ?_ 1 _ rfl; (with_reducible repeat (first | refine blk_drewN ?_ _ | refine blk_drew ?_ | refine blk_alloc ?_ _)); refine blk_put (cs := #[.int .i64 0, .slice none 0 0]) ?_ 0 _ rfl; (with_reducible repeat (first | refine blk_drewN ?_ _ | refine blk_drew ?_ | refine blk_alloc ?_ _)); exact BK650.out) hb); have n5_ := Aside0.mk (below_step q33_28 hb); clear HO644; clear HO648; clear BK639; clear BK650; clear HB; have HO644 := n0_; have HO648 := n1_; have HO654 := n2_; have BK639 := n3_; have BK650 := n4_; have HB := n5_; clear n0_ n1_ n2_ n3_ n4_ n5_; (try clear hb); (try clear hb2); (try clear hk); (try clear hi); (try clear ho0)) | ((with_reducible refine gate_dst (N := 6) rfl ?_); refine box_event ?hg (N := 6) ?hd (cs := #[.int .i64 0, .slice none 0 0]) (t := 27) ?hr ?_; (case hd => rfl); (case hg => rfl); (case hr => first | (go_simp; done) | (go_simp; rfl)); intro gb655 hg w25 hbox hb; have n0_ := Aside0.mk (Kd.R_below q33_46 hb); have n1_ := Aside0.mk (Kd.R_below q33_47 hb); have n2_ := Aside0.mk (Kd.R_below (by (with_reducible repeat (first | apply Kd.R_alloc | apply Kd.R_drewN | apply Kd.R_drew)); exact HO654.out) hb); have n3_ := Aside0.mk (blk_below (g := gb639) (o := .cells #[.int .i64 a0_0, .slice A0_1 l0_1.length c0_1] 24 (0, 0)) q33_37 hb); have n4_ := Aside0.mk (blk_below (g := gb650) (o := .cells #[.int .i64 t645, .slice Ao22 t646.length co22] 27 (0, 0)) q33_38 hb); have n5_ := Aside0.mk (below_step q33_28 hb); have n6_ := Aside0.mk (hbox); have n7_ := Aside0.mk ((by rw [hg]; exact (below_size q33_28) : w.heap.size ≤ gb655)); have n8_ := Aside0.mk ((by rw [hg]; exact (below_size q33_28) : w.heap.size ≤ gb655)); have n9_ := Aside0.mk ((by rw [hg]; exact Nat.ne_of_lt (blk_lt (g := gb639) (o := .cells #[.int .i64 a0_0, .slice A0_1 l0_1.length c0_1] 24 (0, 0)) q33_37) : gb639 ≠ gb655)); have n10_ := Aside0.mk ((by rw [hg]; exact Nat.ne_of_gt (blk_lt (g := gb639) (o := .cells #[.int .i64 a0_0, .slice A0_1 l0_1.length c0_1] 24 (0, 0)) q33_37) : gb655 ≠ gb639)); have n11_ := Aside0.mk ((by rw [hg]; exact Nat.ne_of_lt (blk_lt (g := gb650) (o := .cells #[.int .i64 t645, .slice Ao22 t646.length co22] 27 (0, 0)) q33_38) : gb650 ≠ gb655)); have n12_ := Aside0.mk ((by rw [hg]; exact Nat.ne_of_gt (blk_lt (g := gb650) (o := .cells #[.int .i64 t645, .slice Ao22 t646.length co22] 27 (0, 0)) q33_38) : gb655 ≠ gb650)); clear HO644; clear HO648; clear HO654; clear BK639; clear BK650; clear HB; have HO644 := n0_; have HO648 := n1_; have HO654 := n2_; have BK639 := n3_; have BK650 := n4_; have HB := n5_; have BK655 := n6_; have GW655 := n7_; have GE655 := n8_; have NB639_655 := n9_; have NB655_639 := n10_; have NB650_655 := n11_; have NB655_650 := n12_; clear n0_ n1_ n2_ n3_ n4_ n5_ n6_ n7_ n8_ n9_ n10_ n11_ n12_; clear hb hbox hg; have hnb26 := NB655_639.out; have hnc26 := NB639_655.out; have hnb27 := NB655_650.out; have hnc27 := NB650_655.out; have hcz28_0 : w25.cell? ⟨gb655, 0, none⟩ = some (.int .i64 0) := (blk_cell BK655.out 0).trans rfl; have hcz28_1 : w25.cell? ⟨gb655, 1, none⟩ = some (.slice none 0 0) := (blk_cell BK655.out 1).trans rfl; have hfz28_0 := blk_frozen BK655.out 0; have hfz28_1 := blk_frozen BK655.out 1; obtain ⟨Ao29, co29, eo29⟩ := Kd.R_slice HO654.out; subst eo29) | ((with_reducible refine gate_callee (f := 42) rfl ?_); refine goesL_ (some 29) rfl rfl Try.func42 q33_53 rfl #[.agg #[.int .i64 t651, .slice Ao29 t652.length co29]] rfl q33_35 ?_; (with_reducible refine (impl_Clarify.calls k t651 _ _ t652 t656 t657 t660 _ ?side1 ?side2 A10.out).mono ?_); (case side1 => refine (Kd.R_reads' (e := 3) (base := w.heap.size) (ok := fun k_ => ((True ∧ some k_ ≠ (.slice Ao17 t642.length co17 : Value).ownBlock) ∧ some k_ ≠ (.slice Ao22 t646.length co22 : Value).ownBlock)) (n := t652.length) (c := co29) ?_).2.2; exact q33_19); (case side2 => exact (Kd.R_reads' HO654.out).2.1); rintro e w30 ⟨v658, rfl, ho0, hb⟩; refine ⟨_, rfl, ?_⟩; have n0_ := Aside0.mk (Kd.R_elder' q33_17 (Kd.R_base ho0) hb); have n1_ := Aside0.mk (Kd.R_elder' q33_18 (Kd.R_base ho0) hb); have n2_ := Aside0.mk (Kd.R_elder' q33_19 (Kd.R_base ho0) hb); have n3_ := Aside0.mk (Kd.R_lower (Kd.R_new' (Kd.R_new' (Kd.R_new' ho0 (Kd.R_lt q33_17)) (Kd.R_lt q33_18)) (Kd.R_lt q33_19)) (below_size q33_26)); have n4_ := Aside0.mk (blk_below (g := gb639) (o := .cells #[.int .i64 a0_0, .slice A0_1 l0_1.length c0_1] 24 (0, 0)) (by (with_reducible repeat (first | refine blk_drewN ?_ _ | refine blk_drew ?_ | refine blk_alloc ?_ _)); refine blk_far ?_ NB639_655.out _; (with_reducible repeat (first | refine blk_drewN ?_ _ | refine blk_drew ?_ | refine blk_alloc ?_ _)); refine blk_far ?_ NB639_655.out _; (with_reducible repeat (first | refine blk_drewN ?_ _ | refine blk_drew ?_ | refine blk_alloc ?_ _)); exact BK639.out) hb); have n5_ := Aside0.mk (blk_below (g := gb650) (o := .cells #[.int .i64 t645, .slice Ao22 t646.length co22] 27 (0, 0)) (by (with_reducible repeat (first | refine blk_drewN ?_ _ | refine blk_drew ?_ | refine blk_alloc ?_ _)); refine blk_far ?_ NB650_655.out _; (with_reducible repeat (first | refine blk_drewN ?_ _ | refine blk_drew ?_ | refine blk_alloc ?_ _)); refine blk_far ?_ NB650_655.out _; (with_reducible repeat (first | refine blk_drewN ?_ _ | refine blk_drew ?_ | refine blk_alloc ?_ _)); exact BK650.out) hb); have n6_ := Aside0.mk (blk_below (g := gb655) (o := .cells #[.int .i64 t651, .slice Ao29 t652.length co29] 27 (0, 0)) (by (with_reducible repeat (first | refine blk_drewN ?_ _ | refine blk_drew ?_ | refine blk_alloc ?_ _)); refine blk_put (cs := #[.int .i64 t651, .slice none 0 0]) ?_ 1 _ rfl; (with_reducible repeat (first | refine blk_drewN ?_ _ | refine blk_drew ?_ | refine blk_alloc ?_ _)); refine blk_put (cs := #[.int .i64 0, .slice none 0 0]) ?_ 0 _ rfl; (with_reducible repeat (first | refine blk_drewN ?_ _ | refine blk_drew ?_ | refine blk_alloc ?_ _)); exact BK655.out) hb); have n7_ := Aside0.mk (below_step q33_26 hb); clear HO644; clear HO648; clear HO654; clear BK639; clear BK650; clear BK655; clear HB; have HO644 := n0_; have HO648 := n1_; have HO654 := n2_; have HO659 := n3_; have BK639 := n4_; have BK650 := n5_; have BK655 := n6_; have HB := n7_; clear n0_ n1_ n2_ n3_ n4_ n5_ n6_ n7_; (try clear hb); (try clear hb2); (try clear hk); (try clear hi); (try clear ho0)) | ((with_reducible refine gate_dst (N := 7) rfl ?_); refine box_event ?hg (N := 7) ?hd (cs := #[.int .i64 0, .slice none 0 0]) (t := 27) ?hr ?_; (case hd => rfl); (case hg => rfl); (case hr => first | (go_simp; done) | (go_simp; rfl)); intro gb661 hg w31 hbox hb; have n0_ := Aside0.mk (Kd.R_below q33_46 hb); have n1_ := Aside0.mk (Kd.R_below q33_47 hb); have n2_ := Aside0.mk (Kd.R_below (by (with_reducible repeat (first | apply Kd.R_alloc | apply Kd.R_drewN | apply Kd.R_drew)); exact HO654.out) hb); have n3_ := Aside0.mk (Kd.R_below (by (with_reducible repeat (first | apply Kd.R_alloc | apply Kd.R_drewN | apply Kd.R_drew)); exact HO659.out) hb); have n4_ := Aside0.mk (blk_below (g := gb639) (o := .cells #[.int .i64 a0_0, .slice A0_1 l0_1.length c0_1] 24 (0, 0)) q33_37 hb); have n5_ := Aside0.mk (blk_below (g := gb650) (o := .cells #[.int .i64 t645, .slice Ao22 t646.length co22] 27 (0, 0)) q33_38 hb); have n6_ := Aside0.mk (blk_below (g := gb655) (o := .cells #[.int .i64 t651, .slice Ao29 t652.length co29] 27 (0, 0)) q33_39 hb); have n7_ := Aside0.mk (below_step q33_26 hb); have n8_ := Aside0.mk (hbox); have n9_ := Aside0.mk ((by rw [hg]; exact (below_size q33_26) : w.heap.size ≤ gb661)); have n10_ := Aside0.mk ((by rw [hg]; exact (below_size q33_26) : w.heap.size ≤ gb661)); have n11_ := Aside0.mk ((by rw [hg]; exact Nat.ne_of_lt (blk_lt (g := gb639) (o := .cells #[.int .i64 a0_0, .slice A0_1 l0_1.length c0_1] 24 (0, 0)) q33_37) : gb639 ≠ gb661)); have n12_ := Aside0.mk ((by rw [hg]; exact Nat.ne_of_gt (blk_lt (g := gb639) (o := .cells #[.int .i64 a0_0, .slice A0_1 l0_1.length c0_1] 24 (0, 0)) q33_37) : gb661 ≠ gb639)); have n13_ := Aside0.mk ((by rw [hg]; exact Nat.ne_of_lt (blk_lt (g := gb650) (o := .cells #[.int .i64 t645, .slice Ao22 t646.length co22] 27 (0, 0)) q33_38) : gb650 ≠ gb661)); have n14_ := Aside0.mk ((by rw [hg]; exact Nat.ne_of_gt (blk_lt (g := gb650) (o := .cells #[.int .i64 t645, .slice Ao22 t646.length co22] 27 (0, 0)) q33_38) : gb661 ≠ gb650)); have n15_ := Aside0.mk ((by rw [hg]; exact Nat.ne_of_lt (blk_lt (g := gb655) (o := .cells #[.int .i64 t651, .slice Ao29 t652.length co29] 27 (0, 0)) q33_39) : gb655 ≠ gb661)); have n16_ := Aside0.mk ((by rw [hg]; exact Nat.ne_of_gt (blk_lt (g := gb655) (o := .cells #[.int .i64 t651, .slice Ao29 t652.length co29] 27 (0, 0)) q33_39) : gb661 ≠ gb655)); clear HO644; clear HO648; clear HO654; clear HO659; clear BK639; clear BK650; clear BK655; clear HB; have HO644 := n0_; have HO648 := n1_; have HO654 := n2_; have HO659 := n3_; have BK639 := n4_; have BK650 := n5_; have BK655 := n6_; have HB := n7_; have BK661 := n8_; have GW661 := n9_; have GE661 := n10_; have NB639_661 := n11_; have NB661_639 := n12_; have NB650_661 := n13_; have NB661_650 := n14_; have NB655_661 := n15_; have NB661_655 := n16_; clear n0_ n1_ n2_ n3_ n4_ n5_ n6_ n7_ n8_ n9_ n10_ n11_ n12_ n13_ n14_ n15_ n16_; clear hb hbox hg; have hnb32 := NB661_639.out; have hnc32 := NB639_661.out; have hnb33 := NB661_650.out; have hnc33 := NB650_661.out; have hnb34 := NB661_655.out; have hnc34 := NB655_661.out; have hcz35_0 : w31.cell? ⟨gb661, 0, none⟩ = some (.int .i64 0) := (blk_cell BK661.out 0).trans rfl; have hcz35_1 : w31.cell? ⟨gb661, 1, none⟩ = some (.slice none 0 0) := (blk_cell BK661.out 1).trans rfl; have hfz35_0 := blk_frozen BK661.out 0; have hfz35_1 := blk_frozen BK661.out 1; obtain ⟨Ao36, co36, eo36⟩ := Kd.R_slice HO659.out; subst eo36))
  (try simp only [Act.put, List.setIfInBounds_toArray, List.set_cons_zero, List.set_cons_succ])
  go_cut [40] (fun v40 wc => ∃ (kq : Nat) (x40_10 : Bool), v40 = .bool x40_10 ∧ Aside0 (laws_FnExactClarify.j0 kq t649 t660 x40_10 a0_0 l0_1 t645 t646 t651 t652 t656 t657 = some r) ∧ Aside0 (kq ≤ k) ∧ Aside0 (Kd.R (Kd.int .i64) 3 wc w.heap.size (fun k_ => some k_ ≠ ((.slice Ao29 t652.length co29) : Value).ownBlock ∧ some k_ ≠ ((.slice Ao36 t657.length co36) : Value).ownBlock) (.slice Ao22 t646.length co22) t646) ∧ Aside0 (Kd.R (Kd.int .i64) 3 wc w.heap.size (fun k_ => some k_ ≠ ((.slice Ao22 t646.length co22) : Value).ownBlock ∧ some k_ ≠ ((.slice Ao36 t657.length co36) : Value).ownBlock) (.slice Ao29 t652.length co29) t652) ∧ Aside0 (Kd.R (Kd.int .i64) 3 wc w.heap.size (fun k_ => some k_ ≠ ((.slice Ao22 t646.length co22) : Value).ownBlock ∧ some k_ ≠ ((.slice Ao29 t652.length co29) : Value).ownBlock) (.slice Ao36 t657.length co36) t657) ∧ Aside0 (wc.heap[gb639]? = some (.cells #[.int .i64 a0_0, (.slice A0_1 l0_1.length c0_1)] 24 (0, 0))) ∧ Aside0 (wc.heap[gb650]? = some (.cells #[.int .i64 t645, (.slice Ao22 t646.length co22)] 27 (0, 0))) ∧ Aside0 (wc.heap[gb655]? = some (.cells #[.int .i64 t651, (.slice Ao29 t652.length co29)] 27 (0, 0))) ∧ Aside0 (wc.heap[gb661]? = some (.cells #[.int .i64 t656, (.slice Ao36 t657.length co36)] 27 (0, 0))) ∧ Aside0 (Below w.heap.size w wc))
  case first =>
   have H := HC11.out
   clear HC11
   replace H := Option.bind_eq_some_iff.mp H
   obtain ⟨t662, A370, H⟩ := H
   replace H : (if t662 = true then (laws_FnExactClarify.j0 k t649 t660 (t660 != t649) a0_0 l0_1 t645 t646 t651 t652 t656 t657) else (laws_FnExactClarify.j0 k t649 t660 true a0_0 l0_1 t645 t646 t651 t652 t656 t657)) = some r := H
   have A37 := Aside0.mk A370
   clear A370
   by_cases c38 : t662 = true
   ·
    subst c38
    have H1 : (laws_FnExactClarify.j0 k t649 t660 (t660 != t649) a0_0 l0_1 t645 t646 t651 t652 t656 t657) = some r := q33_52
    clear H
    have H := H1
    clear H1
    have H' := Aside0.mk H
    clear H
    have hnb39 := NB661_639.out
    have hnc39 := NB639_661.out
    have hnb40 := NB661_650.out
    have hnc40 := NB650_661.out
    have hnb41 := NB661_655.out
    have hnc41 := NB655_661.out
    have hcz42_0 : w31.cell? ⟨gb661, 0, none⟩ = some (.int .i64 0) := (blk_cell BK661.out 0).trans rfl
    have hcz42_1 : w31.cell? ⟨gb661, 1, none⟩ = some (.slice none 0 0) := (blk_cell BK661.out 1).trans rfl
    have hfz42_0 := blk_frozen BK661.out 0
    have hfz42_1 := blk_frozen BK661.out 1
    have hnb43 := NB650_639.out
    have hnc43 := NB639_650.out
    have hnb44 := NB650_655.out
    have hnc44 := NB655_650.out
    have hcz45_0 : w31.cell? ⟨gb650, 0, none⟩ = some (.int .i64 t645) := (blk_cell BK650.out 0).trans rfl
    have hcz45_1 : w31.cell? ⟨gb650, 1, none⟩ = some (.slice Ao22 t646.length co22) := (blk_cell BK650.out 1).trans rfl
    have hfz45_0 := blk_frozen BK650.out 0
    have hfz45_1 := blk_frozen BK650.out 1
    go_wp2_with (first | ((with_reducible refine gate_callee (f := 19) rfl ?_); refine goesL_ (some 34) rfl rfl Try.func19 q33_53 rfl #[.agg #[.int .i64 t656, .slice Ao36 t657.length co36], .agg #[.int .i64 t645, .slice Ao22 t646.length co22]] rfl q33_35 ?_; (with_reducible refine (laws_eqContext.calls k t656 _ _ t657 t645 _ _ t646 true _ ?side1 ?side2 ?side3 ?side4 A37.out).mono ?_); (case side1 => refine (Kd.R_reads' (e := 3) (base := w.heap.size) (ok := fun k_ => (((True ∧ some k_ ≠ (.slice Ao17 t642.length co17 : Value).ownBlock) ∧ some k_ ≠ (.slice Ao22 t646.length co22 : Value).ownBlock) ∧ some k_ ≠ (.slice Ao29 t652.length co29 : Value).ownBlock)) (n := t657.length) (c := co36) ?_).2.2; exact q33_23); (case side2 => exact (Kd.R_reads' HO659.out).2.1); (case side3 => refine (Kd.R_reads' (e := 3) (base := w.heap.size) (ok := fun k_ => (((True ∧ some k_ ≠ (.slice Ao17 t642.length co17 : Value).ownBlock) ∧ some k_ ≠ (.slice Ao29 t652.length co29 : Value).ownBlock) ∧ some k_ ≠ (.slice Ao36 t657.length co36 : Value).ownBlock)) (n := t646.length) (c := co22) ?_).2.2; exact q33_21); (case side4 => exact (Kd.R_reads' HO648.out).2.1); rintro e w46 ⟨rfl, hb⟩; refine ⟨_, rfl, ?_⟩; have n0_ := Aside0.mk (Kd.R_below q33_20 hb); have n1_ := Aside0.mk (Kd.R_below q33_21 hb); have n2_ := Aside0.mk (Kd.R_below q33_22 hb); have n3_ := Aside0.mk (Kd.R_below q33_23 hb); have n4_ := Aside0.mk (blk_below (g := gb639) (o := .cells #[.int .i64 a0_0, .slice A0_1 l0_1.length c0_1] 24 (0, 0)) q33_3 hb); have n5_ := Aside0.mk (blk_below (g := gb650) (o := .cells #[.int .i64 t645, .slice Ao22 t646.length co22] 27 (0, 0)) q33_5 hb); have n6_ := Aside0.mk (blk_below (g := gb655) (o := .cells #[.int .i64 t651, .slice Ao29 t652.length co29] 27 (0, 0)) q33_7 hb); have n7_ := Aside0.mk (blk_below (g := gb661) (o := .cells #[.int .i64 t656, .slice Ao36 t657.length co36] 27 (0, 0)) q33_1 hb); have n8_ := Aside0.mk (below_step q33_25 hb); clear HO644; clear HO648; clear HO654; clear HO659; clear BK639; clear BK650; clear BK655; clear BK661; clear HB; have HO644 := n0_; have HO648 := n1_; have HO654 := n2_; have HO659 := n3_; have BK639 := n4_; have BK650 := n5_; have BK655 := n6_; have BK661 := n7_; have HB := n8_; clear n0_ n1_ n2_ n3_ n4_ n5_ n6_ n7_ n8_; (try clear hb); (try clear hb2); (try clear hk); (try clear hi)))
    go_meet
    case rel => exact ⟨_, ((t660 != t649)), q33_50, H', ⟨by first | omega | exact Nat.le_refl _⟩, ⟨by (with_reducible repeat (first | apply Kd.R_alloc | apply Kd.R_drewN | apply Kd.R_drew)); exact Kd.R_mono HO648.out (fun _ hk => ⟨hk.1.2, hk.2⟩)⟩, ⟨by (with_reducible repeat (first | apply Kd.R_alloc | apply Kd.R_drewN | apply Kd.R_drew)); exact Kd.R_mono HO654.out (fun _ hk => ⟨hk.1.2, hk.2⟩)⟩, ⟨by (with_reducible repeat (first | apply Kd.R_alloc | apply Kd.R_drewN | apply Kd.R_drew)); exact Kd.R_mono HO659.out (fun _ hk => ⟨hk.1.2, hk.2⟩)⟩, ⟨by (with_reducible repeat (first | refine blk_drewN ?_ _ | refine blk_drew ?_ | refine blk_alloc ?_ _)); exact BK639.out⟩, ⟨by (with_reducible repeat (first | refine blk_drewN ?_ _ | refine blk_drew ?_ | refine blk_alloc ?_ _)); exact BK650.out⟩, ⟨by (with_reducible repeat (first | refine blk_drewN ?_ _ | refine blk_drew ?_ | refine blk_alloc ?_ _)); exact BK655.out⟩, ⟨by (with_reducible repeat (first | refine blk_drewN ?_ _ | refine blk_drew ?_ | refine blk_alloc ?_ _)); exact BK661.out⟩, ⟨by repeat (first | (with_reducible first | exact HB.out | apply below_alloc | apply pw_below_drewN | apply below_drew1 | refine below_set ?_ GE639.out | refine below_set ?_ GE650.out | refine below_set ?_ GE655.out | refine below_set ?_ GE661.out) | exact HB.out)⟩⟩
   ·
    replace c38 := Bool.eq_false_iff.mpr c38
    subst c38
    have H1 : (laws_FnExactClarify.j0 k t649 t660 true a0_0 l0_1 t645 t646 t651 t652 t656 t657) = some r := q33_51
    clear H
    have H := H1
    clear H1
    have H' := Aside0.mk H
    clear H
    have hnb47 := NB661_639.out
    have hnc47 := NB639_661.out
    have hnb48 := NB661_650.out
    have hnc48 := NB650_661.out
    have hnb49 := NB661_655.out
    have hnc49 := NB655_661.out
    have hcz50_0 : w31.cell? ⟨gb661, 0, none⟩ = some (.int .i64 0) := (blk_cell BK661.out 0).trans rfl
    have hcz50_1 : w31.cell? ⟨gb661, 1, none⟩ = some (.slice none 0 0) := (blk_cell BK661.out 1).trans rfl
    have hfz50_0 := blk_frozen BK661.out 0
    have hfz50_1 := blk_frozen BK661.out 1
    have hnb51 := NB650_639.out
    have hnc51 := NB639_650.out
    have hnb52 := NB650_655.out
    have hnc52 := NB655_650.out
    have hcz53_0 : w31.cell? ⟨gb650, 0, none⟩ = some (.int .i64 t645) := (blk_cell BK650.out 0).trans rfl
    have hcz53_1 : w31.cell? ⟨gb650, 1, none⟩ = some (.slice Ao22 t646.length co22) := (blk_cell BK650.out 1).trans rfl
    have hfz53_0 := blk_frozen BK650.out 0
    have hfz53_1 := blk_frozen BK650.out 1
    go_wp2_with (first | ((with_reducible refine gate_callee (f := 19) rfl ?_); refine goesL_ (some 34) rfl rfl Try.func19 q33_53 rfl #[.agg #[.int .i64 t656, .slice Ao36 t657.length co36], .agg #[.int .i64 t645, .slice Ao22 t646.length co22]] rfl q33_35 ?_; (with_reducible refine (laws_eqContext.calls k t656 _ _ t657 t645 _ _ t646 false _ ?side1 ?side2 ?side3 ?side4 A37.out).mono ?_); (case side1 => refine (Kd.R_reads' (e := 3) (base := w.heap.size) (ok := fun k_ => (((True ∧ some k_ ≠ (.slice Ao17 t642.length co17 : Value).ownBlock) ∧ some k_ ≠ (.slice Ao22 t646.length co22 : Value).ownBlock) ∧ some k_ ≠ (.slice Ao29 t652.length co29 : Value).ownBlock)) (n := t657.length) (c := co36) ?_).2.2; exact q33_23); (case side2 => exact (Kd.R_reads' HO659.out).2.1); (case side3 => refine (Kd.R_reads' (e := 3) (base := w.heap.size) (ok := fun k_ => (((True ∧ some k_ ≠ (.slice Ao17 t642.length co17 : Value).ownBlock) ∧ some k_ ≠ (.slice Ao29 t652.length co29 : Value).ownBlock) ∧ some k_ ≠ (.slice Ao36 t657.length co36 : Value).ownBlock)) (n := t646.length) (c := co22) ?_).2.2; exact q33_21); (case side4 => exact (Kd.R_reads' HO648.out).2.1); rintro e w54 ⟨rfl, hb⟩; refine ⟨_, rfl, ?_⟩; have n0_ := Aside0.mk (Kd.R_below q33_20 hb); have n1_ := Aside0.mk (Kd.R_below q33_21 hb); have n2_ := Aside0.mk (Kd.R_below q33_22 hb); have n3_ := Aside0.mk (Kd.R_below q33_23 hb); have n4_ := Aside0.mk (blk_below (g := gb639) (o := .cells #[.int .i64 a0_0, .slice A0_1 l0_1.length c0_1] 24 (0, 0)) q33_3 hb); have n5_ := Aside0.mk (blk_below (g := gb650) (o := .cells #[.int .i64 t645, .slice Ao22 t646.length co22] 27 (0, 0)) q33_5 hb); have n6_ := Aside0.mk (blk_below (g := gb655) (o := .cells #[.int .i64 t651, .slice Ao29 t652.length co29] 27 (0, 0)) q33_7 hb); have n7_ := Aside0.mk (blk_below (g := gb661) (o := .cells #[.int .i64 t656, .slice Ao36 t657.length co36] 27 (0, 0)) q33_1 hb); have n8_ := Aside0.mk (below_step q33_25 hb); clear HO644; clear HO648; clear HO654; clear HO659; clear BK639; clear BK650; clear BK655; clear BK661; clear HB; have HO644 := n0_; have HO648 := n1_; have HO654 := n2_; have HO659 := n3_; have BK639 := n4_; have BK650 := n5_; have BK655 := n6_; have BK661 := n7_; have HB := n8_; clear n0_ n1_ n2_ n3_ n4_ n5_ n6_ n7_ n8_; (try clear hb); (try clear hb2); (try clear hk); (try clear hi)))
    go_meet
    case rel => exact ⟨_, (true), q33_50, H', ⟨by first | omega | exact Nat.le_refl _⟩, ⟨by (with_reducible repeat (first | apply Kd.R_alloc | apply Kd.R_drewN | apply Kd.R_drew)); exact Kd.R_mono HO648.out (fun _ hk => ⟨hk.1.2, hk.2⟩)⟩, ⟨by (with_reducible repeat (first | apply Kd.R_alloc | apply Kd.R_drewN | apply Kd.R_drew)); exact Kd.R_mono HO654.out (fun _ hk => ⟨hk.1.2, hk.2⟩)⟩, ⟨by (with_reducible repeat (first | apply Kd.R_alloc | apply Kd.R_drewN | apply Kd.R_drew)); exact Kd.R_mono HO659.out (fun _ hk => ⟨hk.1.2, hk.2⟩)⟩, ⟨by (with_reducible repeat (first | refine blk_drewN ?_ _ | refine blk_drew ?_ | refine blk_alloc ?_ _)); exact BK639.out⟩, ⟨by (with_reducible repeat (first | refine blk_drewN ?_ _ | refine blk_drew ?_ | refine blk_alloc ?_ _)); exact BK650.out⟩, ⟨by (with_reducible repeat (first | refine blk_drewN ?_ _ | refine blk_drew ?_ | refine blk_alloc ?_ _)); exact BK655.out⟩, ⟨by (with_reducible repeat (first | refine blk_drewN ?_ _ | refine blk_drew ?_ | refine blk_alloc ?_ _)); exact BK661.out⟩, ⟨by repeat (first | (with_reducible first | exact HB.out | apply below_alloc | apply pw_below_drewN | apply below_drew1 | refine below_set ?_ GE639.out | refine below_set ?_ GE650.out | refine below_set ?_ GE655.out | refine below_set ?_ GE661.out) | exact HB.out)⟩⟩
  case rest =>
   clear HC11
   try clear c1
   try clear c2
   try clear p2
   try clear c3
   try clear c3b0
   try clear c4
   try clear c5
   try clear c13
   try clear c15
   try clear c17
   try clear c19
   try clear c20
   try clear c26
   try clear c27
   try clear c32
   try clear c33
   try clear c34
   try clear c38
   try clear c39
   try clear c40
   try clear c41
   try clear c42
   try clear c43
   try clear c44
   try clear c47
   try clear c48
   try clear c49
   try clear c51
   try clear c52
   try clear hcz13_0
   try clear hcz13_1
   try clear hcz15_0
   try clear hcz15_1
   try clear hcz21_0
   try clear hcz21_1
   try clear hcz23_0
   try clear hcz23_1
   try clear hcz28_0
   try clear hcz28_1
   try clear hcz35_0
   try clear hcz35_1
   try clear hcz42_0
   try clear hcz42_1
   try clear hcz45_0
   try clear hcz45_1
   try clear hcz50_0
   try clear hcz50_1
   try clear hcz53_0
   try clear hcz53_1
   try clear hcz5_0
   try clear hcz5_1
   try clear hfz13_0
   try clear hfz13_1
   try clear hfz15_0
   try clear hfz15_1
   try clear hfz21_0
   try clear hfz21_1
   try clear hfz23_0
   try clear hfz23_1
   try clear hfz28_0
   try clear hfz28_1
   try clear hfz35_0
   try clear hfz35_1
   try clear hfz42_0
   try clear hfz42_1
   try clear hfz45_0
   try clear hfz45_1
   try clear hfz50_0
   try clear hfz50_1
   try clear hfz53_0
   try clear hfz53_1
   try clear hfz5_0
   try clear hfz5_1
   obtain ⟨kq, x40_10, rfl, HA, HJ10, HO_651001, HO_656001, HO_662001, BK639, BK650, BK655, BK661, HB⟩ := hcut
   cases kq with
   | zero => exact absurd HA.out (by simp [laws_FnExactClarify.j0])
   | succ kj10 =>
    have H := HA.out
    clear HA
    simp only [laws_FnExactClarify.j0] at H
    by_cases c55 : x40_10 = true
    ·
     subst c55
     have H1 : (some false) = some r := q33_52
     clear H
     have H := H1
     clear H1
     obtain rfl := Option.some.inj H
     go_wp2
     go_ret
     exact ⟨by first | rfl | (simp [errW_none, errW_some] <;> rfl) | (simp [*, errW_none, errW_some] <;> rfl), by repeat (first | (with_reducible first | exact HB.out | apply below_alloc | apply pw_below_drewN | apply below_drew1 | refine below_set ?_ GE639.out | refine below_set ?_ GE650.out | refine below_set ?_ GE655.out | refine below_set ?_ GE661.out) | exact HB.out)⟩
    ·
     replace c55 := Bool.eq_false_iff.mpr c55
     subst c55
     have H1 : ((laws_toContext.f kj10 a0_0 l0_1).bind fun bt663 => ((laws_eqContext.f kj10 t651 t652 bt663.1 bt663.2).bind fun t667 => (if t667 = true then ((laws_markContext.f kj10 t651 t652 1).bind fun bt668 => (if bt668.1 < 0 then (laws_FnExactClarify.j1 kj10 t649 true a0_0 l0_1 t645 t646 t656 t657) else ((laws_eqContext.f kj10 t656 t657 t645 t646).bind fun t670 => (if t670 = true then (laws_FnExactClarify.j1 kj10 t649 (t660 != t649) a0_0 l0_1 t645 t646 t656 t657) else (laws_FnExactClarify.j1 kj10 t649 true a0_0 l0_1 t645 t646 t656 t657))))) else (some false)))) = some r := q33_51
     clear H
     have H := H1
     clear H1
     replace H := Option.bind_eq_some_iff.mp H
     obtain ⟨⟨t663, t664⟩, A560, H⟩ := H
     replace H : ((laws_eqContext.f kj10 t651 t652 t663 t664).bind fun t667 => (if t667 = true then ((laws_markContext.f kj10 t651 t652 1).bind fun bt668 => (if bt668.1 < 0 then (laws_FnExactClarify.j1 kj10 t649 true a0_0 l0_1 t645 t646 t656 t657) else ((laws_eqContext.f kj10 t656 t657 t645 t646).bind fun t670 => (if t670 = true then (laws_FnExactClarify.j1 kj10 t649 (t660 != t649) a0_0 l0_1 t645 t646 t656 t657) else (laws_FnExactClarify.j1 kj10 t649 true a0_0 l0_1 t645 t646 t656 t657))))) else (some false))) = some r := H
     have A56 := Aside0.mk A560
     clear A560
     replace H := Option.bind_eq_some_iff.mp H
     obtain ⟨t667, A570, H⟩ := H
     replace H : (if t667 = true then ((laws_markContext.f kj10 t651 t652 1).bind fun bt668 => (if bt668.1 < 0 then (laws_FnExactClarify.j1 kj10 t649 true a0_0 l0_1 t645 t646 t656 t657) else ((laws_eqContext.f kj10 t656 t657 t645 t646).bind fun t670 => (if t670 = true then (laws_FnExactClarify.j1 kj10 t649 (t660 != t649) a0_0 l0_1 t645 t646 t656 t657) else (laws_FnExactClarify.j1 kj10 t649 true a0_0 l0_1 t645 t646 t656 t657))))) else (some false)) = some r := H
     have A57 := Aside0.mk A570
     clear A570
     by_cases c58 : t667 = true
     ·
      subst c58
      have H1 : ((laws_markContext.f kj10 t651 t652 1).bind fun bt668 => (if bt668.1 < 0 then (laws_FnExactClarify.j1 kj10 t649 true a0_0 l0_1 t645 t646 t656 t657) else ((laws_eqContext.f kj10 t656 t657 t645 t646).bind fun t670 => (if t670 = true then (laws_FnExactClarify.j1 kj10 t649 (t660 != t649) a0_0 l0_1 t645 t646 t656 t657) else (laws_FnExactClarify.j1 kj10 t649 true a0_0 l0_1 t645 t646 t656 t657))))) = some r := q33_52
      clear H
      have H := H1
      clear H1
      replace H := Option.bind_eq_some_iff.mp H
      obtain ⟨⟨t668, t669⟩, A590, H⟩ := H
      replace H : (if t668 < 0 then (laws_FnExactClarify.j1 kj10 t649 true a0_0 l0_1 t645 t646 t656 t657) else ((laws_eqContext.f kj10 t656 t657 t645 t646).bind fun t670 => (if t670 = true then (laws_FnExactClarify.j1 kj10 t649 (t660 != t649) a0_0 l0_1 t645 t646 t656 t657) else (laws_FnExactClarify.j1 kj10 t649 true a0_0 l0_1 t645 t646 t656 t657)))) = some r := H
      have A59 := Aside0.mk A590
      clear A590
      have HC60 := Aside0.mk H
      clear H
      try go_wp2
      have n0_ := Aside0.mk (Kd.R_drew HO_651001.out)
      have n1_ := Aside0.mk (Kd.R_drew HO_656001.out)
      have n2_ := Aside0.mk (Kd.R_drew HO_662001.out)
      have n3_ := Aside0.mk (blk_drew BK639.out)
      have n4_ := Aside0.mk (blk_drew BK650.out)
      have n5_ := Aside0.mk (blk_drew BK655.out)
      have n6_ := Aside0.mk (blk_drew BK661.out)
      have n7_ := Aside0.mk (below_drew1 HB.out)
      clear HO_651001
      clear HO_656001
      clear HO_662001
      clear BK639
      clear BK650
      clear BK655
      clear BK661
      clear HB
      have HO_651001 := n0_
      have HO_656001 := n1_
      have HO_662001 := n2_
      have BK639 := n3_
      have BK650 := n4_
      have BK655 := n5_
      have BK661 := n6_
      have HB := n7_
      clear n0_ n1_ n2_ n3_ n4_ n5_ n6_ n7_
      refine start_ (n := 5) (S := fun w' => w'.cell? ⟨gb655, 0, none⟩ = some (.int .i64 t651) ∧ w'.cell? ⟨gb655, 1, none⟩ = some (.slice Ao29 t652.length co29) ∧ w'.cell? ⟨gb639, 0, none⟩ = some (.int .i64 a0_0) ∧ w'.cell? ⟨gb639, 1, none⟩ = some (.slice A0_1 l0_1.length c0_1)) (ds := []) #[false, false, false, false, false] q33_53 rfl rfl ⟨(blk_cell BK655.out 0).trans rfl, (blk_cell BK655.out 1).trans rfl, (blk_cell BK639.out 0).trans rfl, (blk_cell BK639.out 1).trans rfl⟩ (fun hHeld => ?_)
      generalize wc.drew = w61 at HO_651001 HO_656001 HO_662001 BK639 BK650 BK655 BK661 HB hHeld ⊢
      refine take_ (i := 0) (N := some 41) (v := ?_) (a' := ?_) #[true, false, false, false, false] rfl rfl q33_53 (fun _ _ _ h => h) (Or.inl ⟨by rfl, ?_⟩) hHeld ?_ ?_
      rotate_left
      ·
       rintro w' ⟨s0, s1, s2, s3⟩
       go_simp
       with_reducible rfl
      rotate_left
      ·
       exact put33_
      refine take_ (i := 1) (N := some 42) (v := ?_) (a' := ?_) #[true, true, false, false, false] rfl rfl q33_53 (fun _ _ _ h => h) (Or.inl ⟨by rfl, ?_⟩) hHeld ?_ ?_
      rotate_left
      ·
       rintro w' ⟨s0, s1, s2, s3⟩
       go_simp
       with_reducible rfl
      rotate_left
      ·
       exact put33_
      refine one_ (i := 2) (N := some 43) #[true, true, true, false, false] rfl rfl q33_53 (by decide) (fun K hK => ?_)
      refine goes_ Try.func17 q33_53 rfl #[.agg #[.int .i64 a0_0, .slice A0_1 l0_1.length c0_1]] (by rfl) rfl rfl q33_35 ?_
      with_reducible refine (laws_toContext.calls kj10 a0_0 _ _ l0_1 t663 t664 _ ?side1 ?side2 A56.out).mono ?_
      (case side1 => exact q33_32)
      (case side2 => exact HC0_1.out)
      rintro e w62 ⟨v665, rfl, ho0, hb⟩
      refine ⟨_, rfl, ?_⟩
      have n0_ := Aside0.mk (Kd.R_elder' q33_42 (Kd.R_base ho0) hb)
      have n1_ := Aside0.mk (Kd.R_elder' q33_43 (Kd.R_base ho0) hb)
      have n2_ := Aside0.mk (Kd.R_elder' q33_44 (Kd.R_base ho0) hb)
      have n3_ := Aside0.mk (Kd.R_lower (Kd.R_new' (Kd.R_new' (Kd.R_new' ho0 (Kd.R_lt q33_42)) (Kd.R_lt q33_43)) (Kd.R_lt q33_44)) (below_size q33_25))
      have n4_ := Aside0.mk (blk_below (g := gb639) (o := .cells #[.int .i64 a0_0, .slice A0_1 l0_1.length c0_1] 24 (0, 0)) q33_37 hb)
      have n5_ := Aside0.mk (blk_below (g := gb650) (o := .cells #[.int .i64 t645, .slice Ao22 t646.length co22] 27 (0, 0)) q33_38 hb)
      have n6_ := Aside0.mk (blk_below (g := gb655) (o := .cells #[.int .i64 t651, .slice Ao29 t652.length co29] 27 (0, 0)) q33_39 hb)
      have n7_ := Aside0.mk (blk_below (g := gb661) (o := .cells #[.int .i64 t656, .slice Ao36 t657.length co36] 27 (0, 0)) q33_40 hb)
      have n8_ := Aside0.mk (below_step q33_25 hb)
      clear HO_651001
      clear HO_656001
      clear HO_662001
      clear BK639
      clear BK650
      clear BK655
      clear BK661
      clear HB
      have HO_651001 := n0_
      have HO_656001 := n1_
      have HO_662001 := n2_
      have HO666 := n3_
      have BK639 := n4_
      have BK650 := n5_
      have BK655 := n6_
      have BK661 := n7_
      have HB := n8_
      clear n0_ n1_ n2_ n3_ n4_ n5_ n6_ n7_ n8_
      (try clear hb)
      (try clear hb2)
      (try clear hk)
      (try clear hi)
      (try clear ho0)
      obtain ⟨Ao63, co63, eo63⟩ := Kd.R_slice HO666.out
      (first | subst eo63 | (injection eo63 with f1_ f2_ f3_; have f4_ := f1_.symm; have f5_ := f3_.symm; clear f1_ f2_ f3_; subst f4_; subst f5_))
      refine hK.out _ _ ⟨(blk_cell BK655.out 0).trans rfl, (blk_cell BK655.out 1).trans rfl, (blk_cell BK639.out 0).trans rfl, (blk_cell BK639.out 1).trans rfl⟩ (fun hHeld => ?_)
      clear hK K
      refine norm_ (a' := ?_) ?_ ?_
      rotate_left
      ·
       show Act.put _ (some 43) _ = _
       exact put33_
      refine one_ (i := 3) (N := some 44) #[true, true, true, true, false] rfl rfl q33_53 (by decide) (fun K hK => ?_)
      refine goes_ Try.func19 q33_53 rfl #[.agg #[.int .i64 t651, .slice Ao29 t652.length co29], .agg #[.int .i64 t663, .slice Ao63 t664.length co63]] (by rfl) rfl rfl q33_35 ?_
      with_reducible refine (laws_eqContext.calls kj10 t651 _ _ t652 t663 _ _ t664 true _ ?side1 ?side2 ?side3 ?side4 A57.out).mono ?_
      (case side1 => exact q33_30)
      (case side2 => exact (Kd.R_reads' HO_656001.out).2.1)
      (case side3 => exact q33_33)
      (case side4 => exact (Kd.R_reads' HO666.out).2.1)
      rintro e w64 ⟨rfl, hb⟩
      refine ⟨_, rfl, ?_⟩
      have n0_ := Aside0.mk (Kd.R_below q33_42 hb)
      have n1_ := Aside0.mk (Kd.R_below q33_43 hb)
      have n2_ := Aside0.mk (Kd.R_below q33_44 hb)
      have n3_ := Aside0.mk (Kd.R_below q33_48 hb)
      have n4_ := Aside0.mk (blk_below (g := gb639) (o := .cells #[.int .i64 a0_0, .slice A0_1 l0_1.length c0_1] 24 (0, 0)) q33_37 hb)
      have n5_ := Aside0.mk (blk_below (g := gb650) (o := .cells #[.int .i64 t645, .slice Ao22 t646.length co22] 27 (0, 0)) q33_38 hb)
      have n6_ := Aside0.mk (blk_below (g := gb655) (o := .cells #[.int .i64 t651, .slice Ao29 t652.length co29] 27 (0, 0)) q33_39 hb)
      have n7_ := Aside0.mk (blk_below (g := gb661) (o := .cells #[.int .i64 t656, .slice Ao36 t657.length co36] 27 (0, 0)) q33_40 hb)
      have n8_ := Aside0.mk (below_step q33_25 hb)
      clear HO_651001
      clear HO_656001
      clear HO_662001
      clear HO666
      clear BK639
      clear BK650
      clear BK655
      clear BK661
      clear HB
      have HO_651001 := n0_
      have HO_656001 := n1_
      have HO_662001 := n2_
      have HO666 := n3_
      have BK639 := n4_
      have BK650 := n5_
      have BK655 := n6_
      have BK661 := n7_
      have HB := n8_
      clear n0_ n1_ n2_ n3_ n4_ n5_ n6_ n7_ n8_
      (try clear hb)
      (try clear hb2)
      (try clear hk)
      (try clear hi)
      refine hK.out _ _ ⟨(blk_cell BK655.out 0).trans rfl, (blk_cell BK655.out 1).trans rfl, (blk_cell BK639.out 0).trans rfl, (blk_cell BK639.out 1).trans rfl⟩ (fun hHeld => ?_)
      clear hK K
      refine norm_ (a' := ?_) ?_ ?_
      rotate_left
      ·
       show Act.put _ (some 44) _ = _
       exact put33_
      refine pure_ (i := 4) (N := some 45) (v := ?_) (a' := ?_) #[true, true, true, true, true] rfl rfl q33_53 (fun _ _ _ h => h) (Or.inl ⟨by rfl, ?_⟩) ?_ ?_
      rotate_left
      ·
       intro w'
       go_simp
       with_reducible rfl
      rotate_left
      ·
       exact put33_
      refine done_ q33_53 ?_
      have hnb65 := NB655_639.out
      have hnc65 := NB639_655.out
      have hnb66 := NB655_650.out
      have hnc66 := NB650_655.out
      have hnb67 := NB655_661.out
      have hnc67 := NB661_655.out
      have hcz68_0 : w64.cell? ⟨gb655, 0, none⟩ = some (.int .i64 t651) := (blk_cell BK655.out 0).trans rfl
      have hcz68_1 : w64.cell? ⟨gb655, 1, none⟩ = some (.slice Ao29 t652.length co29) := (blk_cell BK655.out 1).trans rfl
      have hfz68_0 := blk_frozen BK655.out 0
      have hfz68_1 := blk_frozen BK655.out 1
      go_upto_region 14 with (first | ((with_reducible refine gate_callee (f := 37) rfl ?_); refine goesL_ (some 48) rfl rfl Try.func37 q33_53 rfl #[.agg #[.int .i64 t651, .slice Ao29 t652.length co29], .int .i64 1] rfl q33_35 ?_; (with_reducible refine (laws_markContext.calls kj10 t651 (fun k_ => some k_ = (.slice Ao29 t652.length co29 : Value).ownBlock) (.slice Ao29 t652.length co29) t652 1 t668 t669 w _ ?side1 ?side2 A59.out).mono ?_); (case side1 => exact q33_25); (case side2 => exact Kd.R_tight rfl HO_656001.out); rintro e w69 ⟨rfl, hy0, hb, hkp⟩; refine ⟨_, rfl, ?_⟩; have n0_ := Aside0.mk (Kd.R_mono (ok' := fun k_ => some k_ ≠ (.slice Ao29 t652.length co29 : Value).ownBlock ∧ some k_ ≠ (.slice Ao36 t657.length co36 : Value).ownBlock ∧ some k_ ≠ (.slice Ao63 t664.length co63 : Value).ownBlock) (Kd.R_keptB (HO_651001.out) hkp (fun k_ hk_ hs_ => (hk_.1.1) hs_)) (fun k_ hk_ => ⟨hk_.1.1.1, hk_.1.1.2, hk_.1.2⟩)); have n1_ := Aside0.mk (Kd.R_reok rfl hy0 (fun k_ e_ => HO_656001.out.1 k_ e_)); have n2_ := Aside0.mk (Kd.R_mono (ok' := fun k_ => some k_ ≠ (.slice Ao22 t646.length co22 : Value).ownBlock ∧ some k_ ≠ (.slice Ao29 t652.length co29 : Value).ownBlock ∧ some k_ ≠ (.slice Ao63 t664.length co63 : Value).ownBlock) (Kd.R_keptB (HO_662001.out) hkp (fun k_ hk_ hs_ => (hk_.1.2) hs_)) (fun k_ hk_ => ⟨hk_.1.1.1, hk_.1.1.2, hk_.1.2⟩)); have n3_ := Aside0.mk (blk_kept q33_37 hkp (fun hs_ => (fun e_ => (Kd.R_ne HO_656001.out BK639.out (by decide)) e_) hs_)); have n4_ := Aside0.mk (blk_kept q33_38 hkp (fun hs_ => (fun e_ => (Kd.R_ne HO_656001.out BK650.out (by decide)) e_) hs_)); have n5_ := Aside0.mk (blk_kept q33_39 hkp (fun hs_ => (fun e_ => (Kd.R_ne HO_656001.out BK655.out (by decide)) e_) hs_)); have n6_ := Aside0.mk (blk_kept q33_40 hkp (fun hs_ => (fun e_ => (Kd.R_ne HO_656001.out BK661.out (by decide)) e_) hs_)); have n7_ := Aside0.mk (Kd.R_mono (ok' := fun k_ => some k_ ≠ (.slice Ao22 t646.length co22 : Value).ownBlock ∧ some k_ ≠ (.slice Ao29 t652.length co29 : Value).ownBlock ∧ some k_ ≠ (.slice Ao36 t657.length co36 : Value).ownBlock) (Kd.R_keptB (HO666.out) hkp (fun k_ hk_ hs_ => (hk_.1.2) hs_)) (fun k_ hk_ => ⟨hk_.1.1.1.2, hk_.1.1.2, hk_.1.2⟩)); have n8_ := Aside0.mk (hb); clear HO_651001; clear HO_656001; clear HO_662001; clear BK639; clear BK650; clear BK655; clear BK661; clear HO666; clear HB; have HO_651001 := n0_; have HO_656001 := n1_; have HO_662001 := n2_; have BK639 := n3_; have BK650 := n4_; have BK655 := n5_; have BK661 := n6_; have HO666 := n7_; have HB := n8_; clear n0_ n1_ n2_ n3_ n4_ n5_ n6_ n7_ n8_; (try clear hb); (try clear hkp); (try clear hy0)))
      (try simp only [Act.put, List.setIfInBounds_toArray, List.set_cons_zero, List.set_cons_succ])
      go_cut [61] (fun v61 wc => ∃ (kq : Nat) (x61_59 : Bool), v61 = .bool x61_59 ∧ Aside0 (laws_FnExactClarify.j1 kq t649 x61_59 a0_0 l0_1 t645 t646 t656 t657 = some r) ∧ Aside0 (kq ≤ kj10) ∧ Aside0 (Kd.R (Kd.int .i64) 3 wc w.heap.size (fun k_ => some k_ ≠ ((.slice Ao29 t652.length co29) : Value).ownBlock ∧ some k_ ≠ ((.slice Ao36 t657.length co36) : Value).ownBlock) (.slice Ao22 t646.length co22) t646) ∧ Aside0 (Kd.R (Kd.int .i64) 3 wc w.heap.size (fun k_ => some k_ ≠ ((.slice Ao22 t646.length co22) : Value).ownBlock ∧ some k_ ≠ ((.slice Ao36 t657.length co36) : Value).ownBlock) (.slice Ao29 t652.length co29) t669) ∧ Aside0 (Kd.R (Kd.int .i64) 3 wc w.heap.size (fun k_ => some k_ ≠ ((.slice Ao22 t646.length co22) : Value).ownBlock ∧ some k_ ≠ ((.slice Ao29 t652.length co29) : Value).ownBlock) (.slice Ao36 t657.length co36) t657) ∧ Aside0 (wc.heap[gb639]? = some (.cells #[.int .i64 a0_0, (.slice A0_1 l0_1.length c0_1)] 24 (0, 0))) ∧ Aside0 (wc.heap[gb650]? = some (.cells #[.int .i64 t645, (.slice Ao22 t646.length co22)] 27 (0, 0))) ∧ Aside0 (wc.heap[gb655]? = some (.cells #[.int .i64 t651, (.slice Ao29 t652.length co29)] 27 (0, 0))) ∧ Aside0 (wc.heap[gb661]? = some (.cells #[.int .i64 t656, (.slice Ao36 t657.length co36)] 27 (0, 0))) ∧ Aside0 (Below w.heap.size w wc))
      case first =>
       have H := HC60.out
       clear HC60
       by_cases c70 : t668 < 0
       ·
        rw [if_pos c70] at H
        have c70b0 : decide (t668 < 0) = true := decide_eq_true c70
        clear c70
        (first | rw [c70b0] | (simp only [i64_w, i32_w]; rw [c70b0]) | skip)
        have H' := Aside0.mk H
        clear H
        go_wp2
        go_meet
        case rel => exact ⟨_, (true), q33_50, H', ⟨by have := HJ10.out; first | omega | exact Nat.le_refl _⟩, ⟨by (with_reducible repeat (first | apply Kd.R_alloc | apply Kd.R_drewN | apply Kd.R_drew)); exact Kd.R_mono HO_651001.out (fun _ hk => ⟨hk.1, hk.2.1⟩)⟩, ⟨by (with_reducible repeat (first | apply Kd.R_alloc | apply Kd.R_drewN | apply Kd.R_drew)); exact Kd.R_mono HO_656001.out (fun _ hk => ⟨hk.1.1, hk.1.2⟩)⟩, ⟨by (with_reducible repeat (first | apply Kd.R_alloc | apply Kd.R_drewN | apply Kd.R_drew)); exact Kd.R_mono HO_662001.out (fun _ hk => ⟨hk.1, hk.2.1⟩)⟩, ⟨by (with_reducible repeat (first | refine blk_drewN ?_ _ | refine blk_drew ?_ | refine blk_alloc ?_ _)); exact BK639.out⟩, ⟨by (with_reducible repeat (first | refine blk_drewN ?_ _ | refine blk_drew ?_ | refine blk_alloc ?_ _)); exact BK650.out⟩, ⟨by (with_reducible repeat (first | refine blk_drewN ?_ _ | refine blk_drew ?_ | refine blk_alloc ?_ _)); exact BK655.out⟩, ⟨by (with_reducible repeat (first | refine blk_drewN ?_ _ | refine blk_drew ?_ | refine blk_alloc ?_ _)); exact BK661.out⟩, ⟨by repeat (first | (with_reducible first | exact HB.out | apply below_alloc | apply pw_below_drewN | apply below_drew1 | refine below_set ?_ GE639.out | refine below_set ?_ GE650.out | refine below_set ?_ GE655.out | refine below_set ?_ GE661.out) | exact HB.out)⟩⟩
       ·
        rw [if_neg c70] at H
        have c70b0 : decide (t668 < 0) = false := decide_eq_false c70
        clear c70
        (first | rw [c70b0] | (simp only [i64_w, i32_w]; rw [c70b0]) | skip)
        replace H := Option.bind_eq_some_iff.mp H
        obtain ⟨t670, A710, H⟩ := H
        replace H : (if t670 = true then (laws_FnExactClarify.j1 kj10 t649 (t660 != t649) a0_0 l0_1 t645 t646 t656 t657) else (laws_FnExactClarify.j1 kj10 t649 true a0_0 l0_1 t645 t646 t656 t657)) = some r := H
        have A71 := Aside0.mk A710
        clear A710
        by_cases c72 : t670 = true
        ·
         subst c72
         have H1 : (laws_FnExactClarify.j1 kj10 t649 (t660 != t649) a0_0 l0_1 t645 t646 t656 t657) = some r := q33_52
         clear H
         have H := H1
         clear H1
         have H' := Aside0.mk H
         clear H
         have hnb73 := NB661_639.out
         have hnc73 := NB639_661.out
         have hnb74 := NB661_650.out
         have hnc74 := NB650_661.out
         have hnb75 := NB661_655.out
         have hnc75 := NB655_661.out
         have hcz76_0 : w69.cell? ⟨gb661, 0, none⟩ = some (.int .i64 t656) := (blk_cell BK661.out 0).trans rfl
         have hcz76_1 : w69.cell? ⟨gb661, 1, none⟩ = some (.slice Ao36 t657.length co36) := (blk_cell BK661.out 1).trans rfl
         have hfz76_0 := blk_frozen BK661.out 0
         have hfz76_1 := blk_frozen BK661.out 1
         have hnb77 := NB650_639.out
         have hnc77 := NB639_650.out
         have hnb78 := NB650_655.out
         have hnc78 := NB655_650.out
         have hcz79_0 : w69.cell? ⟨gb650, 0, none⟩ = some (.int .i64 t645) := (blk_cell BK650.out 0).trans rfl
         have hcz79_1 : w69.cell? ⟨gb650, 1, none⟩ = some (.slice Ao22 t646.length co22) := (blk_cell BK650.out 1).trans rfl
         have hfz79_0 := blk_frozen BK650.out 0
         have hfz79_1 := blk_frozen BK650.out 1
         go_wp2_with (first | (go_at_call 19; (with_reducible refine (laws_eqContext.calls kj10 t656 _ _ t657 t645 _ _ t646 true _ ?side1 ?side2 ?side3 ?side4 A71.out).mono ?_); (case side1 => exact q33_31); (case side2 => exact (Kd.R_reads' HO_662001.out).2.1); (case side3 => exact q33_29); (case side4 => exact (Kd.R_reads' HO_651001.out).2.1); rintro e w80 ⟨rfl, hb⟩; have n0_ := Aside0.mk (Kd.R_below q33_42 hb); have n1_ := Aside0.mk (Kd.R_below q33_43 hb); have n2_ := Aside0.mk (Kd.R_below q33_44 hb); have n3_ := Aside0.mk (Kd.R_below q33_48 hb); have n4_ := Aside0.mk (blk_below (g := gb639) (o := .cells #[.int .i64 a0_0, .slice A0_1 l0_1.length c0_1] 24 (0, 0)) q33_37 hb); have n5_ := Aside0.mk (blk_below (g := gb650) (o := .cells #[.int .i64 t645, .slice Ao22 t646.length co22] 27 (0, 0)) q33_38 hb); have n6_ := Aside0.mk (blk_below (g := gb655) (o := .cells #[.int .i64 t651, .slice Ao29 t652.length co29] 27 (0, 0)) q33_39 hb); have n7_ := Aside0.mk (blk_below (g := gb661) (o := .cells #[.int .i64 t656, .slice Ao36 t657.length co36] 27 (0, 0)) q33_40 hb); have n8_ := Aside0.mk (below_step q33_25 hb); clear HO_651001; clear HO_656001; clear HO_662001; clear HO666; clear BK639; clear BK650; clear BK655; clear BK661; clear HB; have HO_651001 := n0_; have HO_656001 := n1_; have HO_662001 := n2_; have HO666 := n3_; have BK639 := n4_; have BK650 := n5_; have BK655 := n6_; have BK661 := n7_; have HB := n8_; clear n0_ n1_ n2_ n3_ n4_ n5_ n6_ n7_ n8_; (try clear hb); (try clear hb2); (try clear hk); (try clear hi)))
         go_meet
         case rel => exact ⟨_, ((t660 != t649)), q33_50, H', ⟨by have := HJ10.out; first | omega | exact Nat.le_refl _⟩, ⟨by (with_reducible repeat (first | apply Kd.R_alloc | apply Kd.R_drewN | apply Kd.R_drew)); exact Kd.R_mono HO_651001.out (fun _ hk => ⟨hk.1, hk.2.1⟩)⟩, ⟨by (with_reducible repeat (first | apply Kd.R_alloc | apply Kd.R_drewN | apply Kd.R_drew)); exact Kd.R_mono HO_656001.out (fun _ hk => ⟨hk.1.1, hk.1.2⟩)⟩, ⟨by (with_reducible repeat (first | apply Kd.R_alloc | apply Kd.R_drewN | apply Kd.R_drew)); exact Kd.R_mono HO_662001.out (fun _ hk => ⟨hk.1, hk.2.1⟩)⟩, ⟨by (with_reducible repeat (first | refine blk_drewN ?_ _ | refine blk_drew ?_ | refine blk_alloc ?_ _)); exact BK639.out⟩, ⟨by (with_reducible repeat (first | refine blk_drewN ?_ _ | refine blk_drew ?_ | refine blk_alloc ?_ _)); exact BK650.out⟩, ⟨by (with_reducible repeat (first | refine blk_drewN ?_ _ | refine blk_drew ?_ | refine blk_alloc ?_ _)); exact BK655.out⟩, ⟨by (with_reducible repeat (first | refine blk_drewN ?_ _ | refine blk_drew ?_ | refine blk_alloc ?_ _)); exact BK661.out⟩, ⟨by repeat (first | (with_reducible first | exact HB.out | apply below_alloc | apply pw_below_drewN | apply below_drew1 | refine below_set ?_ GE639.out | refine below_set ?_ GE650.out | refine below_set ?_ GE655.out | refine below_set ?_ GE661.out) | exact HB.out)⟩⟩
        ·
         replace c72 := Bool.eq_false_iff.mpr c72
         subst c72
         have H1 : (laws_FnExactClarify.j1 kj10 t649 true a0_0 l0_1 t645 t646 t656 t657) = some r := q33_51
         clear H
         have H := H1
         clear H1
         have H' := Aside0.mk H
         clear H
         have hnb81 := NB661_639.out
         have hnc81 := NB639_661.out
         have hnb82 := NB661_650.out
         have hnc82 := NB650_661.out
         have hnb83 := NB661_655.out
         have hnc83 := NB655_661.out
         have hcz84_0 : w69.cell? ⟨gb661, 0, none⟩ = some (.int .i64 t656) := (blk_cell BK661.out 0).trans rfl
         have hcz84_1 : w69.cell? ⟨gb661, 1, none⟩ = some (.slice Ao36 t657.length co36) := (blk_cell BK661.out 1).trans rfl
         have hfz84_0 := blk_frozen BK661.out 0
         have hfz84_1 := blk_frozen BK661.out 1
         have hnb85 := NB650_639.out
         have hnc85 := NB639_650.out
         have hnb86 := NB650_655.out
         have hnc86 := NB655_650.out
         have hcz87_0 : w69.cell? ⟨gb650, 0, none⟩ = some (.int .i64 t645) := (blk_cell BK650.out 0).trans rfl
         have hcz87_1 : w69.cell? ⟨gb650, 1, none⟩ = some (.slice Ao22 t646.length co22) := (blk_cell BK650.out 1).trans rfl
         have hfz87_0 := blk_frozen BK650.out 0
         have hfz87_1 := blk_frozen BK650.out 1
         go_wp2_with (first | (go_at_call 19; (with_reducible refine (laws_eqContext.calls kj10 t656 _ _ t657 t645 _ _ t646 false _ ?side1 ?side2 ?side3 ?side4 A71.out).mono ?_); (case side1 => exact q33_31); (case side2 => exact (Kd.R_reads' HO_662001.out).2.1); (case side3 => exact q33_29); (case side4 => exact (Kd.R_reads' HO_651001.out).2.1); rintro e w88 ⟨rfl, hb⟩; have n0_ := Aside0.mk (Kd.R_below q33_42 hb); have n1_ := Aside0.mk (Kd.R_below q33_43 hb); have n2_ := Aside0.mk (Kd.R_below q33_44 hb); have n3_ := Aside0.mk (Kd.R_below q33_48 hb); have n4_ := Aside0.mk (blk_below (g := gb639) (o := .cells #[.int .i64 a0_0, .slice A0_1 l0_1.length c0_1] 24 (0, 0)) q33_37 hb); have n5_ := Aside0.mk (blk_below (g := gb650) (o := .cells #[.int .i64 t645, .slice Ao22 t646.length co22] 27 (0, 0)) q33_38 hb); have n6_ := Aside0.mk (blk_below (g := gb655) (o := .cells #[.int .i64 t651, .slice Ao29 t652.length co29] 27 (0, 0)) q33_39 hb); have n7_ := Aside0.mk (blk_below (g := gb661) (o := .cells #[.int .i64 t656, .slice Ao36 t657.length co36] 27 (0, 0)) q33_40 hb); have n8_ := Aside0.mk (below_step q33_25 hb); clear HO_651001; clear HO_656001; clear HO_662001; clear HO666; clear BK639; clear BK650; clear BK655; clear BK661; clear HB; have HO_651001 := n0_; have HO_656001 := n1_; have HO_662001 := n2_; have HO666 := n3_; have BK639 := n4_; have BK650 := n5_; have BK655 := n6_; have BK661 := n7_; have HB := n8_; clear n0_ n1_ n2_ n3_ n4_ n5_ n6_ n7_ n8_; (try clear hb); (try clear hb2); (try clear hk); (try clear hi)))
         go_meet
         case rel => exact ⟨_, (true), q33_50, H', ⟨by have := HJ10.out; first | omega | exact Nat.le_refl _⟩, ⟨by (with_reducible repeat (first | apply Kd.R_alloc | apply Kd.R_drewN | apply Kd.R_drew)); exact Kd.R_mono HO_651001.out (fun _ hk => ⟨hk.1, hk.2.1⟩)⟩, ⟨by (with_reducible repeat (first | apply Kd.R_alloc | apply Kd.R_drewN | apply Kd.R_drew)); exact Kd.R_mono HO_656001.out (fun _ hk => ⟨hk.1.1, hk.1.2⟩)⟩, ⟨by (with_reducible repeat (first | apply Kd.R_alloc | apply Kd.R_drewN | apply Kd.R_drew)); exact Kd.R_mono HO_662001.out (fun _ hk => ⟨hk.1, hk.2.1⟩)⟩, ⟨by (with_reducible repeat (first | refine blk_drewN ?_ _ | refine blk_drew ?_ | refine blk_alloc ?_ _)); exact BK639.out⟩, ⟨by (with_reducible repeat (first | refine blk_drewN ?_ _ | refine blk_drew ?_ | refine blk_alloc ?_ _)); exact BK650.out⟩, ⟨by (with_reducible repeat (first | refine blk_drewN ?_ _ | refine blk_drew ?_ | refine blk_alloc ?_ _)); exact BK655.out⟩, ⟨by (with_reducible repeat (first | refine blk_drewN ?_ _ | refine blk_drew ?_ | refine blk_alloc ?_ _)); exact BK661.out⟩, ⟨by repeat (first | (with_reducible first | exact HB.out | apply below_alloc | apply pw_below_drewN | apply below_drew1 | refine below_set ?_ GE639.out | refine below_set ?_ GE650.out | refine below_set ?_ GE655.out | refine below_set ?_ GE661.out) | exact HB.out)⟩⟩
      case rest =>
       clear HC60
       try clear c1
       try clear c2
       try clear p2
       try clear c3
       try clear c3b0
       try clear c4
       try clear c5
       try clear c6
       try clear c7
       try clear c8
       try clear c13
       try clear c15
       try clear c17
       try clear c19
       try clear c20
       try clear c26
       try clear c27
       try clear c32
       try clear c33
       try clear c34
       try clear c37
       try clear c38
       try clear c39
       try clear c40
       try clear c41
       try clear c42
       try clear c43
       try clear c44
       try clear c47
       try clear c48
       try clear c49
       try clear c51
       try clear c52
       try clear c55
       try clear c58
       try clear c65
       try clear c66
       try clear c67
       try clear c70
       try clear c70b0
       try clear c72
       try clear c73
       try clear c74
       try clear c75
       try clear c77
       try clear c78
       try clear c81
       try clear c82
       try clear c83
       try clear c85
       try clear c86
       try clear hcz13_0
       try clear hcz13_1
       try clear hcz15_0
       try clear hcz15_1
       try clear hcz21_0
       try clear hcz21_1
       try clear hcz23_0
       try clear hcz23_1
       try clear hcz28_0
       try clear hcz28_1
       try clear hcz35_0
       try clear hcz35_1
       try clear hcz42_0
       try clear hcz42_1
       try clear hcz45_0
       try clear hcz45_1
       try clear hcz50_0
       try clear hcz50_1
       try clear hcz53_0
       try clear hcz53_1
       try clear hcz5_0
       try clear hcz5_1
       try clear hcz68_0
       try clear hcz68_1
       try clear hcz76_0
       try clear hcz76_1
       try clear hcz79_0
       try clear hcz79_1
       try clear hcz84_0
       try clear hcz84_1
       try clear hcz87_0
       try clear hcz87_1
       try clear hfz13_0
       try clear hfz13_1
       try clear hfz15_0
       try clear hfz15_1
       try clear hfz21_0
       try clear hfz21_1
       try clear hfz23_0
       try clear hfz23_1
       try clear hfz28_0
       try clear hfz28_1
       try clear hfz35_0
       try clear hfz35_1
       try clear hfz42_0
       try clear hfz42_1
       try clear hfz45_0
       try clear hfz45_1
       try clear hfz50_0
       try clear hfz50_1
       try clear hfz53_0
       try clear hfz53_1
       try clear hfz5_0
       try clear hfz5_1
       try clear hfz68_0
       try clear hfz68_1
       try clear hfz76_0
       try clear hfz76_1
       try clear hfz79_0
       try clear hfz79_1
       try clear hfz84_0
       try clear hfz84_1
       try clear hfz87_0
       try clear hfz87_1
       try clear p2
       obtain ⟨kq, x61_59, rfl, HA, HJ59, HO_651001, HO_656001, HO_662001, BK639, BK650, BK655, BK661, HB⟩ := hcut
       have hl656001_59 := (Kd.R_reads' HO_656001.out).1
       rw [hl656001_59] at HO_656001
       (try simp only [hl656001_59])
       (try simp only [hl656001_59] at BK639)
       (try simp only [hl656001_59] at BK650)
       (try simp only [hl656001_59] at BK655)
       (try simp only [hl656001_59] at BK661)
       (try simp only [hl656001_59] at HO_651001)
       (try simp only [hl656001_59] at HO_662001)
       cases kq with
       | zero => exact absurd HA.out (by simp [laws_FnExactClarify.j1])
       | succ kj59 =>
        have H := HA.out
        clear HA
        simp only [laws_FnExactClarify.j1] at H
        by_cases c89 : x61_59 = true
        ·
         subst c89
         have H1 : (some false) = some r := q33_52
         clear H
         have H := H1
         clear H1
         obtain rfl := Option.some.inj H
         go_wp2
         go_ret
         exact ⟨by first | rfl | (simp [errW_none, errW_some] <;> rfl) | (simp [*, errW_none, errW_some] <;> rfl), by repeat (first | (with_reducible first | exact HB.out | apply below_alloc | apply pw_below_drewN | apply below_drew1 | refine below_set ?_ GE639.out | refine below_set ?_ GE650.out | refine below_set ?_ GE655.out | refine below_set ?_ GE661.out) | exact HB.out)⟩
        ·
         replace c89 := Bool.eq_false_iff.mpr c89
         subst c89
         have H1 : ((laws_markContext.f kj59 t656 t657 1).bind fun bt671 => ((laws_heldContext.f kj59 t656 bt671.2 1).bind fun t673 => (if t673 < 0 then (some false) else (if t673 = bt671.1 then ((laws_toContext.f kj59 a0_0 l0_1).bind fun bt674 => ((impl_Clarify.f kj59 bt674.1 bt674.2).bind fun bt678 => ((laws_eqContext.f kj59 bt678.1 bt678.2.1 t645 t646).bind fun t684 => (if t684 = true then (laws_FnExactClarify.j2 kj59 bt671.1 (bt678.2.2 != t649) t656 bt671.2) else (laws_FnExactClarify.j2 kj59 bt671.1 true t656 bt671.2))))) else (some false))))) = some r := q33_51
         clear H
         have H := H1
         clear H1
         replace H := Option.bind_eq_some_iff.mp H
         obtain ⟨⟨t671, t672⟩, A900, H⟩ := H
         replace H : ((laws_heldContext.f kj59 t656 t672 1).bind fun t673 => (if t673 < 0 then (some false) else (if t673 = t671 then ((laws_toContext.f kj59 a0_0 l0_1).bind fun bt674 => ((impl_Clarify.f kj59 bt674.1 bt674.2).bind fun bt678 => ((laws_eqContext.f kj59 bt678.1 bt678.2.1 t645 t646).bind fun t684 => (if t684 = true then (laws_FnExactClarify.j2 kj59 t671 (bt678.2.2 != t649) t656 t672) else (laws_FnExactClarify.j2 kj59 t671 true t656 t672))))) else (some false)))) = some r := H
         have A90 := Aside0.mk A900
         clear A900
         replace H := Option.bind_eq_some_iff.mp H
         obtain ⟨t673, A910, H⟩ := H
         replace H : (if t673 < 0 then (some false) else (if t673 = t671 then ((laws_toContext.f kj59 a0_0 l0_1).bind fun bt674 => ((impl_Clarify.f kj59 bt674.1 bt674.2).bind fun bt678 => ((laws_eqContext.f kj59 bt678.1 bt678.2.1 t645 t646).bind fun t684 => (if t684 = true then (laws_FnExactClarify.j2 kj59 t671 (bt678.2.2 != t649) t656 t672) else (laws_FnExactClarify.j2 kj59 t671 true t656 t672))))) else (some false))) = some r := H
         have A91 := Aside0.mk A910
         clear A910
         by_cases c92 : t673 < 0
         ·
          rw [if_pos c92] at H
          have c92b0 : decide (t673 < 0) = true := decide_eq_true c92
          clear c92
          obtain rfl := Option.some.inj H
          have hnb93 := NB661_639.out
          have hnc93 := NB639_661.out
          have hnb94 := NB661_650.out
          have hnc94 := NB650_661.out
          have hnb95 := NB661_655.out
          have hnc95 := NB655_661.out
          have hcz96_0 : wc.cell? ⟨gb661, 0, none⟩ = some (.int .i64 t656) := (blk_cell BK661.out 0).trans rfl
          have hcz96_1 : wc.cell? ⟨gb661, 1, none⟩ = some (.slice Ao36 t657.length co36) := (blk_cell BK661.out 1).trans rfl
          have hfz96_0 := blk_frozen BK661.out 0
          have hfz96_1 := blk_frozen BK661.out 1
          go_wp2_with (first | ((with_reducible refine gate_callee (f := 37) rfl ?_); refine goesL_ (some 64) rfl rfl Try.func37 q33_53 rfl #[.agg #[.int .i64 t656, .slice Ao36 t657.length co36], .int .i64 1] rfl q33_35 ?_; (with_reducible refine (laws_markContext.calls kj59 t656 (fun k_ => some k_ = (.slice Ao36 t657.length co36 : Value).ownBlock) (.slice Ao36 t657.length co36) t657 1 t671 t672 w _ ?side1 ?side2 A90.out).mono ?_); (case side1 => exact q33_25); (case side2 => exact Kd.R_tight rfl HO_662001.out); rintro e w97 ⟨rfl, hy0, hb, hkp⟩; refine ⟨_, rfl, ?_⟩; have n0_ := Aside0.mk (Kd.R_mono (ok' := fun k_ => some k_ ≠ (.slice Ao29 t669.length co29 : Value).ownBlock ∧ some k_ ≠ (.slice Ao36 t657.length co36 : Value).ownBlock) (Kd.R_keptB (HO_651001.out) hkp (fun k_ hk_ hs_ => (hk_.2) hs_)) (fun k_ hk_ => ⟨hk_.1.1, hk_.1.2⟩)); have n1_ := Aside0.mk (Kd.R_mono (ok' := fun k_ => some k_ ≠ (.slice Ao22 t646.length co22 : Value).ownBlock ∧ some k_ ≠ (.slice Ao36 t657.length co36 : Value).ownBlock) (Kd.R_keptB (HO_656001.out) hkp (fun k_ hk_ hs_ => (hk_.2) hs_)) (fun k_ hk_ => ⟨hk_.1.1, hk_.1.2⟩)); have n2_ := Aside0.mk (Kd.R_reok rfl hy0 (fun k_ e_ => HO_662001.out.1 k_ e_)); have n3_ := Aside0.mk (blk_kept q33_37 hkp (fun hs_ => (fun e_ => (Kd.R_ne HO_662001.out BK639.out (by decide)) e_) hs_)); have n4_ := Aside0.mk (blk_kept q33_38 hkp (fun hs_ => (fun e_ => (Kd.R_ne HO_662001.out BK650.out (by decide)) e_) hs_)); have n5_ := Aside0.mk (blk_kept q33_39 hkp (fun hs_ => (fun e_ => (Kd.R_ne HO_662001.out BK655.out (by decide)) e_) hs_)); have n6_ := Aside0.mk (blk_kept q33_40 hkp (fun hs_ => (fun e_ => (Kd.R_ne HO_662001.out BK661.out (by decide)) e_) hs_)); have n7_ := Aside0.mk (hb); clear HO_651001; clear HO_656001; clear HO_662001; clear BK639; clear BK650; clear BK655; clear BK661; clear HB; have HO_651001 := n0_; have HO_656001 := n1_; have HO_662001 := n2_; have BK639 := n3_; have BK650 := n4_; have BK655 := n5_; have BK661 := n6_; have HB := n7_; clear n0_ n1_ n2_ n3_ n4_ n5_ n6_ n7_; (try clear hb); (try clear hkp); (try clear hy0); have hcz98_0 : w97.cell? ⟨gb661, 0, none⟩ = some (.int .i64 t656) := (blk_cell BK661.out 0).trans rfl; have hcz98_1 : w97.cell? ⟨gb661, 1, none⟩ = some (.slice Ao36 t657.length co36) := (blk_cell BK661.out 1).trans rfl; have hfz98_0 := blk_frozen BK661.out 0; have hfz98_1 := blk_frozen BK661.out 1) | ((with_reducible refine gate_callee (f := 38) rfl ?_); refine goesL_ (some 67) rfl rfl Try.func38 q33_53 rfl #[.agg #[.int .i64 t656, .slice Ao36 t672.length co36], .int .i64 1] rfl q33_27 ?_; (with_reducible refine (laws_heldContext.calls kj59 t656 _ _ t672 1 t673 _ ?side1 ?side2 A91.out).mono ?_); (case side1 => exact q33_31); (case side2 => rw [show t672.length = t657.length from (Kd.R_reads' HO_662001.out).1.symm]; exact (Kd.R_reads' HO_662001.out).2.1); rintro e w99 ⟨rfl, hb⟩; refine ⟨_, rfl, ?_⟩; have n0_ := Aside0.mk (Kd.R_below q33_42 hb); have n1_ := Aside0.mk (Kd.R_below q33_43 hb); have n2_ := Aside0.mk (Kd.R_below q33_44 hb); have n3_ := Aside0.mk (blk_below (g := gb639) (o := .cells #[.int .i64 a0_0, .slice A0_1 l0_1.length c0_1] 24 (0, 0)) q33_37 hb); have n4_ := Aside0.mk (blk_below (g := gb650) (o := .cells #[.int .i64 t645, .slice Ao22 t646.length co22] 27 (0, 0)) q33_38 hb); have n5_ := Aside0.mk (blk_below (g := gb655) (o := .cells #[.int .i64 t651, .slice Ao29 t669.length co29] 27 (0, 0)) q33_39 hb); have n6_ := Aside0.mk (blk_below (g := gb661) (o := .cells #[.int .i64 t656, .slice Ao36 t657.length co36] 27 (0, 0)) q33_40 hb); have n7_ := Aside0.mk (below_step q33_25 hb); clear HO_651001; clear HO_656001; clear HO_662001; clear BK639; clear BK650; clear BK655; clear BK661; clear HB; have HO_651001 := n0_; have HO_656001 := n1_; have HO_662001 := n2_; have BK639 := n3_; have BK650 := n4_; have BK655 := n5_; have BK661 := n6_; have HB := n7_; clear n0_ n1_ n2_ n3_ n4_ n5_ n6_ n7_; (try clear hb); (try clear hb2); (try clear hk); (try clear hi)))
          go_ret
          exact ⟨by first | rfl | (simp [errW_none, errW_some] <;> rfl) | (simp [*, errW_none, errW_some] <;> rfl), by repeat (first | (with_reducible first | exact HB.out | apply below_alloc | apply pw_below_drewN | apply below_drew1 | refine below_set ?_ GE639.out | refine below_set ?_ GE650.out | refine below_set ?_ GE655.out | refine below_set ?_ GE661.out) | exact HB.out)⟩
         ·
          rw [if_neg c92] at H
          have c92b0 : decide (t673 < 0) = false := decide_eq_false c92
          clear c92
          by_cases c100 : t673 = t671
          ·
           rw [if_pos c100] at H
           have c100b0 : (t673 == t671) = true := beq_iff_eq.mpr c100
           have c100b1 : (t673 != t671) = false := bne_eq_false_iff_eq.mpr c100
           clear c100
           replace H := Option.bind_eq_some_iff.mp H
           obtain ⟨⟨t674, t675⟩, A1010, H⟩ := H
           replace H : ((impl_Clarify.f kj59 t674 t675).bind fun bt678 => ((laws_eqContext.f kj59 bt678.1 bt678.2.1 t645 t646).bind fun t684 => (if t684 = true then (laws_FnExactClarify.j2 kj59 t671 (bt678.2.2 != t649) t656 t672) else (laws_FnExactClarify.j2 kj59 t671 true t656 t672)))) = some r := H
           have A101 := Aside0.mk A1010
           clear A1010
           replace H := Option.bind_eq_some_iff.mp H
           obtain ⟨⟨t678, t679, t682⟩, A1020, H⟩ := H
           replace H : ((laws_eqContext.f kj59 t678 t679 t645 t646).bind fun t684 => (if t684 = true then (laws_FnExactClarify.j2 kj59 t671 (t682 != t649) t656 t672) else (laws_FnExactClarify.j2 kj59 t671 true t656 t672))) = some r := H
           have A102 := Aside0.mk A1020
           clear A1020
           have HC103 := Aside0.mk H
           clear H
           have hnb104 := NB661_639.out
           have hnc104 := NB639_661.out
           have hnb105 := NB661_650.out
           have hnc105 := NB650_661.out
           have hnb106 := NB661_655.out
           have hnc106 := NB655_661.out
           have hcz107_0 : wc.cell? ⟨gb661, 0, none⟩ = some (.int .i64 t656) := (blk_cell BK661.out 0).trans rfl
           have hcz107_1 : wc.cell? ⟨gb661, 1, none⟩ = some (.slice Ao36 t657.length co36) := (blk_cell BK661.out 1).trans rfl
           have hfz107_0 := blk_frozen BK661.out 0
           have hfz107_1 := blk_frozen BK661.out 1
           go_upto_region 25 with (first | ((with_reducible refine gate_callee (f := 37) rfl ?_); refine goesL_ (some 64) rfl rfl Try.func37 q33_53 rfl #[.agg #[.int .i64 t656, .slice Ao36 t657.length co36], .int .i64 1] rfl q33_35 ?_; (with_reducible refine (laws_markContext.calls kj59 t656 (fun k_ => some k_ = (.slice Ao36 t657.length co36 : Value).ownBlock) (.slice Ao36 t657.length co36) t657 1 t671 t672 w _ ?side1 ?side2 A90.out).mono ?_); (case side1 => exact q33_25); (case side2 => exact Kd.R_tight rfl HO_662001.out); rintro e w108 ⟨rfl, hy0, hb, hkp⟩; refine ⟨_, rfl, ?_⟩; have n0_ := Aside0.mk (Kd.R_mono (ok' := fun k_ => some k_ ≠ (.slice Ao29 t669.length co29 : Value).ownBlock ∧ some k_ ≠ (.slice Ao36 t657.length co36 : Value).ownBlock) (Kd.R_keptB (HO_651001.out) hkp (fun k_ hk_ hs_ => (hk_.2) hs_)) (fun k_ hk_ => ⟨hk_.1.1, hk_.1.2⟩)); have n1_ := Aside0.mk (Kd.R_mono (ok' := fun k_ => some k_ ≠ (.slice Ao22 t646.length co22 : Value).ownBlock ∧ some k_ ≠ (.slice Ao36 t657.length co36 : Value).ownBlock) (Kd.R_keptB (HO_656001.out) hkp (fun k_ hk_ hs_ => (hk_.2) hs_)) (fun k_ hk_ => ⟨hk_.1.1, hk_.1.2⟩)); have n2_ := Aside0.mk (Kd.R_reok rfl hy0 (fun k_ e_ => HO_662001.out.1 k_ e_)); have n3_ := Aside0.mk (blk_kept q33_37 hkp (fun hs_ => (fun e_ => (Kd.R_ne HO_662001.out BK639.out (by decide)) e_) hs_)); have n4_ := Aside0.mk (blk_kept q33_38 hkp (fun hs_ => (fun e_ => (Kd.R_ne HO_662001.out BK650.out (by decide)) e_) hs_)); have n5_ := Aside0.mk (blk_kept q33_39 hkp (fun hs_ => (fun e_ => (Kd.R_ne HO_662001.out BK655.out (by decide)) e_) hs_)); have n6_ := Aside0.mk (blk_kept q33_40 hkp (fun hs_ => (fun e_ => (Kd.R_ne HO_662001.out BK661.out (by decide)) e_) hs_)); have n7_ := Aside0.mk (hb); clear HO_651001; clear HO_656001; clear HO_662001; clear BK639; clear BK650; clear BK655; clear BK661; clear HB; have HO_651001 := n0_; have HO_656001 := n1_; have HO_662001 := n2_; have BK639 := n3_; have BK650 := n4_; have BK655 := n5_; have BK661 := n6_; have HB := n7_; clear n0_ n1_ n2_ n3_ n4_ n5_ n6_ n7_; (try clear hb); (try clear hkp); (try clear hy0); have hcz109_0 : w108.cell? ⟨gb661, 0, none⟩ = some (.int .i64 t656) := (blk_cell BK661.out 0).trans rfl; have hcz109_1 : w108.cell? ⟨gb661, 1, none⟩ = some (.slice Ao36 t657.length co36) := (blk_cell BK661.out 1).trans rfl; have hfz109_0 := blk_frozen BK661.out 0; have hfz109_1 := blk_frozen BK661.out 1) | ((with_reducible refine gate_callee (f := 38) rfl ?_); refine goesL_ (some 67) rfl rfl Try.func38 q33_53 rfl #[.agg #[.int .i64 t656, .slice Ao36 t672.length co36], .int .i64 1] rfl q33_27 ?_; (with_reducible refine (laws_heldContext.calls kj59 t656 _ _ t672 1 t673 _ ?side1 ?side2 A91.out).mono ?_); (case side1 => exact q33_31); (case side2 => rw [show t672.length = t657.length from (Kd.R_reads' HO_662001.out).1.symm]; exact (Kd.R_reads' HO_662001.out).2.1); rintro e w110 ⟨rfl, hb⟩; refine ⟨_, rfl, ?_⟩; have n0_ := Aside0.mk (Kd.R_below q33_42 hb); have n1_ := Aside0.mk (Kd.R_below q33_43 hb); have n2_ := Aside0.mk (Kd.R_below q33_44 hb); have n3_ := Aside0.mk (blk_below (g := gb639) (o := .cells #[.int .i64 a0_0, .slice A0_1 l0_1.length c0_1] 24 (0, 0)) q33_37 hb); have n4_ := Aside0.mk (blk_below (g := gb650) (o := .cells #[.int .i64 t645, .slice Ao22 t646.length co22] 27 (0, 0)) q33_38 hb); have n5_ := Aside0.mk (blk_below (g := gb655) (o := .cells #[.int .i64 t651, .slice Ao29 t669.length co29] 27 (0, 0)) q33_39 hb); have n6_ := Aside0.mk (blk_below (g := gb661) (o := .cells #[.int .i64 t656, .slice Ao36 t657.length co36] 27 (0, 0)) q33_40 hb); have n7_ := Aside0.mk (below_step q33_25 hb); clear HO_651001; clear HO_656001; clear HO_662001; clear BK639; clear BK650; clear BK655; clear BK661; clear HB; have HO_651001 := n0_; have HO_656001 := n1_; have HO_662001 := n2_; have BK639 := n3_; have BK650 := n4_; have BK655 := n5_; have BK661 := n6_; have HB := n7_; clear n0_ n1_ n2_ n3_ n4_ n5_ n6_ n7_; (try clear hb); (try clear hb2); (try clear hk); (try clear hi); have hnb111 := NB639_650.out; have hnc111 := NB650_639.out; have hnb112 := NB639_655.out; have hnc112 := NB655_639.out; have hcz113_0 : w110.cell? ⟨gb639, 0, none⟩ = some (.int .i64 a0_0) := (blk_cell BK639.out 0).trans rfl; have hcz113_1 : w110.cell? ⟨gb639, 1, none⟩ = some (.slice A0_1 l0_1.length c0_1) := (blk_cell BK639.out 1).trans rfl; have hfz113_0 := blk_frozen BK639.out 0; have hfz113_1 := blk_frozen BK639.out 1) | ((with_reducible refine gate_callee (f := 17) rfl ?_); refine goesL_ (some 75) rfl rfl Try.func17 q33_53 rfl #[.agg #[.int .i64 a0_0, .slice A0_1 l0_1.length c0_1]] rfl q33_35 ?_; (with_reducible refine (laws_toContext.calls kj59 a0_0 _ _ l0_1 t674 t675 _ ?side1 ?side2 A101.out).mono ?_); (case side1 => exact q33_32); (case side2 => exact HC0_1.out); rintro e w114 ⟨v676, rfl, ho0, hb⟩; refine ⟨_, rfl, ?_⟩; have n0_ := Aside0.mk (Kd.R_elder' q33_42 (Kd.R_base ho0) hb); have n1_ := Aside0.mk (Kd.R_elder' q33_43 (Kd.R_base ho0) hb); have n2_ := Aside0.mk (Kd.R_elder' q33_44 (Kd.R_base ho0) hb); have n3_ := Aside0.mk (Kd.R_lower (Kd.R_new' (Kd.R_new' (Kd.R_new' ho0 (Kd.R_lt q33_42)) (Kd.R_lt q33_43)) (Kd.R_lt q33_44)) (below_size q33_25)); have n4_ := Aside0.mk (blk_below (g := gb639) (o := .cells #[.int .i64 a0_0, .slice A0_1 l0_1.length c0_1] 24 (0, 0)) q33_37 hb); have n5_ := Aside0.mk (blk_below (g := gb650) (o := .cells #[.int .i64 t645, .slice Ao22 t646.length co22] 27 (0, 0)) q33_38 hb); have n6_ := Aside0.mk (blk_below (g := gb655) (o := .cells #[.int .i64 t651, .slice Ao29 t669.length co29] 27 (0, 0)) q33_39 hb); have n7_ := Aside0.mk (blk_below (g := gb661) (o := .cells #[.int .i64 t656, .slice Ao36 t657.length co36] 27 (0, 0)) q33_40 hb); have n8_ := Aside0.mk (below_step q33_25 hb); clear HO_651001; clear HO_656001; clear HO_662001; clear BK639; clear BK650; clear BK655; clear BK661; clear HB; have HO_651001 := n0_; have HO_656001 := n1_; have HO_662001 := n2_; have HO677 := n3_; have BK639 := n4_; have BK650 := n5_; have BK655 := n6_; have BK661 := n7_; have HB := n8_; clear n0_ n1_ n2_ n3_ n4_ n5_ n6_ n7_ n8_; (try clear hb); (try clear hb2); (try clear hk); (try clear hi); (try clear ho0); obtain ⟨Ao115, co115, eo115⟩ := Kd.R_slice HO677.out; subst eo115) | ((with_reducible refine gate_callee (f := 42) rfl ?_); refine goesL_ (some 76) rfl rfl Try.func42 q33_53 rfl #[.agg #[.int .i64 t674, .slice Ao115 t675.length co115]] rfl q33_35 ?_; (with_reducible refine (impl_Clarify.calls kj59 t674 _ _ t675 t678 t679 t682 _ ?side1 ?side2 A102.out).mono ?_); (case side1 => repeat (first | exact (Kd.R_reads' HO677.out).2.2 | (with_reducible refine Kd.C_alloc ?_ _) | (with_reducible refine Kd.C_drewN ?_ _) | (with_reducible refine Kd.C_drew ?_))); (case side2 => exact (Kd.R_reads' HO677.out).2.1); rintro e w116 ⟨v680, rfl, ho0, hb⟩; refine ⟨_, rfl, ?_⟩; have n0_ := Aside0.mk (Kd.R_elder' q33_42 (Kd.R_base ho0) hb); have n1_ := Aside0.mk (Kd.R_elder' q33_43 (Kd.R_base ho0) hb); have n2_ := Aside0.mk (Kd.R_elder' q33_44 (Kd.R_base ho0) hb); have n3_ := Aside0.mk (Kd.R_elder' q33_49 (Kd.R_base ho0) hb); have n4_ := Aside0.mk (Kd.R_lower (Kd.R_new' (Kd.R_new' (Kd.R_new' (Kd.R_new' ho0 (Kd.R_lt q33_42)) (Kd.R_lt q33_43)) (Kd.R_lt q33_44)) (Kd.R_lt q33_49)) (below_size q33_25)); have n5_ := Aside0.mk (blk_below (g := gb639) (o := .cells #[.int .i64 a0_0, .slice A0_1 l0_1.length c0_1] 24 (0, 0)) q33_37 hb); have n6_ := Aside0.mk (blk_below (g := gb650) (o := .cells #[.int .i64 t645, .slice Ao22 t646.length co22] 27 (0, 0)) q33_38 hb); have n7_ := Aside0.mk (blk_below (g := gb655) (o := .cells #[.int .i64 t651, .slice Ao29 t669.length co29] 27 (0, 0)) q33_39 hb); have n8_ := Aside0.mk (blk_below (g := gb661) (o := .cells #[.int .i64 t656, .slice Ao36 t657.length co36] 27 (0, 0)) q33_40 hb); have n9_ := Aside0.mk (below_step q33_25 hb); clear HO_651001; clear HO_656001; clear HO_662001; clear HO677; clear BK639; clear BK650; clear BK655; clear BK661; clear HB; have HO_651001 := n0_; have HO_656001 := n1_; have HO_662001 := n2_; have HO677 := n3_; have HO681 := n4_; have BK639 := n5_; have BK650 := n6_; have BK655 := n7_; have BK661 := n8_; have HB := n9_; clear n0_ n1_ n2_ n3_ n4_ n5_ n6_ n7_ n8_ n9_; (try clear hb); (try clear hb2); (try clear hk); (try clear hi); (try clear ho0)) | ((with_reducible refine gate_dst (N := 12) rfl ?_); refine box_event ?hg (N := 12) ?hd (cs := #[.int .i64 0, .slice none 0 0]) (t := 27) ?hr ?_; (case hd => rfl); (case hg => rfl); (case hr => first | (go_simp; done) | (go_simp; rfl)); intro gb683 hg w117 hbox hb; have n0_ := Aside0.mk (Kd.R_below q33_42 hb); have n1_ := Aside0.mk (Kd.R_below q33_43 hb); have n2_ := Aside0.mk (Kd.R_below q33_44 hb); have n3_ := Aside0.mk (Kd.R_below q33_49 hb); have n4_ := Aside0.mk (Kd.R_below (by (with_reducible repeat (first | apply Kd.R_alloc | apply Kd.R_drewN | apply Kd.R_drew)); exact HO681.out) hb); have n5_ := Aside0.mk (blk_below (g := gb639) (o := .cells #[.int .i64 a0_0, .slice A0_1 l0_1.length c0_1] 24 (0, 0)) q33_37 hb); have n6_ := Aside0.mk (blk_below (g := gb650) (o := .cells #[.int .i64 t645, .slice Ao22 t646.length co22] 27 (0, 0)) q33_38 hb); have n7_ := Aside0.mk (blk_below (g := gb655) (o := .cells #[.int .i64 t651, .slice Ao29 t669.length co29] 27 (0, 0)) q33_39 hb); have n8_ := Aside0.mk (blk_below (g := gb661) (o := .cells #[.int .i64 t656, .slice Ao36 t657.length co36] 27 (0, 0)) q33_40 hb); have n9_ := Aside0.mk (below_step q33_25 hb); have n10_ := Aside0.mk (hbox); have n11_ := Aside0.mk ((by rw [hg]; exact (below_size q33_25) : w.heap.size ≤ gb683)); have n12_ := Aside0.mk ((by rw [hg]; exact (below_size q33_25) : w.heap.size ≤ gb683)); have n13_ := Aside0.mk ((by rw [hg]; exact Nat.ne_of_lt (blk_lt (g := gb639) (o := .cells #[.int .i64 a0_0, .slice A0_1 l0_1.length c0_1] 24 (0, 0)) q33_37) : gb639 ≠ gb683)); have n14_ := Aside0.mk ((by rw [hg]; exact Nat.ne_of_gt (blk_lt (g := gb639) (o := .cells #[.int .i64 a0_0, .slice A0_1 l0_1.length c0_1] 24 (0, 0)) q33_37) : gb683 ≠ gb639)); have n15_ := Aside0.mk ((by rw [hg]; exact Nat.ne_of_lt (blk_lt (g := gb650) (o := .cells #[.int .i64 t645, .slice Ao22 t646.length co22] 27 (0, 0)) q33_38) : gb650 ≠ gb683)); have n16_ := Aside0.mk ((by rw [hg]; exact Nat.ne_of_gt (blk_lt (g := gb650) (o := .cells #[.int .i64 t645, .slice Ao22 t646.length co22] 27 (0, 0)) q33_38) : gb683 ≠ gb650)); have n17_ := Aside0.mk ((by rw [hg]; exact Nat.ne_of_lt (blk_lt (g := gb655) (o := .cells #[.int .i64 t651, .slice Ao29 t669.length co29] 27 (0, 0)) q33_39) : gb655 ≠ gb683)); have n18_ := Aside0.mk ((by rw [hg]; exact Nat.ne_of_gt (blk_lt (g := gb655) (o := .cells #[.int .i64 t651, .slice Ao29 t669.length co29] 27 (0, 0)) q33_39) : gb683 ≠ gb655)); have n19_ := Aside0.mk ((by rw [hg]; exact Nat.ne_of_lt (blk_lt (g := gb661) (o := .cells #[.int .i64 t656, .slice Ao36 t657.length co36] 27 (0, 0)) q33_40) : gb661 ≠ gb683)); have n20_ := Aside0.mk ((by rw [hg]; exact Nat.ne_of_gt (blk_lt (g := gb661) (o := .cells #[.int .i64 t656, .slice Ao36 t657.length co36] 27 (0, 0)) q33_40) : gb683 ≠ gb661)); clear HO_651001; clear HO_656001; clear HO_662001; clear HO677; clear HO681; clear BK639; clear BK650; clear BK655; clear BK661; clear HB; have HO_651001 := n0_; have HO_656001 := n1_; have HO_662001 := n2_; have HO677 := n3_; have HO681 := n4_; have BK639 := n5_; have BK650 := n6_; have BK655 := n7_; have BK661 := n8_; have HB := n9_; have BK683 := n10_; have GW683 := n11_; have GE683 := n12_; have NB639_683 := n13_; have NB683_639 := n14_; have NB650_683 := n15_; have NB683_650 := n16_; have NB655_683 := n17_; have NB683_655 := n18_; have NB661_683 := n19_; have NB683_661 := n20_; clear n0_ n1_ n2_ n3_ n4_ n5_ n6_ n7_ n8_ n9_ n10_ n11_ n12_ n13_ n14_ n15_ n16_ n17_ n18_ n19_ n20_; clear hb hbox hg; have hnb118 := NB683_639.out; have hnc118 := NB639_683.out; have hnb119 := NB683_650.out; have hnc119 := NB650_683.out; have hnb120 := NB683_655.out; have hnc120 := NB655_683.out; have hnb121 := NB683_661.out; have hnc121 := NB661_683.out; have hcz122_0 : w117.cell? ⟨gb683, 0, none⟩ = some (.int .i64 0) := (blk_cell BK683.out 0).trans rfl; have hcz122_1 : w117.cell? ⟨gb683, 1, none⟩ = some (.slice none 0 0) := (blk_cell BK683.out 1).trans rfl; have hfz122_0 := blk_frozen BK683.out 0; have hfz122_1 := blk_frozen BK683.out 1; obtain ⟨Ao123, co123, eo123⟩ := Kd.R_slice HO681.out; subst eo123))
           (try simp only [Act.put, List.setIfInBounds_toArray, List.set_cons_zero, List.set_cons_succ])
           go_cut [87] (fun v87 wc => ∃ (kq : Nat) (x87_102 : Bool), v87 = .bool x87_102 ∧ Aside0 (laws_FnExactClarify.j2 kq t671 x87_102 t656 t672 = some r) ∧ Aside0 (kq ≤ kj59) ∧ Aside0 (Kd.R (Kd.int .i64) 3 wc w.heap.size (fun k_ => some k_ ≠ ((.slice Ao29 t669.length co29) : Value).ownBlock ∧ some k_ ≠ ((.slice Ao36 t657.length co36) : Value).ownBlock ∧ some k_ ≠ ((.slice Ao123 t679.length co123) : Value).ownBlock) (.slice Ao22 t646.length co22) t646) ∧ Aside0 (Kd.R (Kd.int .i64) 3 wc w.heap.size (fun k_ => some k_ ≠ ((.slice Ao22 t646.length co22) : Value).ownBlock ∧ some k_ ≠ ((.slice Ao36 t657.length co36) : Value).ownBlock ∧ some k_ ≠ ((.slice Ao123 t679.length co123) : Value).ownBlock) (.slice Ao29 t669.length co29) t669) ∧ Aside0 (Kd.R (Kd.int .i64) 3 wc w.heap.size (fun k_ => some k_ ≠ ((.slice Ao22 t646.length co22) : Value).ownBlock ∧ some k_ ≠ ((.slice Ao29 t669.length co29) : Value).ownBlock ∧ some k_ ≠ ((.slice Ao123 t679.length co123) : Value).ownBlock) (.slice Ao36 t657.length co36) t672) ∧ Aside0 (Kd.R (Kd.int .i64) 3 wc w.heap.size (fun k_ => some k_ ≠ ((.slice Ao22 t646.length co22) : Value).ownBlock ∧ some k_ ≠ ((.slice Ao29 t669.length co29) : Value).ownBlock ∧ some k_ ≠ ((.slice Ao36 t657.length co36) : Value).ownBlock) (.slice Ao123 t679.length co123) t679) ∧ Aside0 (wc.heap[gb639]? = some (.cells #[.int .i64 a0_0, (.slice A0_1 l0_1.length c0_1)] 24 (0, 0))) ∧ Aside0 (wc.heap[gb650]? = some (.cells #[.int .i64 t645, (.slice Ao22 t646.length co22)] 27 (0, 0))) ∧ Aside0 (wc.heap[gb655]? = some (.cells #[.int .i64 t651, (.slice Ao29 t669.length co29)] 27 (0, 0))) ∧ Aside0 (wc.heap[gb661]? = some (.cells #[.int .i64 t656, (.slice Ao36 t657.length co36)] 27 (0, 0))) ∧ Aside0 (wc.heap[gb683]? = some (.cells #[.int .i64 t678, (.slice Ao123 t679.length co123)] 27 (0, 0))) ∧ Aside0 (Below w.heap.size w wc))
           case first =>
            have H := HC103.out
            clear HC103
            replace H := Option.bind_eq_some_iff.mp H
            obtain ⟨t684, A1240, H⟩ := H
            replace H : (if t684 = true then (laws_FnExactClarify.j2 kj59 t671 (t682 != t649) t656 t672) else (laws_FnExactClarify.j2 kj59 t671 true t656 t672)) = some r := H
            have A124 := Aside0.mk A1240
            clear A1240
            by_cases c125 : t684 = true
            ·
             subst c125
             have H1 : (laws_FnExactClarify.j2 kj59 t671 (t682 != t649) t656 t672) = some r := q33_52
             clear H
             have H := H1
             clear H1
             have H' := Aside0.mk H
             clear H
             have hnb126 := NB683_639.out
             have hnc126 := NB639_683.out
             have hnb127 := NB683_650.out
             have hnc127 := NB650_683.out
             have hnb128 := NB683_655.out
             have hnc128 := NB655_683.out
             have hnb129 := NB683_661.out
             have hnc129 := NB661_683.out
             have hcz130_0 : w117.cell? ⟨gb683, 0, none⟩ = some (.int .i64 0) := (blk_cell BK683.out 0).trans rfl
             have hcz130_1 : w117.cell? ⟨gb683, 1, none⟩ = some (.slice none 0 0) := (blk_cell BK683.out 1).trans rfl
             have hfz130_0 := blk_frozen BK683.out 0
             have hfz130_1 := blk_frozen BK683.out 1
             have hnb131 := NB650_639.out
             have hnc131 := NB639_650.out
             have hnb132 := NB650_655.out
             have hnc132 := NB655_650.out
             have hnb133 := NB650_661.out
             have hnc133 := NB661_650.out
             have hcz134_0 : w117.cell? ⟨gb650, 0, none⟩ = some (.int .i64 t645) := (blk_cell BK650.out 0).trans rfl
             have hcz134_1 : w117.cell? ⟨gb650, 1, none⟩ = some (.slice Ao22 t646.length co22) := (blk_cell BK650.out 1).trans rfl
             have hfz134_0 := blk_frozen BK650.out 0
             have hfz134_1 := blk_frozen BK650.out 1
             go_wp2_with (first | ((with_reducible refine gate_callee (f := 19) rfl ?_); refine goesL_ (some 81) rfl rfl Try.func19 q33_53 rfl #[.agg #[.int .i64 t678, .slice Ao123 t679.length co123], .agg #[.int .i64 t645, .slice Ao22 t646.length co22]] rfl q33_35 ?_; (with_reducible refine (laws_eqContext.calls kj59 t678 _ _ t679 t645 _ _ t646 true _ ?side1 ?side2 ?side3 ?side4 A124.out).mono ?_); (case side1 => refine (Kd.R_reads' (e := 3) (base := w.heap.size) (ok := fun k_ => ((((True ∧ some k_ ≠ (.slice Ao22 t646.length co22 : Value).ownBlock) ∧ some k_ ≠ (.slice Ao29 t669.length co29 : Value).ownBlock) ∧ some k_ ≠ (.slice Ao36 t657.length co36 : Value).ownBlock) ∧ some k_ ≠ (.slice Ao115 t675.length co115 : Value).ownBlock)) (n := t679.length) (c := co123) ?_).2.2; exact q33_14); (case side2 => exact (Kd.R_reads' HO681.out).2.1); (case side3 => refine (Kd.R_reads' (e := 3) (base := w.heap.size) (ok := fun k_ => (((some k_ ≠ (.slice Ao29 t669.length co29 : Value).ownBlock ∧ some k_ ≠ (.slice Ao36 t657.length co36 : Value).ownBlock) ∧ some k_ ≠ (.slice Ao115 t675.length co115 : Value).ownBlock) ∧ some k_ ≠ (.slice Ao123 t679.length co123 : Value).ownBlock)) (n := t646.length) (c := co22) ?_).2.2; exact q33_10); (case side4 => exact (Kd.R_reads' HO_651001.out).2.1); rintro e w135 ⟨rfl, hb⟩; refine ⟨_, rfl, ?_⟩; have n0_ := Aside0.mk (Kd.R_below q33_10 hb); have n1_ := Aside0.mk (Kd.R_below q33_11 hb); have n2_ := Aside0.mk (Kd.R_below q33_12 hb); have n3_ := Aside0.mk (Kd.R_below q33_13 hb); have n4_ := Aside0.mk (Kd.R_below q33_14 hb); have n5_ := Aside0.mk (blk_below (g := gb639) (o := .cells #[.int .i64 a0_0, .slice A0_1 l0_1.length c0_1] 24 (0, 0)) q33_4 hb); have n6_ := Aside0.mk (blk_below (g := gb650) (o := .cells #[.int .i64 t645, .slice Ao22 t646.length co22] 27 (0, 0)) q33_6 hb); have n7_ := Aside0.mk (blk_below (g := gb655) (o := .cells #[.int .i64 t651, .slice Ao29 t669.length co29] 27 (0, 0)) q33_8 hb); have n8_ := Aside0.mk (blk_below (g := gb661) (o := .cells #[.int .i64 t656, .slice Ao36 t657.length co36] 27 (0, 0)) q33_9 hb); have n9_ := Aside0.mk (blk_below (g := gb683) (o := .cells #[.int .i64 t678, .slice Ao123 t679.length co123] 27 (0, 0)) q33_2 hb); have n10_ := Aside0.mk (below_step q33_24 hb); clear HO_651001; clear HO_656001; clear HO_662001; clear HO677; clear HO681; clear BK639; clear BK650; clear BK655; clear BK661; clear BK683; clear HB; have HO_651001 := n0_; have HO_656001 := n1_; have HO_662001 := n2_; have HO677 := n3_; have HO681 := n4_; have BK639 := n5_; have BK650 := n6_; have BK655 := n7_; have BK661 := n8_; have BK683 := n9_; have HB := n10_; clear n0_ n1_ n2_ n3_ n4_ n5_ n6_ n7_ n8_ n9_ n10_; (try clear hb); (try clear hb2); (try clear hk); (try clear hi)))
             go_meet
             case rel => exact ⟨_, ((t682 != t649)), q33_50, H', ⟨by have := HJ10.out; have := HJ59.out; first | omega | exact Nat.le_refl _⟩, ⟨by (try simp only [hl656001_59]); (with_reducible repeat (first | apply Kd.R_alloc | apply Kd.R_drewN | apply Kd.R_drew)); exact Kd.R_mono HO_651001.out (fun _ hk => ⟨hk.1.1.1, ⟨hk.1.1.2, hk.2⟩⟩)⟩, ⟨by (try simp only [hl656001_59]); (with_reducible repeat (first | apply Kd.R_alloc | apply Kd.R_drewN | apply Kd.R_drew)); exact Kd.R_mono HO_656001.out (fun _ hk => ⟨hk.1.1.1, ⟨hk.1.1.2, hk.2⟩⟩)⟩, ⟨by (try simp only [hl656001_59]); (with_reducible repeat (first | apply Kd.R_alloc | apply Kd.R_drewN | apply Kd.R_drew)); exact Kd.R_mono HO_662001.out (fun _ hk => ⟨hk.1.1.1, ⟨hk.1.1.2, hk.2⟩⟩)⟩, ⟨by (try simp only [hl656001_59]); (with_reducible repeat (first | apply Kd.R_alloc | apply Kd.R_drewN | apply Kd.R_drew)); exact Kd.R_mono HO681.out (fun _ hk => ⟨hk.1.1.1.2, ⟨hk.1.1.2, hk.1.2⟩⟩)⟩, ⟨by (try simp only [hl656001_59]); (with_reducible repeat (first | refine blk_drewN ?_ _ | refine blk_drew ?_ | refine blk_alloc ?_ _)); exact BK639.out⟩, ⟨by (try simp only [hl656001_59]); (with_reducible repeat (first | refine blk_drewN ?_ _ | refine blk_drew ?_ | refine blk_alloc ?_ _)); exact BK650.out⟩, ⟨by (try simp only [hl656001_59]); (with_reducible repeat (first | refine blk_drewN ?_ _ | refine blk_drew ?_ | refine blk_alloc ?_ _)); exact BK655.out⟩, ⟨by (try simp only [hl656001_59]); (with_reducible repeat (first | refine blk_drewN ?_ _ | refine blk_drew ?_ | refine blk_alloc ?_ _)); exact BK661.out⟩, ⟨by (try simp only [hl656001_59]); (with_reducible repeat (first | refine blk_drewN ?_ _ | refine blk_drew ?_ | refine blk_alloc ?_ _)); exact BK683.out⟩, ⟨by repeat (first | (with_reducible first | exact HB.out | apply below_alloc | apply pw_below_drewN | apply below_drew1 | refine below_set ?_ GE639.out | refine below_set ?_ GE650.out | refine below_set ?_ GE655.out | refine below_set ?_ GE661.out | refine below_set ?_ GE683.out) | exact HB.out)⟩⟩
            ·
             replace c125 := Bool.eq_false_iff.mpr c125
             subst c125
             have H1 : (laws_FnExactClarify.j2 kj59 t671 true t656 t672) = some r := q33_51
             clear H
             have H := H1
             clear H1
             have H' := Aside0.mk H
             clear H
             have hnb136 := NB683_639.out
             have hnc136 := NB639_683.out
             have hnb137 := NB683_650.out
             have hnc137 := NB650_683.out
             have hnb138 := NB683_655.out
             have hnc138 := NB655_683.out
             have hnb139 := NB683_661.out
             have hnc139 := NB661_683.out
             have hcz140_0 : w117.cell? ⟨gb683, 0, none⟩ = some (.int .i64 0) := (blk_cell BK683.out 0).trans rfl
             have hcz140_1 : w117.cell? ⟨gb683, 1, none⟩ = some (.slice none 0 0) := (blk_cell BK683.out 1).trans rfl
             have hfz140_0 := blk_frozen BK683.out 0
             have hfz140_1 := blk_frozen BK683.out 1
             have hnb141 := NB650_639.out
             have hnc141 := NB639_650.out
             have hnb142 := NB650_655.out
             have hnc142 := NB655_650.out
             have hnb143 := NB650_661.out
             have hnc143 := NB661_650.out
             have hcz144_0 : w117.cell? ⟨gb650, 0, none⟩ = some (.int .i64 t645) := (blk_cell BK650.out 0).trans rfl
             have hcz144_1 : w117.cell? ⟨gb650, 1, none⟩ = some (.slice Ao22 t646.length co22) := (blk_cell BK650.out 1).trans rfl
             have hfz144_0 := blk_frozen BK650.out 0
             have hfz144_1 := blk_frozen BK650.out 1
             go_wp2_with (first | ((with_reducible refine gate_callee (f := 19) rfl ?_); refine goesL_ (some 81) rfl rfl Try.func19 q33_53 rfl #[.agg #[.int .i64 t678, .slice Ao123 t679.length co123], .agg #[.int .i64 t645, .slice Ao22 t646.length co22]] rfl q33_35 ?_; (with_reducible refine (laws_eqContext.calls kj59 t678 _ _ t679 t645 _ _ t646 false _ ?side1 ?side2 ?side3 ?side4 A124.out).mono ?_); (case side1 => refine (Kd.R_reads' (e := 3) (base := w.heap.size) (ok := fun k_ => ((((True ∧ some k_ ≠ (.slice Ao22 t646.length co22 : Value).ownBlock) ∧ some k_ ≠ (.slice Ao29 t669.length co29 : Value).ownBlock) ∧ some k_ ≠ (.slice Ao36 t657.length co36 : Value).ownBlock) ∧ some k_ ≠ (.slice Ao115 t675.length co115 : Value).ownBlock)) (n := t679.length) (c := co123) ?_).2.2; exact q33_14); (case side2 => exact (Kd.R_reads' HO681.out).2.1); (case side3 => refine (Kd.R_reads' (e := 3) (base := w.heap.size) (ok := fun k_ => (((some k_ ≠ (.slice Ao29 t669.length co29 : Value).ownBlock ∧ some k_ ≠ (.slice Ao36 t657.length co36 : Value).ownBlock) ∧ some k_ ≠ (.slice Ao115 t675.length co115 : Value).ownBlock) ∧ some k_ ≠ (.slice Ao123 t679.length co123 : Value).ownBlock)) (n := t646.length) (c := co22) ?_).2.2; exact q33_10); (case side4 => exact (Kd.R_reads' HO_651001.out).2.1); rintro e w145 ⟨rfl, hb⟩; refine ⟨_, rfl, ?_⟩; have n0_ := Aside0.mk (Kd.R_below q33_10 hb); have n1_ := Aside0.mk (Kd.R_below q33_11 hb); have n2_ := Aside0.mk (Kd.R_below q33_12 hb); have n3_ := Aside0.mk (Kd.R_below q33_13 hb); have n4_ := Aside0.mk (Kd.R_below q33_14 hb); have n5_ := Aside0.mk (blk_below (g := gb639) (o := .cells #[.int .i64 a0_0, .slice A0_1 l0_1.length c0_1] 24 (0, 0)) q33_4 hb); have n6_ := Aside0.mk (blk_below (g := gb650) (o := .cells #[.int .i64 t645, .slice Ao22 t646.length co22] 27 (0, 0)) q33_6 hb); have n7_ := Aside0.mk (blk_below (g := gb655) (o := .cells #[.int .i64 t651, .slice Ao29 t669.length co29] 27 (0, 0)) q33_8 hb); have n8_ := Aside0.mk (blk_below (g := gb661) (o := .cells #[.int .i64 t656, .slice Ao36 t657.length co36] 27 (0, 0)) q33_9 hb); have n9_ := Aside0.mk (blk_below (g := gb683) (o := .cells #[.int .i64 t678, .slice Ao123 t679.length co123] 27 (0, 0)) q33_2 hb); have n10_ := Aside0.mk (below_step q33_24 hb); clear HO_651001; clear HO_656001; clear HO_662001; clear HO677; clear HO681; clear BK639; clear BK650; clear BK655; clear BK661; clear BK683; clear HB; have HO_651001 := n0_; have HO_656001 := n1_; have HO_662001 := n2_; have HO677 := n3_; have HO681 := n4_; have BK639 := n5_; have BK650 := n6_; have BK655 := n7_; have BK661 := n8_; have BK683 := n9_; have HB := n10_; clear n0_ n1_ n2_ n3_ n4_ n5_ n6_ n7_ n8_ n9_ n10_; (try clear hb); (try clear hb2); (try clear hk); (try clear hi)))
             go_meet
             case rel => exact ⟨_, (true), q33_50, H', ⟨by have := HJ10.out; have := HJ59.out; first | omega | exact Nat.le_refl _⟩, ⟨by (try simp only [hl656001_59]); (with_reducible repeat (first | apply Kd.R_alloc | apply Kd.R_drewN | apply Kd.R_drew)); exact Kd.R_mono HO_651001.out (fun _ hk => ⟨hk.1.1.1, ⟨hk.1.1.2, hk.2⟩⟩)⟩, ⟨by (try simp only [hl656001_59]); (with_reducible repeat (first | apply Kd.R_alloc | apply Kd.R_drewN | apply Kd.R_drew)); exact Kd.R_mono HO_656001.out (fun _ hk => ⟨hk.1.1.1, ⟨hk.1.1.2, hk.2⟩⟩)⟩, ⟨by (try simp only [hl656001_59]); (with_reducible repeat (first | apply Kd.R_alloc | apply Kd.R_drewN | apply Kd.R_drew)); exact Kd.R_mono HO_662001.out (fun _ hk => ⟨hk.1.1.1, ⟨hk.1.1.2, hk.2⟩⟩)⟩, ⟨by (try simp only [hl656001_59]); (with_reducible repeat (first | apply Kd.R_alloc | apply Kd.R_drewN | apply Kd.R_drew)); exact Kd.R_mono HO681.out (fun _ hk => ⟨hk.1.1.1.2, ⟨hk.1.1.2, hk.1.2⟩⟩)⟩, ⟨by (try simp only [hl656001_59]); (with_reducible repeat (first | refine blk_drewN ?_ _ | refine blk_drew ?_ | refine blk_alloc ?_ _)); exact BK639.out⟩, ⟨by (try simp only [hl656001_59]); (with_reducible repeat (first | refine blk_drewN ?_ _ | refine blk_drew ?_ | refine blk_alloc ?_ _)); exact BK650.out⟩, ⟨by (try simp only [hl656001_59]); (with_reducible repeat (first | refine blk_drewN ?_ _ | refine blk_drew ?_ | refine blk_alloc ?_ _)); exact BK655.out⟩, ⟨by (try simp only [hl656001_59]); (with_reducible repeat (first | refine blk_drewN ?_ _ | refine blk_drew ?_ | refine blk_alloc ?_ _)); exact BK661.out⟩, ⟨by (try simp only [hl656001_59]); (with_reducible repeat (first | refine blk_drewN ?_ _ | refine blk_drew ?_ | refine blk_alloc ?_ _)); exact BK683.out⟩, ⟨by repeat (first | (with_reducible first | exact HB.out | apply below_alloc | apply pw_below_drewN | apply below_drew1 | refine below_set ?_ GE639.out | refine below_set ?_ GE650.out | refine below_set ?_ GE655.out | refine below_set ?_ GE661.out | refine below_set ?_ GE683.out) | exact HB.out)⟩⟩
           case rest =>
            clear HC103
            try clear c1
            try clear c2
            try clear p2
            try clear c3
            try clear c3b0
            try clear c4
            try clear c5
            try clear c6
            try clear c7
            try clear c8
            try clear c9
            try clear c10
            try clear c11
            try clear c12
            try clear c13
            try clear c14
            try clear c15
            try clear c17
            try clear c19
            try clear c20
            try clear c26
            try clear c27
            try clear c32
            try clear c33
            try clear c34
            try clear c37
            try clear c38
            try clear c39
            try clear c40
            try clear c41
            try clear c42
            try clear c43
            try clear c44
            try clear c47
            try clear c48
            try clear c49
            try clear c51
            try clear c52
            try clear c55
            try clear c58
            try clear c65
            try clear c66
            try clear c67
            try clear c70
            try clear c70b0
            try clear c72
            try clear c73
            try clear c74
            try clear c75
            try clear c77
            try clear c78
            try clear c81
            try clear c82
            try clear c83
            try clear c85
            try clear c86
            try clear c89
            try clear c92
            try clear c92b0
            try clear c93
            try clear c94
            try clear c95
            try clear c100
            try clear c100b0
            try clear c100b1
            try clear c104
            try clear c105
            try clear c106
            try clear c111
            try clear c112
            try clear c118
            try clear c119
            try clear c120
            try clear c121
            try clear c125
            try clear c126
            try clear c127
            try clear c128
            try clear c129
            try clear c131
            try clear c132
            try clear c133
            try clear c136
            try clear c137
            try clear c138
            try clear c139
            try clear c141
            try clear c142
            try clear c143
            try clear hcz107_0
            try clear hcz107_1
            try clear hcz109_0
            try clear hcz109_1
            try clear hcz113_0
            try clear hcz113_1
            try clear hcz122_0
            try clear hcz122_1
            try clear hcz130_0
            try clear hcz130_1
            try clear hcz134_0
            try clear hcz134_1
            try clear hcz13_0
            try clear hcz13_1
            try clear hcz140_0
            try clear hcz140_1
            try clear hcz144_0
            try clear hcz144_1
            try clear hcz15_0
            try clear hcz15_1
            try clear hcz21_0
            try clear hcz21_1
            try clear hcz23_0
            try clear hcz23_1
            try clear hcz28_0
            try clear hcz28_1
            try clear hcz35_0
            try clear hcz35_1
            try clear hcz42_0
            try clear hcz42_1
            try clear hcz45_0
            try clear hcz45_1
            try clear hcz50_0
            try clear hcz50_1
            try clear hcz53_0
            try clear hcz53_1
            try clear hcz5_0
            try clear hcz5_1
            try clear hcz68_0
            try clear hcz68_1
            try clear hcz76_0
            try clear hcz76_1
            try clear hcz79_0
            try clear hcz79_1
            try clear hcz84_0
            try clear hcz84_1
            try clear hcz87_0
            try clear hcz87_1
            try clear hcz96_0
            try clear hcz96_1
            try clear hcz98_0
            try clear hcz98_1
            try clear hfz107_0
            try clear hfz107_1
            try clear hfz109_0
            try clear hfz109_1
            try clear hfz113_0
            try clear hfz113_1
            try clear hfz122_0
            try clear hfz122_1
            try clear hfz130_0
            try clear hfz130_1
            try clear hfz134_0
            try clear hfz134_1
            try clear hfz13_0
            try clear hfz13_1
            try clear hfz140_0
            try clear hfz140_1
            try clear hfz144_0
            try clear hfz144_1
            try clear hfz15_0
            try clear hfz15_1
            try clear hfz21_0
            try clear hfz21_1
            try clear hfz23_0
            try clear hfz23_1
            try clear hfz28_0
            try clear hfz28_1
            try clear hfz35_0
            try clear hfz35_1
            try clear hfz42_0
            try clear hfz42_1
            try clear hfz45_0
            try clear hfz45_1
            try clear hfz50_0
            try clear hfz50_1
            try clear hfz53_0
            try clear hfz53_1
            try clear hfz5_0
            try clear hfz5_1
            try clear hfz68_0
            try clear hfz68_1
            try clear hfz76_0
            try clear hfz76_1
            try clear hfz79_0
            try clear hfz79_1
            try clear hfz84_0
            try clear hfz84_1
            try clear hfz87_0
            try clear hfz87_1
            try clear hfz96_0
            try clear hfz96_1
            try clear hfz98_0
            try clear hfz98_1
            try clear p2
            obtain ⟨kq, x87_102, rfl, HA, HJ102, HO_651001, HO_656001, HO_662001, HO_684001, BK639, BK650, BK655, BK661, BK683, HB⟩ := hcut
            have hl662001_102 := (Kd.R_reads' HO_662001.out).1
            rw [hl662001_102] at HO_662001
            (try simp only [hl662001_102])
            (try simp only [hl662001_102] at BK639)
            (try simp only [hl662001_102] at BK650)
            (try simp only [hl662001_102] at BK655)
            (try simp only [hl662001_102] at BK661)
            (try simp only [hl662001_102] at BK683)
            (try simp only [hl662001_102] at HO_651001)
            (try simp only [hl662001_102] at HO_656001)
            (try simp only [hl662001_102] at HO_684001)
            cases kq with
            | zero => exact absurd HA.out (by simp [laws_FnExactClarify.j2])
            | succ kj102 =>
             have H := HA.out
             clear HA
             simp only [laws_FnExactClarify.j2] at H
             by_cases c146 : x87_102 = true
             ·
              subst c146
              have H1 : (some false) = some r := q33_52
              clear H
              have H := H1
              clear H1
              obtain rfl := Option.some.inj H
              go_wp2
              go_ret
              exact ⟨by first | rfl | (simp [errW_none, errW_some] <;> rfl) | (simp [*, errW_none, errW_some] <;> rfl), by repeat (first | (with_reducible first | exact HB.out | apply below_alloc | apply pw_below_drewN | apply below_drew1 | refine below_set ?_ GE639.out | refine below_set ?_ GE650.out | refine below_set ?_ GE655.out | refine below_set ?_ GE661.out | refine below_set ?_ GE683.out) | exact HB.out)⟩
             ·
              replace c146 := Bool.eq_false_iff.mpr c146
              subst c146
              have H1 : ((laws_heldContext.f kj102 t656 t672 1).bind fun t685 => (if t685 < 0 then (some false) else (if t685 = t671 then (some true) else (some false)))) = some r := q33_51
              clear H
              have H := H1
              clear H1
              replace H := Option.bind_eq_some_iff.mp H
              obtain ⟨t685, A1470, H⟩ := H
              replace H : (if t685 < 0 then (some false) else (if t685 = t671 then (some true) else (some false))) = some r := H
              have A147 := Aside0.mk A1470
              clear A1470
              by_cases c148 : t685 < 0
              ·
               rw [if_pos c148] at H
               have c148b0 : decide (t685 < 0) = true := decide_eq_true c148
               clear c148
               obtain rfl := Option.some.inj H
               have hnb149 := NB661_639.out
               have hnc149 := NB639_661.out
               have hnb150 := NB661_650.out
               have hnc150 := NB650_661.out
               have hnb151 := NB661_655.out
               have hnc151 := NB655_661.out
               have hnb152 := NB661_683.out
               have hnc152 := NB683_661.out
               have hcz153_0 : wc.cell? ⟨gb661, 0, none⟩ = some (.int .i64 t656) := (blk_cell BK661.out 0).trans rfl
               have hcz153_1 : wc.cell? ⟨gb661, 1, none⟩ = some (.slice Ao36 t672.length co36) := (blk_cell BK661.out 1).trans rfl
               have hfz153_0 := blk_frozen BK661.out 0
               have hfz153_1 := blk_frozen BK661.out 1
               go_wp2_with (first | ((with_reducible refine gate_callee (f := 38) rfl ?_); refine goesL_ (some 90) rfl rfl Try.func38 q33_53 rfl #[.agg #[.int .i64 t656, .slice Ao36 t672.length co36], .int .i64 1] rfl q33_35 ?_; (with_reducible refine (laws_heldContext.calls kj102 t656 _ _ t672 1 t685 _ ?side1 ?side2 A147.out).mono ?_); (case side1 => exact q33_31); (case side2 => exact (Kd.R_reads' HO_662001.out).2.1); rintro e w154 ⟨rfl, hb⟩; refine ⟨_, rfl, ?_⟩; have n0_ := Aside0.mk (Kd.R_below q33_42 hb); have n1_ := Aside0.mk (Kd.R_below q33_43 hb); have n2_ := Aside0.mk (Kd.R_below q33_44 hb); have n3_ := Aside0.mk (Kd.R_below q33_45 hb); have n4_ := Aside0.mk (blk_below (g := gb639) (o := .cells #[.int .i64 a0_0, .slice A0_1 l0_1.length c0_1] 24 (0, 0)) q33_37 hb); have n5_ := Aside0.mk (blk_below (g := gb650) (o := .cells #[.int .i64 t645, .slice Ao22 t646.length co22] 27 (0, 0)) q33_38 hb); have n6_ := Aside0.mk (blk_below (g := gb655) (o := .cells #[.int .i64 t651, .slice Ao29 t669.length co29] 27 (0, 0)) q33_39 hb); have n7_ := Aside0.mk (blk_below (g := gb661) (o := .cells #[.int .i64 t656, .slice Ao36 t672.length co36] 27 (0, 0)) q33_40 hb); have n8_ := Aside0.mk (blk_below (g := gb683) (o := .cells #[.int .i64 t678, .slice Ao123 t679.length co123] 27 (0, 0)) q33_41 hb); have n9_ := Aside0.mk (below_step q33_24 hb); clear HO_651001; clear HO_656001; clear HO_662001; clear HO_684001; clear BK639; clear BK650; clear BK655; clear BK661; clear BK683; clear HB; have HO_651001 := n0_; have HO_656001 := n1_; have HO_662001 := n2_; have HO_684001 := n3_; have BK639 := n4_; have BK650 := n5_; have BK655 := n6_; have BK661 := n7_; have BK683 := n8_; have HB := n9_; clear n0_ n1_ n2_ n3_ n4_ n5_ n6_ n7_ n8_ n9_; (try clear hb); (try clear hb2); (try clear hk); (try clear hi)))
               go_ret
               exact ⟨by first | rfl | (simp [errW_none, errW_some] <;> rfl) | (simp [*, errW_none, errW_some] <;> rfl), by repeat (first | (with_reducible first | exact HB.out | apply below_alloc | apply pw_below_drewN | apply below_drew1 | refine below_set ?_ GE639.out | refine below_set ?_ GE650.out | refine below_set ?_ GE655.out | refine below_set ?_ GE661.out | refine below_set ?_ GE683.out) | exact HB.out)⟩
              ·
               rw [if_neg c148] at H
               have c148b0 : decide (t685 < 0) = false := decide_eq_false c148
               clear c148
               by_cases c155 : t685 = t671
               ·
                rw [if_pos c155] at H
                have c155b0 : (t685 == t671) = true := beq_iff_eq.mpr c155
                have c155b1 : (t685 != t671) = false := bne_eq_false_iff_eq.mpr c155
                clear c155
                obtain rfl := Option.some.inj H
                have hnb156 := NB661_639.out
                have hnc156 := NB639_661.out
                have hnb157 := NB661_650.out
                have hnc157 := NB650_661.out
                have hnb158 := NB661_655.out
                have hnc158 := NB655_661.out
                have hnb159 := NB661_683.out
                have hnc159 := NB683_661.out
                have hcz160_0 : wc.cell? ⟨gb661, 0, none⟩ = some (.int .i64 t656) := (blk_cell BK661.out 0).trans rfl
                have hcz160_1 : wc.cell? ⟨gb661, 1, none⟩ = some (.slice Ao36 t672.length co36) := (blk_cell BK661.out 1).trans rfl
                have hfz160_0 := blk_frozen BK661.out 0
                have hfz160_1 := blk_frozen BK661.out 1
                go_wp2_with (first | ((with_reducible refine gate_callee (f := 38) rfl ?_); refine goesL_ (some 90) rfl rfl Try.func38 q33_53 rfl #[.agg #[.int .i64 t656, .slice Ao36 t672.length co36], .int .i64 1] rfl q33_35 ?_; (with_reducible refine (laws_heldContext.calls kj102 t656 _ _ t672 1 t685 _ ?side1 ?side2 A147.out).mono ?_); (case side1 => exact q33_31); (case side2 => exact (Kd.R_reads' HO_662001.out).2.1); rintro e w161 ⟨rfl, hb⟩; refine ⟨_, rfl, ?_⟩; have n0_ := Aside0.mk (Kd.R_below q33_42 hb); have n1_ := Aside0.mk (Kd.R_below q33_43 hb); have n2_ := Aside0.mk (Kd.R_below q33_44 hb); have n3_ := Aside0.mk (Kd.R_below q33_45 hb); have n4_ := Aside0.mk (blk_below (g := gb639) (o := .cells #[.int .i64 a0_0, .slice A0_1 l0_1.length c0_1] 24 (0, 0)) q33_37 hb); have n5_ := Aside0.mk (blk_below (g := gb650) (o := .cells #[.int .i64 t645, .slice Ao22 t646.length co22] 27 (0, 0)) q33_38 hb); have n6_ := Aside0.mk (blk_below (g := gb655) (o := .cells #[.int .i64 t651, .slice Ao29 t669.length co29] 27 (0, 0)) q33_39 hb); have n7_ := Aside0.mk (blk_below (g := gb661) (o := .cells #[.int .i64 t656, .slice Ao36 t672.length co36] 27 (0, 0)) q33_40 hb); have n8_ := Aside0.mk (blk_below (g := gb683) (o := .cells #[.int .i64 t678, .slice Ao123 t679.length co123] 27 (0, 0)) q33_41 hb); have n9_ := Aside0.mk (below_step q33_24 hb); clear HO_651001; clear HO_656001; clear HO_662001; clear HO_684001; clear BK639; clear BK650; clear BK655; clear BK661; clear BK683; clear HB; have HO_651001 := n0_; have HO_656001 := n1_; have HO_662001 := n2_; have HO_684001 := n3_; have BK639 := n4_; have BK650 := n5_; have BK655 := n6_; have BK661 := n7_; have BK683 := n8_; have HB := n9_; clear n0_ n1_ n2_ n3_ n4_ n5_ n6_ n7_ n8_ n9_; (try clear hb); (try clear hb2); (try clear hk); (try clear hi)))
                go_ret
                exact ⟨by first | rfl | (simp [errW_none, errW_some] <;> rfl) | (simp [*, errW_none, errW_some] <;> rfl), by repeat (first | (with_reducible first | exact HB.out | apply below_alloc | apply pw_below_drewN | apply below_drew1 | refine below_set ?_ GE639.out | refine below_set ?_ GE650.out | refine below_set ?_ GE655.out | refine below_set ?_ GE661.out | refine below_set ?_ GE683.out) | exact HB.out)⟩
               ·
                rw [if_neg c155] at H
                have c155b0 : (t685 == t671) = false := beq_eq_false_iff_ne.mpr c155
                have c155b1 : (t685 != t671) = true := bne_iff_ne.mpr c155
                obtain rfl := Option.some.inj H
                have hnb162 := NB661_639.out
                have hnc162 := NB639_661.out
                have hnb163 := NB661_650.out
                have hnc163 := NB650_661.out
                have hnb164 := NB661_655.out
                have hnc164 := NB655_661.out
                have hnb165 := NB661_683.out
                have hnc165 := NB683_661.out
                have hcz166_0 : wc.cell? ⟨gb661, 0, none⟩ = some (.int .i64 t656) := (blk_cell BK661.out 0).trans rfl
                have hcz166_1 : wc.cell? ⟨gb661, 1, none⟩ = some (.slice Ao36 t672.length co36) := (blk_cell BK661.out 1).trans rfl
                have hfz166_0 := blk_frozen BK661.out 0
                have hfz166_1 := blk_frozen BK661.out 1
                go_wp2_with (first | ((with_reducible refine gate_callee (f := 38) rfl ?_); refine goesL_ (some 90) rfl rfl Try.func38 q33_53 rfl #[.agg #[.int .i64 t656, .slice Ao36 t672.length co36], .int .i64 1] rfl q33_35 ?_; (with_reducible refine (laws_heldContext.calls kj102 t656 _ _ t672 1 t685 _ ?side1 ?side2 A147.out).mono ?_); (case side1 => exact q33_31); (case side2 => exact (Kd.R_reads' HO_662001.out).2.1); rintro e w167 ⟨rfl, hb⟩; refine ⟨_, rfl, ?_⟩; have n0_ := Aside0.mk (Kd.R_below q33_42 hb); have n1_ := Aside0.mk (Kd.R_below q33_43 hb); have n2_ := Aside0.mk (Kd.R_below q33_44 hb); have n3_ := Aside0.mk (Kd.R_below q33_45 hb); have n4_ := Aside0.mk (blk_below (g := gb639) (o := .cells #[.int .i64 a0_0, .slice A0_1 l0_1.length c0_1] 24 (0, 0)) q33_37 hb); have n5_ := Aside0.mk (blk_below (g := gb650) (o := .cells #[.int .i64 t645, .slice Ao22 t646.length co22] 27 (0, 0)) q33_38 hb); have n6_ := Aside0.mk (blk_below (g := gb655) (o := .cells #[.int .i64 t651, .slice Ao29 t669.length co29] 27 (0, 0)) q33_39 hb); have n7_ := Aside0.mk (blk_below (g := gb661) (o := .cells #[.int .i64 t656, .slice Ao36 t672.length co36] 27 (0, 0)) q33_40 hb); have n8_ := Aside0.mk (blk_below (g := gb683) (o := .cells #[.int .i64 t678, .slice Ao123 t679.length co123] 27 (0, 0)) q33_41 hb); have n9_ := Aside0.mk (below_step q33_24 hb); clear HO_651001; clear HO_656001; clear HO_662001; clear HO_684001; clear BK639; clear BK650; clear BK655; clear BK661; clear BK683; clear HB; have HO_651001 := n0_; have HO_656001 := n1_; have HO_662001 := n2_; have HO_684001 := n3_; have BK639 := n4_; have BK650 := n5_; have BK655 := n6_; have BK661 := n7_; have BK683 := n8_; have HB := n9_; clear n0_ n1_ n2_ n3_ n4_ n5_ n6_ n7_ n8_ n9_; (try clear hb); (try clear hb2); (try clear hk); (try clear hi)))
                go_ret
                exact ⟨by first | rfl | (simp [errW_none, errW_some] <;> rfl) | (simp [*, errW_none, errW_some] <;> rfl), by repeat (first | (with_reducible first | exact HB.out | apply below_alloc | apply pw_below_drewN | apply below_drew1 | refine below_set ?_ GE639.out | refine below_set ?_ GE650.out | refine below_set ?_ GE655.out | refine below_set ?_ GE661.out | refine below_set ?_ GE683.out) | exact HB.out)⟩
          ·
           rw [if_neg c100] at H
           have c100b0 : (t673 == t671) = false := beq_eq_false_iff_ne.mpr c100
           have c100b1 : (t673 != t671) = true := bne_iff_ne.mpr c100
           obtain rfl := Option.some.inj H
           have hnb168 := NB661_639.out
           have hnc168 := NB639_661.out
           have hnb169 := NB661_650.out
           have hnc169 := NB650_661.out
           have hnb170 := NB661_655.out
           have hnc170 := NB655_661.out
           have hcz171_0 : wc.cell? ⟨gb661, 0, none⟩ = some (.int .i64 t656) := (blk_cell BK661.out 0).trans rfl
           have hcz171_1 : wc.cell? ⟨gb661, 1, none⟩ = some (.slice Ao36 t657.length co36) := (blk_cell BK661.out 1).trans rfl
           have hfz171_0 := blk_frozen BK661.out 0
           have hfz171_1 := blk_frozen BK661.out 1
           go_wp2_with (first | ((with_reducible refine gate_callee (f := 37) rfl ?_); refine goesL_ (some 64) rfl rfl Try.func37 q33_53 rfl #[.agg #[.int .i64 t656, .slice Ao36 t657.length co36], .int .i64 1] rfl q33_35 ?_; (with_reducible refine (laws_markContext.calls kj59 t656 (fun k_ => some k_ = (.slice Ao36 t657.length co36 : Value).ownBlock) (.slice Ao36 t657.length co36) t657 1 t671 t672 w _ ?side1 ?side2 A90.out).mono ?_); (case side1 => exact q33_25); (case side2 => exact Kd.R_tight rfl HO_662001.out); rintro e w172 ⟨rfl, hy0, hb, hkp⟩; refine ⟨_, rfl, ?_⟩; have n0_ := Aside0.mk (Kd.R_mono (ok' := fun k_ => some k_ ≠ (.slice Ao29 t669.length co29 : Value).ownBlock ∧ some k_ ≠ (.slice Ao36 t657.length co36 : Value).ownBlock) (Kd.R_keptB (HO_651001.out) hkp (fun k_ hk_ hs_ => (hk_.2) hs_)) (fun k_ hk_ => ⟨hk_.1.1, hk_.1.2⟩)); have n1_ := Aside0.mk (Kd.R_mono (ok' := fun k_ => some k_ ≠ (.slice Ao22 t646.length co22 : Value).ownBlock ∧ some k_ ≠ (.slice Ao36 t657.length co36 : Value).ownBlock) (Kd.R_keptB (HO_656001.out) hkp (fun k_ hk_ hs_ => (hk_.2) hs_)) (fun k_ hk_ => ⟨hk_.1.1, hk_.1.2⟩)); have n2_ := Aside0.mk (Kd.R_reok rfl hy0 (fun k_ e_ => HO_662001.out.1 k_ e_)); have n3_ := Aside0.mk (blk_kept q33_37 hkp (fun hs_ => (fun e_ => (Kd.R_ne HO_662001.out BK639.out (by decide)) e_) hs_)); have n4_ := Aside0.mk (blk_kept q33_38 hkp (fun hs_ => (fun e_ => (Kd.R_ne HO_662001.out BK650.out (by decide)) e_) hs_)); have n5_ := Aside0.mk (blk_kept q33_39 hkp (fun hs_ => (fun e_ => (Kd.R_ne HO_662001.out BK655.out (by decide)) e_) hs_)); have n6_ := Aside0.mk (blk_kept q33_40 hkp (fun hs_ => (fun e_ => (Kd.R_ne HO_662001.out BK661.out (by decide)) e_) hs_)); have n7_ := Aside0.mk (hb); clear HO_651001; clear HO_656001; clear HO_662001; clear BK639; clear BK650; clear BK655; clear BK661; clear HB; have HO_651001 := n0_; have HO_656001 := n1_; have HO_662001 := n2_; have BK639 := n3_; have BK650 := n4_; have BK655 := n5_; have BK661 := n6_; have HB := n7_; clear n0_ n1_ n2_ n3_ n4_ n5_ n6_ n7_; (try clear hb); (try clear hkp); (try clear hy0); have hcz173_0 : w172.cell? ⟨gb661, 0, none⟩ = some (.int .i64 t656) := (blk_cell BK661.out 0).trans rfl; have hcz173_1 : w172.cell? ⟨gb661, 1, none⟩ = some (.slice Ao36 t657.length co36) := (blk_cell BK661.out 1).trans rfl; have hfz173_0 := blk_frozen BK661.out 0; have hfz173_1 := blk_frozen BK661.out 1) | ((with_reducible refine gate_callee (f := 38) rfl ?_); refine goesL_ (some 67) rfl rfl Try.func38 q33_53 rfl #[.agg #[.int .i64 t656, .slice Ao36 t672.length co36], .int .i64 1] rfl q33_27 ?_; (with_reducible refine (laws_heldContext.calls kj59 t656 _ _ t672 1 t673 _ ?side1 ?side2 A91.out).mono ?_); (case side1 => exact q33_31); (case side2 => rw [show t672.length = t657.length from (Kd.R_reads' HO_662001.out).1.symm]; exact (Kd.R_reads' HO_662001.out).2.1); rintro e w174 ⟨rfl, hb⟩; refine ⟨_, rfl, ?_⟩; have n0_ := Aside0.mk (Kd.R_below q33_42 hb); have n1_ := Aside0.mk (Kd.R_below q33_43 hb); have n2_ := Aside0.mk (Kd.R_below q33_44 hb); have n3_ := Aside0.mk (blk_below (g := gb639) (o := .cells #[.int .i64 a0_0, .slice A0_1 l0_1.length c0_1] 24 (0, 0)) q33_37 hb); have n4_ := Aside0.mk (blk_below (g := gb650) (o := .cells #[.int .i64 t645, .slice Ao22 t646.length co22] 27 (0, 0)) q33_38 hb); have n5_ := Aside0.mk (blk_below (g := gb655) (o := .cells #[.int .i64 t651, .slice Ao29 t669.length co29] 27 (0, 0)) q33_39 hb); have n6_ := Aside0.mk (blk_below (g := gb661) (o := .cells #[.int .i64 t656, .slice Ao36 t657.length co36] 27 (0, 0)) q33_40 hb); have n7_ := Aside0.mk (below_step q33_25 hb); clear HO_651001; clear HO_656001; clear HO_662001; clear BK639; clear BK650; clear BK655; clear BK661; clear HB; have HO_651001 := n0_; have HO_656001 := n1_; have HO_662001 := n2_; have BK639 := n3_; have BK650 := n4_; have BK655 := n5_; have BK661 := n6_; have HB := n7_; clear n0_ n1_ n2_ n3_ n4_ n5_ n6_ n7_; (try clear hb); (try clear hb2); (try clear hk); (try clear hi)))
           go_ret
           exact ⟨by first | rfl | (simp [errW_none, errW_some] <;> rfl) | (simp [*, errW_none, errW_some] <;> rfl), by repeat (first | (with_reducible first | exact HB.out | apply below_alloc | apply pw_below_drewN | apply below_drew1 | refine below_set ?_ GE639.out | refine below_set ?_ GE650.out | refine below_set ?_ GE655.out | refine below_set ?_ GE661.out) | exact HB.out)⟩
     ·
      replace c58 := Bool.eq_false_iff.mpr c58
      subst c58
      have H1 : (some false) = some r := q33_51
      clear H
      have H := H1
      clear H1
      obtain rfl := Option.some.inj H
      try go_wp2
      have n0_ := Aside0.mk (Kd.R_drew HO_651001.out)
      have n1_ := Aside0.mk (Kd.R_drew HO_656001.out)
      have n2_ := Aside0.mk (Kd.R_drew HO_662001.out)
      have n3_ := Aside0.mk (blk_drew BK639.out)
      have n4_ := Aside0.mk (blk_drew BK650.out)
      have n5_ := Aside0.mk (blk_drew BK655.out)
      have n6_ := Aside0.mk (blk_drew BK661.out)
      have n7_ := Aside0.mk (below_drew1 HB.out)
      clear HO_651001
      clear HO_656001
      clear HO_662001
      clear BK639
      clear BK650
      clear BK655
      clear BK661
      clear HB
      have HO_651001 := n0_
      have HO_656001 := n1_
      have HO_662001 := n2_
      have BK639 := n3_
      have BK650 := n4_
      have BK655 := n5_
      have BK661 := n6_
      have HB := n7_
      clear n0_ n1_ n2_ n3_ n4_ n5_ n6_ n7_
      refine start_ (n := 5) (S := fun w' => w'.cell? ⟨gb655, 0, none⟩ = some (.int .i64 t651) ∧ w'.cell? ⟨gb655, 1, none⟩ = some (.slice Ao29 t652.length co29) ∧ w'.cell? ⟨gb639, 0, none⟩ = some (.int .i64 a0_0) ∧ w'.cell? ⟨gb639, 1, none⟩ = some (.slice A0_1 l0_1.length c0_1)) (ds := []) #[false, false, false, false, false] q33_53 rfl rfl ⟨(blk_cell BK655.out 0).trans rfl, (blk_cell BK655.out 1).trans rfl, (blk_cell BK639.out 0).trans rfl, (blk_cell BK639.out 1).trans rfl⟩ (fun hHeld => ?_)
      generalize wc.drew = w175 at HO_651001 HO_656001 HO_662001 BK639 BK650 BK655 BK661 HB hHeld ⊢
      refine take_ (i := 0) (N := some 41) (v := ?_) (a' := ?_) #[true, false, false, false, false] rfl rfl q33_53 (fun _ _ _ h => h) (Or.inl ⟨by rfl, ?_⟩) hHeld ?_ ?_
      rotate_left
      ·
       rintro w' ⟨s0, s1, s2, s3⟩
       go_simp
       with_reducible rfl
      rotate_left
      ·
       exact put33_
      refine take_ (i := 1) (N := some 42) (v := ?_) (a' := ?_) #[true, true, false, false, false] rfl rfl q33_53 (fun _ _ _ h => h) (Or.inl ⟨by rfl, ?_⟩) hHeld ?_ ?_
      rotate_left
      ·
       rintro w' ⟨s0, s1, s2, s3⟩
       go_simp
       with_reducible rfl
      rotate_left
      ·
       exact put33_
      refine one_ (i := 2) (N := some 43) #[true, true, true, false, false] rfl rfl q33_53 (by decide) (fun K hK => ?_)
      refine goes_ Try.func17 q33_53 rfl #[.agg #[.int .i64 a0_0, .slice A0_1 l0_1.length c0_1]] (by rfl) rfl rfl q33_35 ?_
      with_reducible refine (laws_toContext.calls kj10 a0_0 _ _ l0_1 t663 t664 _ ?side1 ?side2 A56.out).mono ?_
      (case side1 => exact q33_32)
      (case side2 => exact HC0_1.out)
      rintro e w176 ⟨v665, rfl, ho0, hb⟩
      refine ⟨_, rfl, ?_⟩
      have n0_ := Aside0.mk (Kd.R_elder' q33_42 (Kd.R_base ho0) hb)
      have n1_ := Aside0.mk (Kd.R_elder' q33_43 (Kd.R_base ho0) hb)
      have n2_ := Aside0.mk (Kd.R_elder' q33_44 (Kd.R_base ho0) hb)
      have n3_ := Aside0.mk (Kd.R_lower (Kd.R_new' (Kd.R_new' (Kd.R_new' ho0 (Kd.R_lt q33_42)) (Kd.R_lt q33_43)) (Kd.R_lt q33_44)) (below_size q33_25))
      have n4_ := Aside0.mk (blk_below (g := gb639) (o := .cells #[.int .i64 a0_0, .slice A0_1 l0_1.length c0_1] 24 (0, 0)) q33_37 hb)
      have n5_ := Aside0.mk (blk_below (g := gb650) (o := .cells #[.int .i64 t645, .slice Ao22 t646.length co22] 27 (0, 0)) q33_38 hb)
      have n6_ := Aside0.mk (blk_below (g := gb655) (o := .cells #[.int .i64 t651, .slice Ao29 t652.length co29] 27 (0, 0)) q33_39 hb)
      have n7_ := Aside0.mk (blk_below (g := gb661) (o := .cells #[.int .i64 t656, .slice Ao36 t657.length co36] 27 (0, 0)) q33_40 hb)
      have n8_ := Aside0.mk (below_step q33_25 hb)
      clear HO_651001
      clear HO_656001
      clear HO_662001
      clear BK639
      clear BK650
      clear BK655
      clear BK661
      clear HB
      have HO_651001 := n0_
      have HO_656001 := n1_
      have HO_662001 := n2_
      have HO666 := n3_
      have BK639 := n4_
      have BK650 := n5_
      have BK655 := n6_
      have BK661 := n7_
      have HB := n8_
      clear n0_ n1_ n2_ n3_ n4_ n5_ n6_ n7_ n8_
      (try clear hb)
      (try clear hb2)
      (try clear hk)
      (try clear hi)
      (try clear ho0)
      obtain ⟨Ao177, co177, eo177⟩ := Kd.R_slice HO666.out
      (first | subst eo177 | (injection eo177 with f1_ f2_ f3_; have f4_ := f1_.symm; have f5_ := f3_.symm; clear f1_ f2_ f3_; subst f4_; subst f5_))
      refine hK.out _ _ ⟨(blk_cell BK655.out 0).trans rfl, (blk_cell BK655.out 1).trans rfl, (blk_cell BK639.out 0).trans rfl, (blk_cell BK639.out 1).trans rfl⟩ (fun hHeld => ?_)
      clear hK K
      refine norm_ (a' := ?_) ?_ ?_
      rotate_left
      ·
       show Act.put _ (some 43) _ = _
       exact put33_
      refine one_ (i := 3) (N := some 44) #[true, true, true, true, false] rfl rfl q33_53 (by decide) (fun K hK => ?_)
      refine goes_ Try.func19 q33_53 rfl #[.agg #[.int .i64 t651, .slice Ao29 t652.length co29], .agg #[.int .i64 t663, .slice Ao177 t664.length co177]] (by rfl) rfl rfl q33_35 ?_
      with_reducible refine (laws_eqContext.calls kj10 t651 _ _ t652 t663 _ _ t664 false _ ?side1 ?side2 ?side3 ?side4 A57.out).mono ?_
      (case side1 => exact q33_30)
      (case side2 => exact (Kd.R_reads' HO_656001.out).2.1)
      (case side3 => exact q33_33)
      (case side4 => exact (Kd.R_reads' HO666.out).2.1)
      rintro e w178 ⟨rfl, hb⟩
      refine ⟨_, rfl, ?_⟩
      have n0_ := Aside0.mk (Kd.R_below q33_42 hb)
      have n1_ := Aside0.mk (Kd.R_below q33_43 hb)
      have n2_ := Aside0.mk (Kd.R_below q33_44 hb)
      have n3_ := Aside0.mk (Kd.R_below q33_48 hb)
      have n4_ := Aside0.mk (blk_below (g := gb639) (o := .cells #[.int .i64 a0_0, .slice A0_1 l0_1.length c0_1] 24 (0, 0)) q33_37 hb)
      have n5_ := Aside0.mk (blk_below (g := gb650) (o := .cells #[.int .i64 t645, .slice Ao22 t646.length co22] 27 (0, 0)) q33_38 hb)
      have n6_ := Aside0.mk (blk_below (g := gb655) (o := .cells #[.int .i64 t651, .slice Ao29 t652.length co29] 27 (0, 0)) q33_39 hb)
      have n7_ := Aside0.mk (blk_below (g := gb661) (o := .cells #[.int .i64 t656, .slice Ao36 t657.length co36] 27 (0, 0)) q33_40 hb)
      have n8_ := Aside0.mk (below_step q33_25 hb)
      clear HO_651001
      clear HO_656001
      clear HO_662001
      clear HO666
      clear BK639
      clear BK650
      clear BK655
      clear BK661
      clear HB
      have HO_651001 := n0_
      have HO_656001 := n1_
      have HO_662001 := n2_
      have HO666 := n3_
      have BK639 := n4_
      have BK650 := n5_
      have BK655 := n6_
      have BK661 := n7_
      have HB := n8_
      clear n0_ n1_ n2_ n3_ n4_ n5_ n6_ n7_ n8_
      (try clear hb)
      (try clear hb2)
      (try clear hk)
      (try clear hi)
      refine hK.out _ _ ⟨(blk_cell BK655.out 0).trans rfl, (blk_cell BK655.out 1).trans rfl, (blk_cell BK639.out 0).trans rfl, (blk_cell BK639.out 1).trans rfl⟩ (fun hHeld => ?_)
      clear hK K
      refine norm_ (a' := ?_) ?_ ?_
      rotate_left
      ·
       show Act.put _ (some 44) _ = _
       exact put33_
      refine pure_ (i := 4) (N := some 45) (v := ?_) (a' := ?_) #[true, true, true, true, true] rfl rfl q33_53 (fun _ _ _ h => h) (Or.inl ⟨by rfl, ?_⟩) ?_ ?_
      rotate_left
      ·
       intro w'
       go_simp
       with_reducible rfl
      rotate_left
      ·
       exact put33_
      refine done_ q33_53 ?_
      try go_wp2
      go_ret
      exact ⟨by first | rfl | (simp [errW_none, errW_some] <;> rfl) | (simp [*, errW_none, errW_some] <;> rfl), by repeat (first | (with_reducible first | exact HB.out | apply below_alloc | apply pw_below_drewN | apply below_drew1 | refine below_set ?_ GE639.out | refine below_set ?_ GE650.out | refine below_set ?_ GE655.out | refine below_set ?_ GE661.out) | exact HB.out)⟩
end Go.Proofs.Ytemhlblajnlogaa.Pr
