/- What the law needs of the program's functions as plain functions, of the proofs that their calls answer so, and of plain laws: gathered by a program of this place (pack.py) out of its printed texts. No condition beyond what each statement says. -/
import Derived.Test.YtemhlblajnlogaaZXDropAttributes2
import Derived.Test.YtemhlblajnlogaaZXDropAttributes3
import Derived.Test.YtemhlblajnlogaaZXDropAttributes4
import Derived.Test.YtemhlblajnlogaaZXDropAttributes5
import Derived.Test.YtemhlblajnlogaaZXDropAttributes8
namespace Go.Proofs.Ytemhlblajnlogaa.Pr
open Go.RowKit Go.Proofs.YtemhlblajnlogaaW.PrintWords Go.Proofs.YtemhlblajnlogaaW.PrintLast Go.Proofs.YtemhlblajnlogaaW.PrintMore
attribute [local go_sem] max2_int min2_int max_two min_two max_three min_three max_four min_four   -- for this text's walks alone
set_option linter.unusedVariables false
set_option linter.unusedSimpArgs false
theorem put35_ {P : Prop} (h : P := by simp only [Act.put, List.setIfInBounds_toArray, List.set_cons_zero, List.set_cons_succ, i64_w, i32_w]; rfl) : P := h
theorem q35_1 {P : Prop} (h : P := by (with_reducible repeat (first | refine blk_drewN ?_ _ | refine blk_drew ?_ | refine blk_alloc ?_ _)); refine blk_put (cs := #[.int .i64 t568, .slice none 0 0]) ?_ 1 _ rfl; (with_reducible repeat (first | refine blk_drewN ?_ _ | refine blk_drew ?_ | refine blk_alloc ?_ _)); refine blk_put (cs := #[.int .i64 0, .slice none 0 0]) ?_ 0 _ rfl; (with_reducible repeat (first | refine blk_drewN ?_ _ | refine blk_drew ?_ | refine blk_alloc ?_ _)); exact BK573.out) : P := h
theorem q35_2 {P : Prop} (h : P := by (with_reducible repeat (first | refine blk_drewN ?_ _ | refine blk_drew ?_ | refine blk_alloc ?_ _)); refine blk_put (cs := #[.int .i64 t590, .slice none 0 0]) ?_ 1 _ rfl; (with_reducible repeat (first | refine blk_drewN ?_ _ | refine blk_drew ?_ | refine blk_alloc ?_ _)); refine blk_put (cs := #[.int .i64 0, .slice none 0 0]) ?_ 0 _ rfl; (with_reducible repeat (first | refine blk_drewN ?_ _ | refine blk_drew ?_ | refine blk_alloc ?_ _)); exact BK595.out) : P := h
theorem q35_3 {P : Prop} (h : P := by (with_reducible repeat (first | refine blk_drewN ?_ _ | refine blk_drew ?_ | refine blk_alloc ?_ _)); refine blk_far ?_ NB551_573.out _; (with_reducible repeat (first | refine blk_drewN ?_ _ | refine blk_drew ?_ | refine blk_alloc ?_ _)); refine blk_far ?_ NB551_573.out _; (with_reducible repeat (first | refine blk_drewN ?_ _ | refine blk_drew ?_ | refine blk_alloc ?_ _)); exact BK551.out) : P := h
theorem q35_4 {P : Prop} (h : P := by (with_reducible repeat (first | refine blk_drewN ?_ _ | refine blk_drew ?_ | refine blk_alloc ?_ _)); refine blk_far ?_ NB551_595.out _; (with_reducible repeat (first | refine blk_drewN ?_ _ | refine blk_drew ?_ | refine blk_alloc ?_ _)); refine blk_far ?_ NB551_595.out _; (with_reducible repeat (first | refine blk_drewN ?_ _ | refine blk_drew ?_ | refine blk_alloc ?_ _)); exact BK551.out) : P := h
theorem q35_5 {P : Prop} (h : P := by (with_reducible repeat (first | refine blk_drewN ?_ _ | refine blk_drew ?_ | refine blk_alloc ?_ _)); refine blk_far ?_ NB562_573.out _; (with_reducible repeat (first | refine blk_drewN ?_ _ | refine blk_drew ?_ | refine blk_alloc ?_ _)); refine blk_far ?_ NB562_573.out _; (with_reducible repeat (first | refine blk_drewN ?_ _ | refine blk_drew ?_ | refine blk_alloc ?_ _)); exact BK562.out) : P := h
theorem q35_6 {P : Prop} (h : P := by (with_reducible repeat (first | refine blk_drewN ?_ _ | refine blk_drew ?_ | refine blk_alloc ?_ _)); refine blk_far ?_ NB562_595.out _; (with_reducible repeat (first | refine blk_drewN ?_ _ | refine blk_drew ?_ | refine blk_alloc ?_ _)); refine blk_far ?_ NB562_595.out _; (with_reducible repeat (first | refine blk_drewN ?_ _ | refine blk_drew ?_ | refine blk_alloc ?_ _)); exact BK562.out) : P := h
theorem q35_7 {P : Prop} (h : P := by (with_reducible repeat (first | refine blk_drewN ?_ _ | refine blk_drew ?_ | refine blk_alloc ?_ _)); refine blk_far ?_ NB567_573.out _; (with_reducible repeat (first | refine blk_drewN ?_ _ | refine blk_drew ?_ | refine blk_alloc ?_ _)); refine blk_far ?_ NB567_573.out _; (with_reducible repeat (first | refine blk_drewN ?_ _ | refine blk_drew ?_ | refine blk_alloc ?_ _)); exact BK567.out) : P := h
theorem q35_8 {P : Prop} (h : P := by (with_reducible repeat (first | refine blk_drewN ?_ _ | refine blk_drew ?_ | refine blk_alloc ?_ _)); refine blk_far ?_ NB567_595.out _; (with_reducible repeat (first | refine blk_drewN ?_ _ | refine blk_drew ?_ | refine blk_alloc ?_ _)); refine blk_far ?_ NB567_595.out _; (with_reducible repeat (first | refine blk_drewN ?_ _ | refine blk_drew ?_ | refine blk_alloc ?_ _)); exact BK567.out) : P := h
theorem q35_9 {P : Prop} (h : P := by (with_reducible repeat (first | refine blk_drewN ?_ _ | refine blk_drew ?_ | refine blk_alloc ?_ _)); refine blk_far ?_ NB573_595.out _; (with_reducible repeat (first | refine blk_drewN ?_ _ | refine blk_drew ?_ | refine blk_alloc ?_ _)); refine blk_far ?_ NB573_595.out _; (with_reducible repeat (first | refine blk_drewN ?_ _ | refine blk_drew ?_ | refine blk_alloc ?_ _)); exact BK573.out) : P := h
theorem q35_10 {P : Prop} (h : P := by (with_reducible repeat (first | apply Kd.R_alloc | apply Kd.R_drewN | apply Kd.R_drew)); exact (Kd.R_mono (Kd.R_far (p := ⟨gb595, 1, none⟩) (Kd.R_far (p := ⟨gb595, 0, none⟩) (Kd.R_types HO_563001.out BK595.out (by decide)) (fun _ hk => hk.2) (.int .i64 t590)) (fun _ hk => hk.2) (.slice Ao124 t591.length co124)) (fun _ h_ => h_.1))) : P := h
theorem q35_11 {P : Prop} (h : P := by (with_reducible repeat (first | apply Kd.R_alloc | apply Kd.R_drewN | apply Kd.R_drew)); exact (Kd.R_mono (Kd.R_far (p := ⟨gb595, 1, none⟩) (Kd.R_far (p := ⟨gb595, 0, none⟩) (Kd.R_types HO_568001.out BK595.out (by decide)) (fun _ hk => hk.2) (.int .i64 t590)) (fun _ hk => hk.2) (.slice Ao124 t591.length co124)) (fun _ h_ => h_.1))) : P := h
theorem q35_12 {P : Prop} (h : P := by (with_reducible repeat (first | apply Kd.R_alloc | apply Kd.R_drewN | apply Kd.R_drew)); exact (Kd.R_mono (Kd.R_far (p := ⟨gb595, 1, none⟩) (Kd.R_far (p := ⟨gb595, 0, none⟩) (Kd.R_types HO_574001.out BK595.out (by decide)) (fun _ hk => hk.2) (.int .i64 t590)) (fun _ hk => hk.2) (.slice Ao124 t591.length co124)) (fun _ h_ => h_.1))) : P := h
theorem q35_13 {P : Prop} (h : P := by (with_reducible repeat (first | apply Kd.R_alloc | apply Kd.R_drewN | apply Kd.R_drew)); exact (Kd.R_mono (Kd.R_far (p := ⟨gb595, 1, none⟩) (Kd.R_far (p := ⟨gb595, 0, none⟩) (Kd.R_types HO589.out BK595.out (by decide)) (fun _ hk => hk.2) (.int .i64 t590)) (fun _ hk => hk.2) (.slice Ao124 t591.length co124)) (fun _ h_ => h_.1))) : P := h
theorem q35_14 {P : Prop} (h : P := by (with_reducible repeat (first | apply Kd.R_alloc | apply Kd.R_drewN | apply Kd.R_drew)); exact (Kd.R_mono (Kd.R_far (p := ⟨gb595, 1, none⟩) (Kd.R_far (p := ⟨gb595, 0, none⟩) (Kd.R_types HO593.out BK595.out (by decide)) (fun _ hk => hk.2) (.int .i64 t590)) (fun _ hk => hk.2) (.slice Ao124 t591.length co124)) (fun _ h_ => h_.1))) : P := h
theorem q35_15 {P : Prop} (h : P := by (with_reducible repeat (first | apply Kd.R_alloc | apply Kd.R_drewN | apply Kd.R_drew)); exact (Kd.R_mono (Kd.R_far (p := ⟨gb562, 1, none⟩) (Kd.R_far (p := ⟨gb562, 0, none⟩) (Kd.R_types HO556.out BK562.out (by decide)) (fun _ hk => hk.2) (.int .i64 t557)) (fun _ hk => hk.2) (.slice Ao23 t558.length co23)) (fun _ h_ => h_.1))) : P := h
theorem q35_16 {P : Prop} (h : P := by (with_reducible repeat (first | apply Kd.R_alloc | apply Kd.R_drewN | apply Kd.R_drew)); exact (Kd.R_mono (Kd.R_far (p := ⟨gb562, 1, none⟩) (Kd.R_far (p := ⟨gb562, 0, none⟩) (Kd.R_types HO560.out BK562.out (by decide)) (fun _ hk => hk.2) (.int .i64 t557)) (fun _ hk => hk.2) (.slice Ao23 t558.length co23)) (fun _ h_ => h_.1))) : P := h
theorem q35_17 {P : Prop} (h : P := by (with_reducible repeat (first | apply Kd.R_alloc | apply Kd.R_drewN | apply Kd.R_drew)); exact (Kd.R_mono (Kd.R_far (p := ⟨gb567, 1, none⟩) (Kd.R_far (p := ⟨gb567, 0, none⟩) (Kd.R_types HO556.out BK567.out (by decide)) (fun _ hk => hk.2) (.int .i64 t563)) (fun _ hk => hk.2) (.slice Ao30 t564.length co30)) (fun _ h_ => h_.1))) : P := h
theorem q35_18 {P : Prop} (h : P := by (with_reducible repeat (first | apply Kd.R_alloc | apply Kd.R_drewN | apply Kd.R_drew)); exact (Kd.R_mono (Kd.R_far (p := ⟨gb567, 1, none⟩) (Kd.R_far (p := ⟨gb567, 0, none⟩) (Kd.R_types HO560.out BK567.out (by decide)) (fun _ hk => hk.2) (.int .i64 t563)) (fun _ hk => hk.2) (.slice Ao30 t564.length co30)) (fun _ h_ => h_.1))) : P := h
theorem q35_19 {P : Prop} (h : P := by (with_reducible repeat (first | apply Kd.R_alloc | apply Kd.R_drewN | apply Kd.R_drew)); exact (Kd.R_mono (Kd.R_far (p := ⟨gb567, 1, none⟩) (Kd.R_far (p := ⟨gb567, 0, none⟩) (Kd.R_types HO566.out BK567.out (by decide)) (fun _ hk => hk.2) (.int .i64 t563)) (fun _ hk => hk.2) (.slice Ao30 t564.length co30)) (fun _ h_ => h_.1))) : P := h
theorem q35_20 {P : Prop} (h : P := by (with_reducible repeat (first | apply Kd.R_alloc | apply Kd.R_drewN | apply Kd.R_drew)); exact (Kd.R_mono (Kd.R_far (p := ⟨gb573, 1, none⟩) (Kd.R_far (p := ⟨gb573, 0, none⟩) (Kd.R_types HO556.out BK573.out (by decide)) (fun _ hk => hk.2) (.int .i64 t568)) (fun _ hk => hk.2) (.slice Ao37 t569.length co37)) (fun _ h_ => h_.1))) : P := h
theorem q35_21 {P : Prop} (h : P := by (with_reducible repeat (first | apply Kd.R_alloc | apply Kd.R_drewN | apply Kd.R_drew)); exact (Kd.R_mono (Kd.R_far (p := ⟨gb573, 1, none⟩) (Kd.R_far (p := ⟨gb573, 0, none⟩) (Kd.R_types HO560.out BK573.out (by decide)) (fun _ hk => hk.2) (.int .i64 t568)) (fun _ hk => hk.2) (.slice Ao37 t569.length co37)) (fun _ h_ => h_.1))) : P := h
theorem q35_22 {P : Prop} (h : P := by (with_reducible repeat (first | apply Kd.R_alloc | apply Kd.R_drewN | apply Kd.R_drew)); exact (Kd.R_mono (Kd.R_far (p := ⟨gb573, 1, none⟩) (Kd.R_far (p := ⟨gb573, 0, none⟩) (Kd.R_types HO566.out BK573.out (by decide)) (fun _ hk => hk.2) (.int .i64 t568)) (fun _ hk => hk.2) (.slice Ao37 t569.length co37)) (fun _ h_ => h_.1))) : P := h
theorem q35_23 {P : Prop} (h : P := by (with_reducible repeat (first | apply Kd.R_alloc | apply Kd.R_drewN | apply Kd.R_drew)); exact (Kd.R_mono (Kd.R_far (p := ⟨gb573, 1, none⟩) (Kd.R_far (p := ⟨gb573, 0, none⟩) (Kd.R_types HO571.out BK573.out (by decide)) (fun _ hk => hk.2) (.int .i64 t568)) (fun _ hk => hk.2) (.slice Ao37 t569.length co37)) (fun _ h_ => h_.1))) : P := h
theorem q35_24 {P : Prop} (h : P := by repeat (first | (with_reducible first | exact HB.out | apply below_alloc | apply pw_below_drewN | apply below_drew1 | refine below_set ?_ GE551.out | refine below_set ?_ GE562.out | refine below_set ?_ GE567.out | refine below_set ?_ GE573.out | refine below_set ?_ GE595.out) | exact HB.out)) : P := h
theorem q35_25 {P : Prop} (h : P := by repeat (first | (with_reducible first | exact HB.out | apply below_alloc | apply pw_below_drewN | apply below_drew1 | refine below_set ?_ GE551.out | refine below_set ?_ GE562.out | refine below_set ?_ GE567.out | refine below_set ?_ GE573.out) | exact HB.out)) : P := h
theorem q35_26 {P : Prop} (h : P := by repeat (first | (with_reducible first | exact HB.out | apply below_alloc | apply pw_below_drewN | apply below_drew1 | refine below_set ?_ GE551.out | refine below_set ?_ GE562.out | refine below_set ?_ GE567.out) | exact HB.out)) : P := h
theorem q35_27 {P : Prop} (h : P := by (try simp only [List.map_toArray, List.map_cons, List.map_nil]); first | done | (rw [show t584.length = t569.length from (Kd.R_reads' HO_574001.out).1.symm] <;> rfl) | rfl | (simp only [List.length_drop, List.length_take]; rfl)) : P := h
theorem q35_28 {P : Prop} (h : P := by repeat (first | (with_reducible first | exact HB.out | apply below_alloc | apply pw_below_drewN | apply below_drew1 | refine below_set ?_ GE551.out | refine below_set ?_ GE562.out) | exact HB.out)) : P := h
theorem q35_29 {P : Prop} (h : P := by repeat (first | exact (Kd.R_reads' HO_563001.out).2.2 | (with_reducible refine Kd.C_alloc ?_ _) | (with_reducible refine Kd.C_drewN ?_ _) | (with_reducible refine Kd.C_drew ?_))) : P := h
theorem q35_30 {P : Prop} (h : P := by repeat (first | exact (Kd.R_reads' HO_568001.out).2.2 | (with_reducible refine Kd.C_alloc ?_ _) | (with_reducible refine Kd.C_drewN ?_ _) | (with_reducible refine Kd.C_drew ?_))) : P := h
theorem q35_31 {P : Prop} (h : P := by repeat (first | exact (Kd.R_reads' HO_574001.out).2.2 | (with_reducible refine Kd.C_alloc ?_ _) | (with_reducible refine Kd.C_drewN ?_ _) | (with_reducible refine Kd.C_drew ?_))) : P := h
theorem q35_32 {P : Prop} (h : P := by repeat (first | exact (Kd.C_below HR0_1.out HB.out) | (with_reducible refine Kd.C_alloc ?_ _) | (with_reducible refine Kd.C_drewN ?_ _) | (with_reducible refine Kd.C_drew ?_))) : P := h
theorem q35_33 {P : Prop} (h : P := by repeat (first | exact (Kd.R_reads' HO578.out).2.2 | (with_reducible refine Kd.C_alloc ?_ _) | (with_reducible refine Kd.C_drewN ?_ _) | (with_reducible refine Kd.C_drew ?_))) : P := h
theorem q35_34 {P : Prop} (h : P := by repeat (first | (with_reducible first | exact HB.out | apply below_alloc | apply pw_below_drewN | apply below_drew1 | refine below_set ?_ GE551.out) | exact HB.out)) : P := h
theorem q35_35 {P : Prop} (h : P := by (try simp only [List.map_toArray, List.map_cons, List.map_nil]); first | done | rfl | (simp only [List.length_drop, List.length_take]; rfl)) : P := h
theorem q35_36 {P : Prop} (h : P := by repeat (first | (with_reducible first | exact HB.out | apply below_alloc | apply pw_below_drewN | apply below_drew1) | exact HB.out)) : P := h
theorem q35_37 {P : Prop} (h : P := by (with_reducible repeat (first | refine blk_drewN ?_ _ | refine blk_drew ?_ | refine blk_alloc ?_ _)); exact BK551.out) : P := h
theorem q35_38 {P : Prop} (h : P := by (with_reducible repeat (first | refine blk_drewN ?_ _ | refine blk_drew ?_ | refine blk_alloc ?_ _)); exact BK562.out) : P := h
theorem q35_39 {P : Prop} (h : P := by (with_reducible repeat (first | refine blk_drewN ?_ _ | refine blk_drew ?_ | refine blk_alloc ?_ _)); exact BK567.out) : P := h
theorem q35_40 {P : Prop} (h : P := by (with_reducible repeat (first | refine blk_drewN ?_ _ | refine blk_drew ?_ | refine blk_alloc ?_ _)); exact BK573.out) : P := h
theorem q35_41 {P : Prop} (h : P := by (with_reducible repeat (first | refine blk_drewN ?_ _ | refine blk_drew ?_ | refine blk_alloc ?_ _)); exact BK595.out) : P := h
theorem q35_42 {P : Prop} (h : P := by (with_reducible repeat (first | apply Kd.R_alloc | apply Kd.R_drewN | apply Kd.R_drew)); exact HO_563001.out) : P := h
theorem q35_43 {P : Prop} (h : P := by (with_reducible repeat (first | apply Kd.R_alloc | apply Kd.R_drewN | apply Kd.R_drew)); exact HO_568001.out) : P := h
theorem q35_44 {P : Prop} (h : P := by (with_reducible repeat (first | apply Kd.R_alloc | apply Kd.R_drewN | apply Kd.R_drew)); exact HO_574001.out) : P := h
theorem q35_45 {P : Prop} (h : P := by (with_reducible repeat (first | apply Kd.R_alloc | apply Kd.R_drewN | apply Kd.R_drew)); exact HO_596001.out) : P := h
theorem q35_46 {P : Prop} (h : P := by (with_reducible repeat (first | apply Kd.R_alloc | apply Kd.R_drewN | apply Kd.R_drew)); exact HO556.out) : P := h
theorem q35_47 {P : Prop} (h : P := by (with_reducible repeat (first | apply Kd.R_alloc | apply Kd.R_drewN | apply Kd.R_drew)); exact HO560.out) : P := h
theorem q35_48 {P : Prop} (h : P := by (with_reducible repeat (first | apply Kd.R_alloc | apply Kd.R_drewN | apply Kd.R_drew)); exact HO578.out) : P := h
theorem q35_49 {P : Prop} (h : P := by (with_reducible repeat (first | apply Kd.R_alloc | apply Kd.R_drewN | apply Kd.R_drew)); exact HO589.out) : P := h
theorem q35_50 {P : Prop} (h : P := by first | rfl | (simp; done) | (simp [*]; done) | (simp [i64_w, i32_w]; done)) : P := h
theorem q35_51 {P : Prop} (h : P := by rw [if_neg (show ¬ (false = true) by decide)] at H; exact H) : P := h
theorem q35_52 {P : Prop} (h : P := by rw [if_pos rfl] at H; exact H) : P := h
theorem q35_53 {P : Prop} (h : P := by kernel_rfl) : P := h
mutual
def laws_FnExactDropAttributes.j0 : Nat → Int → Bool → Bool → Bool → Int → List Int → Int → List Int → Int → List Int → Int → List Int → Option (Bool)
 | 0, _, _, _, _, _, _, _, _, _, _, _, _ => none
 | k + 1, x1, x7, x10, x44, x552000, x552001, x563000, x563001, x568000, x568001, x574000, x574001 => if x44 = true then (some false) else ((laws_toContext.f k x552000 x552001).bind fun bt575 => ((laws_eqContext.f k x568000 x568001 bt575.1 bt575.2).bind fun t579 => (if t579 = true then ((laws_markContext.f k x568000 x568001 1).bind fun bt580 => (if bt580.1 < 0 then (laws_FnExactDropAttributes.j1 k x1 x7 true x552000 x552001 x563000 x563001 x574000 x574001) else ((laws_eqContext.f k x574000 x574001 x563000 x563001).bind fun t582 => (if t582 = true then (laws_FnExactDropAttributes.j1 k x1 x7 (x10 != x7) x552000 x552001 x563000 x563001 x574000 x574001) else (laws_FnExactDropAttributes.j1 k x1 x7 true x552000 x552001 x563000 x563001 x574000 x574001))))) else (some false))))
def laws_FnExactDropAttributes.j1 : Nat → Int → Bool → Bool → Int → List Int → Int → List Int → Int → List Int → Option (Bool)
 | 0, _, _, _, _, _, _, _, _, _ => none
 | k + 1, x1, x7, x65, x552000, x552001, x563000, x563001, x574000, x574001 => if x65 = true then (some false) else ((laws_markContext.f k x574000 x574001 1).bind fun bt583 => ((laws_heldContext.f k x574000 bt583.2 1).bind fun t585 => (if t585 < 0 then (some false) else (if t585 = bt583.1 then ((laws_toContext.f k x552000 x552001).bind fun bt586 => ((impl_DropAttributes.f k bt586.1 bt586.2 x1).bind fun bt590 => ((laws_eqContext.f k bt590.1 bt590.2.1 x563000 x563001).bind fun t596 => (if t596 = true then (laws_FnExactDropAttributes.j2 k bt583.1 (bt590.2.2 != x7) x574000 bt583.2) else (laws_FnExactDropAttributes.j2 k bt583.1 true x574000 bt583.2))))) else (some false)))))
def laws_FnExactDropAttributes.j2 : Nat → Int → Bool → Int → List Int → Option (Bool)
 | 0, _, _, _, _ => none
 | k + 1, x12, x92, x574000, x574001 => if x92 = true then (some false) else ((laws_heldContext.f k x574000 x574001 1).bind fun t597 => (if t597 < 0 then (some false) else (if t597 = x12 then (some true) else (some false))))
end
def laws_FnExactDropAttributes.f (k : Nat) (a0_0 : Int) (l0_1 : List Int) (a1 : Int) : Option (Bool) := (laws_szContext.f a0_0 l0_1 1048576).bind fun t552 => (if t552 < 0 then (some true) else ((laws_toContext.f k a0_0 l0_1).bind fun bt553 => ((spec_DropAttributes.f k bt553.1 bt553.2 a1).bind fun bt557 => ((laws_toContext.f k a0_0 l0_1).bind fun bt563 => ((impl_DropAttributes.f k bt563.1 bt563.2 a1).bind fun bt568 => ((laws_eqContext.f k bt568.1 bt568.2.1 bt557.1 bt557.2.1).bind fun t574 => (if t574 = true then (laws_FnExactDropAttributes.j0 k a1 bt557.2.2 bt568.2.2 (bt568.2.2 != bt557.2.2) a0_0 l0_1 bt557.1 bt557.2.1 bt563.1 bt563.2 bt568.1 bt568.2.1) else (laws_FnExactDropAttributes.j0 k a1 bt557.2.2 bt568.2.2 true a0_0 l0_1 bt557.1 bt557.2.1 bt563.1 bt563.2 bt568.1 bt568.2.1))))))))
set_option maxHeartbeats 8000000 in
set_option maxRecDepth 100000 in
theorem laws_FnExactDropAttributes.calls (k : Nat) (a0_0 : Int) (A0_1 : Option Addr) (c0_1 : Nat) (l0_1 : List Int) (a1 : Int) (r : Bool) (w : World) (hr0_1 : Kd.C (Kd.int .i64) w A0_1 l0_1.length l0_1) (hc0_1 : l0_1.length ≤ c0_1) (h : laws_FnExactDropAttributes.f k a0_0 l0_1 a1 = some r) :
  Calls Try.prog 12 #[.agg #[.int .i64 a0_0, .slice A0_1 l0_1.length c0_1], .int .i64 a1] w fun e w' => e = .returned (.bool r) ∧ Below w.heap.size w w' := by
 have hu24 := Try.underlying24
 have hu27 := Try.underlying27
 have HR0_1 := Aside0.mk hr0_1
 have HC0_1 := Aside0.mk hc0_1
 clear hr0_1 hc0_1
 have HB := Aside0.mk (Below.refl w.heap.size w)
 have H : ((laws_szContext.f a0_0 l0_1 1048576).bind fun t552 => (if t552 < 0 then (some true) else ((laws_toContext.f k a0_0 l0_1).bind fun bt553 => ((spec_DropAttributes.f k bt553.1 bt553.2 a1).bind fun bt557 => ((laws_toContext.f k a0_0 l0_1).bind fun bt563 => ((impl_DropAttributes.f k bt563.1 bt563.2 a1).bind fun bt568 => ((laws_eqContext.f k bt568.1 bt568.2.1 bt557.1 bt557.2.1).bind fun t574 => (if t574 = true then (laws_FnExactDropAttributes.j0 k a1 bt557.2.2 bt568.2.2 (bt568.2.2 != bt557.2.2) a0_0 l0_1 bt557.1 bt557.2.1 bt563.1 bt563.2 bt568.1 bt568.2.1) else (laws_FnExactDropAttributes.j0 k a1 bt557.2.2 bt568.2.2 true a0_0 l0_1 bt557.1 bt557.2.1 bt563.1 bt563.2 bt568.1 bt568.2.1))))))))) = some r := h
 clear h
 replace H := Option.bind_eq_some_iff.mp H
 obtain ⟨t552, A30, H⟩ := H
 replace H : (if t552 < 0 then (some true) else ((laws_toContext.f k a0_0 l0_1).bind fun bt553 => ((spec_DropAttributes.f k bt553.1 bt553.2 a1).bind fun bt557 => ((laws_toContext.f k a0_0 l0_1).bind fun bt563 => ((impl_DropAttributes.f k bt563.1 bt563.2 a1).bind fun bt568 => ((laws_eqContext.f k bt568.1 bt568.2.1 bt557.1 bt557.2.1).bind fun t574 => (if t574 = true then (laws_FnExactDropAttributes.j0 k a1 bt557.2.2 bt568.2.2 (bt568.2.2 != bt557.2.2) a0_0 l0_1 bt557.1 bt557.2.1 bt563.1 bt563.2 bt568.1 bt568.2.1) else (laws_FnExactDropAttributes.j0 k a1 bt557.2.2 bt568.2.2 true a0_0 l0_1 bt557.1 bt557.2.1 bt563.1 bt563.2 bt568.1 bt568.2.1)))))))) = some r := H
 have A3 := Aside0.mk A30
 clear A30
 by_cases c4 : t552 < 0
 ·
  rw [if_pos c4] at H
  have c4b0 : decide (t552 < 0) = true := decide_eq_true c4
  clear c4
  obtain rfl := Option.some.inj H
  go_enter Try.func12, Try.ntmps12
  go_wp2_with (first | ((with_reducible refine gate_dst (N := 2) rfl ?_); refine box_event ?hg (N := 2) ?hd (cs := #[.int .i64 a0_0, .slice A0_1 l0_1.length c0_1]) (t := 24) ?hr ?_; (case hd => rfl); (case hg => rfl); (case hr => first | (go_simp; done) | (go_simp; rfl)); intro gb551 hg w5 hbox hb; have n0_ := Aside0.mk (below_step q35_36 hb); have n1_ := Aside0.mk (hbox); have n2_ := Aside0.mk ((by rw [hg]; exact (below_size q35_36) : w.heap.size ≤ gb551)); have n3_ := Aside0.mk ((by rw [hg]; exact (below_size q35_36) : w.heap.size ≤ gb551)); clear HB; have HB := n0_; have BK551 := n1_; have GW551 := n2_; have GE551 := n3_; clear n0_ n1_ n2_ n3_; clear hb hbox hg; have hcz6_0 : w5.cell? ⟨gb551, 0, none⟩ = some (.int .i64 a0_0) := (blk_cell BK551.out 0).trans rfl; have hcz6_1 : w5.cell? ⟨gb551, 1, none⟩ = some (.slice A0_1 l0_1.length c0_1) := (blk_cell BK551.out 1).trans rfl; have hfz6_0 := blk_frozen BK551.out 0; have hfz6_1 := blk_frozen BK551.out 1) | ((with_reducible refine gate_callee (f := 15) rfl ?_); refine goesL_ (some 18) rfl rfl Try.func15 q35_53 rfl #[.agg #[.int .i64 a0_0, .slice A0_1 l0_1.length c0_1], .int .i64 1048576] rfl q35_35 ?_; (with_reducible refine (laws_szContext.calls a0_0 _ _ l0_1 1048576 t552 _ ?side1 ?side2 A3.out).mono ?_); (case side1 => exact q35_32); (case side2 => exact HC0_1.out); rintro e w7 ⟨rfl, hb⟩; refine ⟨_, rfl, ?_⟩; have n0_ := Aside0.mk (blk_below (g := gb551) (o := .cells #[.int .i64 a0_0, .slice A0_1 l0_1.length c0_1] 24 (0, 0)) q35_37 hb); have n1_ := Aside0.mk (below_step q35_34 hb); clear BK551; clear HB; have BK551 := n0_; have HB := n1_; clear n0_ n1_; (try clear hb); (try clear hb2); (try clear hk); (try clear hi)))
  go_ret
  exact ⟨by first | rfl | (simp [errW_none, errW_some] <;> rfl) | (simp [*, errW_none, errW_some] <;> rfl), by repeat (first | (with_reducible first | exact HB.out | apply below_alloc | apply pw_below_drewN | apply below_drew1 | refine below_set ?_ GE551.out) | exact HB.out)⟩
 ·
  rw [if_neg c4] at H
  have c4b0 : decide (t552 < 0) = false := decide_eq_false c4
  clear c4
  replace H := Option.bind_eq_some_iff.mp H
  obtain ⟨⟨t553, t554⟩, A80, H⟩ := H
  replace H : ((spec_DropAttributes.f k t553 t554 a1).bind fun bt557 => ((laws_toContext.f k a0_0 l0_1).bind fun bt563 => ((impl_DropAttributes.f k bt563.1 bt563.2 a1).bind fun bt568 => ((laws_eqContext.f k bt568.1 bt568.2.1 bt557.1 bt557.2.1).bind fun t574 => (if t574 = true then (laws_FnExactDropAttributes.j0 k a1 bt557.2.2 bt568.2.2 (bt568.2.2 != bt557.2.2) a0_0 l0_1 bt557.1 bt557.2.1 bt563.1 bt563.2 bt568.1 bt568.2.1) else (laws_FnExactDropAttributes.j0 k a1 bt557.2.2 bt568.2.2 true a0_0 l0_1 bt557.1 bt557.2.1 bt563.1 bt563.2 bt568.1 bt568.2.1)))))) = some r := H
  have A8 := Aside0.mk A80
  clear A80
  replace H := Option.bind_eq_some_iff.mp H
  obtain ⟨⟨t557, t558, t561⟩, A90, H⟩ := H
  replace H : ((laws_toContext.f k a0_0 l0_1).bind fun bt563 => ((impl_DropAttributes.f k bt563.1 bt563.2 a1).bind fun bt568 => ((laws_eqContext.f k bt568.1 bt568.2.1 t557 t558).bind fun t574 => (if t574 = true then (laws_FnExactDropAttributes.j0 k a1 t561 bt568.2.2 (bt568.2.2 != t561) a0_0 l0_1 t557 t558 bt563.1 bt563.2 bt568.1 bt568.2.1) else (laws_FnExactDropAttributes.j0 k a1 t561 bt568.2.2 true a0_0 l0_1 t557 t558 bt563.1 bt563.2 bt568.1 bt568.2.1))))) = some r := H
  have A9 := Aside0.mk A90
  clear A90
  replace H := Option.bind_eq_some_iff.mp H
  obtain ⟨⟨t563, t564⟩, A100, H⟩ := H
  replace H : ((impl_DropAttributes.f k t563 t564 a1).bind fun bt568 => ((laws_eqContext.f k bt568.1 bt568.2.1 t557 t558).bind fun t574 => (if t574 = true then (laws_FnExactDropAttributes.j0 k a1 t561 bt568.2.2 (bt568.2.2 != t561) a0_0 l0_1 t557 t558 t563 t564 bt568.1 bt568.2.1) else (laws_FnExactDropAttributes.j0 k a1 t561 bt568.2.2 true a0_0 l0_1 t557 t558 t563 t564 bt568.1 bt568.2.1)))) = some r := H
  have A10 := Aside0.mk A100
  clear A100
  replace H := Option.bind_eq_some_iff.mp H
  obtain ⟨⟨t568, t569, t572⟩, A110, H⟩ := H
  replace H : ((laws_eqContext.f k t568 t569 t557 t558).bind fun t574 => (if t574 = true then (laws_FnExactDropAttributes.j0 k a1 t561 t572 (t572 != t561) a0_0 l0_1 t557 t558 t563 t564 t568 t569) else (laws_FnExactDropAttributes.j0 k a1 t561 t572 true a0_0 l0_1 t557 t558 t563 t564 t568 t569))) = some r := H
  have A11 := Aside0.mk A110
  clear A110
  have HC12 := Aside0.mk H
  clear H
  go_enter Try.func12, Try.ntmps12
  go_upto_region 8 with (first | ((with_reducible refine gate_dst (N := 2) rfl ?_); refine box_event ?hg (N := 2) ?hd (cs := #[.int .i64 a0_0, .slice A0_1 l0_1.length c0_1]) (t := 24) ?hr ?_; (case hd => rfl); (case hg => rfl); (case hr => first | (go_simp; done) | (go_simp; rfl)); intro gb551 hg w13 hbox hb; have n0_ := Aside0.mk (below_step q35_36 hb); have n1_ := Aside0.mk (hbox); have n2_ := Aside0.mk ((by rw [hg]; exact (below_size q35_36) : w.heap.size ≤ gb551)); have n3_ := Aside0.mk ((by rw [hg]; exact (below_size q35_36) : w.heap.size ≤ gb551)); clear HB; have HB := n0_; have BK551 := n1_; have GW551 := n2_; have GE551 := n3_; clear n0_ n1_ n2_ n3_; clear hb hbox hg; have hcz14_0 : w13.cell? ⟨gb551, 0, none⟩ = some (.int .i64 a0_0) := (blk_cell BK551.out 0).trans rfl; have hcz14_1 : w13.cell? ⟨gb551, 1, none⟩ = some (.slice A0_1 l0_1.length c0_1) := (blk_cell BK551.out 1).trans rfl; have hfz14_0 := blk_frozen BK551.out 0; have hfz14_1 := blk_frozen BK551.out 1) | ((with_reducible refine gate_callee (f := 15) rfl ?_); refine goesL_ (some 18) rfl rfl Try.func15 q35_53 rfl #[.agg #[.int .i64 a0_0, .slice A0_1 l0_1.length c0_1], .int .i64 1048576] rfl q35_35 ?_; (with_reducible refine (laws_szContext.calls a0_0 _ _ l0_1 1048576 t552 _ ?side1 ?side2 A3.out).mono ?_); (case side1 => exact q35_32); (case side2 => exact HC0_1.out); rintro e w15 ⟨rfl, hb⟩; refine ⟨_, rfl, ?_⟩; have n0_ := Aside0.mk (blk_below (g := gb551) (o := .cells #[.int .i64 a0_0, .slice A0_1 l0_1.length c0_1] 24 (0, 0)) q35_37 hb); have n1_ := Aside0.mk (below_step q35_34 hb); clear BK551; clear HB; have BK551 := n0_; have HB := n1_; clear n0_ n1_; (try clear hb); (try clear hb2); (try clear hk); (try clear hi); have hcz16_0 : w15.cell? ⟨gb551, 0, none⟩ = some (.int .i64 a0_0) := (blk_cell BK551.out 0).trans rfl; have hcz16_1 : w15.cell? ⟨gb551, 1, none⟩ = some (.slice A0_1 l0_1.length c0_1) := (blk_cell BK551.out 1).trans rfl; have hfz16_0 := blk_frozen BK551.out 0; have hfz16_1 := blk_frozen BK551.out 1) | ((with_reducible refine gate_callee (f := 17) rfl ?_); refine goesL_ (some 23) rfl rfl Try.func17 q35_53 rfl #[.agg #[.int .i64 a0_0, .slice A0_1 l0_1.length c0_1]] rfl q35_35 ?_; (with_reducible refine (laws_toContext.calls k a0_0 _ _ l0_1 t553 t554 _ ?side1 ?side2 A8.out).mono ?_); (case side1 => exact q35_32); (case side2 => exact HC0_1.out); rintro e w17 ⟨v555, rfl, ho0, hb⟩; refine ⟨_, rfl, ?_⟩; have n0_ := Aside0.mk (Kd.R_lower ho0 (below_size q35_34)); have n1_ := Aside0.mk (blk_below (g := gb551) (o := .cells #[.int .i64 a0_0, .slice A0_1 l0_1.length c0_1] 24 (0, 0)) q35_37 hb); have n2_ := Aside0.mk (below_step q35_34 hb); clear BK551; clear HB; have HO556 := n0_; have BK551 := n1_; have HB := n2_; clear n0_ n1_ n2_; (try clear hb); (try clear hb2); (try clear hk); (try clear hi); (try clear ho0); obtain ⟨Ao18, co18, eo18⟩ := Kd.R_slice HO556.out; subst eo18) | ((with_reducible refine gate_callee (f := 39) rfl ?_); refine goesL_ (some 25) rfl rfl Try.func39 q35_53 rfl #[.agg #[.int .i64 t553, .slice Ao18 t554.length co18], .int .i64 a1] rfl q35_35 ?_; (with_reducible refine (spec_DropAttributes.calls k t553 _ _ t554 a1 t557 t558 t561 _ ?side1 ?side2 A9.out).mono ?_); (case side1 => repeat (first | exact (Kd.R_reads' HO556.out).2.2 | (with_reducible refine Kd.C_alloc ?_ _) | (with_reducible refine Kd.C_drewN ?_ _) | (with_reducible refine Kd.C_drew ?_))); (case side2 => exact (Kd.R_reads' HO556.out).2.1); rintro e w19 ⟨v559, rfl, ho0, hb⟩; refine ⟨_, rfl, ?_⟩; have n0_ := Aside0.mk (Kd.R_elder' q35_46 (Kd.R_base ho0) hb); have n1_ := Aside0.mk (Kd.R_lower (Kd.R_new' ho0 (Kd.R_lt q35_46)) (below_size q35_34)); have n2_ := Aside0.mk (blk_below (g := gb551) (o := .cells #[.int .i64 a0_0, .slice A0_1 l0_1.length c0_1] 24 (0, 0)) q35_37 hb); have n3_ := Aside0.mk (below_step q35_34 hb); clear HO556; clear BK551; clear HB; have HO556 := n0_; have HO560 := n1_; have BK551 := n2_; have HB := n3_; clear n0_ n1_ n2_ n3_; (try clear hb); (try clear hb2); (try clear hk); (try clear hi); (try clear ho0)) | ((with_reducible refine gate_dst (N := 6) rfl ?_); refine box_event ?hg (N := 6) ?hd (cs := #[.int .i64 0, .slice none 0 0]) (t := 27) ?hr ?_; (case hd => rfl); (case hg => rfl); (case hr => first | (go_simp; done) | (go_simp; rfl)); intro gb562 hg w20 hbox hb; have n0_ := Aside0.mk (Kd.R_below q35_46 hb); have n1_ := Aside0.mk (Kd.R_below q35_47 hb); have n2_ := Aside0.mk (blk_below (g := gb551) (o := .cells #[.int .i64 a0_0, .slice A0_1 l0_1.length c0_1] 24 (0, 0)) q35_37 hb); have n3_ := Aside0.mk (below_step q35_34 hb); have n4_ := Aside0.mk (hbox); have n5_ := Aside0.mk ((by rw [hg]; exact (below_size q35_34) : w.heap.size ≤ gb562)); have n6_ := Aside0.mk ((by rw [hg]; exact (below_size q35_34) : w.heap.size ≤ gb562)); have n7_ := Aside0.mk ((by rw [hg]; exact Nat.ne_of_lt (blk_lt (g := gb551) (o := .cells #[.int .i64 a0_0, .slice A0_1 l0_1.length c0_1] 24 (0, 0)) q35_37) : gb551 ≠ gb562)); have n8_ := Aside0.mk ((by rw [hg]; exact Nat.ne_of_gt (blk_lt (g := gb551) (o := .cells #[.int .i64 a0_0, .slice A0_1 l0_1.length c0_1] 24 (0, 0)) q35_37) : gb562 ≠ gb551)); clear HO556; clear HO560; clear BK551; clear HB; have HO556 := n0_; have HO560 := n1_; have BK551 := n2_; have HB := n3_; have BK562 := n4_; have GW562 := n5_; have GE562 := n6_; have NB551_562 := n7_; have NB562_551 := n8_; clear n0_ n1_ n2_ n3_ n4_ n5_ n6_ n7_ n8_; clear hb hbox hg; have hnb21 := NB562_551.out; have hnc21 := NB551_562.out; have hcz22_0 : w20.cell? ⟨gb562, 0, none⟩ = some (.int .i64 0) := (blk_cell BK562.out 0).trans rfl; have hcz22_1 : w20.cell? ⟨gb562, 1, none⟩ = some (.slice none 0 0) := (blk_cell BK562.out 1).trans rfl; have hfz22_0 := blk_frozen BK562.out 0; have hfz22_1 := blk_frozen BK562.out 1; obtain ⟨Ao23, co23, eo23⟩ := Kd.R_slice HO560.out; subst eo23; have hcz24_0 : w20.cell? ⟨gb551, 0, none⟩ = some (.int .i64 a0_0) := (blk_cell BK551.out 0).trans rfl; have hcz24_1 : w20.cell? ⟨gb551, 1, none⟩ = some (.slice A0_1 l0_1.length c0_1) := (blk_cell BK551.out 1).trans rfl; have hfz24_0 := blk_frozen BK551.out 0; have hfz24_1 := blk_frozen BK551.out 1) | ((with_reducible refine gate_callee (f := 17) rfl ?_); refine goesL_ (some 29) rfl rfl Try.func17 q35_53 rfl #[.agg #[.int .i64 a0_0, .slice A0_1 l0_1.length c0_1]] rfl q35_35 ?_; (with_reducible refine (laws_toContext.calls k a0_0 _ _ l0_1 t563 t564 _ ?side1 ?side2 A10.out).mono ?_); (case side1 => exact Kd.C_below HR0_1.out q35_28); (case side2 => exact HC0_1.out); rintro e w25 ⟨v565, rfl, ho0, hb⟩; refine ⟨_, rfl, ?_⟩; have n0_ := Aside0.mk (Kd.R_elder' q35_15 (Kd.R_base ho0) hb); have n1_ := Aside0.mk (Kd.R_elder' q35_16 (Kd.R_base ho0) hb); have n2_ := Aside0.mk (Kd.R_lower (Kd.R_new' (Kd.R_new' ho0 (Kd.R_lt q35_15)) (Kd.R_lt q35_16)) (below_size q35_28)); have n3_ := Aside0.mk (blk_below (g := gb551) (o := .cells #[.int .i64 a0_0, .slice A0_1 l0_1.length c0_1] 24 (0, 0)) (by (with_reducible repeat (first | refine blk_drewN ?_ _ | refine blk_drew ?_ | refine blk_alloc ?_ _)); refine blk_far ?_ NB551_562.out _; (with_reducible repeat (first | refine blk_drewN ?_ _ | refine blk_drew ?_ | refine blk_alloc ?_ _)); refine blk_far ?_ NB551_562.out _; (with_reducible repeat (first | refine blk_drewN ?_ _ | refine blk_drew ?_ | refine blk_alloc ?_ _)); exact BK551.out) hb); have n4_ := Aside0.mk (blk_below (g := gb562) (o := .cells #[.int .i64 t557, .slice Ao23 t558.length co23] 27 (0, 0)) (by (with_reducible repeat (first | refine blk_drewN ?_ _ | refine blk_drew ?_ | refine blk_alloc ?_ _)); refine blk_put (cs := #[.int .i64 t557, .slice none 0 0]) ?_ 1 _ rfl; (with_reducible repeat (first | refine blk_drewN ?_ _ | refine blk_drew ?_ | refine blk_alloc ?_ _)); refine blk_put (cs := #[.int .i64 0, .slice none 0 0]) ?_ 0 _ rfl; (with_reducible repeat (first | refine blk_drewN ?_ _ | refine blk_drew ?_ | refine blk_alloc ?_ _)); exact BK562.out) hb); have n5_ := Aside0.mk (below_step q35_28 hb); clear HO556; clear HO560; clear BK551; clear BK562; clear HB; have HO556 := n0_; have HO560 := n1_; have HO566 := n2_; have BK551 := n3_; have BK562 := n4_; have HB := n5_; clear n0_ n1_ n2_ n3_ n4_ n5_; (try clear hb); (try clear hb2); (try clear hk); (try clear hi); (try clear ho0)) | ((with_reducible refine gate_dst (N := 8) rfl ?_); refine box_event ?hg (N := 8) ?hd (cs := #[.int .i64 0, .slice none 0 0]) (t := 27) ?hr ?_; (case hd => rfl); (case hg => rfl); (case hr => first | (go_simp; done) | (go_simp; rfl)); intro gb567 hg w26 hbox hb; have n0_ := Aside0.mk (Kd.R_below q35_46 hb); have n1_ := Aside0.mk (Kd.R_below q35_47 hb); have n2_ := Aside0.mk (Kd.R_below (by (with_reducible repeat (first | apply Kd.R_alloc | apply Kd.R_drewN | apply Kd.R_drew)); exact HO566.out) hb); have n3_ := Aside0.mk (blk_below (g := gb551) (o := .cells #[.int .i64 a0_0, .slice A0_1 l0_1.length c0_1] 24 (0, 0)) q35_37 hb); have n4_ := Aside0.mk (blk_below (g := gb562) (o := .cells #[.int .i64 t557, .slice Ao23 t558.length co23] 27 (0, 0)) q35_38 hb); have n5_ := Aside0.mk (below_step q35_28 hb); have n6_ := Aside0.mk (hbox); have n7_ := Aside0.mk ((by rw [hg]; exact (below_size q35_28) : w.heap.size ≤ gb567)); have n8_ := Aside0.mk ((by rw [hg]; exact (below_size q35_28) : w.heap.size ≤ gb567)); have n9_ := Aside0.mk ((by rw [hg]; exact Nat.ne_of_lt (blk_lt (g := gb551) (o := .cells #[.int .i64 a0_0, .slice A0_1 l0_1.length c0_1] 24 (0, 0)) q35_37) : gb551 ≠ gb567)); have n10_ := Aside0.mk ((by rw [hg]; exact Nat.ne_of_gt (blk_lt (g := gb551) (o := .cells #[.int .i64 a0_0, .slice A0_1 l0_1.length c0_1] 24 (0, 0)) q35_37) : gb567 ≠ gb551)); have n11_ := Aside0.mk ((by rw [hg]; exact Nat.ne_of_lt (blk_lt (g := gb562) (o := .cells #[.int .i64 t557, .slice Ao23 t558.length co23] 27 (0, 0)) q35_38) : gb562 ≠ gb567)); have n12_ := Aside0.mk ((by rw [hg]; exact Nat.ne_of_gt (blk_lt (g := gb562) (o := .cells #[.int .i64 t557, .slice Ao23 t558.length co23] 27 (0, 0)) q35_38) : gb567 ≠ gb562)); clear HO556; clear HO560; clear HO566; clear BK551; clear BK562; clear HB; have HO556 := n0_; have HO560 := n1_; have HO566 := n2_; have BK551 := n3_; have BK562 := n4_; have HB := n5_; have BK567 := n6_; have GW567 := n7_; have GE567 := n8_; have NB551_567 := n9_; have NB567_551 := n10_; have NB562_567 := n11_; have NB567_562 := n12_; clear n0_ n1_ n2_ n3_ n4_ n5_ n6_ n7_ n8_ n9_ n10_ n11_ n12_; clear hb hbox hg; have hnb27 := NB567_551.out; have hnc27 := NB551_567.out; have hnb28 := NB567_562.out; have hnc28 := NB562_567.out; have hcz29_0 : w26.cell? ⟨gb567, 0, none⟩ = some (.int .i64 0) := (blk_cell BK567.out 0).trans rfl; have hcz29_1 : w26.cell? ⟨gb567, 1, none⟩ = some (.slice none 0 0) := (blk_cell BK567.out 1).trans rfl; have hfz29_0 := blk_frozen BK567.out 0; have hfz29_1 := blk_frozen BK567.out 1; obtain ⟨Ao30, co30, eo30⟩ := Kd.R_slice HO566.out; subst eo30) | ((with_reducible refine gate_callee (f := 40) rfl ?_); refine goesL_ (some 33) rfl rfl Try.func40 q35_53 rfl #[.agg #[.int .i64 t563, .slice Ao30 t564.length co30], .int .i64 a1] rfl q35_35 ?_; (with_reducible refine (impl_DropAttributes.calls k t563 _ _ t564 a1 t568 t569 t572 _ ?side1 ?side2 A11.out).mono ?_); (case side1 => refine (Kd.R_reads' (e := 3) (base := w.heap.size) (ok := fun k_ => ((True ∧ some k_ ≠ (.slice Ao18 t554.length co18 : Value).ownBlock) ∧ some k_ ≠ (.slice Ao23 t558.length co23 : Value).ownBlock)) (n := t564.length) (c := co30) ?_).2.2; exact q35_19); (case side2 => exact (Kd.R_reads' HO566.out).2.1); rintro e w31 ⟨v570, rfl, ho0, hb⟩; refine ⟨_, rfl, ?_⟩; have n0_ := Aside0.mk (Kd.R_elder' q35_17 (Kd.R_base ho0) hb); have n1_ := Aside0.mk (Kd.R_elder' q35_18 (Kd.R_base ho0) hb); have n2_ := Aside0.mk (Kd.R_elder' q35_19 (Kd.R_base ho0) hb); have n3_ := Aside0.mk (Kd.R_lower (Kd.R_new' (Kd.R_new' (Kd.R_new' ho0 (Kd.R_lt q35_17)) (Kd.R_lt q35_18)) (Kd.R_lt q35_19)) (below_size q35_26)); have n4_ := Aside0.mk (blk_below (g := gb551) (o := .cells #[.int .i64 a0_0, .slice A0_1 l0_1.length c0_1] 24 (0, 0)) (by (with_reducible repeat (first | refine blk_drewN ?_ _ | refine blk_drew ?_ | refine blk_alloc ?_ _)); refine blk_far ?_ NB551_567.out _; (with_reducible repeat (first | refine blk_drewN ?_ _ | refine blk_drew ?_ | refine blk_alloc ?_ _)); refine blk_far ?_ NB551_567.out _; (with_reducible repeat (first | refine blk_drewN ?_ _ | refine blk_drew ?_ | refine blk_alloc ?_ _)); exact BK551.out) hb); have n5_ := Aside0.mk (blk_below (g := gb562) (o := .cells #[.int .i64 t557, .slice Ao23 t558.length co23] 27 (0, 0)) (by (with_reducible repeat (first | refine blk_drewN ?_ _ | refine blk_drew ?_ | refine blk_alloc ?_ _)); refine blk_far ?_ NB562_567.out _; (with_reducible repeat (first | refine blk_drewN ?_ _ | refine blk_drew ?_ | refine blk_alloc ?_ _)); refine blk_far ?_ NB562_567.out _; (with_reducible repeat (first | refine blk_drewN ?_ _ | refine blk_drew ?_ | refine blk_alloc ?_ _)); exact BK562.out) hb); have n6_ := Aside0.mk (blk_below (g := gb567) (o := .cells #[.int .i64 t563, .slice Ao30 t564.length co30] 27 (0, 0)) (by (with_reducible repeat (first | refine blk_drewN ?_ _ | refine blk_drew ?_ | refine blk_alloc ?_ _)); refine blk_put (cs := #[.int .i64 t563, .slice none 0 0]) ?_ 1 _ rfl; (with_reducible repeat (first | refine blk_drewN ?_ _ | refine blk_drew ?_ | refine blk_alloc ?_ _)); refine blk_put (cs := #[.int .i64 0, .slice none 0 0]) ?_ 0 _ rfl; (with_reducible repeat (first | refine blk_drewN ?_ _ | refine blk_drew ?_ | refine blk_alloc ?_ _)); exact BK567.out) hb); have n7_ := Aside0.mk (below_step q35_26 hb); clear HO556; clear HO560; clear HO566; clear BK551; clear BK562; clear BK567; clear HB; have HO556 := n0_; have HO560 := n1_; have HO566 := n2_; have HO571 := n3_; have BK551 := n4_; have BK562 := n5_; have BK567 := n6_; have HB := n7_; clear n0_ n1_ n2_ n3_ n4_ n5_ n6_ n7_; (try clear hb); (try clear hb2); (try clear hk); (try clear hi); (try clear ho0)) | ((with_reducible refine gate_dst (N := 9) rfl ?_); refine box_event ?hg (N := 9) ?hd (cs := #[.int .i64 0, .slice none 0 0]) (t := 27) ?hr ?_; (case hd => rfl); (case hg => rfl); (case hr => first | (go_simp; done) | (go_simp; rfl)); intro gb573 hg w32 hbox hb; have n0_ := Aside0.mk (Kd.R_below q35_46 hb); have n1_ := Aside0.mk (Kd.R_below q35_47 hb); have n2_ := Aside0.mk (Kd.R_below (by (with_reducible repeat (first | apply Kd.R_alloc | apply Kd.R_drewN | apply Kd.R_drew)); exact HO566.out) hb); have n3_ := Aside0.mk (Kd.R_below (by (with_reducible repeat (first | apply Kd.R_alloc | apply Kd.R_drewN | apply Kd.R_drew)); exact HO571.out) hb); have n4_ := Aside0.mk (blk_below (g := gb551) (o := .cells #[.int .i64 a0_0, .slice A0_1 l0_1.length c0_1] 24 (0, 0)) q35_37 hb); have n5_ := Aside0.mk (blk_below (g := gb562) (o := .cells #[.int .i64 t557, .slice Ao23 t558.length co23] 27 (0, 0)) q35_38 hb); have n6_ := Aside0.mk (blk_below (g := gb567) (o := .cells #[.int .i64 t563, .slice Ao30 t564.length co30] 27 (0, 0)) q35_39 hb); have n7_ := Aside0.mk (below_step q35_26 hb); have n8_ := Aside0.mk (hbox); have n9_ := Aside0.mk ((by rw [hg]; exact (below_size q35_26) : w.heap.size ≤ gb573)); have n10_ := Aside0.mk ((by rw [hg]; exact (below_size q35_26) : w.heap.size ≤ gb573)); have n11_ := Aside0.mk ((by rw [hg]; exact Nat.ne_of_lt (blk_lt (g := gb551) (o := .cells #[.int .i64 a0_0, .slice A0_1 l0_1.length c0_1] 24 (0, 0)) q35_37) : gb551 ≠ gb573)); have n12_ := Aside0.mk ((by rw [hg]; exact Nat.ne_of_gt (blk_lt (g := gb551) (o := .cells #[.int .i64 a0_0, .slice A0_1 l0_1.length c0_1] 24 (0, 0)) q35_37) : gb573 ≠ gb551)); have n13_ := Aside0.mk ((by rw [hg]; exact Nat.ne_of_lt (blk_lt (g := gb562) (o := .cells #[.int .i64 t557, .slice Ao23 t558.length co23] 27 (0, 0)) q35_38) : gb562 ≠ gb573)); have n14_ := Aside0.mk ((by rw [hg]; exact Nat.ne_of_gt (blk_lt (g := gb562) (o := .cells #[.int .i64 t557, .slice Ao23 t558.length co23] 27 (0, 0)) q35_38) : gb573 ≠ gb562)); have n15_ := Aside0.mk ((by rw [hg]; exact Nat.ne_of_lt (blk_lt (g := gb567) (o := .cells #[.int .i64 t563, .slice Ao30 t564.length co30] 27 (0, 0)) q35_39) : gb567 ≠ gb573)); have n16_ := Aside0.mk ((by rw [hg]; exact Nat.ne_of_gt (blk_lt (g := gb567) (o := .cells #[.int .i64 t563, .slice Ao30 t564.length co30] 27 (0, 0)) q35_39) : gb573 ≠ gb567)); clear HO556; clear HO560; clear HO566; clear HO571; clear BK551; clear BK562; clear BK567; clear HB; have HO556 := n0_; have HO560 := n1_; have HO566 := n2_; have HO571 := n3_; have BK551 := n4_; have BK562 := n5_; have BK567 := n6_; have HB := n7_; have BK573 := n8_; have GW573 := n9_; have GE573 := n10_; have NB551_573 := n11_; have NB573_551 := n12_; have NB562_573 := n13_; have NB573_562 := n14_; have NB567_573 := n15_; have NB573_567 := n16_; clear n0_ n1_ n2_ n3_ n4_ n5_ n6_ n7_ n8_ n9_ n10_ n11_ n12_ n13_ n14_ n15_ n16_; clear hb hbox hg; have hnb33 := NB573_551.out; have hnc33 := NB551_573.out; have hnb34 := NB573_562.out; have hnc34 := NB562_573.out; have hnb35 := NB573_567.out; have hnc35 := NB567_573.out; have hcz36_0 : w32.cell? ⟨gb573, 0, none⟩ = some (.int .i64 0) := (blk_cell BK573.out 0).trans rfl; have hcz36_1 : w32.cell? ⟨gb573, 1, none⟩ = some (.slice none 0 0) := (blk_cell BK573.out 1).trans rfl; have hfz36_0 := blk_frozen BK573.out 0; have hfz36_1 := blk_frozen BK573.out 1; obtain ⟨Ao37, co37, eo37⟩ := Kd.R_slice HO571.out; subst eo37))
  (try simp only [Act.put, List.setIfInBounds_toArray, List.set_cons_zero, List.set_cons_succ])
  go_cut [44] (fun v44 wc => ∃ (kq : Nat) (x44_11 : Bool), v44 = .bool x44_11 ∧ Aside0 (laws_FnExactDropAttributes.j0 kq a1 t561 t572 x44_11 a0_0 l0_1 t557 t558 t563 t564 t568 t569 = some r) ∧ Aside0 (kq ≤ k) ∧ Aside0 (Kd.R (Kd.int .i64) 3 wc w.heap.size (fun k_ => some k_ ≠ ((.slice Ao30 t564.length co30) : Value).ownBlock ∧ some k_ ≠ ((.slice Ao37 t569.length co37) : Value).ownBlock) (.slice Ao23 t558.length co23) t558) ∧ Aside0 (Kd.R (Kd.int .i64) 3 wc w.heap.size (fun k_ => some k_ ≠ ((.slice Ao23 t558.length co23) : Value).ownBlock ∧ some k_ ≠ ((.slice Ao37 t569.length co37) : Value).ownBlock) (.slice Ao30 t564.length co30) t564) ∧ Aside0 (Kd.R (Kd.int .i64) 3 wc w.heap.size (fun k_ => some k_ ≠ ((.slice Ao23 t558.length co23) : Value).ownBlock ∧ some k_ ≠ ((.slice Ao30 t564.length co30) : Value).ownBlock) (.slice Ao37 t569.length co37) t569) ∧ Aside0 (wc.heap[gb551]? = some (.cells #[.int .i64 a0_0, (.slice A0_1 l0_1.length c0_1)] 24 (0, 0))) ∧ Aside0 (wc.heap[gb562]? = some (.cells #[.int .i64 t557, (.slice Ao23 t558.length co23)] 27 (0, 0))) ∧ Aside0 (wc.heap[gb567]? = some (.cells #[.int .i64 t563, (.slice Ao30 t564.length co30)] 27 (0, 0))) ∧ Aside0 (wc.heap[gb573]? = some (.cells #[.int .i64 t568, (.slice Ao37 t569.length co37)] 27 (0, 0))) ∧ Aside0 (Below w.heap.size w wc))
  case first =>
   have H := HC12.out
   clear HC12
   replace H := Option.bind_eq_some_iff.mp H
   obtain ⟨t574, A380, H⟩ := H
   replace H : (if t574 = true then (laws_FnExactDropAttributes.j0 k a1 t561 t572 (t572 != t561) a0_0 l0_1 t557 t558 t563 t564 t568 t569) else (laws_FnExactDropAttributes.j0 k a1 t561 t572 true a0_0 l0_1 t557 t558 t563 t564 t568 t569)) = some r := H
   have A38 := Aside0.mk A380
   clear A380
   by_cases c39 : t574 = true
   ·
    subst c39
    have H1 : (laws_FnExactDropAttributes.j0 k a1 t561 t572 (t572 != t561) a0_0 l0_1 t557 t558 t563 t564 t568 t569) = some r := q35_52
    clear H
    have H := H1
    clear H1
    have H' := Aside0.mk H
    clear H
    have hnb40 := NB573_551.out
    have hnc40 := NB551_573.out
    have hnb41 := NB573_562.out
    have hnc41 := NB562_573.out
    have hnb42 := NB573_567.out
    have hnc42 := NB567_573.out
    have hcz43_0 : w32.cell? ⟨gb573, 0, none⟩ = some (.int .i64 0) := (blk_cell BK573.out 0).trans rfl
    have hcz43_1 : w32.cell? ⟨gb573, 1, none⟩ = some (.slice none 0 0) := (blk_cell BK573.out 1).trans rfl
    have hfz43_0 := blk_frozen BK573.out 0
    have hfz43_1 := blk_frozen BK573.out 1
    have hnb44 := NB562_551.out
    have hnc44 := NB551_562.out
    have hnb45 := NB562_567.out
    have hnc45 := NB567_562.out
    have hcz46_0 : w32.cell? ⟨gb562, 0, none⟩ = some (.int .i64 t557) := (blk_cell BK562.out 0).trans rfl
    have hcz46_1 : w32.cell? ⟨gb562, 1, none⟩ = some (.slice Ao23 t558.length co23) := (blk_cell BK562.out 1).trans rfl
    have hfz46_0 := blk_frozen BK562.out 0
    have hfz46_1 := blk_frozen BK562.out 1
    go_wp2_with (first | ((with_reducible refine gate_callee (f := 19) rfl ?_); refine goesL_ (some 38) rfl rfl Try.func19 q35_53 rfl #[.agg #[.int .i64 t568, .slice Ao37 t569.length co37], .agg #[.int .i64 t557, .slice Ao23 t558.length co23]] rfl q35_35 ?_; (with_reducible refine (laws_eqContext.calls k t568 _ _ t569 t557 _ _ t558 true _ ?side1 ?side2 ?side3 ?side4 A38.out).mono ?_); (case side1 => refine (Kd.R_reads' (e := 3) (base := w.heap.size) (ok := fun k_ => (((True ∧ some k_ ≠ (.slice Ao18 t554.length co18 : Value).ownBlock) ∧ some k_ ≠ (.slice Ao23 t558.length co23 : Value).ownBlock) ∧ some k_ ≠ (.slice Ao30 t564.length co30 : Value).ownBlock)) (n := t569.length) (c := co37) ?_).2.2; exact q35_23); (case side2 => exact (Kd.R_reads' HO571.out).2.1); (case side3 => refine (Kd.R_reads' (e := 3) (base := w.heap.size) (ok := fun k_ => (((True ∧ some k_ ≠ (.slice Ao18 t554.length co18 : Value).ownBlock) ∧ some k_ ≠ (.slice Ao30 t564.length co30 : Value).ownBlock) ∧ some k_ ≠ (.slice Ao37 t569.length co37 : Value).ownBlock)) (n := t558.length) (c := co23) ?_).2.2; exact q35_21); (case side4 => exact (Kd.R_reads' HO560.out).2.1); rintro e w47 ⟨rfl, hb⟩; refine ⟨_, rfl, ?_⟩; have n0_ := Aside0.mk (Kd.R_below q35_20 hb); have n1_ := Aside0.mk (Kd.R_below q35_21 hb); have n2_ := Aside0.mk (Kd.R_below q35_22 hb); have n3_ := Aside0.mk (Kd.R_below q35_23 hb); have n4_ := Aside0.mk (blk_below (g := gb551) (o := .cells #[.int .i64 a0_0, .slice A0_1 l0_1.length c0_1] 24 (0, 0)) q35_3 hb); have n5_ := Aside0.mk (blk_below (g := gb562) (o := .cells #[.int .i64 t557, .slice Ao23 t558.length co23] 27 (0, 0)) q35_5 hb); have n6_ := Aside0.mk (blk_below (g := gb567) (o := .cells #[.int .i64 t563, .slice Ao30 t564.length co30] 27 (0, 0)) q35_7 hb); have n7_ := Aside0.mk (blk_below (g := gb573) (o := .cells #[.int .i64 t568, .slice Ao37 t569.length co37] 27 (0, 0)) q35_1 hb); have n8_ := Aside0.mk (below_step q35_25 hb); clear HO556; clear HO560; clear HO566; clear HO571; clear BK551; clear BK562; clear BK567; clear BK573; clear HB; have HO556 := n0_; have HO560 := n1_; have HO566 := n2_; have HO571 := n3_; have BK551 := n4_; have BK562 := n5_; have BK567 := n6_; have BK573 := n7_; have HB := n8_; clear n0_ n1_ n2_ n3_ n4_ n5_ n6_ n7_ n8_; (try clear hb); (try clear hb2); (try clear hk); (try clear hi)))
    go_meet
    case rel => exact ⟨_, ((t572 != t561)), q35_50, H', ⟨by first | omega | exact Nat.le_refl _⟩, ⟨by (with_reducible repeat (first | apply Kd.R_alloc | apply Kd.R_drewN | apply Kd.R_drew)); exact Kd.R_mono HO560.out (fun _ hk => ⟨hk.1.2, hk.2⟩)⟩, ⟨by (with_reducible repeat (first | apply Kd.R_alloc | apply Kd.R_drewN | apply Kd.R_drew)); exact Kd.R_mono HO566.out (fun _ hk => ⟨hk.1.2, hk.2⟩)⟩, ⟨by (with_reducible repeat (first | apply Kd.R_alloc | apply Kd.R_drewN | apply Kd.R_drew)); exact Kd.R_mono HO571.out (fun _ hk => ⟨hk.1.2, hk.2⟩)⟩, ⟨by (with_reducible repeat (first | refine blk_drewN ?_ _ | refine blk_drew ?_ | refine blk_alloc ?_ _)); exact BK551.out⟩, ⟨by (with_reducible repeat (first | refine blk_drewN ?_ _ | refine blk_drew ?_ | refine blk_alloc ?_ _)); exact BK562.out⟩, ⟨by (with_reducible repeat (first | refine blk_drewN ?_ _ | refine blk_drew ?_ | refine blk_alloc ?_ _)); exact BK567.out⟩, ⟨by (with_reducible repeat (first | refine blk_drewN ?_ _ | refine blk_drew ?_ | refine blk_alloc ?_ _)); exact BK573.out⟩, ⟨by repeat (first | (with_reducible first | exact HB.out | apply below_alloc | apply pw_below_drewN | apply below_drew1 | refine below_set ?_ GE551.out | refine below_set ?_ GE562.out | refine below_set ?_ GE567.out | refine below_set ?_ GE573.out) | exact HB.out)⟩⟩
   ·
    replace c39 := Bool.eq_false_iff.mpr c39
    subst c39
    have H1 : (laws_FnExactDropAttributes.j0 k a1 t561 t572 true a0_0 l0_1 t557 t558 t563 t564 t568 t569) = some r := q35_51
    clear H
    have H := H1
    clear H1
    have H' := Aside0.mk H
    clear H
    have hnb48 := NB573_551.out
    have hnc48 := NB551_573.out
    have hnb49 := NB573_562.out
    have hnc49 := NB562_573.out
    have hnb50 := NB573_567.out
    have hnc50 := NB567_573.out
    have hcz51_0 : w32.cell? ⟨gb573, 0, none⟩ = some (.int .i64 0) := (blk_cell BK573.out 0).trans rfl
    have hcz51_1 : w32.cell? ⟨gb573, 1, none⟩ = some (.slice none 0 0) := (blk_cell BK573.out 1).trans rfl
    have hfz51_0 := blk_frozen BK573.out 0
    have hfz51_1 := blk_frozen BK573.out 1
    have hnb52 := NB562_551.out
    have hnc52 := NB551_562.out
    have hnb53 := NB562_567.out
    have hnc53 := NB567_562.out
    have hcz54_0 : w32.cell? ⟨gb562, 0, none⟩ = some (.int .i64 t557) := (blk_cell BK562.out 0).trans rfl
    have hcz54_1 : w32.cell? ⟨gb562, 1, none⟩ = some (.slice Ao23 t558.length co23) := (blk_cell BK562.out 1).trans rfl
    have hfz54_0 := blk_frozen BK562.out 0
    have hfz54_1 := blk_frozen BK562.out 1
    go_wp2_with (first | ((with_reducible refine gate_callee (f := 19) rfl ?_); refine goesL_ (some 38) rfl rfl Try.func19 q35_53 rfl #[.agg #[.int .i64 t568, .slice Ao37 t569.length co37], .agg #[.int .i64 t557, .slice Ao23 t558.length co23]] rfl q35_35 ?_; (with_reducible refine (laws_eqContext.calls k t568 _ _ t569 t557 _ _ t558 false _ ?side1 ?side2 ?side3 ?side4 A38.out).mono ?_); (case side1 => refine (Kd.R_reads' (e := 3) (base := w.heap.size) (ok := fun k_ => (((True ∧ some k_ ≠ (.slice Ao18 t554.length co18 : Value).ownBlock) ∧ some k_ ≠ (.slice Ao23 t558.length co23 : Value).ownBlock) ∧ some k_ ≠ (.slice Ao30 t564.length co30 : Value).ownBlock)) (n := t569.length) (c := co37) ?_).2.2; exact q35_23); (case side2 => exact (Kd.R_reads' HO571.out).2.1); (case side3 => refine (Kd.R_reads' (e := 3) (base := w.heap.size) (ok := fun k_ => (((True ∧ some k_ ≠ (.slice Ao18 t554.length co18 : Value).ownBlock) ∧ some k_ ≠ (.slice Ao30 t564.length co30 : Value).ownBlock) ∧ some k_ ≠ (.slice Ao37 t569.length co37 : Value).ownBlock)) (n := t558.length) (c := co23) ?_).2.2; exact q35_21); (case side4 => exact (Kd.R_reads' HO560.out).2.1); rintro e w55 ⟨rfl, hb⟩; refine ⟨_, rfl, ?_⟩; have n0_ := Aside0.mk (Kd.R_below q35_20 hb); have n1_ := Aside0.mk (Kd.R_below q35_21 hb); have n2_ := Aside0.mk (Kd.R_below q35_22 hb); have n3_ := Aside0.mk (Kd.R_below q35_23 hb); have n4_ := Aside0.mk (blk_below (g := gb551) (o := .cells #[.int .i64 a0_0, .slice A0_1 l0_1.length c0_1] 24 (0, 0)) q35_3 hb); have n5_ := Aside0.mk (blk_below (g := gb562) (o := .cells #[.int .i64 t557, .slice Ao23 t558.length co23] 27 (0, 0)) q35_5 hb); have n6_ := Aside0.mk (blk_below (g := gb567) (o := .cells #[.int .i64 t563, .slice Ao30 t564.length co30] 27 (0, 0)) q35_7 hb); have n7_ := Aside0.mk (blk_below (g := gb573) (o := .cells #[.int .i64 t568, .slice Ao37 t569.length co37] 27 (0, 0)) q35_1 hb); have n8_ := Aside0.mk (below_step q35_25 hb); clear HO556; clear HO560; clear HO566; clear HO571; clear BK551; clear BK562; clear BK567; clear BK573; clear HB; have HO556 := n0_; have HO560 := n1_; have HO566 := n2_; have HO571 := n3_; have BK551 := n4_; have BK562 := n5_; have BK567 := n6_; have BK573 := n7_; have HB := n8_; clear n0_ n1_ n2_ n3_ n4_ n5_ n6_ n7_ n8_; (try clear hb); (try clear hb2); (try clear hk); (try clear hi)))
    go_meet
    case rel => exact ⟨_, (true), q35_50, H', ⟨by first | omega | exact Nat.le_refl _⟩, ⟨by (with_reducible repeat (first | apply Kd.R_alloc | apply Kd.R_drewN | apply Kd.R_drew)); exact Kd.R_mono HO560.out (fun _ hk => ⟨hk.1.2, hk.2⟩)⟩, ⟨by (with_reducible repeat (first | apply Kd.R_alloc | apply Kd.R_drewN | apply Kd.R_drew)); exact Kd.R_mono HO566.out (fun _ hk => ⟨hk.1.2, hk.2⟩)⟩, ⟨by (with_reducible repeat (first | apply Kd.R_alloc | apply Kd.R_drewN | apply Kd.R_drew)); exact Kd.R_mono HO571.out (fun _ hk => ⟨hk.1.2, hk.2⟩)⟩, ⟨by (with_reducible repeat (first | refine blk_drewN ?_ _ | refine blk_drew ?_ | refine blk_alloc ?_ _)); exact BK551.out⟩, ⟨by (with_reducible repeat (first | refine blk_drewN ?_ _ | refine blk_drew ?_ | refine blk_alloc ?_ _)); exact BK562.out⟩, ⟨by (with_reducible repeat (first | refine blk_drewN ?_ _ | refine blk_drew ?_ | refine blk_alloc ?_ _)); exact BK567.out⟩, ⟨by (with_reducible repeat (first | refine blk_drewN ?_ _ | refine blk_drew ?_ | refine blk_alloc ?_ _)); exact BK573.out⟩, ⟨by repeat (first | (with_reducible first | exact HB.out | apply below_alloc | apply pw_below_drewN | apply below_drew1 | refine below_set ?_ GE551.out | refine below_set ?_ GE562.out | refine below_set ?_ GE567.out | refine below_set ?_ GE573.out) | exact HB.out)⟩⟩
  case rest =>
   clear HC12
   try clear c1
   try clear c2
   try clear p2
   try clear c3
   try clear c4
   try clear c4b0
   try clear c5
   try clear c12
   try clear c15
   try clear c17
   try clear c19
   try clear c21
   try clear c27
   try clear c28
   try clear c33
   try clear c34
   try clear c35
   try clear c39
   try clear c40
   try clear c41
   try clear c42
   try clear c44
   try clear c45
   try clear c48
   try clear c49
   try clear c50
   try clear c52
   try clear c53
   try clear hcz14_0
   try clear hcz14_1
   try clear hcz16_0
   try clear hcz16_1
   try clear hcz22_0
   try clear hcz22_1
   try clear hcz24_0
   try clear hcz24_1
   try clear hcz29_0
   try clear hcz29_1
   try clear hcz36_0
   try clear hcz36_1
   try clear hcz43_0
   try clear hcz43_1
   try clear hcz46_0
   try clear hcz46_1
   try clear hcz51_0
   try clear hcz51_1
   try clear hcz54_0
   try clear hcz54_1
   try clear hcz6_0
   try clear hcz6_1
   try clear hfz14_0
   try clear hfz14_1
   try clear hfz16_0
   try clear hfz16_1
   try clear hfz22_0
   try clear hfz22_1
   try clear hfz24_0
   try clear hfz24_1
   try clear hfz29_0
   try clear hfz29_1
   try clear hfz36_0
   try clear hfz36_1
   try clear hfz43_0
   try clear hfz43_1
   try clear hfz46_0
   try clear hfz46_1
   try clear hfz51_0
   try clear hfz51_1
   try clear hfz54_0
   try clear hfz54_1
   try clear hfz6_0
   try clear hfz6_1
   obtain ⟨kq, x44_11, rfl, HA, HJ11, HO_563001, HO_568001, HO_574001, BK551, BK562, BK567, BK573, HB⟩ := hcut
   cases kq with
   | zero => exact absurd HA.out (by simp [laws_FnExactDropAttributes.j0])
   | succ kj11 =>
    have H := HA.out
    clear HA
    simp only [laws_FnExactDropAttributes.j0] at H
    by_cases c56 : x44_11 = true
    ·
     subst c56
     have H1 : (some false) = some r := q35_52
     clear H
     have H := H1
     clear H1
     obtain rfl := Option.some.inj H
     go_wp2
     go_ret
     exact ⟨by first | rfl | (simp [errW_none, errW_some] <;> rfl) | (simp [*, errW_none, errW_some] <;> rfl), by repeat (first | (with_reducible first | exact HB.out | apply below_alloc | apply pw_below_drewN | apply below_drew1 | refine below_set ?_ GE551.out | refine below_set ?_ GE562.out | refine below_set ?_ GE567.out | refine below_set ?_ GE573.out) | exact HB.out)⟩
    ·
     replace c56 := Bool.eq_false_iff.mpr c56
     subst c56
     have H1 : ((laws_toContext.f kj11 a0_0 l0_1).bind fun bt575 => ((laws_eqContext.f kj11 t563 t564 bt575.1 bt575.2).bind fun t579 => (if t579 = true then ((laws_markContext.f kj11 t563 t564 1).bind fun bt580 => (if bt580.1 < 0 then (laws_FnExactDropAttributes.j1 kj11 a1 t561 true a0_0 l0_1 t557 t558 t568 t569) else ((laws_eqContext.f kj11 t568 t569 t557 t558).bind fun t582 => (if t582 = true then (laws_FnExactDropAttributes.j1 kj11 a1 t561 (t572 != t561) a0_0 l0_1 t557 t558 t568 t569) else (laws_FnExactDropAttributes.j1 kj11 a1 t561 true a0_0 l0_1 t557 t558 t568 t569))))) else (some false)))) = some r := q35_51
     clear H
     have H := H1
     clear H1
     replace H := Option.bind_eq_some_iff.mp H
     obtain ⟨⟨t575, t576⟩, A570, H⟩ := H
     replace H : ((laws_eqContext.f kj11 t563 t564 t575 t576).bind fun t579 => (if t579 = true then ((laws_markContext.f kj11 t563 t564 1).bind fun bt580 => (if bt580.1 < 0 then (laws_FnExactDropAttributes.j1 kj11 a1 t561 true a0_0 l0_1 t557 t558 t568 t569) else ((laws_eqContext.f kj11 t568 t569 t557 t558).bind fun t582 => (if t582 = true then (laws_FnExactDropAttributes.j1 kj11 a1 t561 (t572 != t561) a0_0 l0_1 t557 t558 t568 t569) else (laws_FnExactDropAttributes.j1 kj11 a1 t561 true a0_0 l0_1 t557 t558 t568 t569))))) else (some false))) = some r := H
     have A57 := Aside0.mk A570
     clear A570
     replace H := Option.bind_eq_some_iff.mp H
     obtain ⟨t579, A580, H⟩ := H
     replace H : (if t579 = true then ((laws_markContext.f kj11 t563 t564 1).bind fun bt580 => (if bt580.1 < 0 then (laws_FnExactDropAttributes.j1 kj11 a1 t561 true a0_0 l0_1 t557 t558 t568 t569) else ((laws_eqContext.f kj11 t568 t569 t557 t558).bind fun t582 => (if t582 = true then (laws_FnExactDropAttributes.j1 kj11 a1 t561 (t572 != t561) a0_0 l0_1 t557 t558 t568 t569) else (laws_FnExactDropAttributes.j1 kj11 a1 t561 true a0_0 l0_1 t557 t558 t568 t569))))) else (some false)) = some r := H
     have A58 := Aside0.mk A580
     clear A580
     by_cases c59 : t579 = true
     ·
      subst c59
      have H1 : ((laws_markContext.f kj11 t563 t564 1).bind fun bt580 => (if bt580.1 < 0 then (laws_FnExactDropAttributes.j1 kj11 a1 t561 true a0_0 l0_1 t557 t558 t568 t569) else ((laws_eqContext.f kj11 t568 t569 t557 t558).bind fun t582 => (if t582 = true then (laws_FnExactDropAttributes.j1 kj11 a1 t561 (t572 != t561) a0_0 l0_1 t557 t558 t568 t569) else (laws_FnExactDropAttributes.j1 kj11 a1 t561 true a0_0 l0_1 t557 t558 t568 t569))))) = some r := q35_52
      clear H
      have H := H1
      clear H1
      replace H := Option.bind_eq_some_iff.mp H
      obtain ⟨⟨t580, t581⟩, A600, H⟩ := H
      replace H : (if t580 < 0 then (laws_FnExactDropAttributes.j1 kj11 a1 t561 true a0_0 l0_1 t557 t558 t568 t569) else ((laws_eqContext.f kj11 t568 t569 t557 t558).bind fun t582 => (if t582 = true then (laws_FnExactDropAttributes.j1 kj11 a1 t561 (t572 != t561) a0_0 l0_1 t557 t558 t568 t569) else (laws_FnExactDropAttributes.j1 kj11 a1 t561 true a0_0 l0_1 t557 t558 t568 t569)))) = some r := H
      have A60 := Aside0.mk A600
      clear A600
      have HC61 := Aside0.mk H
      clear H
      try go_wp2
      have n0_ := Aside0.mk (Kd.R_drew HO_563001.out)
      have n1_ := Aside0.mk (Kd.R_drew HO_568001.out)
      have n2_ := Aside0.mk (Kd.R_drew HO_574001.out)
      have n3_ := Aside0.mk (blk_drew BK551.out)
      have n4_ := Aside0.mk (blk_drew BK562.out)
      have n5_ := Aside0.mk (blk_drew BK567.out)
      have n6_ := Aside0.mk (blk_drew BK573.out)
      have n7_ := Aside0.mk (below_drew1 HB.out)
      clear HO_563001
      clear HO_568001
      clear HO_574001
      clear BK551
      clear BK562
      clear BK567
      clear BK573
      clear HB
      have HO_563001 := n0_
      have HO_568001 := n1_
      have HO_574001 := n2_
      have BK551 := n3_
      have BK562 := n4_
      have BK567 := n5_
      have BK573 := n6_
      have HB := n7_
      clear n0_ n1_ n2_ n3_ n4_ n5_ n6_ n7_
      refine start_ (n := 5) (S := fun w' => w'.cell? ⟨gb567, 0, none⟩ = some (.int .i64 t563) ∧ w'.cell? ⟨gb567, 1, none⟩ = some (.slice Ao30 t564.length co30) ∧ w'.cell? ⟨gb551, 0, none⟩ = some (.int .i64 a0_0) ∧ w'.cell? ⟨gb551, 1, none⟩ = some (.slice A0_1 l0_1.length c0_1)) (ds := []) #[false, false, false, false, false] q35_53 rfl rfl ⟨(blk_cell BK567.out 0).trans rfl, (blk_cell BK567.out 1).trans rfl, (blk_cell BK551.out 0).trans rfl, (blk_cell BK551.out 1).trans rfl⟩ (fun hHeld => ?_)
      generalize wc.drew = w62 at HO_563001 HO_568001 HO_574001 BK551 BK562 BK567 BK573 HB hHeld ⊢
      refine take_ (i := 0) (N := some 45) (v := ?_) (a' := ?_) #[true, false, false, false, false] rfl rfl q35_53 (fun _ _ _ h => h) (Or.inl ⟨by rfl, ?_⟩) hHeld ?_ ?_
      rotate_left
      ·
       rintro w' ⟨s0, s1, s2, s3⟩
       go_simp
       with_reducible rfl
      rotate_left
      ·
       exact put35_
      refine take_ (i := 1) (N := some 46) (v := ?_) (a' := ?_) #[true, true, false, false, false] rfl rfl q35_53 (fun _ _ _ h => h) (Or.inl ⟨by rfl, ?_⟩) hHeld ?_ ?_
      rotate_left
      ·
       rintro w' ⟨s0, s1, s2, s3⟩
       go_simp
       with_reducible rfl
      rotate_left
      ·
       exact put35_
      refine one_ (i := 2) (N := some 47) #[true, true, true, false, false] rfl rfl q35_53 (by decide) (fun K hK => ?_)
      refine goes_ Try.func17 q35_53 rfl #[.agg #[.int .i64 a0_0, .slice A0_1 l0_1.length c0_1]] (by rfl) rfl rfl q35_35 ?_
      with_reducible refine (laws_toContext.calls kj11 a0_0 _ _ l0_1 t575 t576 _ ?side1 ?side2 A57.out).mono ?_
      (case side1 => exact q35_32)
      (case side2 => exact HC0_1.out)
      rintro e w63 ⟨v577, rfl, ho0, hb⟩
      refine ⟨_, rfl, ?_⟩
      have n0_ := Aside0.mk (Kd.R_elder' q35_42 (Kd.R_base ho0) hb)
      have n1_ := Aside0.mk (Kd.R_elder' q35_43 (Kd.R_base ho0) hb)
      have n2_ := Aside0.mk (Kd.R_elder' q35_44 (Kd.R_base ho0) hb)
      have n3_ := Aside0.mk (Kd.R_lower (Kd.R_new' (Kd.R_new' (Kd.R_new' ho0 (Kd.R_lt q35_42)) (Kd.R_lt q35_43)) (Kd.R_lt q35_44)) (below_size q35_25))
      have n4_ := Aside0.mk (blk_below (g := gb551) (o := .cells #[.int .i64 a0_0, .slice A0_1 l0_1.length c0_1] 24 (0, 0)) q35_37 hb)
      have n5_ := Aside0.mk (blk_below (g := gb562) (o := .cells #[.int .i64 t557, .slice Ao23 t558.length co23] 27 (0, 0)) q35_38 hb)
      have n6_ := Aside0.mk (blk_below (g := gb567) (o := .cells #[.int .i64 t563, .slice Ao30 t564.length co30] 27 (0, 0)) q35_39 hb)
      have n7_ := Aside0.mk (blk_below (g := gb573) (o := .cells #[.int .i64 t568, .slice Ao37 t569.length co37] 27 (0, 0)) q35_40 hb)
      have n8_ := Aside0.mk (below_step q35_25 hb)
      clear HO_563001
      clear HO_568001
      clear HO_574001
      clear BK551
      clear BK562
      clear BK567
      clear BK573
      clear HB
      have HO_563001 := n0_
      have HO_568001 := n1_
      have HO_574001 := n2_
      have HO578 := n3_
      have BK551 := n4_
      have BK562 := n5_
      have BK567 := n6_
      have BK573 := n7_
      have HB := n8_
      clear n0_ n1_ n2_ n3_ n4_ n5_ n6_ n7_ n8_
      (try clear hb)
      (try clear hb2)
      (try clear hk)
      (try clear hi)
      (try clear ho0)
      obtain ⟨Ao64, co64, eo64⟩ := Kd.R_slice HO578.out
      (first | subst eo64 | (injection eo64 with f1_ f2_ f3_; have f4_ := f1_.symm; have f5_ := f3_.symm; clear f1_ f2_ f3_; subst f4_; subst f5_))
      refine hK.out _ _ ⟨(blk_cell BK567.out 0).trans rfl, (blk_cell BK567.out 1).trans rfl, (blk_cell BK551.out 0).trans rfl, (blk_cell BK551.out 1).trans rfl⟩ (fun hHeld => ?_)
      clear hK K
      refine norm_ (a' := ?_) ?_ ?_
      rotate_left
      ·
       show Act.put _ (some 47) _ = _
       exact put35_
      refine one_ (i := 3) (N := some 48) #[true, true, true, true, false] rfl rfl q35_53 (by decide) (fun K hK => ?_)
      refine goes_ Try.func19 q35_53 rfl #[.agg #[.int .i64 t563, .slice Ao30 t564.length co30], .agg #[.int .i64 t575, .slice Ao64 t576.length co64]] (by rfl) rfl rfl q35_35 ?_
      with_reducible refine (laws_eqContext.calls kj11 t563 _ _ t564 t575 _ _ t576 true _ ?side1 ?side2 ?side3 ?side4 A58.out).mono ?_
      (case side1 => exact q35_30)
      (case side2 => exact (Kd.R_reads' HO_568001.out).2.1)
      (case side3 => exact q35_33)
      (case side4 => exact (Kd.R_reads' HO578.out).2.1)
      rintro e w65 ⟨rfl, hb⟩
      refine ⟨_, rfl, ?_⟩
      have n0_ := Aside0.mk (Kd.R_below q35_42 hb)
      have n1_ := Aside0.mk (Kd.R_below q35_43 hb)
      have n2_ := Aside0.mk (Kd.R_below q35_44 hb)
      have n3_ := Aside0.mk (Kd.R_below q35_48 hb)
      have n4_ := Aside0.mk (blk_below (g := gb551) (o := .cells #[.int .i64 a0_0, .slice A0_1 l0_1.length c0_1] 24 (0, 0)) q35_37 hb)
      have n5_ := Aside0.mk (blk_below (g := gb562) (o := .cells #[.int .i64 t557, .slice Ao23 t558.length co23] 27 (0, 0)) q35_38 hb)
      have n6_ := Aside0.mk (blk_below (g := gb567) (o := .cells #[.int .i64 t563, .slice Ao30 t564.length co30] 27 (0, 0)) q35_39 hb)
      have n7_ := Aside0.mk (blk_below (g := gb573) (o := .cells #[.int .i64 t568, .slice Ao37 t569.length co37] 27 (0, 0)) q35_40 hb)
      have n8_ := Aside0.mk (below_step q35_25 hb)
      clear HO_563001
      clear HO_568001
      clear HO_574001
      clear HO578
      clear BK551
      clear BK562
      clear BK567
      clear BK573
      clear HB
      have HO_563001 := n0_
      have HO_568001 := n1_
      have HO_574001 := n2_
      have HO578 := n3_
      have BK551 := n4_
      have BK562 := n5_
      have BK567 := n6_
      have BK573 := n7_
      have HB := n8_
      clear n0_ n1_ n2_ n3_ n4_ n5_ n6_ n7_ n8_
      (try clear hb)
      (try clear hb2)
      (try clear hk)
      (try clear hi)
      refine hK.out _ _ ⟨(blk_cell BK567.out 0).trans rfl, (blk_cell BK567.out 1).trans rfl, (blk_cell BK551.out 0).trans rfl, (blk_cell BK551.out 1).trans rfl⟩ (fun hHeld => ?_)
      clear hK K
      refine norm_ (a' := ?_) ?_ ?_
      rotate_left
      ·
       show Act.put _ (some 48) _ = _
       exact put35_
      refine pure_ (i := 4) (N := some 49) (v := ?_) (a' := ?_) #[true, true, true, true, true] rfl rfl q35_53 (fun _ _ _ h => h) (Or.inl ⟨by rfl, ?_⟩) ?_ ?_
      rotate_left
      ·
       intro w'
       go_simp
       with_reducible rfl
      rotate_left
      ·
       exact put35_
      refine done_ q35_53 ?_
      have hnb66 := NB567_551.out
      have hnc66 := NB551_567.out
      have hnb67 := NB567_562.out
      have hnc67 := NB562_567.out
      have hnb68 := NB567_573.out
      have hnc68 := NB573_567.out
      have hcz69_0 : w65.cell? ⟨gb567, 0, none⟩ = some (.int .i64 t563) := (blk_cell BK567.out 0).trans rfl
      have hcz69_1 : w65.cell? ⟨gb567, 1, none⟩ = some (.slice Ao30 t564.length co30) := (blk_cell BK567.out 1).trans rfl
      have hfz69_0 := blk_frozen BK567.out 0
      have hfz69_1 := blk_frozen BK567.out 1
      go_upto_region 14 with (first | ((with_reducible refine gate_callee (f := 37) rfl ?_); refine goesL_ (some 52) rfl rfl Try.func37 q35_53 rfl #[.agg #[.int .i64 t563, .slice Ao30 t564.length co30], .int .i64 1] rfl q35_35 ?_; (with_reducible refine (laws_markContext.calls kj11 t563 (fun k_ => some k_ = (.slice Ao30 t564.length co30 : Value).ownBlock) (.slice Ao30 t564.length co30) t564 1 t580 t581 w _ ?side1 ?side2 A60.out).mono ?_); (case side1 => exact q35_25); (case side2 => exact Kd.R_tight rfl HO_568001.out); rintro e w70 ⟨rfl, hy0, hb, hkp⟩; refine ⟨_, rfl, ?_⟩; have n0_ := Aside0.mk (Kd.R_mono (ok' := fun k_ => some k_ ≠ (.slice Ao30 t564.length co30 : Value).ownBlock ∧ some k_ ≠ (.slice Ao37 t569.length co37 : Value).ownBlock ∧ some k_ ≠ (.slice Ao64 t576.length co64 : Value).ownBlock) (Kd.R_keptB (HO_563001.out) hkp (fun k_ hk_ hs_ => (hk_.1.1) hs_)) (fun k_ hk_ => ⟨hk_.1.1.1, hk_.1.1.2, hk_.1.2⟩)); have n1_ := Aside0.mk (Kd.R_reok rfl hy0 (fun k_ e_ => HO_568001.out.1 k_ e_)); have n2_ := Aside0.mk (Kd.R_mono (ok' := fun k_ => some k_ ≠ (.slice Ao23 t558.length co23 : Value).ownBlock ∧ some k_ ≠ (.slice Ao30 t564.length co30 : Value).ownBlock ∧ some k_ ≠ (.slice Ao64 t576.length co64 : Value).ownBlock) (Kd.R_keptB (HO_574001.out) hkp (fun k_ hk_ hs_ => (hk_.1.2) hs_)) (fun k_ hk_ => ⟨hk_.1.1.1, hk_.1.1.2, hk_.1.2⟩)); have n3_ := Aside0.mk (blk_kept q35_37 hkp (fun hs_ => (fun e_ => (Kd.R_ne HO_568001.out BK551.out (by decide)) e_) hs_)); have n4_ := Aside0.mk (blk_kept q35_38 hkp (fun hs_ => (fun e_ => (Kd.R_ne HO_568001.out BK562.out (by decide)) e_) hs_)); have n5_ := Aside0.mk (blk_kept q35_39 hkp (fun hs_ => (fun e_ => (Kd.R_ne HO_568001.out BK567.out (by decide)) e_) hs_)); have n6_ := Aside0.mk (blk_kept q35_40 hkp (fun hs_ => (fun e_ => (Kd.R_ne HO_568001.out BK573.out (by decide)) e_) hs_)); have n7_ := Aside0.mk (Kd.R_mono (ok' := fun k_ => some k_ ≠ (.slice Ao23 t558.length co23 : Value).ownBlock ∧ some k_ ≠ (.slice Ao30 t564.length co30 : Value).ownBlock ∧ some k_ ≠ (.slice Ao37 t569.length co37 : Value).ownBlock) (Kd.R_keptB (HO578.out) hkp (fun k_ hk_ hs_ => (hk_.1.2) hs_)) (fun k_ hk_ => ⟨hk_.1.1.1.2, hk_.1.1.2, hk_.1.2⟩)); have n8_ := Aside0.mk (hb); clear HO_563001; clear HO_568001; clear HO_574001; clear BK551; clear BK562; clear BK567; clear BK573; clear HO578; clear HB; have HO_563001 := n0_; have HO_568001 := n1_; have HO_574001 := n2_; have BK551 := n3_; have BK562 := n4_; have BK567 := n5_; have BK573 := n6_; have HO578 := n7_; have HB := n8_; clear n0_ n1_ n2_ n3_ n4_ n5_ n6_ n7_ n8_; (try clear hb); (try clear hkp); (try clear hy0)))
      (try simp only [Act.put, List.setIfInBounds_toArray, List.set_cons_zero, List.set_cons_succ])
      go_cut [65] (fun v65 wc => ∃ (kq : Nat) (x65_60 : Bool), v65 = .bool x65_60 ∧ Aside0 (laws_FnExactDropAttributes.j1 kq a1 t561 x65_60 a0_0 l0_1 t557 t558 t568 t569 = some r) ∧ Aside0 (kq ≤ kj11) ∧ Aside0 (Kd.R (Kd.int .i64) 3 wc w.heap.size (fun k_ => some k_ ≠ ((.slice Ao30 t564.length co30) : Value).ownBlock ∧ some k_ ≠ ((.slice Ao37 t569.length co37) : Value).ownBlock) (.slice Ao23 t558.length co23) t558) ∧ Aside0 (Kd.R (Kd.int .i64) 3 wc w.heap.size (fun k_ => some k_ ≠ ((.slice Ao23 t558.length co23) : Value).ownBlock ∧ some k_ ≠ ((.slice Ao37 t569.length co37) : Value).ownBlock) (.slice Ao30 t564.length co30) t581) ∧ Aside0 (Kd.R (Kd.int .i64) 3 wc w.heap.size (fun k_ => some k_ ≠ ((.slice Ao23 t558.length co23) : Value).ownBlock ∧ some k_ ≠ ((.slice Ao30 t564.length co30) : Value).ownBlock) (.slice Ao37 t569.length co37) t569) ∧ Aside0 (wc.heap[gb551]? = some (.cells #[.int .i64 a0_0, (.slice A0_1 l0_1.length c0_1)] 24 (0, 0))) ∧ Aside0 (wc.heap[gb562]? = some (.cells #[.int .i64 t557, (.slice Ao23 t558.length co23)] 27 (0, 0))) ∧ Aside0 (wc.heap[gb567]? = some (.cells #[.int .i64 t563, (.slice Ao30 t564.length co30)] 27 (0, 0))) ∧ Aside0 (wc.heap[gb573]? = some (.cells #[.int .i64 t568, (.slice Ao37 t569.length co37)] 27 (0, 0))) ∧ Aside0 (Below w.heap.size w wc))
      case first =>
       have H := HC61.out
       clear HC61
       by_cases c71 : t580 < 0
       ·
        rw [if_pos c71] at H
        have c71b0 : decide (t580 < 0) = true := decide_eq_true c71
        clear c71
        (first | rw [c71b0] | (simp only [i64_w, i32_w]; rw [c71b0]) | skip)
        have H' := Aside0.mk H
        clear H
        go_wp2
        go_meet
        case rel => exact ⟨_, (true), q35_50, H', ⟨by have := HJ11.out; first | omega | exact Nat.le_refl _⟩, ⟨by (with_reducible repeat (first | apply Kd.R_alloc | apply Kd.R_drewN | apply Kd.R_drew)); exact Kd.R_mono HO_563001.out (fun _ hk => ⟨hk.1, hk.2.1⟩)⟩, ⟨by (with_reducible repeat (first | apply Kd.R_alloc | apply Kd.R_drewN | apply Kd.R_drew)); exact Kd.R_mono HO_568001.out (fun _ hk => ⟨hk.1.1, hk.1.2⟩)⟩, ⟨by (with_reducible repeat (first | apply Kd.R_alloc | apply Kd.R_drewN | apply Kd.R_drew)); exact Kd.R_mono HO_574001.out (fun _ hk => ⟨hk.1, hk.2.1⟩)⟩, ⟨by (with_reducible repeat (first | refine blk_drewN ?_ _ | refine blk_drew ?_ | refine blk_alloc ?_ _)); exact BK551.out⟩, ⟨by (with_reducible repeat (first | refine blk_drewN ?_ _ | refine blk_drew ?_ | refine blk_alloc ?_ _)); exact BK562.out⟩, ⟨by (with_reducible repeat (first | refine blk_drewN ?_ _ | refine blk_drew ?_ | refine blk_alloc ?_ _)); exact BK567.out⟩, ⟨by (with_reducible repeat (first | refine blk_drewN ?_ _ | refine blk_drew ?_ | refine blk_alloc ?_ _)); exact BK573.out⟩, ⟨by repeat (first | (with_reducible first | exact HB.out | apply below_alloc | apply pw_below_drewN | apply below_drew1 | refine below_set ?_ GE551.out | refine below_set ?_ GE562.out | refine below_set ?_ GE567.out | refine below_set ?_ GE573.out) | exact HB.out)⟩⟩
       ·
        rw [if_neg c71] at H
        have c71b0 : decide (t580 < 0) = false := decide_eq_false c71
        clear c71
        (first | rw [c71b0] | (simp only [i64_w, i32_w]; rw [c71b0]) | skip)
        replace H := Option.bind_eq_some_iff.mp H
        obtain ⟨t582, A720, H⟩ := H
        replace H : (if t582 = true then (laws_FnExactDropAttributes.j1 kj11 a1 t561 (t572 != t561) a0_0 l0_1 t557 t558 t568 t569) else (laws_FnExactDropAttributes.j1 kj11 a1 t561 true a0_0 l0_1 t557 t558 t568 t569)) = some r := H
        have A72 := Aside0.mk A720
        clear A720
        by_cases c73 : t582 = true
        ·
         subst c73
         have H1 : (laws_FnExactDropAttributes.j1 kj11 a1 t561 (t572 != t561) a0_0 l0_1 t557 t558 t568 t569) = some r := q35_52
         clear H
         have H := H1
         clear H1
         have H' := Aside0.mk H
         clear H
         have hnb74 := NB573_551.out
         have hnc74 := NB551_573.out
         have hnb75 := NB573_562.out
         have hnc75 := NB562_573.out
         have hnb76 := NB573_567.out
         have hnc76 := NB567_573.out
         have hcz77_0 : w70.cell? ⟨gb573, 0, none⟩ = some (.int .i64 t568) := (blk_cell BK573.out 0).trans rfl
         have hcz77_1 : w70.cell? ⟨gb573, 1, none⟩ = some (.slice Ao37 t569.length co37) := (blk_cell BK573.out 1).trans rfl
         have hfz77_0 := blk_frozen BK573.out 0
         have hfz77_1 := blk_frozen BK573.out 1
         have hnb78 := NB562_551.out
         have hnc78 := NB551_562.out
         have hnb79 := NB562_567.out
         have hnc79 := NB567_562.out
         have hcz80_0 : w70.cell? ⟨gb562, 0, none⟩ = some (.int .i64 t557) := (blk_cell BK562.out 0).trans rfl
         have hcz80_1 : w70.cell? ⟨gb562, 1, none⟩ = some (.slice Ao23 t558.length co23) := (blk_cell BK562.out 1).trans rfl
         have hfz80_0 := blk_frozen BK562.out 0
         have hfz80_1 := blk_frozen BK562.out 1
         go_wp2_with (first | (go_at_call 19; (with_reducible refine (laws_eqContext.calls kj11 t568 _ _ t569 t557 _ _ t558 true _ ?side1 ?side2 ?side3 ?side4 A72.out).mono ?_); (case side1 => exact q35_31); (case side2 => exact (Kd.R_reads' HO_574001.out).2.1); (case side3 => exact q35_29); (case side4 => exact (Kd.R_reads' HO_563001.out).2.1); rintro e w81 ⟨rfl, hb⟩; have n0_ := Aside0.mk (Kd.R_below q35_42 hb); have n1_ := Aside0.mk (Kd.R_below q35_43 hb); have n2_ := Aside0.mk (Kd.R_below q35_44 hb); have n3_ := Aside0.mk (Kd.R_below q35_48 hb); have n4_ := Aside0.mk (blk_below (g := gb551) (o := .cells #[.int .i64 a0_0, .slice A0_1 l0_1.length c0_1] 24 (0, 0)) q35_37 hb); have n5_ := Aside0.mk (blk_below (g := gb562) (o := .cells #[.int .i64 t557, .slice Ao23 t558.length co23] 27 (0, 0)) q35_38 hb); have n6_ := Aside0.mk (blk_below (g := gb567) (o := .cells #[.int .i64 t563, .slice Ao30 t564.length co30] 27 (0, 0)) q35_39 hb); have n7_ := Aside0.mk (blk_below (g := gb573) (o := .cells #[.int .i64 t568, .slice Ao37 t569.length co37] 27 (0, 0)) q35_40 hb); have n8_ := Aside0.mk (below_step q35_25 hb); clear HO_563001; clear HO_568001; clear HO_574001; clear HO578; clear BK551; clear BK562; clear BK567; clear BK573; clear HB; have HO_563001 := n0_; have HO_568001 := n1_; have HO_574001 := n2_; have HO578 := n3_; have BK551 := n4_; have BK562 := n5_; have BK567 := n6_; have BK573 := n7_; have HB := n8_; clear n0_ n1_ n2_ n3_ n4_ n5_ n6_ n7_ n8_; (try clear hb); (try clear hb2); (try clear hk); (try clear hi)))
         go_meet
         case rel => exact ⟨_, ((t572 != t561)), q35_50, H', ⟨by have := HJ11.out; first | omega | exact Nat.le_refl _⟩, ⟨by (with_reducible repeat (first | apply Kd.R_alloc | apply Kd.R_drewN | apply Kd.R_drew)); exact Kd.R_mono HO_563001.out (fun _ hk => ⟨hk.1, hk.2.1⟩)⟩, ⟨by (with_reducible repeat (first | apply Kd.R_alloc | apply Kd.R_drewN | apply Kd.R_drew)); exact Kd.R_mono HO_568001.out (fun _ hk => ⟨hk.1.1, hk.1.2⟩)⟩, ⟨by (with_reducible repeat (first | apply Kd.R_alloc | apply Kd.R_drewN | apply Kd.R_drew)); exact Kd.R_mono HO_574001.out (fun _ hk => ⟨hk.1, hk.2.1⟩)⟩, ⟨by (with_reducible repeat (first | refine blk_drewN ?_ _ | refine blk_drew ?_ | refine blk_alloc ?_ _)); exact BK551.out⟩, ⟨by (with_reducible repeat (first | refine blk_drewN ?_ _ | refine blk_drew ?_ | refine blk_alloc ?_ _)); exact BK562.out⟩, ⟨by (with_reducible repeat (first | refine blk_drewN ?_ _ | refine blk_drew ?_ | refine blk_alloc ?_ _)); exact BK567.out⟩, ⟨by (with_reducible repeat (first | refine blk_drewN ?_ _ | refine blk_drew ?_ | refine blk_alloc ?_ _)); exact BK573.out⟩, ⟨by repeat (first | (with_reducible first | exact HB.out | apply below_alloc | apply pw_below_drewN | apply below_drew1 | refine below_set ?_ GE551.out | refine below_set ?_ GE562.out | refine below_set ?_ GE567.out | refine below_set ?_ GE573.out) | exact HB.out)⟩⟩
        ·
         replace c73 := Bool.eq_false_iff.mpr c73
         subst c73
         have H1 : (laws_FnExactDropAttributes.j1 kj11 a1 t561 true a0_0 l0_1 t557 t558 t568 t569) = some r := q35_51
         clear H
         have H := H1
         clear H1
         have H' := Aside0.mk H
         clear H
         have hnb82 := NB573_551.out
         have hnc82 := NB551_573.out
         have hnb83 := NB573_562.out
         have hnc83 := NB562_573.out
         have hnb84 := NB573_567.out
         have hnc84 := NB567_573.out
         have hcz85_0 : w70.cell? ⟨gb573, 0, none⟩ = some (.int .i64 t568) := (blk_cell BK573.out 0).trans rfl
         have hcz85_1 : w70.cell? ⟨gb573, 1, none⟩ = some (.slice Ao37 t569.length co37) := (blk_cell BK573.out 1).trans rfl
         have hfz85_0 := blk_frozen BK573.out 0
         have hfz85_1 := blk_frozen BK573.out 1
         have hnb86 := NB562_551.out
         have hnc86 := NB551_562.out
         have hnb87 := NB562_567.out
         have hnc87 := NB567_562.out
         have hcz88_0 : w70.cell? ⟨gb562, 0, none⟩ = some (.int .i64 t557) := (blk_cell BK562.out 0).trans rfl
         have hcz88_1 : w70.cell? ⟨gb562, 1, none⟩ = some (.slice Ao23 t558.length co23) := (blk_cell BK562.out 1).trans rfl
         have hfz88_0 := blk_frozen BK562.out 0
         have hfz88_1 := blk_frozen BK562.out 1
         go_wp2_with (first | (go_at_call 19; (with_reducible refine (laws_eqContext.calls kj11 t568 _ _ t569 t557 _ _ t558 false _ ?side1 ?side2 ?side3 ?side4 A72.out).mono ?_); (case side1 => exact q35_31); (case side2 => exact (Kd.R_reads' HO_574001.out).2.1); (case side3 => exact q35_29); (case side4 => exact (Kd.R_reads' HO_563001.out).2.1); rintro e w89 ⟨rfl, hb⟩; have n0_ := Aside0.mk (Kd.R_below q35_42 hb); have n1_ := Aside0.mk (Kd.R_below q35_43 hb); have n2_ := Aside0.mk (Kd.R_below q35_44 hb); have n3_ := Aside0.mk (Kd.R_below q35_48 hb); have n4_ := Aside0.mk (blk_below (g := gb551) (o := .cells #[.int .i64 a0_0, .slice A0_1 l0_1.length c0_1] 24 (0, 0)) q35_37 hb); have n5_ := Aside0.mk (blk_below (g := gb562) (o := .cells #[.int .i64 t557, .slice Ao23 t558.length co23] 27 (0, 0)) q35_38 hb); have n6_ := Aside0.mk (blk_below (g := gb567) (o := .cells #[.int .i64 t563, .slice Ao30 t564.length co30] 27 (0, 0)) q35_39 hb); have n7_ := Aside0.mk (blk_below (g := gb573) (o := .cells #[.int .i64 t568, .slice Ao37 t569.length co37] 27 (0, 0)) q35_40 hb); have n8_ := Aside0.mk (below_step q35_25 hb); clear HO_563001; clear HO_568001; clear HO_574001; clear HO578; clear BK551; clear BK562; clear BK567; clear BK573; clear HB; have HO_563001 := n0_; have HO_568001 := n1_; have HO_574001 := n2_; have HO578 := n3_; have BK551 := n4_; have BK562 := n5_; have BK567 := n6_; have BK573 := n7_; have HB := n8_; clear n0_ n1_ n2_ n3_ n4_ n5_ n6_ n7_ n8_; (try clear hb); (try clear hb2); (try clear hk); (try clear hi)))
         go_meet
         case rel => exact ⟨_, (true), q35_50, H', ⟨by have := HJ11.out; first | omega | exact Nat.le_refl _⟩, ⟨by (with_reducible repeat (first | apply Kd.R_alloc | apply Kd.R_drewN | apply Kd.R_drew)); exact Kd.R_mono HO_563001.out (fun _ hk => ⟨hk.1, hk.2.1⟩)⟩, ⟨by (with_reducible repeat (first | apply Kd.R_alloc | apply Kd.R_drewN | apply Kd.R_drew)); exact Kd.R_mono HO_568001.out (fun _ hk => ⟨hk.1.1, hk.1.2⟩)⟩, ⟨by (with_reducible repeat (first | apply Kd.R_alloc | apply Kd.R_drewN | apply Kd.R_drew)); exact Kd.R_mono HO_574001.out (fun _ hk => ⟨hk.1, hk.2.1⟩)⟩, ⟨by (with_reducible repeat (first | refine blk_drewN ?_ _ | refine blk_drew ?_ | refine blk_alloc ?_ _)); exact BK551.out⟩, ⟨by (with_reducible repeat (first | refine blk_drewN ?_ _ | refine blk_drew ?_ | refine blk_alloc ?_ _)); exact BK562.out⟩, ⟨by (with_reducible repeat (first | refine blk_drewN ?_ _ | refine blk_drew ?_ | refine blk_alloc ?_ _)); exact BK567.out⟩, ⟨by (with_reducible repeat (first | refine blk_drewN ?_ _ | refine blk_drew ?_ | refine blk_alloc ?_ _)); exact BK573.out⟩, ⟨by repeat (first | (with_reducible first | exact HB.out | apply below_alloc | apply pw_below_drewN | apply below_drew1 | refine below_set ?_ GE551.out | refine below_set ?_ GE562.out | refine below_set ?_ GE567.out | refine below_set ?_ GE573.out) | exact HB.out)⟩⟩
      case rest =>
       clear HC61
       try clear c1
       try clear c2
       try clear p2
       try clear c3
       try clear c4
       try clear c4b0
       try clear c5
       try clear c6
       try clear c7
       try clear c8
       try clear c12
       try clear c15
       try clear c17
       try clear c19
       try clear c21
       try clear c27
       try clear c28
       try clear c33
       try clear c34
       try clear c35
       try clear c37
       try clear c39
       try clear c40
       try clear c41
       try clear c42
       try clear c44
       try clear c45
       try clear c48
       try clear c49
       try clear c50
       try clear c52
       try clear c53
       try clear c56
       try clear c59
       try clear c66
       try clear c67
       try clear c68
       try clear c71
       try clear c71b0
       try clear c73
       try clear c74
       try clear c75
       try clear c76
       try clear c78
       try clear c79
       try clear c82
       try clear c83
       try clear c84
       try clear c86
       try clear c87
       try clear hcz14_0
       try clear hcz14_1
       try clear hcz16_0
       try clear hcz16_1
       try clear hcz22_0
       try clear hcz22_1
       try clear hcz24_0
       try clear hcz24_1
       try clear hcz29_0
       try clear hcz29_1
       try clear hcz36_0
       try clear hcz36_1
       try clear hcz43_0
       try clear hcz43_1
       try clear hcz46_0
       try clear hcz46_1
       try clear hcz51_0
       try clear hcz51_1
       try clear hcz54_0
       try clear hcz54_1
       try clear hcz69_0
       try clear hcz69_1
       try clear hcz6_0
       try clear hcz6_1
       try clear hcz77_0
       try clear hcz77_1
       try clear hcz80_0
       try clear hcz80_1
       try clear hcz85_0
       try clear hcz85_1
       try clear hcz88_0
       try clear hcz88_1
       try clear hfz14_0
       try clear hfz14_1
       try clear hfz16_0
       try clear hfz16_1
       try clear hfz22_0
       try clear hfz22_1
       try clear hfz24_0
       try clear hfz24_1
       try clear hfz29_0
       try clear hfz29_1
       try clear hfz36_0
       try clear hfz36_1
       try clear hfz43_0
       try clear hfz43_1
       try clear hfz46_0
       try clear hfz46_1
       try clear hfz51_0
       try clear hfz51_1
       try clear hfz54_0
       try clear hfz54_1
       try clear hfz69_0
       try clear hfz69_1
       try clear hfz6_0
       try clear hfz6_1
       try clear hfz77_0
       try clear hfz77_1
       try clear hfz80_0
       try clear hfz80_1
       try clear hfz85_0
       try clear hfz85_1
       try clear hfz88_0
       try clear hfz88_1
       try clear p2
       obtain ⟨kq, x65_60, rfl, HA, HJ60, HO_563001, HO_568001, HO_574001, BK551, BK562, BK567, BK573, HB⟩ := hcut
       have hl568001_60 := (Kd.R_reads' HO_568001.out).1
       rw [hl568001_60] at HO_568001
       (try simp only [hl568001_60])
       (try simp only [hl568001_60] at BK551)
       (try simp only [hl568001_60] at BK562)
       (try simp only [hl568001_60] at BK567)
       (try simp only [hl568001_60] at BK573)
       (try simp only [hl568001_60] at HO_563001)
       (try simp only [hl568001_60] at HO_574001)
       cases kq with
       | zero => exact absurd HA.out (by simp [laws_FnExactDropAttributes.j1])
       | succ kj60 =>
        have H := HA.out
        clear HA
        simp only [laws_FnExactDropAttributes.j1] at H
        by_cases c90 : x65_60 = true
        ·
         subst c90
         have H1 : (some false) = some r := q35_52
         clear H
         have H := H1
         clear H1
         obtain rfl := Option.some.inj H
         go_wp2
         go_ret
         exact ⟨by first | rfl | (simp [errW_none, errW_some] <;> rfl) | (simp [*, errW_none, errW_some] <;> rfl), by repeat (first | (with_reducible first | exact HB.out | apply below_alloc | apply pw_below_drewN | apply below_drew1 | refine below_set ?_ GE551.out | refine below_set ?_ GE562.out | refine below_set ?_ GE567.out | refine below_set ?_ GE573.out) | exact HB.out)⟩
        ·
         replace c90 := Bool.eq_false_iff.mpr c90
         subst c90
         have H1 : ((laws_markContext.f kj60 t568 t569 1).bind fun bt583 => ((laws_heldContext.f kj60 t568 bt583.2 1).bind fun t585 => (if t585 < 0 then (some false) else (if t585 = bt583.1 then ((laws_toContext.f kj60 a0_0 l0_1).bind fun bt586 => ((impl_DropAttributes.f kj60 bt586.1 bt586.2 a1).bind fun bt590 => ((laws_eqContext.f kj60 bt590.1 bt590.2.1 t557 t558).bind fun t596 => (if t596 = true then (laws_FnExactDropAttributes.j2 kj60 bt583.1 (bt590.2.2 != t561) t568 bt583.2) else (laws_FnExactDropAttributes.j2 kj60 bt583.1 true t568 bt583.2))))) else (some false))))) = some r := q35_51
         clear H
         have H := H1
         clear H1
         replace H := Option.bind_eq_some_iff.mp H
         obtain ⟨⟨t583, t584⟩, A910, H⟩ := H
         replace H : ((laws_heldContext.f kj60 t568 t584 1).bind fun t585 => (if t585 < 0 then (some false) else (if t585 = t583 then ((laws_toContext.f kj60 a0_0 l0_1).bind fun bt586 => ((impl_DropAttributes.f kj60 bt586.1 bt586.2 a1).bind fun bt590 => ((laws_eqContext.f kj60 bt590.1 bt590.2.1 t557 t558).bind fun t596 => (if t596 = true then (laws_FnExactDropAttributes.j2 kj60 t583 (bt590.2.2 != t561) t568 t584) else (laws_FnExactDropAttributes.j2 kj60 t583 true t568 t584))))) else (some false)))) = some r := H
         have A91 := Aside0.mk A910
         clear A910
         replace H := Option.bind_eq_some_iff.mp H
         obtain ⟨t585, A920, H⟩ := H
         replace H : (if t585 < 0 then (some false) else (if t585 = t583 then ((laws_toContext.f kj60 a0_0 l0_1).bind fun bt586 => ((impl_DropAttributes.f kj60 bt586.1 bt586.2 a1).bind fun bt590 => ((laws_eqContext.f kj60 bt590.1 bt590.2.1 t557 t558).bind fun t596 => (if t596 = true then (laws_FnExactDropAttributes.j2 kj60 t583 (bt590.2.2 != t561) t568 t584) else (laws_FnExactDropAttributes.j2 kj60 t583 true t568 t584))))) else (some false))) = some r := H
         have A92 := Aside0.mk A920
         clear A920
         by_cases c93 : t585 < 0
         ·
          rw [if_pos c93] at H
          have c93b0 : decide (t585 < 0) = true := decide_eq_true c93
          clear c93
          obtain rfl := Option.some.inj H
          have hnb94 := NB573_551.out
          have hnc94 := NB551_573.out
          have hnb95 := NB573_562.out
          have hnc95 := NB562_573.out
          have hnb96 := NB573_567.out
          have hnc96 := NB567_573.out
          have hcz97_0 : wc.cell? ⟨gb573, 0, none⟩ = some (.int .i64 t568) := (blk_cell BK573.out 0).trans rfl
          have hcz97_1 : wc.cell? ⟨gb573, 1, none⟩ = some (.slice Ao37 t569.length co37) := (blk_cell BK573.out 1).trans rfl
          have hfz97_0 := blk_frozen BK573.out 0
          have hfz97_1 := blk_frozen BK573.out 1
          go_wp2_with (first | ((with_reducible refine gate_callee (f := 37) rfl ?_); refine goesL_ (some 68) rfl rfl Try.func37 q35_53 rfl #[.agg #[.int .i64 t568, .slice Ao37 t569.length co37], .int .i64 1] rfl q35_35 ?_; (with_reducible refine (laws_markContext.calls kj60 t568 (fun k_ => some k_ = (.slice Ao37 t569.length co37 : Value).ownBlock) (.slice Ao37 t569.length co37) t569 1 t583 t584 w _ ?side1 ?side2 A91.out).mono ?_); (case side1 => exact q35_25); (case side2 => exact Kd.R_tight rfl HO_574001.out); rintro e w98 ⟨rfl, hy0, hb, hkp⟩; refine ⟨_, rfl, ?_⟩; have n0_ := Aside0.mk (Kd.R_mono (ok' := fun k_ => some k_ ≠ (.slice Ao30 t581.length co30 : Value).ownBlock ∧ some k_ ≠ (.slice Ao37 t569.length co37 : Value).ownBlock) (Kd.R_keptB (HO_563001.out) hkp (fun k_ hk_ hs_ => (hk_.2) hs_)) (fun k_ hk_ => ⟨hk_.1.1, hk_.1.2⟩)); have n1_ := Aside0.mk (Kd.R_mono (ok' := fun k_ => some k_ ≠ (.slice Ao23 t558.length co23 : Value).ownBlock ∧ some k_ ≠ (.slice Ao37 t569.length co37 : Value).ownBlock) (Kd.R_keptB (HO_568001.out) hkp (fun k_ hk_ hs_ => (hk_.2) hs_)) (fun k_ hk_ => ⟨hk_.1.1, hk_.1.2⟩)); have n2_ := Aside0.mk (Kd.R_reok rfl hy0 (fun k_ e_ => HO_574001.out.1 k_ e_)); have n3_ := Aside0.mk (blk_kept q35_37 hkp (fun hs_ => (fun e_ => (Kd.R_ne HO_574001.out BK551.out (by decide)) e_) hs_)); have n4_ := Aside0.mk (blk_kept q35_38 hkp (fun hs_ => (fun e_ => (Kd.R_ne HO_574001.out BK562.out (by decide)) e_) hs_)); have n5_ := Aside0.mk (blk_kept q35_39 hkp (fun hs_ => (fun e_ => (Kd.R_ne HO_574001.out BK567.out (by decide)) e_) hs_)); have n6_ := Aside0.mk (blk_kept q35_40 hkp (fun hs_ => (fun e_ => (Kd.R_ne HO_574001.out BK573.out (by decide)) e_) hs_)); have n7_ := Aside0.mk (hb); clear HO_563001; clear HO_568001; clear HO_574001; clear BK551; clear BK562; clear BK567; clear BK573; clear HB; have HO_563001 := n0_; have HO_568001 := n1_; have HO_574001 := n2_; have BK551 := n3_; have BK562 := n4_; have BK567 := n5_; have BK573 := n6_; have HB := n7_; clear n0_ n1_ n2_ n3_ n4_ n5_ n6_ n7_; (try clear hb); (try clear hkp); (try clear hy0); have hcz99_0 : w98.cell? ⟨gb573, 0, none⟩ = some (.int .i64 t568) := (blk_cell BK573.out 0).trans rfl; have hcz99_1 : w98.cell? ⟨gb573, 1, none⟩ = some (.slice Ao37 t569.length co37) := (blk_cell BK573.out 1).trans rfl; have hfz99_0 := blk_frozen BK573.out 0; have hfz99_1 := blk_frozen BK573.out 1) | ((with_reducible refine gate_callee (f := 38) rfl ?_); refine goesL_ (some 71) rfl rfl Try.func38 q35_53 rfl #[.agg #[.int .i64 t568, .slice Ao37 t584.length co37], .int .i64 1] rfl q35_27 ?_; (with_reducible refine (laws_heldContext.calls kj60 t568 _ _ t584 1 t585 _ ?side1 ?side2 A92.out).mono ?_); (case side1 => exact q35_31); (case side2 => rw [show t584.length = t569.length from (Kd.R_reads' HO_574001.out).1.symm]; exact (Kd.R_reads' HO_574001.out).2.1); rintro e w100 ⟨rfl, hb⟩; refine ⟨_, rfl, ?_⟩; have n0_ := Aside0.mk (Kd.R_below q35_42 hb); have n1_ := Aside0.mk (Kd.R_below q35_43 hb); have n2_ := Aside0.mk (Kd.R_below q35_44 hb); have n3_ := Aside0.mk (blk_below (g := gb551) (o := .cells #[.int .i64 a0_0, .slice A0_1 l0_1.length c0_1] 24 (0, 0)) q35_37 hb); have n4_ := Aside0.mk (blk_below (g := gb562) (o := .cells #[.int .i64 t557, .slice Ao23 t558.length co23] 27 (0, 0)) q35_38 hb); have n5_ := Aside0.mk (blk_below (g := gb567) (o := .cells #[.int .i64 t563, .slice Ao30 t581.length co30] 27 (0, 0)) q35_39 hb); have n6_ := Aside0.mk (blk_below (g := gb573) (o := .cells #[.int .i64 t568, .slice Ao37 t569.length co37] 27 (0, 0)) q35_40 hb); have n7_ := Aside0.mk (below_step q35_25 hb); clear HO_563001; clear HO_568001; clear HO_574001; clear BK551; clear BK562; clear BK567; clear BK573; clear HB; have HO_563001 := n0_; have HO_568001 := n1_; have HO_574001 := n2_; have BK551 := n3_; have BK562 := n4_; have BK567 := n5_; have BK573 := n6_; have HB := n7_; clear n0_ n1_ n2_ n3_ n4_ n5_ n6_ n7_; (try clear hb); (try clear hb2); (try clear hk); (try clear hi)))
          go_ret
          exact ⟨by first | rfl | (simp [errW_none, errW_some] <;> rfl) | (simp [*, errW_none, errW_some] <;> rfl), by repeat (first | (with_reducible first | exact HB.out | apply below_alloc | apply pw_below_drewN | apply below_drew1 | refine below_set ?_ GE551.out | refine below_set ?_ GE562.out | refine below_set ?_ GE567.out | refine below_set ?_ GE573.out) | exact HB.out)⟩
         ·
          rw [if_neg c93] at H
          have c93b0 : decide (t585 < 0) = false := decide_eq_false c93
          clear c93
          by_cases c101 : t585 = t583
          ·
           rw [if_pos c101] at H
           have c101b0 : (t585 == t583) = true := beq_iff_eq.mpr c101
           have c101b1 : (t585 != t583) = false := bne_eq_false_iff_eq.mpr c101
           clear c101
           replace H := Option.bind_eq_some_iff.mp H
           obtain ⟨⟨t586, t587⟩, A1020, H⟩ := H
           replace H : ((impl_DropAttributes.f kj60 t586 t587 a1).bind fun bt590 => ((laws_eqContext.f kj60 bt590.1 bt590.2.1 t557 t558).bind fun t596 => (if t596 = true then (laws_FnExactDropAttributes.j2 kj60 t583 (bt590.2.2 != t561) t568 t584) else (laws_FnExactDropAttributes.j2 kj60 t583 true t568 t584)))) = some r := H
           have A102 := Aside0.mk A1020
           clear A1020
           replace H := Option.bind_eq_some_iff.mp H
           obtain ⟨⟨t590, t591, t594⟩, A1030, H⟩ := H
           replace H : ((laws_eqContext.f kj60 t590 t591 t557 t558).bind fun t596 => (if t596 = true then (laws_FnExactDropAttributes.j2 kj60 t583 (t594 != t561) t568 t584) else (laws_FnExactDropAttributes.j2 kj60 t583 true t568 t584))) = some r := H
           have A103 := Aside0.mk A1030
           clear A1030
           have HC104 := Aside0.mk H
           clear H
           have hnb105 := NB573_551.out
           have hnc105 := NB551_573.out
           have hnb106 := NB573_562.out
           have hnc106 := NB562_573.out
           have hnb107 := NB573_567.out
           have hnc107 := NB567_573.out
           have hcz108_0 : wc.cell? ⟨gb573, 0, none⟩ = some (.int .i64 t568) := (blk_cell BK573.out 0).trans rfl
           have hcz108_1 : wc.cell? ⟨gb573, 1, none⟩ = some (.slice Ao37 t569.length co37) := (blk_cell BK573.out 1).trans rfl
           have hfz108_0 := blk_frozen BK573.out 0
           have hfz108_1 := blk_frozen BK573.out 1
           go_upto_region 25 with (first | ((with_reducible refine gate_callee (f := 37) rfl ?_); refine goesL_ (some 68) rfl rfl Try.func37 q35_53 rfl #[.agg #[.int .i64 t568, .slice Ao37 t569.length co37], .int .i64 1] rfl q35_35 ?_; (with_reducible refine (laws_markContext.calls kj60 t568 (fun k_ => some k_ = (.slice Ao37 t569.length co37 : Value).ownBlock) (.slice Ao37 t569.length co37) t569 1 t583 t584 w _ ?side1 ?side2 A91.out).mono ?_); (case side1 => exact q35_25); (case side2 => exact Kd.R_tight rfl HO_574001.out); rintro e w109 ⟨rfl, hy0, hb, hkp⟩; refine ⟨_, rfl, ?_⟩; have n0_ := Aside0.mk (Kd.R_mono (ok' := fun k_ => some k_ ≠ (.slice Ao30 t581.length co30 : Value).ownBlock ∧ some k_ ≠ (.slice Ao37 t569.length co37 : Value).ownBlock) (Kd.R_keptB (HO_563001.out) hkp (fun k_ hk_ hs_ => (hk_.2) hs_)) (fun k_ hk_ => ⟨hk_.1.1, hk_.1.2⟩)); have n1_ := Aside0.mk (Kd.R_mono (ok' := fun k_ => some k_ ≠ (.slice Ao23 t558.length co23 : Value).ownBlock ∧ some k_ ≠ (.slice Ao37 t569.length co37 : Value).ownBlock) (Kd.R_keptB (HO_568001.out) hkp (fun k_ hk_ hs_ => (hk_.2) hs_)) (fun k_ hk_ => ⟨hk_.1.1, hk_.1.2⟩)); have n2_ := Aside0.mk (Kd.R_reok rfl hy0 (fun k_ e_ => HO_574001.out.1 k_ e_)); have n3_ := Aside0.mk (blk_kept q35_37 hkp (fun hs_ => (fun e_ => (Kd.R_ne HO_574001.out BK551.out (by decide)) e_) hs_)); have n4_ := Aside0.mk (blk_kept q35_38 hkp (fun hs_ => (fun e_ => (Kd.R_ne HO_574001.out BK562.out (by decide)) e_) hs_)); have n5_ := Aside0.mk (blk_kept q35_39 hkp (fun hs_ => (fun e_ => (Kd.R_ne HO_574001.out BK567.out (by decide)) e_) hs_)); have n6_ := Aside0.mk (blk_kept q35_40 hkp (fun hs_ => (fun e_ => (Kd.R_ne HO_574001.out BK573.out (by decide)) e_) hs_)); have n7_ := Aside0.mk (hb); clear HO_563001; clear HO_568001; clear HO_574001; clear BK551; clear BK562; clear BK567; clear BK573; clear HB; have HO_563001 := n0_; have HO_568001 := n1_; have HO_574001 := n2_; have BK551 := n3_; have BK562 := n4_; have BK567 := n5_; have BK573 := n6_; have HB := n7_; clear n0_ n1_ n2_ n3_ n4_ n5_ n6_ n7_; (try clear hb); (try clear hkp); (try clear hy0); have hcz110_0 : w109.cell? ⟨gb573, 0, none⟩ = some (.int .i64 t568) := (blk_cell BK573.out 0).trans rfl; have hcz110_1 : w109.cell? ⟨gb573, 1, none⟩ = some (.slice Ao37 t569.length co37) := (blk_cell BK573.out 1).trans rfl; have hfz110_0 := blk_frozen BK573.out 0; have hfz110_1 := blk_frozen BK573.out 1) | ((with_reducible refine gate_callee (f := 38) rfl ?_); refine goesL_ (some 71) rfl rfl Try.func38 q35_53 rfl #[.agg #[.int .i64 t568, .slice Ao37 t584.length co37], .int .i64 1] rfl q35_27 ?_; (with_reducible refine (laws_heldContext.calls kj60 t568 _ _ t584 1 t585 _ ?side1 ?side2 A92.out).mono ?_); (case side1 => exact q35_31); (case side2 => rw [show t584.length = t569.length from (Kd.R_reads' HO_574001.out).1.symm]; exact (Kd.R_reads' HO_574001.out).2.1); rintro e w111 ⟨rfl, hb⟩; refine ⟨_, rfl, ?_⟩; have n0_ := Aside0.mk (Kd.R_below q35_42 hb); have n1_ := Aside0.mk (Kd.R_below q35_43 hb); have n2_ := Aside0.mk (Kd.R_below q35_44 hb); have n3_ := Aside0.mk (blk_below (g := gb551) (o := .cells #[.int .i64 a0_0, .slice A0_1 l0_1.length c0_1] 24 (0, 0)) q35_37 hb); have n4_ := Aside0.mk (blk_below (g := gb562) (o := .cells #[.int .i64 t557, .slice Ao23 t558.length co23] 27 (0, 0)) q35_38 hb); have n5_ := Aside0.mk (blk_below (g := gb567) (o := .cells #[.int .i64 t563, .slice Ao30 t581.length co30] 27 (0, 0)) q35_39 hb); have n6_ := Aside0.mk (blk_below (g := gb573) (o := .cells #[.int .i64 t568, .slice Ao37 t569.length co37] 27 (0, 0)) q35_40 hb); have n7_ := Aside0.mk (below_step q35_25 hb); clear HO_563001; clear HO_568001; clear HO_574001; clear BK551; clear BK562; clear BK567; clear BK573; clear HB; have HO_563001 := n0_; have HO_568001 := n1_; have HO_574001 := n2_; have BK551 := n3_; have BK562 := n4_; have BK567 := n5_; have BK573 := n6_; have HB := n7_; clear n0_ n1_ n2_ n3_ n4_ n5_ n6_ n7_; (try clear hb); (try clear hb2); (try clear hk); (try clear hi); have hnb112 := NB551_562.out; have hnc112 := NB562_551.out; have hnb113 := NB551_567.out; have hnc113 := NB567_551.out; have hcz114_0 : w111.cell? ⟨gb551, 0, none⟩ = some (.int .i64 a0_0) := (blk_cell BK551.out 0).trans rfl; have hcz114_1 : w111.cell? ⟨gb551, 1, none⟩ = some (.slice A0_1 l0_1.length c0_1) := (blk_cell BK551.out 1).trans rfl; have hfz114_0 := blk_frozen BK551.out 0; have hfz114_1 := blk_frozen BK551.out 1) | ((with_reducible refine gate_callee (f := 17) rfl ?_); refine goesL_ (some 79) rfl rfl Try.func17 q35_53 rfl #[.agg #[.int .i64 a0_0, .slice A0_1 l0_1.length c0_1]] rfl q35_35 ?_; (with_reducible refine (laws_toContext.calls kj60 a0_0 _ _ l0_1 t586 t587 _ ?side1 ?side2 A102.out).mono ?_); (case side1 => exact q35_32); (case side2 => exact HC0_1.out); rintro e w115 ⟨v588, rfl, ho0, hb⟩; refine ⟨_, rfl, ?_⟩; have n0_ := Aside0.mk (Kd.R_elder' q35_42 (Kd.R_base ho0) hb); have n1_ := Aside0.mk (Kd.R_elder' q35_43 (Kd.R_base ho0) hb); have n2_ := Aside0.mk (Kd.R_elder' q35_44 (Kd.R_base ho0) hb); have n3_ := Aside0.mk (Kd.R_lower (Kd.R_new' (Kd.R_new' (Kd.R_new' ho0 (Kd.R_lt q35_42)) (Kd.R_lt q35_43)) (Kd.R_lt q35_44)) (below_size q35_25)); have n4_ := Aside0.mk (blk_below (g := gb551) (o := .cells #[.int .i64 a0_0, .slice A0_1 l0_1.length c0_1] 24 (0, 0)) q35_37 hb); have n5_ := Aside0.mk (blk_below (g := gb562) (o := .cells #[.int .i64 t557, .slice Ao23 t558.length co23] 27 (0, 0)) q35_38 hb); have n6_ := Aside0.mk (blk_below (g := gb567) (o := .cells #[.int .i64 t563, .slice Ao30 t581.length co30] 27 (0, 0)) q35_39 hb); have n7_ := Aside0.mk (blk_below (g := gb573) (o := .cells #[.int .i64 t568, .slice Ao37 t569.length co37] 27 (0, 0)) q35_40 hb); have n8_ := Aside0.mk (below_step q35_25 hb); clear HO_563001; clear HO_568001; clear HO_574001; clear BK551; clear BK562; clear BK567; clear BK573; clear HB; have HO_563001 := n0_; have HO_568001 := n1_; have HO_574001 := n2_; have HO589 := n3_; have BK551 := n4_; have BK562 := n5_; have BK567 := n6_; have BK573 := n7_; have HB := n8_; clear n0_ n1_ n2_ n3_ n4_ n5_ n6_ n7_ n8_; (try clear hb); (try clear hb2); (try clear hk); (try clear hi); (try clear ho0); obtain ⟨Ao116, co116, eo116⟩ := Kd.R_slice HO589.out; subst eo116) | ((with_reducible refine gate_callee (f := 40) rfl ?_); refine goesL_ (some 81) rfl rfl Try.func40 q35_53 rfl #[.agg #[.int .i64 t586, .slice Ao116 t587.length co116], .int .i64 a1] rfl q35_35 ?_; (with_reducible refine (impl_DropAttributes.calls kj60 t586 _ _ t587 a1 t590 t591 t594 _ ?side1 ?side2 A103.out).mono ?_); (case side1 => repeat (first | exact (Kd.R_reads' HO589.out).2.2 | (with_reducible refine Kd.C_alloc ?_ _) | (with_reducible refine Kd.C_drewN ?_ _) | (with_reducible refine Kd.C_drew ?_))); (case side2 => exact (Kd.R_reads' HO589.out).2.1); rintro e w117 ⟨v592, rfl, ho0, hb⟩; refine ⟨_, rfl, ?_⟩; have n0_ := Aside0.mk (Kd.R_elder' q35_42 (Kd.R_base ho0) hb); have n1_ := Aside0.mk (Kd.R_elder' q35_43 (Kd.R_base ho0) hb); have n2_ := Aside0.mk (Kd.R_elder' q35_44 (Kd.R_base ho0) hb); have n3_ := Aside0.mk (Kd.R_elder' q35_49 (Kd.R_base ho0) hb); have n4_ := Aside0.mk (Kd.R_lower (Kd.R_new' (Kd.R_new' (Kd.R_new' (Kd.R_new' ho0 (Kd.R_lt q35_42)) (Kd.R_lt q35_43)) (Kd.R_lt q35_44)) (Kd.R_lt q35_49)) (below_size q35_25)); have n5_ := Aside0.mk (blk_below (g := gb551) (o := .cells #[.int .i64 a0_0, .slice A0_1 l0_1.length c0_1] 24 (0, 0)) q35_37 hb); have n6_ := Aside0.mk (blk_below (g := gb562) (o := .cells #[.int .i64 t557, .slice Ao23 t558.length co23] 27 (0, 0)) q35_38 hb); have n7_ := Aside0.mk (blk_below (g := gb567) (o := .cells #[.int .i64 t563, .slice Ao30 t581.length co30] 27 (0, 0)) q35_39 hb); have n8_ := Aside0.mk (blk_below (g := gb573) (o := .cells #[.int .i64 t568, .slice Ao37 t569.length co37] 27 (0, 0)) q35_40 hb); have n9_ := Aside0.mk (below_step q35_25 hb); clear HO_563001; clear HO_568001; clear HO_574001; clear HO589; clear BK551; clear BK562; clear BK567; clear BK573; clear HB; have HO_563001 := n0_; have HO_568001 := n1_; have HO_574001 := n2_; have HO589 := n3_; have HO593 := n4_; have BK551 := n5_; have BK562 := n6_; have BK567 := n7_; have BK573 := n8_; have HB := n9_; clear n0_ n1_ n2_ n3_ n4_ n5_ n6_ n7_ n8_ n9_; (try clear hb); (try clear hb2); (try clear hk); (try clear hi); (try clear ho0)) | ((with_reducible refine gate_dst (N := 14) rfl ?_); refine box_event ?hg (N := 14) ?hd (cs := #[.int .i64 0, .slice none 0 0]) (t := 27) ?hr ?_; (case hd => rfl); (case hg => rfl); (case hr => first | (go_simp; done) | (go_simp; rfl)); intro gb595 hg w118 hbox hb; have n0_ := Aside0.mk (Kd.R_below q35_42 hb); have n1_ := Aside0.mk (Kd.R_below q35_43 hb); have n2_ := Aside0.mk (Kd.R_below q35_44 hb); have n3_ := Aside0.mk (Kd.R_below q35_49 hb); have n4_ := Aside0.mk (Kd.R_below (by (with_reducible repeat (first | apply Kd.R_alloc | apply Kd.R_drewN | apply Kd.R_drew)); exact HO593.out) hb); have n5_ := Aside0.mk (blk_below (g := gb551) (o := .cells #[.int .i64 a0_0, .slice A0_1 l0_1.length c0_1] 24 (0, 0)) q35_37 hb); have n6_ := Aside0.mk (blk_below (g := gb562) (o := .cells #[.int .i64 t557, .slice Ao23 t558.length co23] 27 (0, 0)) q35_38 hb); have n7_ := Aside0.mk (blk_below (g := gb567) (o := .cells #[.int .i64 t563, .slice Ao30 t581.length co30] 27 (0, 0)) q35_39 hb); have n8_ := Aside0.mk (blk_below (g := gb573) (o := .cells #[.int .i64 t568, .slice Ao37 t569.length co37] 27 (0, 0)) q35_40 hb); have n9_ := Aside0.mk (below_step q35_25 hb); have n10_ := Aside0.mk (hbox); have n11_ := Aside0.mk ((by rw [hg]; exact (below_size q35_25) : w.heap.size ≤ gb595)); have n12_ := Aside0.mk ((by rw [hg]; exact (below_size q35_25) : w.heap.size ≤ gb595)); have n13_ := Aside0.mk ((by rw [hg]; exact Nat.ne_of_lt (blk_lt (g := gb551) (o := .cells #[.int .i64 a0_0, .slice A0_1 l0_1.length c0_1] 24 (0, 0)) q35_37) : gb551 ≠ gb595)); have n14_ := Aside0.mk ((by rw [hg]; exact Nat.ne_of_gt (blk_lt (g := gb551) (o := .cells #[.int .i64 a0_0, .slice A0_1 l0_1.length c0_1] 24 (0, 0)) q35_37) : gb595 ≠ gb551)); have n15_ := Aside0.mk ((by rw [hg]; exact Nat.ne_of_lt (blk_lt (g := gb562) (o := .cells #[.int .i64 t557, .slice Ao23 t558.length co23] 27 (0, 0)) q35_38) : gb562 ≠ gb595)); have n16_ := Aside0.mk ((by rw [hg]; exact Nat.ne_of_gt (blk_lt (g := gb562) (o := .cells #[.int .i64 t557, .slice Ao23 t558.length co23] 27 (0, 0)) q35_38) : gb595 ≠ gb562)); have n17_ := Aside0.mk ((by rw [hg]; exact Nat.ne_of_lt (blk_lt (g := gb567) (o := .cells #[.int .i64 t563, .slice Ao30 t581.length co30] 27 (0, 0)) q35_39) : gb567 ≠ gb595)); have n18_ := Aside0.mk ((by rw [hg]; exact Nat.ne_of_gt (blk_lt (g := gb567) (o := .cells #[.int .i64 t563, .slice Ao30 t581.length co30] 27 (0, 0)) q35_39) : gb595 ≠ gb567)); have n19_ := Aside0.mk ((by rw [hg]; exact Nat.ne_of_lt (blk_lt (g := gb573) (o := .cells #[.int .i64 t568, .slice Ao37 t569.length co37] 27 (0, 0)) q35_40) : gb573 ≠ gb595)); have n20_ := Aside0.mk ((by rw [hg]; exact Nat.ne_of_gt (blk_lt (g := gb573) (o := .cells #[.int .i64 t568, .slice Ao37 t569.length co37] 27 (0, 0)) q35_40) : gb595 ≠ gb573)); clear HO_563001; clear HO_568001; clear HO_574001; clear HO589; clear HO593; clear BK551; clear BK562; clear BK567; clear BK573; clear HB; have HO_563001 := n0_; have HO_568001 := n1_; have HO_574001 := n2_; have HO589 := n3_; have HO593 := n4_; have BK551 := n5_; have BK562 := n6_; have BK567 := n7_; have BK573 := n8_; have HB := n9_; have BK595 := n10_; have GW595 := n11_; have GE595 := n12_; have NB551_595 := n13_; have NB595_551 := n14_; have NB562_595 := n15_; have NB595_562 := n16_; have NB567_595 := n17_; have NB595_567 := n18_; have NB573_595 := n19_; have NB595_573 := n20_; clear n0_ n1_ n2_ n3_ n4_ n5_ n6_ n7_ n8_ n9_ n10_ n11_ n12_ n13_ n14_ n15_ n16_ n17_ n18_ n19_ n20_; clear hb hbox hg; have hnb119 := NB595_551.out; have hnc119 := NB551_595.out; have hnb120 := NB595_562.out; have hnc120 := NB562_595.out; have hnb121 := NB595_567.out; have hnc121 := NB567_595.out; have hnb122 := NB595_573.out; have hnc122 := NB573_595.out; have hcz123_0 : w118.cell? ⟨gb595, 0, none⟩ = some (.int .i64 0) := (blk_cell BK595.out 0).trans rfl; have hcz123_1 : w118.cell? ⟨gb595, 1, none⟩ = some (.slice none 0 0) := (blk_cell BK595.out 1).trans rfl; have hfz123_0 := blk_frozen BK595.out 0; have hfz123_1 := blk_frozen BK595.out 1; obtain ⟨Ao124, co124, eo124⟩ := Kd.R_slice HO593.out; subst eo124))
           (try simp only [Act.put, List.setIfInBounds_toArray, List.set_cons_zero, List.set_cons_succ])
           go_cut [92] (fun v92 wc => ∃ (kq : Nat) (x92_103 : Bool), v92 = .bool x92_103 ∧ Aside0 (laws_FnExactDropAttributes.j2 kq t583 x92_103 t568 t584 = some r) ∧ Aside0 (kq ≤ kj60) ∧ Aside0 (Kd.R (Kd.int .i64) 3 wc w.heap.size (fun k_ => some k_ ≠ ((.slice Ao30 t581.length co30) : Value).ownBlock ∧ some k_ ≠ ((.slice Ao37 t569.length co37) : Value).ownBlock ∧ some k_ ≠ ((.slice Ao124 t591.length co124) : Value).ownBlock) (.slice Ao23 t558.length co23) t558) ∧ Aside0 (Kd.R (Kd.int .i64) 3 wc w.heap.size (fun k_ => some k_ ≠ ((.slice Ao23 t558.length co23) : Value).ownBlock ∧ some k_ ≠ ((.slice Ao37 t569.length co37) : Value).ownBlock ∧ some k_ ≠ ((.slice Ao124 t591.length co124) : Value).ownBlock) (.slice Ao30 t581.length co30) t581) ∧ Aside0 (Kd.R (Kd.int .i64) 3 wc w.heap.size (fun k_ => some k_ ≠ ((.slice Ao23 t558.length co23) : Value).ownBlock ∧ some k_ ≠ ((.slice Ao30 t581.length co30) : Value).ownBlock ∧ some k_ ≠ ((.slice Ao124 t591.length co124) : Value).ownBlock) (.slice Ao37 t569.length co37) t584) ∧ Aside0 (Kd.R (Kd.int .i64) 3 wc w.heap.size (fun k_ => some k_ ≠ ((.slice Ao23 t558.length co23) : Value).ownBlock ∧ some k_ ≠ ((.slice Ao30 t581.length co30) : Value).ownBlock ∧ some k_ ≠ ((.slice Ao37 t569.length co37) : Value).ownBlock) (.slice Ao124 t591.length co124) t591) ∧ Aside0 (wc.heap[gb551]? = some (.cells #[.int .i64 a0_0, (.slice A0_1 l0_1.length c0_1)] 24 (0, 0))) ∧ Aside0 (wc.heap[gb562]? = some (.cells #[.int .i64 t557, (.slice Ao23 t558.length co23)] 27 (0, 0))) ∧ Aside0 (wc.heap[gb567]? = some (.cells #[.int .i64 t563, (.slice Ao30 t581.length co30)] 27 (0, 0))) ∧ Aside0 (wc.heap[gb573]? = some (.cells #[.int .i64 t568, (.slice Ao37 t569.length co37)] 27 (0, 0))) ∧ Aside0 (wc.heap[gb595]? = some (.cells #[.int .i64 t590, (.slice Ao124 t591.length co124)] 27 (0, 0))) ∧ Aside0 (Below w.heap.size w wc))
           case first =>
            have H := HC104.out
            clear HC104
            replace H := Option.bind_eq_some_iff.mp H
            obtain ⟨t596, A1250, H⟩ := H
            replace H : (if t596 = true then (laws_FnExactDropAttributes.j2 kj60 t583 (t594 != t561) t568 t584) else (laws_FnExactDropAttributes.j2 kj60 t583 true t568 t584)) = some r := H
            have A125 := Aside0.mk A1250
            clear A1250
            by_cases c126 : t596 = true
            ·
             subst c126
             have H1 : (laws_FnExactDropAttributes.j2 kj60 t583 (t594 != t561) t568 t584) = some r := q35_52
             clear H
             have H := H1
             clear H1
             have H' := Aside0.mk H
             clear H
             have hnb127 := NB595_551.out
             have hnc127 := NB551_595.out
             have hnb128 := NB595_562.out
             have hnc128 := NB562_595.out
             have hnb129 := NB595_567.out
             have hnc129 := NB567_595.out
             have hnb130 := NB595_573.out
             have hnc130 := NB573_595.out
             have hcz131_0 : w118.cell? ⟨gb595, 0, none⟩ = some (.int .i64 0) := (blk_cell BK595.out 0).trans rfl
             have hcz131_1 : w118.cell? ⟨gb595, 1, none⟩ = some (.slice none 0 0) := (blk_cell BK595.out 1).trans rfl
             have hfz131_0 := blk_frozen BK595.out 0
             have hfz131_1 := blk_frozen BK595.out 1
             have hnb132 := NB562_551.out
             have hnc132 := NB551_562.out
             have hnb133 := NB562_567.out
             have hnc133 := NB567_562.out
             have hnb134 := NB562_573.out
             have hnc134 := NB573_562.out
             have hcz135_0 : w118.cell? ⟨gb562, 0, none⟩ = some (.int .i64 t557) := (blk_cell BK562.out 0).trans rfl
             have hcz135_1 : w118.cell? ⟨gb562, 1, none⟩ = some (.slice Ao23 t558.length co23) := (blk_cell BK562.out 1).trans rfl
             have hfz135_0 := blk_frozen BK562.out 0
             have hfz135_1 := blk_frozen BK562.out 1
             go_wp2_with (first | ((with_reducible refine gate_callee (f := 19) rfl ?_); refine goesL_ (some 86) rfl rfl Try.func19 q35_53 rfl #[.agg #[.int .i64 t590, .slice Ao124 t591.length co124], .agg #[.int .i64 t557, .slice Ao23 t558.length co23]] rfl q35_35 ?_; (with_reducible refine (laws_eqContext.calls kj60 t590 _ _ t591 t557 _ _ t558 true _ ?side1 ?side2 ?side3 ?side4 A125.out).mono ?_); (case side1 => refine (Kd.R_reads' (e := 3) (base := w.heap.size) (ok := fun k_ => ((((True ∧ some k_ ≠ (.slice Ao23 t558.length co23 : Value).ownBlock) ∧ some k_ ≠ (.slice Ao30 t581.length co30 : Value).ownBlock) ∧ some k_ ≠ (.slice Ao37 t569.length co37 : Value).ownBlock) ∧ some k_ ≠ (.slice Ao116 t587.length co116 : Value).ownBlock)) (n := t591.length) (c := co124) ?_).2.2; exact q35_14); (case side2 => exact (Kd.R_reads' HO593.out).2.1); (case side3 => refine (Kd.R_reads' (e := 3) (base := w.heap.size) (ok := fun k_ => (((some k_ ≠ (.slice Ao30 t581.length co30 : Value).ownBlock ∧ some k_ ≠ (.slice Ao37 t569.length co37 : Value).ownBlock) ∧ some k_ ≠ (.slice Ao116 t587.length co116 : Value).ownBlock) ∧ some k_ ≠ (.slice Ao124 t591.length co124 : Value).ownBlock)) (n := t558.length) (c := co23) ?_).2.2; exact q35_10); (case side4 => exact (Kd.R_reads' HO_563001.out).2.1); rintro e w136 ⟨rfl, hb⟩; refine ⟨_, rfl, ?_⟩; have n0_ := Aside0.mk (Kd.R_below q35_10 hb); have n1_ := Aside0.mk (Kd.R_below q35_11 hb); have n2_ := Aside0.mk (Kd.R_below q35_12 hb); have n3_ := Aside0.mk (Kd.R_below q35_13 hb); have n4_ := Aside0.mk (Kd.R_below q35_14 hb); have n5_ := Aside0.mk (blk_below (g := gb551) (o := .cells #[.int .i64 a0_0, .slice A0_1 l0_1.length c0_1] 24 (0, 0)) q35_4 hb); have n6_ := Aside0.mk (blk_below (g := gb562) (o := .cells #[.int .i64 t557, .slice Ao23 t558.length co23] 27 (0, 0)) q35_6 hb); have n7_ := Aside0.mk (blk_below (g := gb567) (o := .cells #[.int .i64 t563, .slice Ao30 t581.length co30] 27 (0, 0)) q35_8 hb); have n8_ := Aside0.mk (blk_below (g := gb573) (o := .cells #[.int .i64 t568, .slice Ao37 t569.length co37] 27 (0, 0)) q35_9 hb); have n9_ := Aside0.mk (blk_below (g := gb595) (o := .cells #[.int .i64 t590, .slice Ao124 t591.length co124] 27 (0, 0)) q35_2 hb); have n10_ := Aside0.mk (below_step q35_24 hb); clear HO_563001; clear HO_568001; clear HO_574001; clear HO589; clear HO593; clear BK551; clear BK562; clear BK567; clear BK573; clear BK595; clear HB; have HO_563001 := n0_; have HO_568001 := n1_; have HO_574001 := n2_; have HO589 := n3_; have HO593 := n4_; have BK551 := n5_; have BK562 := n6_; have BK567 := n7_; have BK573 := n8_; have BK595 := n9_; have HB := n10_; clear n0_ n1_ n2_ n3_ n4_ n5_ n6_ n7_ n8_ n9_ n10_; (try clear hb); (try clear hb2); (try clear hk); (try clear hi)))
             go_meet
             case rel => exact ⟨_, ((t594 != t561)), q35_50, H', ⟨by have := HJ11.out; have := HJ60.out; first | omega | exact Nat.le_refl _⟩, ⟨by (try simp only [hl568001_60]); (with_reducible repeat (first | apply Kd.R_alloc | apply Kd.R_drewN | apply Kd.R_drew)); exact Kd.R_mono HO_563001.out (fun _ hk => ⟨hk.1.1.1, ⟨hk.1.1.2, hk.2⟩⟩)⟩, ⟨by (try simp only [hl568001_60]); (with_reducible repeat (first | apply Kd.R_alloc | apply Kd.R_drewN | apply Kd.R_drew)); exact Kd.R_mono HO_568001.out (fun _ hk => ⟨hk.1.1.1, ⟨hk.1.1.2, hk.2⟩⟩)⟩, ⟨by (try simp only [hl568001_60]); (with_reducible repeat (first | apply Kd.R_alloc | apply Kd.R_drewN | apply Kd.R_drew)); exact Kd.R_mono HO_574001.out (fun _ hk => ⟨hk.1.1.1, ⟨hk.1.1.2, hk.2⟩⟩)⟩, ⟨by (try simp only [hl568001_60]); (with_reducible repeat (first | apply Kd.R_alloc | apply Kd.R_drewN | apply Kd.R_drew)); exact Kd.R_mono HO593.out (fun _ hk => ⟨hk.1.1.1.2, ⟨hk.1.1.2, hk.1.2⟩⟩)⟩, ⟨by (try simp only [hl568001_60]); (with_reducible repeat (first | refine blk_drewN ?_ _ | refine blk_drew ?_ | refine blk_alloc ?_ _)); exact BK551.out⟩, ⟨by (try simp only [hl568001_60]); (with_reducible repeat (first | refine blk_drewN ?_ _ | refine blk_drew ?_ | refine blk_alloc ?_ _)); exact BK562.out⟩, ⟨by (try simp only [hl568001_60]); (with_reducible repeat (first | refine blk_drewN ?_ _ | refine blk_drew ?_ | refine blk_alloc ?_ _)); exact BK567.out⟩, ⟨by (try simp only [hl568001_60]); (with_reducible repeat (first | refine blk_drewN ?_ _ | refine blk_drew ?_ | refine blk_alloc ?_ _)); exact BK573.out⟩, ⟨by (try simp only [hl568001_60]); (with_reducible repeat (first | refine blk_drewN ?_ _ | refine blk_drew ?_ | refine blk_alloc ?_ _)); exact BK595.out⟩, ⟨by repeat (first | (with_reducible first | exact HB.out | apply below_alloc | apply pw_below_drewN | apply below_drew1 | refine below_set ?_ GE551.out | refine below_set ?_ GE562.out | refine below_set ?_ GE567.out | refine below_set ?_ GE573.out | refine below_set ?_ GE595.out) | exact HB.out)⟩⟩
            ·
             replace c126 := Bool.eq_false_iff.mpr c126
             subst c126
             have H1 : (laws_FnExactDropAttributes.j2 kj60 t583 true t568 t584) = some r := q35_51
             clear H
             have H := H1
             clear H1
             have H' := Aside0.mk H
             clear H
             have hnb137 := NB595_551.out
             have hnc137 := NB551_595.out
             have hnb138 := NB595_562.out
             have hnc138 := NB562_595.out
             have hnb139 := NB595_567.out
             have hnc139 := NB567_595.out
             have hnb140 := NB595_573.out
             have hnc140 := NB573_595.out
             have hcz141_0 : w118.cell? ⟨gb595, 0, none⟩ = some (.int .i64 0) := (blk_cell BK595.out 0).trans rfl
             have hcz141_1 : w118.cell? ⟨gb595, 1, none⟩ = some (.slice none 0 0) := (blk_cell BK595.out 1).trans rfl
             have hfz141_0 := blk_frozen BK595.out 0
             have hfz141_1 := blk_frozen BK595.out 1
             have hnb142 := NB562_551.out
             have hnc142 := NB551_562.out
             have hnb143 := NB562_567.out
             have hnc143 := NB567_562.out
             have hnb144 := NB562_573.out
             have hnc144 := NB573_562.out
             have hcz145_0 : w118.cell? ⟨gb562, 0, none⟩ = some (.int .i64 t557) := (blk_cell BK562.out 0).trans rfl
             have hcz145_1 : w118.cell? ⟨gb562, 1, none⟩ = some (.slice Ao23 t558.length co23) := (blk_cell BK562.out 1).trans rfl
             have hfz145_0 := blk_frozen BK562.out 0
             have hfz145_1 := blk_frozen BK562.out 1
             go_wp2_with (first | ((with_reducible refine gate_callee (f := 19) rfl ?_); refine goesL_ (some 86) rfl rfl Try.func19 q35_53 rfl #[.agg #[.int .i64 t590, .slice Ao124 t591.length co124], .agg #[.int .i64 t557, .slice Ao23 t558.length co23]] rfl q35_35 ?_; (with_reducible refine (laws_eqContext.calls kj60 t590 _ _ t591 t557 _ _ t558 false _ ?side1 ?side2 ?side3 ?side4 A125.out).mono ?_); (case side1 => refine (Kd.R_reads' (e := 3) (base := w.heap.size) (ok := fun k_ => ((((True ∧ some k_ ≠ (.slice Ao23 t558.length co23 : Value).ownBlock) ∧ some k_ ≠ (.slice Ao30 t581.length co30 : Value).ownBlock) ∧ some k_ ≠ (.slice Ao37 t569.length co37 : Value).ownBlock) ∧ some k_ ≠ (.slice Ao116 t587.length co116 : Value).ownBlock)) (n := t591.length) (c := co124) ?_).2.2; exact q35_14); (case side2 => exact (Kd.R_reads' HO593.out).2.1); (case side3 => refine (Kd.R_reads' (e := 3) (base := w.heap.size) (ok := fun k_ => (((some k_ ≠ (.slice Ao30 t581.length co30 : Value).ownBlock ∧ some k_ ≠ (.slice Ao37 t569.length co37 : Value).ownBlock) ∧ some k_ ≠ (.slice Ao116 t587.length co116 : Value).ownBlock) ∧ some k_ ≠ (.slice Ao124 t591.length co124 : Value).ownBlock)) (n := t558.length) (c := co23) ?_).2.2; exact q35_10); (case side4 => exact (Kd.R_reads' HO_563001.out).2.1); rintro e w146 ⟨rfl, hb⟩; refine ⟨_, rfl, ?_⟩; have n0_ := Aside0.mk (Kd.R_below q35_10 hb); have n1_ := Aside0.mk (Kd.R_below q35_11 hb); have n2_ := Aside0.mk (Kd.R_below q35_12 hb); have n3_ := Aside0.mk (Kd.R_below q35_13 hb); have n4_ := Aside0.mk (Kd.R_below q35_14 hb); have n5_ := Aside0.mk (blk_below (g := gb551) (o := .cells #[.int .i64 a0_0, .slice A0_1 l0_1.length c0_1] 24 (0, 0)) q35_4 hb); have n6_ := Aside0.mk (blk_below (g := gb562) (o := .cells #[.int .i64 t557, .slice Ao23 t558.length co23] 27 (0, 0)) q35_6 hb); have n7_ := Aside0.mk (blk_below (g := gb567) (o := .cells #[.int .i64 t563, .slice Ao30 t581.length co30] 27 (0, 0)) q35_8 hb); have n8_ := Aside0.mk (blk_below (g := gb573) (o := .cells #[.int .i64 t568, .slice Ao37 t569.length co37] 27 (0, 0)) q35_9 hb); have n9_ := Aside0.mk (blk_below (g := gb595) (o := .cells #[.int .i64 t590, .slice Ao124 t591.length co124] 27 (0, 0)) q35_2 hb); have n10_ := Aside0.mk (below_step q35_24 hb); clear HO_563001; clear HO_568001; clear HO_574001; clear HO589; clear HO593; clear BK551; clear BK562; clear BK567; clear BK573; clear BK595; clear HB; have HO_563001 := n0_; have HO_568001 := n1_; have HO_574001 := n2_; have HO589 := n3_; have HO593 := n4_; have BK551 := n5_; have BK562 := n6_; have BK567 := n7_; have BK573 := n8_; have BK595 := n9_; have HB := n10_; clear n0_ n1_ n2_ n3_ n4_ n5_ n6_ n7_ n8_ n9_ n10_; (try clear hb); (try clear hb2); (try clear hk); (try clear hi)))
             go_meet
             case rel => exact ⟨_, (true), q35_50, H', ⟨by have := HJ11.out; have := HJ60.out; first | omega | exact Nat.le_refl _⟩, ⟨by (try simp only [hl568001_60]); (with_reducible repeat (first | apply Kd.R_alloc | apply Kd.R_drewN | apply Kd.R_drew)); exact Kd.R_mono HO_563001.out (fun _ hk => ⟨hk.1.1.1, ⟨hk.1.1.2, hk.2⟩⟩)⟩, ⟨by (try simp only [hl568001_60]); (with_reducible repeat (first | apply Kd.R_alloc | apply Kd.R_drewN | apply Kd.R_drew)); exact Kd.R_mono HO_568001.out (fun _ hk => ⟨hk.1.1.1, ⟨hk.1.1.2, hk.2⟩⟩)⟩, ⟨by (try simp only [hl568001_60]); (with_reducible repeat (first | apply Kd.R_alloc | apply Kd.R_drewN | apply Kd.R_drew)); exact Kd.R_mono HO_574001.out (fun _ hk => ⟨hk.1.1.1, ⟨hk.1.1.2, hk.2⟩⟩)⟩, ⟨by (try simp only [hl568001_60]); (with_reducible repeat (first | apply Kd.R_alloc | apply Kd.R_drewN | apply Kd.R_drew)); exact Kd.R_mono HO593.out (fun _ hk => ⟨hk.1.1.1.2, ⟨hk.1.1.2, hk.1.2⟩⟩)⟩, ⟨by (try simp only [hl568001_60]); (with_reducible repeat (first | refine blk_drewN ?_ _ | refine blk_drew ?_ | refine blk_alloc ?_ _)); exact BK551.out⟩, ⟨by (try simp only [hl568001_60]); (with_reducible repeat (first | refine blk_drewN ?_ _ | refine blk_drew ?_ | refine blk_alloc ?_ _)); exact BK562.out⟩, ⟨by (try simp only [hl568001_60]); (with_reducible repeat (first | refine blk_drewN ?_ _ | refine blk_drew ?_ | refine blk_alloc ?_ _)); exact BK567.out⟩, ⟨by (try simp only [hl568001_60]); (with_reducible repeat (first | refine blk_drewN ?_ _ | refine blk_drew ?_ | refine blk_alloc ?_ _)); exact BK573.out⟩, ⟨by (try simp only [hl568001_60]); (with_reducible repeat (first | refine blk_drewN ?_ _ | refine blk_drew ?_ | refine blk_alloc ?_ _)); exact BK595.out⟩, ⟨by repeat (first | (with_reducible first | exact HB.out | apply below_alloc | apply pw_below_drewN | apply below_drew1 | refine below_set ?_ GE551.out | refine below_set ?_ GE562.out | refine below_set ?_ GE567.out | refine below_set ?_ GE573.out | refine below_set ?_ GE595.out) | exact HB.out)⟩⟩
           case rest =>
            clear HC104
            try clear c1
            try clear c2
            try clear p2
            try clear c3
            try clear c4
            try clear c4b0
            try clear c5
            try clear c6
            try clear c7
            try clear c8
            try clear c9
            try clear c10
            try clear c11
            try clear c12
            try clear c13
            try clear c14
            try clear c15
            try clear c17
            try clear c19
            try clear c21
            try clear c27
            try clear c28
            try clear c33
            try clear c34
            try clear c35
            try clear c37
            try clear c38
            try clear c39
            try clear c40
            try clear c41
            try clear c42
            try clear c44
            try clear c45
            try clear c48
            try clear c49
            try clear c50
            try clear c52
            try clear c53
            try clear c56
            try clear c59
            try clear c66
            try clear c67
            try clear c68
            try clear c71
            try clear c71b0
            try clear c73
            try clear c74
            try clear c75
            try clear c76
            try clear c78
            try clear c79
            try clear c82
            try clear c83
            try clear c84
            try clear c86
            try clear c87
            try clear c90
            try clear c93
            try clear c93b0
            try clear c94
            try clear c95
            try clear c96
            try clear c101
            try clear c101b0
            try clear c101b1
            try clear c105
            try clear c106
            try clear c107
            try clear c112
            try clear c113
            try clear c119
            try clear c120
            try clear c121
            try clear c122
            try clear c126
            try clear c127
            try clear c128
            try clear c129
            try clear c130
            try clear c132
            try clear c133
            try clear c134
            try clear c137
            try clear c138
            try clear c139
            try clear c140
            try clear c142
            try clear c143
            try clear c144
            try clear hcz108_0
            try clear hcz108_1
            try clear hcz110_0
            try clear hcz110_1
            try clear hcz114_0
            try clear hcz114_1
            try clear hcz123_0
            try clear hcz123_1
            try clear hcz131_0
            try clear hcz131_1
            try clear hcz135_0
            try clear hcz135_1
            try clear hcz141_0
            try clear hcz141_1
            try clear hcz145_0
            try clear hcz145_1
            try clear hcz14_0
            try clear hcz14_1
            try clear hcz16_0
            try clear hcz16_1
            try clear hcz22_0
            try clear hcz22_1
            try clear hcz24_0
            try clear hcz24_1
            try clear hcz29_0
            try clear hcz29_1
            try clear hcz36_0
            try clear hcz36_1
            try clear hcz43_0
            try clear hcz43_1
            try clear hcz46_0
            try clear hcz46_1
            try clear hcz51_0
            try clear hcz51_1
            try clear hcz54_0
            try clear hcz54_1
            try clear hcz69_0
            try clear hcz69_1
            try clear hcz6_0
            try clear hcz6_1
            try clear hcz77_0
            try clear hcz77_1
            try clear hcz80_0
            try clear hcz80_1
            try clear hcz85_0
            try clear hcz85_1
            try clear hcz88_0
            try clear hcz88_1
            try clear hcz97_0
            try clear hcz97_1
            try clear hcz99_0
            try clear hcz99_1
            try clear hfz108_0
            try clear hfz108_1
            try clear hfz110_0
            try clear hfz110_1
            try clear hfz114_0
            try clear hfz114_1
            try clear hfz123_0
            try clear hfz123_1
            try clear hfz131_0
            try clear hfz131_1
            try clear hfz135_0
            try clear hfz135_1
            try clear hfz141_0
            try clear hfz141_1
            try clear hfz145_0
            try clear hfz145_1
            try clear hfz14_0
            try clear hfz14_1
            try clear hfz16_0
            try clear hfz16_1
            try clear hfz22_0
            try clear hfz22_1
            try clear hfz24_0
            try clear hfz24_1
            try clear hfz29_0
            try clear hfz29_1
            try clear hfz36_0
            try clear hfz36_1
            try clear hfz43_0
            try clear hfz43_1
            try clear hfz46_0
            try clear hfz46_1
            try clear hfz51_0
            try clear hfz51_1
            try clear hfz54_0
            try clear hfz54_1
            try clear hfz69_0
            try clear hfz69_1
            try clear hfz6_0
            try clear hfz6_1
            try clear hfz77_0
            try clear hfz77_1
            try clear hfz80_0
            try clear hfz80_1
            try clear hfz85_0
            try clear hfz85_1
            try clear hfz88_0
            try clear hfz88_1
            try clear hfz97_0
            try clear hfz97_1
            try clear hfz99_0
            try clear hfz99_1
            try clear p2
            obtain ⟨kq, x92_103, rfl, HA, HJ103, HO_563001, HO_568001, HO_574001, HO_596001, BK551, BK562, BK567, BK573, BK595, HB⟩ := hcut
            have hl574001_103 := (Kd.R_reads' HO_574001.out).1
            rw [hl574001_103] at HO_574001
            (try simp only [hl574001_103])
            (try simp only [hl574001_103] at BK551)
            (try simp only [hl574001_103] at BK562)
            (try simp only [hl574001_103] at BK567)
            (try simp only [hl574001_103] at BK573)
            (try simp only [hl574001_103] at BK595)
            (try simp only [hl574001_103] at HO_563001)
            (try simp only [hl574001_103] at HO_568001)
            (try simp only [hl574001_103] at HO_596001)
            cases kq with
            | zero => exact absurd HA.out (by simp [laws_FnExactDropAttributes.j2])
            | succ kj103 =>
             have H := HA.out
             clear HA
             simp only [laws_FnExactDropAttributes.j2] at H
             by_cases c147 : x92_103 = true
             ·
              subst c147
              have H1 : (some false) = some r := q35_52
              clear H
              have H := H1
              clear H1
              obtain rfl := Option.some.inj H
              go_wp2
              go_ret
              exact ⟨by first | rfl | (simp [errW_none, errW_some] <;> rfl) | (simp [*, errW_none, errW_some] <;> rfl), by repeat (first | (with_reducible first | exact HB.out | apply below_alloc | apply pw_below_drewN | apply below_drew1 | refine below_set ?_ GE551.out | refine below_set ?_ GE562.out | refine below_set ?_ GE567.out | refine below_set ?_ GE573.out | refine below_set ?_ GE595.out) | exact HB.out)⟩
             ·
              replace c147 := Bool.eq_false_iff.mpr c147
              subst c147
              have H1 : ((laws_heldContext.f kj103 t568 t584 1).bind fun t597 => (if t597 < 0 then (some false) else (if t597 = t583 then (some true) else (some false)))) = some r := q35_51
              clear H
              have H := H1
              clear H1
              replace H := Option.bind_eq_some_iff.mp H
              obtain ⟨t597, A1480, H⟩ := H
              replace H : (if t597 < 0 then (some false) else (if t597 = t583 then (some true) else (some false))) = some r := H
              have A148 := Aside0.mk A1480
              clear A1480
              by_cases c149 : t597 < 0
              ·
               rw [if_pos c149] at H
               have c149b0 : decide (t597 < 0) = true := decide_eq_true c149
               clear c149
               obtain rfl := Option.some.inj H
               have hnb150 := NB573_551.out
               have hnc150 := NB551_573.out
               have hnb151 := NB573_562.out
               have hnc151 := NB562_573.out
               have hnb152 := NB573_567.out
               have hnc152 := NB567_573.out
               have hnb153 := NB573_595.out
               have hnc153 := NB595_573.out
               have hcz154_0 : wc.cell? ⟨gb573, 0, none⟩ = some (.int .i64 t568) := (blk_cell BK573.out 0).trans rfl
               have hcz154_1 : wc.cell? ⟨gb573, 1, none⟩ = some (.slice Ao37 t584.length co37) := (blk_cell BK573.out 1).trans rfl
               have hfz154_0 := blk_frozen BK573.out 0
               have hfz154_1 := blk_frozen BK573.out 1
               go_wp2_with (first | ((with_reducible refine gate_callee (f := 38) rfl ?_); refine goesL_ (some 95) rfl rfl Try.func38 q35_53 rfl #[.agg #[.int .i64 t568, .slice Ao37 t584.length co37], .int .i64 1] rfl q35_35 ?_; (with_reducible refine (laws_heldContext.calls kj103 t568 _ _ t584 1 t597 _ ?side1 ?side2 A148.out).mono ?_); (case side1 => exact q35_31); (case side2 => exact (Kd.R_reads' HO_574001.out).2.1); rintro e w155 ⟨rfl, hb⟩; refine ⟨_, rfl, ?_⟩; have n0_ := Aside0.mk (Kd.R_below q35_42 hb); have n1_ := Aside0.mk (Kd.R_below q35_43 hb); have n2_ := Aside0.mk (Kd.R_below q35_44 hb); have n3_ := Aside0.mk (Kd.R_below q35_45 hb); have n4_ := Aside0.mk (blk_below (g := gb551) (o := .cells #[.int .i64 a0_0, .slice A0_1 l0_1.length c0_1] 24 (0, 0)) q35_37 hb); have n5_ := Aside0.mk (blk_below (g := gb562) (o := .cells #[.int .i64 t557, .slice Ao23 t558.length co23] 27 (0, 0)) q35_38 hb); have n6_ := Aside0.mk (blk_below (g := gb567) (o := .cells #[.int .i64 t563, .slice Ao30 t581.length co30] 27 (0, 0)) q35_39 hb); have n7_ := Aside0.mk (blk_below (g := gb573) (o := .cells #[.int .i64 t568, .slice Ao37 t584.length co37] 27 (0, 0)) q35_40 hb); have n8_ := Aside0.mk (blk_below (g := gb595) (o := .cells #[.int .i64 t590, .slice Ao124 t591.length co124] 27 (0, 0)) q35_41 hb); have n9_ := Aside0.mk (below_step q35_24 hb); clear HO_563001; clear HO_568001; clear HO_574001; clear HO_596001; clear BK551; clear BK562; clear BK567; clear BK573; clear BK595; clear HB; have HO_563001 := n0_; have HO_568001 := n1_; have HO_574001 := n2_; have HO_596001 := n3_; have BK551 := n4_; have BK562 := n5_; have BK567 := n6_; have BK573 := n7_; have BK595 := n8_; have HB := n9_; clear n0_ n1_ n2_ n3_ n4_ n5_ n6_ n7_ n8_ n9_; (try clear hb); (try clear hb2); (try clear hk); (try clear hi)))
               go_ret
               exact ⟨by first | rfl | (simp [errW_none, errW_some] <;> rfl) | (simp [*, errW_none, errW_some] <;> rfl), by repeat (first | (with_reducible first | exact HB.out | apply below_alloc | apply pw_below_drewN | apply below_drew1 | refine below_set ?_ GE551.out | refine below_set ?_ GE562.out | refine below_set ?_ GE567.out | refine below_set ?_ GE573.out | refine below_set ?_ GE595.out) | exact HB.out)⟩
              ·
               rw [if_neg c149] at H
               have c149b0 : decide (t597 < 0) = false := decide_eq_false c149
               clear c149
               by_cases c156 : t597 = t583
               ·
                rw [if_pos c156] at H
                have c156b0 : (t597 == t583) = true := beq_iff_eq.mpr c156
                have c156b1 : (t597 != t583) = false := bne_eq_false_iff_eq.mpr c156
                clear c156
                obtain rfl := Option.some.inj H
                have hnb157 := NB573_551.out
                have hnc157 := NB551_573.out
                have hnb158 := NB573_562.out
                have hnc158 := NB562_573.out
                have hnb159 := NB573_567.out
                have hnc159 := NB567_573.out
                have hnb160 := NB573_595.out
                have hnc160 := NB595_573.out
                have hcz161_0 : wc.cell? ⟨gb573, 0, none⟩ = some (.int .i64 t568) := (blk_cell BK573.out 0).trans rfl
                have hcz161_1 : wc.cell? ⟨gb573, 1, none⟩ = some (.slice Ao37 t584.length co37) := (blk_cell BK573.out 1).trans rfl
                have hfz161_0 := blk_frozen BK573.out 0
                have hfz161_1 := blk_frozen BK573.out 1
                go_wp2_with (first | ((with_reducible refine gate_callee (f := 38) rfl ?_); refine goesL_ (some 95) rfl rfl Try.func38 q35_53 rfl #[.agg #[.int .i64 t568, .slice Ao37 t584.length co37], .int .i64 1] rfl q35_35 ?_; (with_reducible refine (laws_heldContext.calls kj103 t568 _ _ t584 1 t597 _ ?side1 ?side2 A148.out).mono ?_); (case side1 => exact q35_31); (case side2 => exact (Kd.R_reads' HO_574001.out).2.1); rintro e w162 ⟨rfl, hb⟩; refine ⟨_, rfl, ?_⟩; have n0_ := Aside0.mk (Kd.R_below q35_42 hb); have n1_ := Aside0.mk (Kd.R_below q35_43 hb); have n2_ := Aside0.mk (Kd.R_below q35_44 hb); have n3_ := Aside0.mk (Kd.R_below q35_45 hb); have n4_ := Aside0.mk (blk_below (g := gb551) (o := .cells #[.int .i64 a0_0, .slice A0_1 l0_1.length c0_1] 24 (0, 0)) q35_37 hb); have n5_ := Aside0.mk (blk_below (g := gb562) (o := .cells #[.int .i64 t557, .slice Ao23 t558.length co23] 27 (0, 0)) q35_38 hb); have n6_ := Aside0.mk (blk_below (g := gb567) (o := .cells #[.int .i64 t563, .slice Ao30 t581.length co30] 27 (0, 0)) q35_39 hb); have n7_ := Aside0.mk (blk_below (g := gb573) (o := .cells #[.int .i64 t568, .slice Ao37 t584.length co37] 27 (0, 0)) q35_40 hb); have n8_ := Aside0.mk (blk_below (g := gb595) (o := .cells #[.int .i64 t590, .slice Ao124 t591.length co124] 27 (0, 0)) q35_41 hb); have n9_ := Aside0.mk (below_step q35_24 hb); clear HO_563001; clear HO_568001; clear HO_574001; clear HO_596001; clear BK551; clear BK562; clear BK567; clear BK573; clear BK595; clear HB; have HO_563001 := n0_; have HO_568001 := n1_; have HO_574001 := n2_; have HO_596001 := n3_; have BK551 := n4_; have BK562 := n5_; have BK567 := n6_; have BK573 := n7_; have BK595 := n8_; have HB := n9_; clear n0_ n1_ n2_ n3_ n4_ n5_ n6_ n7_ n8_ n9_; (try clear hb); (try clear hb2); (try clear hk); (try clear hi)))
                go_ret
                exact ⟨by first | rfl | (simp [errW_none, errW_some] <;> rfl) | (simp [*, errW_none, errW_some] <;> rfl), by repeat (first | (with_reducible first | exact HB.out | apply below_alloc | apply pw_below_drewN | apply below_drew1 | refine below_set ?_ GE551.out | refine below_set ?_ GE562.out | refine below_set ?_ GE567.out | refine below_set ?_ GE573.out | refine below_set ?_ GE595.out) | exact HB.out)⟩
               ·
                rw [if_neg c156] at H
                have c156b0 : (t597 == t583) = false := beq_eq_false_iff_ne.mpr c156
                have c156b1 : (t597 != t583) = true := bne_iff_ne.mpr c156
                obtain rfl := Option.some.inj H
                have hnb163 := NB573_551.out
                have hnc163 := NB551_573.out
                have hnb164 := NB573_562.out
                have hnc164 := NB562_573.out
                have hnb165 := NB573_567.out
                have hnc165 := NB567_573.out
                have hnb166 := NB573_595.out
                have hnc166 := NB595_573.out
                have hcz167_0 : wc.cell? ⟨gb573, 0, none⟩ = some (.int .i64 t568) := (blk_cell BK573.out 0).trans rfl
                have hcz167_1 : wc.cell? ⟨gb573, 1, none⟩ = some (.slice Ao37 t584.length co37) := (blk_cell BK573.out 1).trans rfl
                have hfz167_0 := blk_frozen BK573.out 0
                have hfz167_1 := blk_frozen BK573.out 1
                go_wp2_with (first | ((with_reducible refine gate_callee (f := 38) rfl ?_); refine goesL_ (some 95) rfl rfl Try.func38 q35_53 rfl #[.agg #[.int .i64 t568, .slice Ao37 t584.length co37], .int .i64 1] rfl q35_35 ?_; (with_reducible refine (laws_heldContext.calls kj103 t568 _ _ t584 1 t597 _ ?side1 ?side2 A148.out).mono ?_); (case side1 => exact q35_31); (case side2 => exact (Kd.R_reads' HO_574001.out).2.1); rintro e w168 ⟨rfl, hb⟩; refine ⟨_, rfl, ?_⟩; have n0_ := Aside0.mk (Kd.R_below q35_42 hb); have n1_ := Aside0.mk (Kd.R_below q35_43 hb); have n2_ := Aside0.mk (Kd.R_below q35_44 hb); have n3_ := Aside0.mk (Kd.R_below q35_45 hb); have n4_ := Aside0.mk (blk_below (g := gb551) (o := .cells #[.int .i64 a0_0, .slice A0_1 l0_1.length c0_1] 24 (0, 0)) q35_37 hb); have n5_ := Aside0.mk (blk_below (g := gb562) (o := .cells #[.int .i64 t557, .slice Ao23 t558.length co23] 27 (0, 0)) q35_38 hb); have n6_ := Aside0.mk (blk_below (g := gb567) (o := .cells #[.int .i64 t563, .slice Ao30 t581.length co30] 27 (0, 0)) q35_39 hb); have n7_ := Aside0.mk (blk_below (g := gb573) (o := .cells #[.int .i64 t568, .slice Ao37 t584.length co37] 27 (0, 0)) q35_40 hb); have n8_ := Aside0.mk (blk_below (g := gb595) (o := .cells #[.int .i64 t590, .slice Ao124 t591.length co124] 27 (0, 0)) q35_41 hb); have n9_ := Aside0.mk (below_step q35_24 hb); clear HO_563001; clear HO_568001; clear HO_574001; clear HO_596001; clear BK551; clear BK562; clear BK567; clear BK573; clear BK595; clear HB; have HO_563001 := n0_; have HO_568001 := n1_; have HO_574001 := n2_; have HO_596001 := n3_; have BK551 := n4_; have BK562 := n5_; have BK567 := n6_; have BK573 := n7_; have BK595 := n8_; have HB := n9_; clear n0_ n1_ n2_ n3_ n4_ n5_ n6_ n7_ n8_ n9_; (try clear hb); (try clear hb2); (try clear hk); (try clear hi)))
                go_ret
                exact ⟨by first | rfl | (simp [errW_none, errW_some] <;> rfl) | (simp [*, errW_none, errW_some] <;> rfl), by repeat (first | (with_reducible first | exact HB.out | apply below_alloc | apply pw_below_drewN | apply below_drew1 | refine below_set ?_ GE551.out | refine below_set ?_ GE562.out | refine below_set ?_ GE567.out | refine below_set ?_ GE573.out | refine below_set ?_ GE595.out) | exact HB.out)⟩
          ·
           rw [if_neg c101] at H
           have c101b0 : (t585 == t583) = false := beq_eq_false_iff_ne.mpr c101
           have c101b1 : (t585 != t583) = true := bne_iff_ne.mpr c101
           obtain rfl := Option.some.inj H
           have hnb169 := NB573_551.out
           have hnc169 := NB551_573.out
           have hnb170 := NB573_562.out
           have hnc170 := NB562_573.out
           have hnb171 := NB573_567.out
           have hnc171 := NB567_573.out
           have hcz172_0 : wc.cell? ⟨gb573, 0, none⟩ = some (.int .i64 t568) := (blk_cell BK573.out 0).trans rfl
           have hcz172_1 : wc.cell? ⟨gb573, 1, none⟩ = some (.slice Ao37 t569.length co37) := (blk_cell BK573.out 1).trans rfl
           have hfz172_0 := blk_frozen BK573.out 0
           have hfz172_1 := blk_frozen BK573.out 1
           go_wp2_with (first | ((with_reducible refine gate_callee (f := 37) rfl ?_); refine goesL_ (some 68) rfl rfl Try.func37 q35_53 rfl #[.agg #[.int .i64 t568, .slice Ao37 t569.length co37], .int .i64 1] rfl q35_35 ?_; (with_reducible refine (laws_markContext.calls kj60 t568 (fun k_ => some k_ = (.slice Ao37 t569.length co37 : Value).ownBlock) (.slice Ao37 t569.length co37) t569 1 t583 t584 w _ ?side1 ?side2 A91.out).mono ?_); (case side1 => exact q35_25); (case side2 => exact Kd.R_tight rfl HO_574001.out); rintro e w173 ⟨rfl, hy0, hb, hkp⟩; refine ⟨_, rfl, ?_⟩; have n0_ := Aside0.mk (Kd.R_mono (ok' := fun k_ => some k_ ≠ (.slice Ao30 t581.length co30 : Value).ownBlock ∧ some k_ ≠ (.slice Ao37 t569.length co37 : Value).ownBlock) (Kd.R_keptB (HO_563001.out) hkp (fun k_ hk_ hs_ => (hk_.2) hs_)) (fun k_ hk_ => ⟨hk_.1.1, hk_.1.2⟩)); have n1_ := Aside0.mk (Kd.R_mono (ok' := fun k_ => some k_ ≠ (.slice Ao23 t558.length co23 : Value).ownBlock ∧ some k_ ≠ (.slice Ao37 t569.length co37 : Value).ownBlock) (Kd.R_keptB (HO_568001.out) hkp (fun k_ hk_ hs_ => (hk_.2) hs_)) (fun k_ hk_ => ⟨hk_.1.1, hk_.1.2⟩)); have n2_ := Aside0.mk (Kd.R_reok rfl hy0 (fun k_ e_ => HO_574001.out.1 k_ e_)); have n3_ := Aside0.mk (blk_kept q35_37 hkp (fun hs_ => (fun e_ => (Kd.R_ne HO_574001.out BK551.out (by decide)) e_) hs_)); have n4_ := Aside0.mk (blk_kept q35_38 hkp (fun hs_ => (fun e_ => (Kd.R_ne HO_574001.out BK562.out (by decide)) e_) hs_)); have n5_ := Aside0.mk (blk_kept q35_39 hkp (fun hs_ => (fun e_ => (Kd.R_ne HO_574001.out BK567.out (by decide)) e_) hs_)); have n6_ := Aside0.mk (blk_kept q35_40 hkp (fun hs_ => (fun e_ => (Kd.R_ne HO_574001.out BK573.out (by decide)) e_) hs_)); have n7_ := Aside0.mk (hb); clear HO_563001; clear HO_568001; clear HO_574001; clear BK551; clear BK562; clear BK567; clear BK573; clear HB; have HO_563001 := n0_; have HO_568001 := n1_; have HO_574001 := n2_; have BK551 := n3_; have BK562 := n4_; have BK567 := n5_; have BK573 := n6_; have HB := n7_; clear n0_ n1_ n2_ n3_ n4_ n5_ n6_ n7_; (try clear hb); (try clear hkp); (try clear hy0); have hcz174_0 : w173.cell? ⟨gb573, 0, none⟩ = some (.int .i64 t568) := (blk_cell BK573.out 0).trans rfl; have hcz174_1 : w173.cell? ⟨gb573, 1, none⟩ = some (.slice Ao37 t569.length co37) := (blk_cell BK573.out 1).trans rfl; have hfz174_0 := blk_frozen BK573.out 0; have hfz174_1 := blk_frozen BK573.out 1) | ((with_reducible refine gate_callee (f := 38) rfl ?_); refine goesL_ (some 71) rfl rfl Try.func38 q35_53 rfl #[.agg #[.int .i64 t568, .slice Ao37 t584.length co37], .int .i64 1] rfl q35_27 ?_; (with_reducible refine (laws_heldContext.calls kj60 t568 _ _ t584 1 t585 _ ?side1 ?side2 A92.out).mono ?_); (case side1 => exact q35_31); (case side2 => rw [show t584.length = t569.length from (Kd.R_reads' HO_574001.out).1.symm]; exact (Kd.R_reads' HO_574001.out).2.1); rintro e w175 ⟨rfl, hb⟩; refine ⟨_, rfl, ?_⟩; have n0_ := Aside0.mk (Kd.R_below q35_42 hb); have n1_ := Aside0.mk (Kd.R_below q35_43 hb); have n2_ := Aside0.mk (Kd.R_below q35_44 hb); have n3_ := Aside0.mk (blk_below (g := gb551) (o := .cells #[.int .i64 a0_0, .slice A0_1 l0_1.length c0_1] 24 (0, 0)) q35_37 hb); have n4_ := Aside0.mk (blk_below (g := gb562) (o := .cells #[.int .i64 t557, .slice Ao23 t558.length co23] 27 (0, 0)) q35_38 hb); have n5_ := Aside0.mk (blk_below (g := gb567) (o := .cells #[.int .i64 t563, .slice Ao30 t581.length co30] 27 (0, 0)) q35_39 hb); have n6_ := Aside0.mk (blk_below (g := gb573) (o := .cells #[.int .i64 t568, .slice Ao37 t569.length co37] 27 (0, 0)) q35_40 hb); have n7_ := Aside0.mk (below_step q35_25 hb); clear HO_563001; clear HO_568001; clear HO_574001; clear BK551; clear BK562; clear BK567; clear BK573; clear HB; have HO_563001 := n0_; have HO_568001 := n1_; have HO_574001 := n2_; have BK551 := n3_; have BK562 := n4_; have BK567 := n5_; have BK573 := n6_; have HB := n7_; clear n0_ n1_ n2_ n3_ n4_ n5_ n6_ n7_; (try clear hb); (try clear hb2); (try clear hk); (try clear hi)))
           go_ret
           exact ⟨by first | rfl | (simp [errW_none, errW_some] <;> rfl) | (simp [*, errW_none, errW_some] <;> rfl), by repeat (first | (with_reducible first | exact HB.out | apply below_alloc | apply pw_below_drewN | apply below_drew1 | refine below_set ?_ GE551.out | refine below_set ?_ GE562.out | refine below_set ?_ GE567.out | refine below_set ?_ GE573.out) | exact HB.out)⟩
     ·
      replace c59 := Bool.eq_false_iff.mpr c59
      subst c59
      have H1 : (some false) = some r := q35_51
      clear H
      have H := H1
      clear H1
      obtain rfl := Option.some.inj H
      try go_wp2
      have n0_ := Aside0.mk (Kd.R_drew HO_563001.out)
      have n1_ := Aside0.mk (Kd.R_drew HO_568001.out)
      have n2_ := Aside0.mk (Kd.R_drew HO_574001.out)
      have n3_ := Aside0.mk (blk_drew BK551.out)
      have n4_ := Aside0.mk (blk_drew BK562.out)
      have n5_ := Aside0.mk (blk_drew BK567.out)
      have n6_ := Aside0.mk (blk_drew BK573.out)
      have n7_ := Aside0.mk (below_drew1 HB.out)
      clear HO_563001
      clear HO_568001
      clear HO_574001
      clear BK551
      clear BK562
      clear BK567
      clear BK573
      clear HB
      have HO_563001 := n0_
      have HO_568001 := n1_
      have HO_574001 := n2_
      have BK551 := n3_
      have BK562 := n4_
      have BK567 := n5_
      have BK573 := n6_
      have HB := n7_
      clear n0_ n1_ n2_ n3_ n4_ n5_ n6_ n7_
      refine start_ (n := 5) (S := fun w' => w'.cell? ⟨gb567, 0, none⟩ = some (.int .i64 t563) ∧ w'.cell? ⟨gb567, 1, none⟩ = some (.slice Ao30 t564.length co30) ∧ w'.cell? ⟨gb551, 0, none⟩ = some (.int .i64 a0_0) ∧ w'.cell? ⟨gb551, 1, none⟩ = some (.slice A0_1 l0_1.length c0_1)) (ds := []) #[false, false, false, false, false] q35_53 rfl rfl ⟨(blk_cell BK567.out 0).trans rfl, (blk_cell BK567.out 1).trans rfl, (blk_cell BK551.out 0).trans rfl, (blk_cell BK551.out 1).trans rfl⟩ (fun hHeld => ?_)
      generalize wc.drew = w176 at HO_563001 HO_568001 HO_574001 BK551 BK562 BK567 BK573 HB hHeld ⊢
      refine take_ (i := 0) (N := some 45) (v := ?_) (a' := ?_) #[true, false, false, false, false] rfl rfl q35_53 (fun _ _ _ h => h) (Or.inl ⟨by rfl, ?_⟩) hHeld ?_ ?_
      rotate_left
      ·
       rintro w' ⟨s0, s1, s2, s3⟩
       go_simp
       with_reducible rfl
      rotate_left
      ·
       exact put35_
      refine take_ (i := 1) (N := some 46) (v := ?_) (a' := ?_) #[true, true, false, false, false] rfl rfl q35_53 (fun _ _ _ h => h) (Or.inl ⟨by rfl, ?_⟩) hHeld ?_ ?_
      rotate_left
      ·
       rintro w' ⟨s0, s1, s2, s3⟩
       go_simp
       with_reducible rfl
      rotate_left
      ·
       exact put35_
      refine one_ (i := 2) (N := some 47) #[true, true, true, false, false] rfl rfl q35_53 (by decide) (fun K hK => ?_)
      refine goes_ Try.func17 q35_53 rfl #[.agg #[.int .i64 a0_0, .slice A0_1 l0_1.length c0_1]] (by rfl) rfl rfl q35_35 ?_
      with_reducible refine (laws_toContext.calls kj11 a0_0 _ _ l0_1 t575 t576 _ ?side1 ?side2 A57.out).mono ?_
      (case side1 => exact q35_32)
      (case side2 => exact HC0_1.out)
      rintro e w177 ⟨v577, rfl, ho0, hb⟩
      refine ⟨_, rfl, ?_⟩
      have n0_ := Aside0.mk (Kd.R_elder' q35_42 (Kd.R_base ho0) hb)
      have n1_ := Aside0.mk (Kd.R_elder' q35_43 (Kd.R_base ho0) hb)
      have n2_ := Aside0.mk (Kd.R_elder' q35_44 (Kd.R_base ho0) hb)
      have n3_ := Aside0.mk (Kd.R_lower (Kd.R_new' (Kd.R_new' (Kd.R_new' ho0 (Kd.R_lt q35_42)) (Kd.R_lt q35_43)) (Kd.R_lt q35_44)) (below_size q35_25))
      have n4_ := Aside0.mk (blk_below (g := gb551) (o := .cells #[.int .i64 a0_0, .slice A0_1 l0_1.length c0_1] 24 (0, 0)) q35_37 hb)
      have n5_ := Aside0.mk (blk_below (g := gb562) (o := .cells #[.int .i64 t557, .slice Ao23 t558.length co23] 27 (0, 0)) q35_38 hb)
      have n6_ := Aside0.mk (blk_below (g := gb567) (o := .cells #[.int .i64 t563, .slice Ao30 t564.length co30] 27 (0, 0)) q35_39 hb)
      have n7_ := Aside0.mk (blk_below (g := gb573) (o := .cells #[.int .i64 t568, .slice Ao37 t569.length co37] 27 (0, 0)) q35_40 hb)
      have n8_ := Aside0.mk (below_step q35_25 hb)
      clear HO_563001
      clear HO_568001
      clear HO_574001
      clear BK551
      clear BK562
      clear BK567
      clear BK573
      clear HB
      have HO_563001 := n0_
      have HO_568001 := n1_
      have HO_574001 := n2_
      have HO578 := n3_
      have BK551 := n4_
      have BK562 := n5_
      have BK567 := n6_
      have BK573 := n7_
      have HB := n8_
      clear n0_ n1_ n2_ n3_ n4_ n5_ n6_ n7_ n8_
      (try clear hb)
      (try clear hb2)
      (try clear hk)
      (try clear hi)
      (try clear ho0)
      obtain ⟨Ao178, co178, eo178⟩ := Kd.R_slice HO578.out
      (first | subst eo178 | (injection eo178 with f1_ f2_ f3_; have f4_ := f1_.symm; have f5_ := f3_.symm; clear f1_ f2_ f3_; subst f4_; subst f5_))
      refine hK.out _ _ ⟨(blk_cell BK567.out 0).trans rfl, (blk_cell BK567.out 1).trans rfl, (blk_cell BK551.out 0).trans rfl, (blk_cell BK551.out 1).trans rfl⟩ (fun hHeld => ?_)
      clear hK K
      refine norm_ (a' := ?_) ?_ ?_
      rotate_left
      ·
       show Act.put _ (some 47) _ = _
       exact put35_
      refine one_ (i := 3) (N := some 48) #[true, true, true, true, false] rfl rfl q35_53 (by decide) (fun K hK => ?_)
      refine goes_ Try.func19 q35_53 rfl #[.agg #[.int .i64 t563, .slice Ao30 t564.length co30], .agg #[.int .i64 t575, .slice Ao178 t576.length co178]] (by rfl) rfl rfl q35_35 ?_
      with_reducible refine (laws_eqContext.calls kj11 t563 _ _ t564 t575 _ _ t576 false _ ?side1 ?side2 ?side3 ?side4 A58.out).mono ?_
      (case side1 => exact q35_30)
      (case side2 => exact (Kd.R_reads' HO_568001.out).2.1)
      (case side3 => exact q35_33)
      (case side4 => exact (Kd.R_reads' HO578.out).2.1)
      rintro e w179 ⟨rfl, hb⟩
      refine ⟨_, rfl, ?_⟩
      have n0_ := Aside0.mk (Kd.R_below q35_42 hb)
      have n1_ := Aside0.mk (Kd.R_below q35_43 hb)
      have n2_ := Aside0.mk (Kd.R_below q35_44 hb)
      have n3_ := Aside0.mk (Kd.R_below q35_48 hb)
      have n4_ := Aside0.mk (blk_below (g := gb551) (o := .cells #[.int .i64 a0_0, .slice A0_1 l0_1.length c0_1] 24 (0, 0)) q35_37 hb)
      have n5_ := Aside0.mk (blk_below (g := gb562) (o := .cells #[.int .i64 t557, .slice Ao23 t558.length co23] 27 (0, 0)) q35_38 hb)
      have n6_ := Aside0.mk (blk_below (g := gb567) (o := .cells #[.int .i64 t563, .slice Ao30 t564.length co30] 27 (0, 0)) q35_39 hb)
      have n7_ := Aside0.mk (blk_below (g := gb573) (o := .cells #[.int .i64 t568, .slice Ao37 t569.length co37] 27 (0, 0)) q35_40 hb)
      have n8_ := Aside0.mk (below_step q35_25 hb)
      clear HO_563001
      clear HO_568001
      clear HO_574001
      clear HO578
      clear BK551
      clear BK562
      clear BK567
      clear BK573
      clear HB
      have HO_563001 := n0_
      have HO_568001 := n1_
      have HO_574001 := n2_
      have HO578 := n3_
      have BK551 := n4_
      have BK562 := n5_
      have BK567 := n6_
      have BK573 := n7_
      have HB := n8_
      clear n0_ n1_ n2_ n3_ n4_ n5_ n6_ n7_ n8_
      (try clear hb)
      (try clear hb2)
      (try clear hk)
      (try clear hi)
      refine hK.out _ _ ⟨(blk_cell BK567.out 0).trans rfl, (blk_cell BK567.out 1).trans rfl, (blk_cell BK551.out 0).trans rfl, (blk_cell BK551.out 1).trans rfl⟩ (fun hHeld => ?_)
      clear hK K
      refine norm_ (a' := ?_) ?_ ?_
      rotate_left
      ·
       show Act.put _ (some 48) _ = _
       exact put35_
      refine pure_ (i := 4) (N := some 49) (v := ?_) (a' := ?_) #[true, true, true, true, true] rfl rfl q35_53 (fun _ _ _ h => h) (Or.inl ⟨by rfl, ?_⟩) ?_ ?_
      rotate_left
      ·
       intro w'
       go_simp
       with_reducible rfl
      rotate_left
      ·
       exact put35_
      refine done_ q35_53 ?_
      try go_wp2
      go_ret
      exact ⟨by first | rfl | (simp [errW_none, errW_some] <;> rfl) | (simp [*, errW_none, errW_some] <;> rfl), by repeat (first | (with_reducible first | exact HB.out | apply below_alloc | apply pw_below_drewN | apply below_drew1 | refine below_set ?_ GE551.out | refine below_set ?_ GE562.out | refine below_set ?_ GE567.out | refine below_set ?_ GE573.out) | exact HB.out)⟩
end Go.Proofs.Ytemhlblajnlogaa.Pr
