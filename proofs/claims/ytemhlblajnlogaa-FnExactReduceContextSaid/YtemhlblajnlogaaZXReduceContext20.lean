/- What the law needs of the program's functions as plain functions, of the proofs that their calls answer so, and of plain laws: gathered by a program of this place (pack.py) out of its printed texts. No condition beyond what each statement says. -/
import Derived.Test.YtemhlblajnlogaaZXReduceContext2
import Derived.Test.YtemhlblajnlogaaZXReduceContext3
import Derived.Test.YtemhlblajnlogaaZXReduceContext4
import Derived.Test.YtemhlblajnlogaaZXReduceContext10
import Derived.Test.YtemhlblajnlogaaZXReduceContext19
namespace Go.Proofs.Ytemhlblajnlogaa.Pr
open Go.RowKit Go.Proofs.YtemhlblajnlogaaW.PrintWords Go.Proofs.YtemhlblajnlogaaW.PrintLast Go.Proofs.YtemhlblajnlogaaW.PrintMore
attribute [local go_sem] max2_int min2_int max_two min_two max_three min_three max_four min_four   -- for this text's walks alone
set_option linter.unusedVariables false
set_option linter.unusedSimpArgs false
theorem put45_ {P : Prop} (h : P := by simp only [Act.put, List.setIfInBounds_toArray, List.set_cons_zero, List.set_cons_succ, i64_w, i32_w]; rfl) : P := h
theorem q45_1 {P : Prop} (h : P := by (with_reducible repeat (first | refine blk_drewN ?_ _ | refine blk_drew ?_ | refine blk_alloc ?_ _)); refine blk_put (cs := #[.int .i64 t742, .slice none 0 0]) ?_ 1 _ rfl; (with_reducible repeat (first | refine blk_drewN ?_ _ | refine blk_drew ?_ | refine blk_alloc ?_ _)); refine blk_put (cs := #[.int .i64 0, .slice none 0 0]) ?_ 0 _ rfl; (with_reducible repeat (first | refine blk_drewN ?_ _ | refine blk_drew ?_ | refine blk_alloc ?_ _)); exact BK747.out) : P := h
theorem q45_2 {P : Prop} (h : P := by (with_reducible repeat (first | refine blk_drewN ?_ _ | refine blk_drew ?_ | refine blk_alloc ?_ _)); refine blk_put (cs := #[.int .i64 t764, .slice none 0 0]) ?_ 1 _ rfl; (with_reducible repeat (first | refine blk_drewN ?_ _ | refine blk_drew ?_ | refine blk_alloc ?_ _)); refine blk_put (cs := #[.int .i64 0, .slice none 0 0]) ?_ 0 _ rfl; (with_reducible repeat (first | refine blk_drewN ?_ _ | refine blk_drew ?_ | refine blk_alloc ?_ _)); exact BK769.out) : P := h
theorem q45_3 {P : Prop} (h : P := by (with_reducible repeat (first | refine blk_drewN ?_ _ | refine blk_drew ?_ | refine blk_alloc ?_ _)); refine blk_far ?_ NB725_747.out _; (with_reducible repeat (first | refine blk_drewN ?_ _ | refine blk_drew ?_ | refine blk_alloc ?_ _)); refine blk_far ?_ NB725_747.out _; (with_reducible repeat (first | refine blk_drewN ?_ _ | refine blk_drew ?_ | refine blk_alloc ?_ _)); exact BK725.out) : P := h
theorem q45_4 {P : Prop} (h : P := by (with_reducible repeat (first | refine blk_drewN ?_ _ | refine blk_drew ?_ | refine blk_alloc ?_ _)); refine blk_far ?_ NB725_769.out _; (with_reducible repeat (first | refine blk_drewN ?_ _ | refine blk_drew ?_ | refine blk_alloc ?_ _)); refine blk_far ?_ NB725_769.out _; (with_reducible repeat (first | refine blk_drewN ?_ _ | refine blk_drew ?_ | refine blk_alloc ?_ _)); exact BK725.out) : P := h
theorem q45_5 {P : Prop} (h : P := by (with_reducible repeat (first | refine blk_drewN ?_ _ | refine blk_drew ?_ | refine blk_alloc ?_ _)); refine blk_far ?_ NB736_747.out _; (with_reducible repeat (first | refine blk_drewN ?_ _ | refine blk_drew ?_ | refine blk_alloc ?_ _)); refine blk_far ?_ NB736_747.out _; (with_reducible repeat (first | refine blk_drewN ?_ _ | refine blk_drew ?_ | refine blk_alloc ?_ _)); exact BK736.out) : P := h
theorem q45_6 {P : Prop} (h : P := by (with_reducible repeat (first | refine blk_drewN ?_ _ | refine blk_drew ?_ | refine blk_alloc ?_ _)); refine blk_far ?_ NB736_769.out _; (with_reducible repeat (first | refine blk_drewN ?_ _ | refine blk_drew ?_ | refine blk_alloc ?_ _)); refine blk_far ?_ NB736_769.out _; (with_reducible repeat (first | refine blk_drewN ?_ _ | refine blk_drew ?_ | refine blk_alloc ?_ _)); exact BK736.out) : P := h
theorem q45_7 {P : Prop} (h : P := by (with_reducible repeat (first | refine blk_drewN ?_ _ | refine blk_drew ?_ | refine blk_alloc ?_ _)); refine blk_far ?_ NB741_747.out _; (with_reducible repeat (first | refine blk_drewN ?_ _ | refine blk_drew ?_ | refine blk_alloc ?_ _)); refine blk_far ?_ NB741_747.out _; (with_reducible repeat (first | refine blk_drewN ?_ _ | refine blk_drew ?_ | refine blk_alloc ?_ _)); exact BK741.out) : P := h
theorem q45_8 {P : Prop} (h : P := by (with_reducible repeat (first | refine blk_drewN ?_ _ | refine blk_drew ?_ | refine blk_alloc ?_ _)); refine blk_far ?_ NB741_769.out _; (with_reducible repeat (first | refine blk_drewN ?_ _ | refine blk_drew ?_ | refine blk_alloc ?_ _)); refine blk_far ?_ NB741_769.out _; (with_reducible repeat (first | refine blk_drewN ?_ _ | refine blk_drew ?_ | refine blk_alloc ?_ _)); exact BK741.out) : P := h
theorem q45_9 {P : Prop} (h : P := by (with_reducible repeat (first | refine blk_drewN ?_ _ | refine blk_drew ?_ | refine blk_alloc ?_ _)); refine blk_far ?_ NB747_769.out _; (with_reducible repeat (first | refine blk_drewN ?_ _ | refine blk_drew ?_ | refine blk_alloc ?_ _)); refine blk_far ?_ NB747_769.out _; (with_reducible repeat (first | refine blk_drewN ?_ _ | refine blk_drew ?_ | refine blk_alloc ?_ _)); exact BK747.out) : P := h
theorem q45_10 {P : Prop} (h : P := by (with_reducible repeat (first | apply Kd.R_alloc | apply Kd.R_drewN | apply Kd.R_drew)); exact (Kd.R_mono (Kd.R_far (p := ⟨gb769, 1, none⟩) (Kd.R_far (p := ⟨gb769, 0, none⟩) (Kd.R_types HO_737001.out BK769.out (by decide)) (fun _ hk => hk.2) (.int .i64 t764)) (fun _ hk => hk.2) (.slice Ao116 t765.length co116)) (fun _ h_ => h_.1))) : P := h
theorem q45_11 {P : Prop} (h : P := by (with_reducible repeat (first | apply Kd.R_alloc | apply Kd.R_drewN | apply Kd.R_drew)); exact (Kd.R_mono (Kd.R_far (p := ⟨gb769, 1, none⟩) (Kd.R_far (p := ⟨gb769, 0, none⟩) (Kd.R_types HO_742001.out BK769.out (by decide)) (fun _ hk => hk.2) (.int .i64 t764)) (fun _ hk => hk.2) (.slice Ao116 t765.length co116)) (fun _ h_ => h_.1))) : P := h
theorem q45_12 {P : Prop} (h : P := by (with_reducible repeat (first | apply Kd.R_alloc | apply Kd.R_drewN | apply Kd.R_drew)); exact (Kd.R_mono (Kd.R_far (p := ⟨gb769, 1, none⟩) (Kd.R_far (p := ⟨gb769, 0, none⟩) (Kd.R_types HO_748001.out BK769.out (by decide)) (fun _ hk => hk.2) (.int .i64 t764)) (fun _ hk => hk.2) (.slice Ao116 t765.length co116)) (fun _ h_ => h_.1))) : P := h
theorem q45_13 {P : Prop} (h : P := by (with_reducible repeat (first | apply Kd.R_alloc | apply Kd.R_drewN | apply Kd.R_drew)); exact (Kd.R_mono (Kd.R_far (p := ⟨gb769, 1, none⟩) (Kd.R_far (p := ⟨gb769, 0, none⟩) (Kd.R_types HO763.out BK769.out (by decide)) (fun _ hk => hk.2) (.int .i64 t764)) (fun _ hk => hk.2) (.slice Ao116 t765.length co116)) (fun _ h_ => h_.1))) : P := h
theorem q45_14 {P : Prop} (h : P := by (with_reducible repeat (first | apply Kd.R_alloc | apply Kd.R_drewN | apply Kd.R_drew)); exact (Kd.R_mono (Kd.R_far (p := ⟨gb769, 1, none⟩) (Kd.R_far (p := ⟨gb769, 0, none⟩) (Kd.R_types HO767.out BK769.out (by decide)) (fun _ hk => hk.2) (.int .i64 t764)) (fun _ hk => hk.2) (.slice Ao116 t765.length co116)) (fun _ h_ => h_.1))) : P := h
theorem q45_15 {P : Prop} (h : P := by (with_reducible repeat (first | apply Kd.R_alloc | apply Kd.R_drewN | apply Kd.R_drew)); exact (Kd.R_mono (Kd.R_far (p := ⟨gb736, 1, none⟩) (Kd.R_far (p := ⟨gb736, 0, none⟩) (Kd.R_types HO730.out BK736.out (by decide)) (fun _ hk => hk.2) (.int .i64 t731)) (fun _ hk => hk.2) (.slice Ao22 t732.length co22)) (fun _ h_ => h_.1))) : P := h
theorem q45_16 {P : Prop} (h : P := by (with_reducible repeat (first | apply Kd.R_alloc | apply Kd.R_drewN | apply Kd.R_drew)); exact (Kd.R_mono (Kd.R_far (p := ⟨gb736, 1, none⟩) (Kd.R_far (p := ⟨gb736, 0, none⟩) (Kd.R_types HO734.out BK736.out (by decide)) (fun _ hk => hk.2) (.int .i64 t731)) (fun _ hk => hk.2) (.slice Ao22 t732.length co22)) (fun _ h_ => h_.1))) : P := h
theorem q45_17 {P : Prop} (h : P := by (with_reducible repeat (first | apply Kd.R_alloc | apply Kd.R_drewN | apply Kd.R_drew)); exact (Kd.R_mono (Kd.R_far (p := ⟨gb741, 1, none⟩) (Kd.R_far (p := ⟨gb741, 0, none⟩) (Kd.R_types HO730.out BK741.out (by decide)) (fun _ hk => hk.2) (.int .i64 t737)) (fun _ hk => hk.2) (.slice Ao29 t738.length co29)) (fun _ h_ => h_.1))) : P := h
theorem q45_18 {P : Prop} (h : P := by (with_reducible repeat (first | apply Kd.R_alloc | apply Kd.R_drewN | apply Kd.R_drew)); exact (Kd.R_mono (Kd.R_far (p := ⟨gb741, 1, none⟩) (Kd.R_far (p := ⟨gb741, 0, none⟩) (Kd.R_types HO734.out BK741.out (by decide)) (fun _ hk => hk.2) (.int .i64 t737)) (fun _ hk => hk.2) (.slice Ao29 t738.length co29)) (fun _ h_ => h_.1))) : P := h
theorem q45_19 {P : Prop} (h : P := by (with_reducible repeat (first | apply Kd.R_alloc | apply Kd.R_drewN | apply Kd.R_drew)); exact (Kd.R_mono (Kd.R_far (p := ⟨gb741, 1, none⟩) (Kd.R_far (p := ⟨gb741, 0, none⟩) (Kd.R_types HO740.out BK741.out (by decide)) (fun _ hk => hk.2) (.int .i64 t737)) (fun _ hk => hk.2) (.slice Ao29 t738.length co29)) (fun _ h_ => h_.1))) : P := h
theorem q45_20 {P : Prop} (h : P := by (with_reducible repeat (first | apply Kd.R_alloc | apply Kd.R_drewN | apply Kd.R_drew)); exact (Kd.R_mono (Kd.R_far (p := ⟨gb747, 1, none⟩) (Kd.R_far (p := ⟨gb747, 0, none⟩) (Kd.R_types HO730.out BK747.out (by decide)) (fun _ hk => hk.2) (.int .i64 t742)) (fun _ hk => hk.2) (.slice Ao36 t743.length co36)) (fun _ h_ => h_.1))) : P := h
theorem q45_21 {P : Prop} (h : P := by (with_reducible repeat (first | apply Kd.R_alloc | apply Kd.R_drewN | apply Kd.R_drew)); exact (Kd.R_mono (Kd.R_far (p := ⟨gb747, 1, none⟩) (Kd.R_far (p := ⟨gb747, 0, none⟩) (Kd.R_types HO734.out BK747.out (by decide)) (fun _ hk => hk.2) (.int .i64 t742)) (fun _ hk => hk.2) (.slice Ao36 t743.length co36)) (fun _ h_ => h_.1))) : P := h
theorem q45_22 {P : Prop} (h : P := by (with_reducible repeat (first | apply Kd.R_alloc | apply Kd.R_drewN | apply Kd.R_drew)); exact (Kd.R_mono (Kd.R_far (p := ⟨gb747, 1, none⟩) (Kd.R_far (p := ⟨gb747, 0, none⟩) (Kd.R_types HO740.out BK747.out (by decide)) (fun _ hk => hk.2) (.int .i64 t742)) (fun _ hk => hk.2) (.slice Ao36 t743.length co36)) (fun _ h_ => h_.1))) : P := h
theorem q45_23 {P : Prop} (h : P := by (with_reducible repeat (first | apply Kd.R_alloc | apply Kd.R_drewN | apply Kd.R_drew)); exact (Kd.R_mono (Kd.R_far (p := ⟨gb747, 1, none⟩) (Kd.R_far (p := ⟨gb747, 0, none⟩) (Kd.R_types HO745.out BK747.out (by decide)) (fun _ hk => hk.2) (.int .i64 t742)) (fun _ hk => hk.2) (.slice Ao36 t743.length co36)) (fun _ h_ => h_.1))) : P := h
theorem q45_24 {P : Prop} (h : P := by repeat (first | (with_reducible first | exact HB.out | apply below_alloc | apply pw_below_drewN | apply below_drew1 | refine below_set ?_ GE725.out | refine below_set ?_ GE736.out | refine below_set ?_ GE741.out | refine below_set ?_ GE747.out | refine below_set ?_ GE769.out) | exact HB.out)) : P := h
theorem q45_25 {P : Prop} (h : P := by repeat (first | (with_reducible first | exact HB.out | apply below_alloc | apply pw_below_drewN | apply below_drew1 | refine below_set ?_ GE725.out | refine below_set ?_ GE736.out | refine below_set ?_ GE741.out | refine below_set ?_ GE747.out) | exact HB.out)) : P := h
theorem q45_26 {P : Prop} (h : P := by repeat (first | (with_reducible first | exact HB.out | apply below_alloc | apply pw_below_drewN | apply below_drew1 | refine below_set ?_ GE725.out | refine below_set ?_ GE736.out | refine below_set ?_ GE741.out) | exact HB.out)) : P := h
theorem q45_27 {P : Prop} (h : P := by repeat (first | (with_reducible first | exact HB.out | apply below_alloc | apply pw_below_drewN | apply below_drew1 | refine below_set ?_ GE725.out | refine below_set ?_ GE736.out) | exact HB.out)) : P := h
theorem q45_28 {P : Prop} (h : P := by repeat (first | exact (Kd.R_reads' HO_737001.out).2.2 | (with_reducible refine Kd.C_alloc ?_ _) | (with_reducible refine Kd.C_drewN ?_ _) | (with_reducible refine Kd.C_drew ?_))) : P := h
theorem q45_29 {P : Prop} (h : P := by repeat (first | exact (Kd.R_reads' HO_748001.out).2.2 | (with_reducible refine Kd.C_alloc ?_ _) | (with_reducible refine Kd.C_drewN ?_ _) | (with_reducible refine Kd.C_drew ?_))) : P := h
theorem q45_30 {P : Prop} (h : P := by repeat (first | exact (Kd.C_below HR0_1.out HB.out) | (with_reducible refine Kd.C_alloc ?_ _) | (with_reducible refine Kd.C_drewN ?_ _) | (with_reducible refine Kd.C_drew ?_))) : P := h
theorem q45_31 {P : Prop} (h : P := by repeat (first | (with_reducible first | exact HB.out | apply below_alloc | apply pw_below_drewN | apply below_drew1 | refine below_set ?_ GE725.out) | exact HB.out)) : P := h
theorem q45_32 {P : Prop} (h : P := by (try simp only [List.map_toArray, List.map_cons, List.map_nil]); first | done | rfl | (simp only [List.length_drop, List.length_take]; rfl)) : P := h
theorem q45_33 {P : Prop} (h : P := by repeat (first | (with_reducible first | exact HB.out | apply below_alloc | apply pw_below_drewN | apply below_drew1) | exact HB.out)) : P := h
theorem q45_34 {P : Prop} (h : P := by (with_reducible repeat (first | refine blk_drewN ?_ _ | refine blk_drew ?_ | refine blk_alloc ?_ _)); exact BK725.out) : P := h
theorem q45_35 {P : Prop} (h : P := by (with_reducible repeat (first | refine blk_drewN ?_ _ | refine blk_drew ?_ | refine blk_alloc ?_ _)); exact BK736.out) : P := h
theorem q45_36 {P : Prop} (h : P := by (with_reducible repeat (first | refine blk_drewN ?_ _ | refine blk_drew ?_ | refine blk_alloc ?_ _)); exact BK741.out) : P := h
theorem q45_37 {P : Prop} (h : P := by (with_reducible repeat (first | refine blk_drewN ?_ _ | refine blk_drew ?_ | refine blk_alloc ?_ _)); exact BK747.out) : P := h
theorem q45_38 {P : Prop} (h : P := by (with_reducible repeat (first | apply Kd.R_alloc | apply Kd.R_drewN | apply Kd.R_drew)); exact HO_737001.out) : P := h
theorem q45_39 {P : Prop} (h : P := by (with_reducible repeat (first | apply Kd.R_alloc | apply Kd.R_drewN | apply Kd.R_drew)); exact HO_742001.out) : P := h
theorem q45_40 {P : Prop} (h : P := by (with_reducible repeat (first | apply Kd.R_alloc | apply Kd.R_drewN | apply Kd.R_drew)); exact HO_748001.out) : P := h
theorem q45_41 {P : Prop} (h : P := by (with_reducible repeat (first | apply Kd.R_alloc | apply Kd.R_drewN | apply Kd.R_drew)); exact HO730.out) : P := h
theorem q45_42 {P : Prop} (h : P := by (with_reducible repeat (first | apply Kd.R_alloc | apply Kd.R_drewN | apply Kd.R_drew)); exact HO734.out) : P := h
theorem q45_43 {P : Prop} (h : P := by (with_reducible repeat (first | apply Kd.R_alloc | apply Kd.R_drewN | apply Kd.R_drew)); exact HO752.out) : P := h
theorem q45_44 {P : Prop} (h : P := by (with_reducible repeat (first | apply Kd.R_alloc | apply Kd.R_drewN | apply Kd.R_drew)); exact HO763.out) : P := h
theorem q45_45 {P : Prop} (h : P := by first | rfl | (simp; done) | (simp [*]; done) | (simp [i64_w, i32_w]; done)) : P := h
theorem q45_46 {P : Prop} (h : P := by rw [if_neg (show ¬ (false = true) by decide)] at H; exact H) : P := h
theorem q45_47 {P : Prop} (h : P := by rw [if_pos rfl] at H; exact H) : P := h
theorem q45_48 {P : Prop} (h : P := by kernel_rfl) : P := h
mutual
def laws_FnExactReduceContext.j0 : Nat → Bool → Bool → Bool → Int → List Int → Int → List Int → Int → List Int → Int → List Int → Option (Bool)
 | 0, _, _, _, _, _, _, _, _, _, _, _ => none
 | k + 1, x5, x8, x40, x726000, x726001, x737000, x737001, x742000, x742001, x748000, x748001 => if x40 = true then (some false) else ((laws_toContext.f k x726000 x726001).bind fun bt749 => ((laws_eqContext.f k x742000 x742001 bt749.1 bt749.2).bind fun t753 => (if t753 = true then ((laws_markContext.f k x742000 x742001 1).bind fun bt754 => (if bt754.1 < 0 then (laws_FnExactReduceContext.j1 k x5 true x726000 x726001 x737000 x737001 x748000 x748001) else ((laws_eqContext.f k x748000 x748001 x737000 x737001).bind fun t756 => (if t756 = true then (laws_FnExactReduceContext.j1 k x5 (x8 != x5) x726000 x726001 x737000 x737001 x748000 x748001) else (laws_FnExactReduceContext.j1 k x5 true x726000 x726001 x737000 x737001 x748000 x748001))))) else (some false))))
def laws_FnExactReduceContext.j1 : Nat → Bool → Bool → Int → List Int → Int → List Int → Int → List Int → Option (Bool)
 | 0, _, _, _, _, _, _, _, _ => none
 | k + 1, x5, x61, x726000, x726001, x737000, x737001, x748000, x748001 => if x61 = true then (some false) else ((laws_markContext.f k x748000 x748001 1).bind fun bt757 => ((laws_heldContext.f k x748000 bt757.2 1).bind fun t759 => (if t759 < 0 then (some false) else (if t759 = bt757.1 then ((laws_toContext.f k x726000 x726001).bind fun bt760 => ((impl_ReduceContext.f k bt760.1 bt760.2).bind fun bt764 => ((laws_eqContext.f k bt764.1 bt764.2.1 x737000 x737001).bind fun t770 => (if t770 = true then (laws_FnExactReduceContext.j2 k bt757.1 (bt764.2.2 != x5) x748000 bt757.2) else (laws_FnExactReduceContext.j2 k bt757.1 true x748000 bt757.2))))) else (some false)))))
def laws_FnExactReduceContext.j2 : Nat → Int → Bool → Int → List Int → Option (Bool)
 | 0, _, _, _, _ => none
 | k + 1, x10, x87, x748000, x748001 => if x87 = true then (some false) else ((laws_heldContext.f k x748000 x748001 1).bind fun t771 => (if t771 < 0 then (some false) else (if t771 = x10 then (some true) else (some false))))
end
def laws_FnExactReduceContext.f (k : Nat) (a0_0 : Int) (l0_1 : List Int) : Option (Bool) := (laws_szContext.f a0_0 l0_1 1048576).bind fun t726 => (if t726 < 0 then (some true) else ((laws_toContext.f k a0_0 l0_1).bind fun bt727 => ((spec_ReduceContext.f k bt727.1 bt727.2).bind fun bt731 => ((laws_toContext.f k a0_0 l0_1).bind fun bt737 => ((impl_ReduceContext.f k bt737.1 bt737.2).bind fun bt742 => ((laws_eqContext.f k bt742.1 bt742.2.1 bt731.1 bt731.2.1).bind fun t748 => (if t748 = true then (laws_FnExactReduceContext.j0 k bt731.2.2 bt742.2.2 (bt742.2.2 != bt731.2.2) a0_0 l0_1 bt731.1 bt731.2.1 bt737.1 bt737.2 bt742.1 bt742.2.1) else (laws_FnExactReduceContext.j0 k bt731.2.2 bt742.2.2 true a0_0 l0_1 bt731.1 bt731.2.1 bt737.1 bt737.2 bt742.1 bt742.2.1))))))))
set_option maxHeartbeats 8000000 in
set_option maxRecDepth 100000 in
theorem laws_FnExactReduceContext.calls (k : Nat) (a0_0 : Int) (A0_1 : Option Addr) (c0_1 : Nat) (l0_1 : List Int) (r : Bool) (w : World) (hr0_1 : Kd.C (Kd.int .i64) w A0_1 l0_1.length l0_1) (hc0_1 : l0_1.length ≤ c0_1) (hrt : r = true) (h : laws_FnExactReduceContext.f k a0_0 l0_1 = some r) :
  Calls Try.prog 14 #[.agg #[.int .i64 a0_0, .slice A0_1 l0_1.length c0_1]] w fun e w' => e = .returned (.bool r) ∧ Below w.heap.size w w' := by
 have hu24 := Try.underlying24
 have hu27 := Try.underlying27
 have HR0_1 := Aside0.mk hr0_1
 have HC0_1 := Aside0.mk hc0_1
 clear hr0_1 hc0_1
 have HB := Aside0.mk (Below.refl w.heap.size w)
 have HRT := Aside0.mk hrt
 clear hrt
 have H : ((laws_szContext.f a0_0 l0_1 1048576).bind fun t726 => (if t726 < 0 then (some true) else ((laws_toContext.f k a0_0 l0_1).bind fun bt727 => ((spec_ReduceContext.f k bt727.1 bt727.2).bind fun bt731 => ((laws_toContext.f k a0_0 l0_1).bind fun bt737 => ((impl_ReduceContext.f k bt737.1 bt737.2).bind fun bt742 => ((laws_eqContext.f k bt742.1 bt742.2.1 bt731.1 bt731.2.1).bind fun t748 => (if t748 = true then (laws_FnExactReduceContext.j0 k bt731.2.2 bt742.2.2 (bt742.2.2 != bt731.2.2) a0_0 l0_1 bt731.1 bt731.2.1 bt737.1 bt737.2 bt742.1 bt742.2.1) else (laws_FnExactReduceContext.j0 k bt731.2.2 bt742.2.2 true a0_0 l0_1 bt731.1 bt731.2.1 bt737.1 bt737.2 bt742.1 bt742.2.1))))))))) = some r := h
 clear h
 replace H := Option.bind_eq_some_iff.mp H
 obtain ⟨t726, A20, H⟩ := H
 replace H : (if t726 < 0 then (some true) else ((laws_toContext.f k a0_0 l0_1).bind fun bt727 => ((spec_ReduceContext.f k bt727.1 bt727.2).bind fun bt731 => ((laws_toContext.f k a0_0 l0_1).bind fun bt737 => ((impl_ReduceContext.f k bt737.1 bt737.2).bind fun bt742 => ((laws_eqContext.f k bt742.1 bt742.2.1 bt731.1 bt731.2.1).bind fun t748 => (if t748 = true then (laws_FnExactReduceContext.j0 k bt731.2.2 bt742.2.2 (bt742.2.2 != bt731.2.2) a0_0 l0_1 bt731.1 bt731.2.1 bt737.1 bt737.2 bt742.1 bt742.2.1) else (laws_FnExactReduceContext.j0 k bt731.2.2 bt742.2.2 true a0_0 l0_1 bt731.1 bt731.2.1 bt737.1 bt737.2 bt742.1 bt742.2.1)))))))) = some r := H
 have A2 := Aside0.mk A20
 clear A20
 by_cases c3 : t726 < 0
 ·
  rw [if_pos c3] at H
  have c3b0 : decide (t726 < 0) = true := decide_eq_true c3
  clear c3
  obtain rfl := Option.some.inj H
  go_enter Try.func14, Try.ntmps14
  go_wp2_with (first | ((with_reducible refine gate_dst (N := 1) rfl ?_); refine box_event ?hg (N := 1) ?hd (cs := #[.int .i64 a0_0, .slice A0_1 l0_1.length c0_1]) (t := 24) ?hr ?_; (case hd => rfl); (case hg => rfl); (case hr => first | (go_simp; done) | (go_simp; rfl)); intro gb725 hg w4 hbox hb; have n0_ := Aside0.mk (below_step q45_33 hb); have n1_ := Aside0.mk (hbox); have n2_ := Aside0.mk ((by rw [hg]; exact (below_size q45_33) : w.heap.size ≤ gb725)); have n3_ := Aside0.mk ((by rw [hg]; exact (below_size q45_33) : w.heap.size ≤ gb725)); clear HB; have HB := n0_; have BK725 := n1_; have GW725 := n2_; have GE725 := n3_; clear n0_ n1_ n2_ n3_; clear hb hbox hg; have hcz5_0 : w4.cell? ⟨gb725, 0, none⟩ = some (.int .i64 a0_0) := (blk_cell BK725.out 0).trans rfl; have hcz5_1 : w4.cell? ⟨gb725, 1, none⟩ = some (.slice A0_1 l0_1.length c0_1) := (blk_cell BK725.out 1).trans rfl; have hfz5_0 := blk_frozen BK725.out 0; have hfz5_1 := blk_frozen BK725.out 1) | ((with_reducible refine gate_callee (f := 15) rfl ?_); refine goesL_ (some 16) rfl rfl Try.func15 q45_48 rfl #[.agg #[.int .i64 a0_0, .slice A0_1 l0_1.length c0_1], .int .i64 1048576] rfl q45_32 ?_; (with_reducible refine (laws_szContext.calls a0_0 _ _ l0_1 1048576 t726 _ ?side1 ?side2 A2.out).mono ?_); (case side1 => exact q45_30); (case side2 => exact HC0_1.out); rintro e w6 ⟨rfl, hb⟩; refine ⟨_, rfl, ?_⟩; have n0_ := Aside0.mk (blk_below (g := gb725) (o := .cells #[.int .i64 a0_0, .slice A0_1 l0_1.length c0_1] 24 (0, 0)) q45_34 hb); have n1_ := Aside0.mk (below_step q45_31 hb); clear BK725; clear HB; have BK725 := n0_; have HB := n1_; clear n0_ n1_; (try clear hb); (try clear hb2); (try clear hk); (try clear hi)))
  go_ret
  exact ⟨by first | rfl | (simp [errW_none, errW_some] <;> rfl) | (simp [*, errW_none, errW_some] <;> rfl), by repeat (first | (with_reducible first | exact HB.out | apply below_alloc | apply pw_below_drewN | apply below_drew1 | refine below_set ?_ GE725.out) | exact HB.out)⟩
 ·
  rw [if_neg c3] at H
  have c3b0 : decide (t726 < 0) = false := decide_eq_false c3
  clear c3
  replace H := Option.bind_eq_some_iff.mp H
  obtain ⟨⟨t727, t728⟩, A70, H⟩ := H
  replace H : ((spec_ReduceContext.f k t727 t728).bind fun bt731 => ((laws_toContext.f k a0_0 l0_1).bind fun bt737 => ((impl_ReduceContext.f k bt737.1 bt737.2).bind fun bt742 => ((laws_eqContext.f k bt742.1 bt742.2.1 bt731.1 bt731.2.1).bind fun t748 => (if t748 = true then (laws_FnExactReduceContext.j0 k bt731.2.2 bt742.2.2 (bt742.2.2 != bt731.2.2) a0_0 l0_1 bt731.1 bt731.2.1 bt737.1 bt737.2 bt742.1 bt742.2.1) else (laws_FnExactReduceContext.j0 k bt731.2.2 bt742.2.2 true a0_0 l0_1 bt731.1 bt731.2.1 bt737.1 bt737.2 bt742.1 bt742.2.1)))))) = some r := H
  have A7 := Aside0.mk A70
  clear A70
  replace H := Option.bind_eq_some_iff.mp H
  obtain ⟨⟨t731, t732, t735⟩, A80, H⟩ := H
  replace H : ((laws_toContext.f k a0_0 l0_1).bind fun bt737 => ((impl_ReduceContext.f k bt737.1 bt737.2).bind fun bt742 => ((laws_eqContext.f k bt742.1 bt742.2.1 t731 t732).bind fun t748 => (if t748 = true then (laws_FnExactReduceContext.j0 k t735 bt742.2.2 (bt742.2.2 != t735) a0_0 l0_1 t731 t732 bt737.1 bt737.2 bt742.1 bt742.2.1) else (laws_FnExactReduceContext.j0 k t735 bt742.2.2 true a0_0 l0_1 t731 t732 bt737.1 bt737.2 bt742.1 bt742.2.1))))) = some r := H
  have A8 := Aside0.mk A80
  clear A80
  replace H := Option.bind_eq_some_iff.mp H
  obtain ⟨⟨t737, t738⟩, A90, H⟩ := H
  replace H : ((impl_ReduceContext.f k t737 t738).bind fun bt742 => ((laws_eqContext.f k bt742.1 bt742.2.1 t731 t732).bind fun t748 => (if t748 = true then (laws_FnExactReduceContext.j0 k t735 bt742.2.2 (bt742.2.2 != t735) a0_0 l0_1 t731 t732 t737 t738 bt742.1 bt742.2.1) else (laws_FnExactReduceContext.j0 k t735 bt742.2.2 true a0_0 l0_1 t731 t732 t737 t738 bt742.1 bt742.2.1)))) = some r := H
  have A9 := Aside0.mk A90
  clear A90
  replace H := Option.bind_eq_some_iff.mp H
  obtain ⟨⟨t742, t743, t746⟩, A100, H⟩ := H
  replace H : ((laws_eqContext.f k t742 t743 t731 t732).bind fun t748 => (if t748 = true then (laws_FnExactReduceContext.j0 k t735 t746 (t746 != t735) a0_0 l0_1 t731 t732 t737 t738 t742 t743) else (laws_FnExactReduceContext.j0 k t735 t746 true a0_0 l0_1 t731 t732 t737 t738 t742 t743))) = some r := H
  have A10 := Aside0.mk A100
  clear A100
  have HC11 := Aside0.mk H
  clear H
  go_enter Try.func14, Try.ntmps14
  go_upto_region 8 with (first | ((with_reducible refine gate_dst (N := 1) rfl ?_); refine box_event ?hg (N := 1) ?hd (cs := #[.int .i64 a0_0, .slice A0_1 l0_1.length c0_1]) (t := 24) ?hr ?_; (case hd => rfl); (case hg => rfl); (case hr => first | (go_simp; done) | (go_simp; rfl)); intro gb725 hg w12 hbox hb; have n0_ := Aside0.mk (below_step q45_33 hb); have n1_ := Aside0.mk (hbox); have n2_ := Aside0.mk ((by rw [hg]; exact (below_size q45_33) : w.heap.size ≤ gb725)); have n3_ := Aside0.mk ((by rw [hg]; exact (below_size q45_33) : w.heap.size ≤ gb725)); clear HB; have HB := n0_; have BK725 := n1_; have GW725 := n2_; have GE725 := n3_; clear n0_ n1_ n2_ n3_; clear hb hbox hg; have hcz13_0 : w12.cell? ⟨gb725, 0, none⟩ = some (.int .i64 a0_0) := (blk_cell BK725.out 0).trans rfl; have hcz13_1 : w12.cell? ⟨gb725, 1, none⟩ = some (.slice A0_1 l0_1.length c0_1) := (blk_cell BK725.out 1).trans rfl; have hfz13_0 := blk_frozen BK725.out 0; have hfz13_1 := blk_frozen BK725.out 1) | ((with_reducible refine gate_callee (f := 15) rfl ?_); refine goesL_ (some 16) rfl rfl Try.func15 q45_48 rfl #[.agg #[.int .i64 a0_0, .slice A0_1 l0_1.length c0_1], .int .i64 1048576] rfl q45_32 ?_; (with_reducible refine (laws_szContext.calls a0_0 _ _ l0_1 1048576 t726 _ ?side1 ?side2 A2.out).mono ?_); (case side1 => exact q45_30); (case side2 => exact HC0_1.out); rintro e w14 ⟨rfl, hb⟩; refine ⟨_, rfl, ?_⟩; have n0_ := Aside0.mk (blk_below (g := gb725) (o := .cells #[.int .i64 a0_0, .slice A0_1 l0_1.length c0_1] 24 (0, 0)) q45_34 hb); have n1_ := Aside0.mk (below_step q45_31 hb); clear BK725; clear HB; have BK725 := n0_; have HB := n1_; clear n0_ n1_; (try clear hb); (try clear hb2); (try clear hk); (try clear hi); have hcz15_0 : w14.cell? ⟨gb725, 0, none⟩ = some (.int .i64 a0_0) := (blk_cell BK725.out 0).trans rfl; have hcz15_1 : w14.cell? ⟨gb725, 1, none⟩ = some (.slice A0_1 l0_1.length c0_1) := (blk_cell BK725.out 1).trans rfl; have hfz15_0 := blk_frozen BK725.out 0; have hfz15_1 := blk_frozen BK725.out 1) | ((with_reducible refine gate_callee (f := 17) rfl ?_); refine goesL_ (some 21) rfl rfl Try.func17 q45_48 rfl #[.agg #[.int .i64 a0_0, .slice A0_1 l0_1.length c0_1]] rfl q45_32 ?_; (with_reducible refine (laws_toContext.calls k a0_0 _ _ l0_1 t727 t728 _ ?side1 ?side2 A7.out).mono ?_); (case side1 => exact q45_30); (case side2 => exact HC0_1.out); rintro e w16 ⟨v729, rfl, ho0, hb⟩; refine ⟨_, rfl, ?_⟩; have n0_ := Aside0.mk (Kd.R_lower ho0 (below_size q45_31)); have n1_ := Aside0.mk (blk_below (g := gb725) (o := .cells #[.int .i64 a0_0, .slice A0_1 l0_1.length c0_1] 24 (0, 0)) q45_34 hb); have n2_ := Aside0.mk (below_step q45_31 hb); clear BK725; clear HB; have HO730 := n0_; have BK725 := n1_; have HB := n2_; clear n0_ n1_ n2_; (try clear hb); (try clear hb2); (try clear hk); (try clear hi); (try clear ho0); obtain ⟨Ao17, co17, eo17⟩ := Kd.R_slice HO730.out; subst eo17) | ((with_reducible refine gate_callee (f := 43) rfl ?_); refine goesL_ (some 22) rfl rfl Try.func43 q45_48 rfl #[.agg #[.int .i64 t727, .slice Ao17 t728.length co17]] rfl q45_32 ?_; (with_reducible refine (spec_ReduceContext.calls k t727 _ _ t728 t731 t732 t735 _ ?side1 ?side2 A8.out).mono ?_); (case side1 => repeat (first | exact (Kd.R_reads' HO730.out).2.2 | (with_reducible refine Kd.C_alloc ?_ _) | (with_reducible refine Kd.C_drewN ?_ _) | (with_reducible refine Kd.C_drew ?_))); (case side2 => exact (Kd.R_reads' HO730.out).2.1); rintro e w18 ⟨v733, rfl, ho0, hb⟩; refine ⟨_, rfl, ?_⟩; have n0_ := Aside0.mk (Kd.R_elder' q45_41 (Kd.R_base ho0) hb); have n1_ := Aside0.mk (Kd.R_lower (Kd.R_new' ho0 (Kd.R_lt q45_41)) (below_size q45_31)); have n2_ := Aside0.mk (blk_below (g := gb725) (o := .cells #[.int .i64 a0_0, .slice A0_1 l0_1.length c0_1] 24 (0, 0)) q45_34 hb); have n3_ := Aside0.mk (below_step q45_31 hb); clear HO730; clear BK725; clear HB; have HO730 := n0_; have HO734 := n1_; have BK725 := n2_; have HB := n3_; clear n0_ n1_ n2_ n3_; (try clear hb); (try clear hb2); (try clear hk); (try clear hi); (try clear ho0)) | ((with_reducible refine gate_dst (N := 4) rfl ?_); refine box_event ?hg (N := 4) ?hd (cs := #[.int .i64 0, .slice none 0 0]) (t := 27) ?hr ?_; (case hd => rfl); (case hg => rfl); (case hr => first | (go_simp; done) | (go_simp; rfl)); intro gb736 hg w19 hbox hb; have n0_ := Aside0.mk (Kd.R_below q45_41 hb); have n1_ := Aside0.mk (Kd.R_below q45_42 hb); have n2_ := Aside0.mk (blk_below (g := gb725) (o := .cells #[.int .i64 a0_0, .slice A0_1 l0_1.length c0_1] 24 (0, 0)) q45_34 hb); have n3_ := Aside0.mk (below_step q45_31 hb); have n4_ := Aside0.mk (hbox); have n5_ := Aside0.mk ((by rw [hg]; exact (below_size q45_31) : w.heap.size ≤ gb736)); have n6_ := Aside0.mk ((by rw [hg]; exact (below_size q45_31) : w.heap.size ≤ gb736)); have n7_ := Aside0.mk ((by rw [hg]; exact Nat.ne_of_lt (blk_lt (g := gb725) (o := .cells #[.int .i64 a0_0, .slice A0_1 l0_1.length c0_1] 24 (0, 0)) q45_34) : gb725 ≠ gb736)); have n8_ := Aside0.mk ((by rw [hg]; exact Nat.ne_of_gt (blk_lt (g := gb725) (o := .cells #[.int .i64 a0_0, .slice A0_1 l0_1.length c0_1] 24 (0, 0)) q45_34) : gb736 ≠ gb725)); clear HO730; clear HO734; clear BK725; clear HB; have HO730 := n0_; have HO734 := n1_; have BK725 := n2_; have HB := n3_; have BK736 := n4_; have GW736 := n5_; have GE736 := n6_; have NB725_736 := n7_; have NB736_725 := n8_; clear n0_ n1_ n2_ n3_ n4_ n5_ n6_ n7_ n8_; clear hb hbox hg; have hnb20 := NB736_725.out; have hnc20 := NB725_736.out; have hcz21_0 : w19.cell? ⟨gb736, 0, none⟩ = some (.int .i64 0) := (blk_cell BK736.out 0).trans rfl; have hcz21_1 : w19.cell? ⟨gb736, 1, none⟩ = some (.slice none 0 0) := (blk_cell BK736.out 1).trans rfl; have hfz21_0 := blk_frozen BK736.out 0; have hfz21_1 := blk_frozen BK736.out 1; obtain ⟨Ao22, co22, eo22⟩ := Kd.R_slice HO734.out; subst eo22; have hcz23_0 : w19.cell? ⟨gb725, 0, none⟩ = some (.int .i64 a0_0) := (blk_cell BK725.out 0).trans rfl; have hcz23_1 : w19.cell? ⟨gb725, 1, none⟩ = some (.slice A0_1 l0_1.length c0_1) := (blk_cell BK725.out 1).trans rfl; have hfz23_0 := blk_frozen BK725.out 0; have hfz23_1 := blk_frozen BK725.out 1) | ((with_reducible refine gate_callee (f := 17) rfl ?_); refine goesL_ (some 26) rfl rfl Try.func17 q45_48 rfl #[.agg #[.int .i64 a0_0, .slice A0_1 l0_1.length c0_1]] rfl q45_32 ?_; (with_reducible refine (laws_toContext.calls k a0_0 _ _ l0_1 t737 t738 _ ?side1 ?side2 A9.out).mono ?_); (case side1 => exact Kd.C_below HR0_1.out q45_27); (case side2 => exact HC0_1.out); rintro e w24 ⟨v739, rfl, ho0, hb⟩; refine ⟨_, rfl, ?_⟩; have n0_ := Aside0.mk (Kd.R_elder' q45_15 (Kd.R_base ho0) hb); have n1_ := Aside0.mk (Kd.R_elder' q45_16 (Kd.R_base ho0) hb); have n2_ := Aside0.mk (Kd.R_lower (Kd.R_new' (Kd.R_new' ho0 (Kd.R_lt q45_15)) (Kd.R_lt q45_16)) (below_size q45_27)); have n3_ := Aside0.mk (blk_below (g := gb725) (o := .cells #[.int .i64 a0_0, .slice A0_1 l0_1.length c0_1] 24 (0, 0)) (by (with_reducible repeat (first | refine blk_drewN ?_ _ | refine blk_drew ?_ | refine blk_alloc ?_ _)); refine blk_far ?_ NB725_736.out _; (with_reducible repeat (first | refine blk_drewN ?_ _ | refine blk_drew ?_ | refine blk_alloc ?_ _)); refine blk_far ?_ NB725_736.out _; (with_reducible repeat (first | refine blk_drewN ?_ _ | refine blk_drew ?_ | refine blk_alloc ?_ _)); exact BK725.out) hb); have n4_ := Aside0.mk (blk_below (g := gb736) (o := .cells #[.int .i64 t731, .slice Ao22 t732.length co22] 27 (0, 0)) (by (with_reducible repeat (first | refine blk_drewN ?_ _ | refine blk_drew ?_ | refine blk_alloc ?_ _)); refine blk_put (cs := #[.int .i64 t731, .slice none 0 0]) ?_ 1 _ rfl; (with_reducible repeat (first | refine blk_drewN ?_ _ | refine blk_drew ?_ | refine blk_alloc ?_ _)); refine blk_put (cs := #[.int .i64 0, .slice none 0 0]) ?_ 0 _ rfl; (with_reducible repeat (first | refine blk_drewN ?_ _ | refine blk_drew ?_ | refine blk_alloc ?_ _)); exact BK736.out) hb); have n5_ := Aside0.mk (below_step q45_27 hb); clear HO730; clear HO734; clear BK725; clear BK736; clear HB; have HO730 := n0_; have HO734 := n1_; have HO740 := n2_; have BK725 := n3_; have BK736 := n4_; have HB := n5_; clear n0_ n1_ n2_ n3_ n4_ n5_; (try clear hb); (try clear hb2); (try clear hk); (try clear hi); (try clear ho0)) | ((with_reducible refine gate_dst (N := 6) rfl ?_); refine box_event ?hg (N := 6) ?hd (cs := #[.int .i64 0, .slice none 0 0]) (t := 27) ?hr ?_; (case hd => rfl); (case hg => rfl); (case hr => first | (go_simp; done) | (go_simp; rfl)); intro gb741 hg w25 hbox hb; have n0_ := Aside0.mk (Kd.R_below q45_41 hb); have n1_ := Aside0.mk (Kd.R_below q45_42 hb); have n2_ := Aside0.mk (Kd.R_below (by (with_reducible repeat (first | apply Kd.R_alloc | apply Kd.R_drewN | apply Kd.R_drew)); exact HO740.out) hb); have n3_ := Aside0.mk (blk_below (g := gb725) (o := .cells #[.int .i64 a0_0, .slice A0_1 l0_1.length c0_1] 24 (0, 0)) q45_34 hb); have n4_ := Aside0.mk (blk_below (g := gb736) (o := .cells #[.int .i64 t731, .slice Ao22 t732.length co22] 27 (0, 0)) q45_35 hb); have n5_ := Aside0.mk (below_step q45_27 hb); have n6_ := Aside0.mk (hbox); have n7_ := Aside0.mk ((by rw [hg]; exact (below_size q45_27) : w.heap.size ≤ gb741)); have n8_ := Aside0.mk ((by rw [hg]; exact (below_size q45_27) : w.heap.size ≤ gb741)); have n9_ := Aside0.mk ((by rw [hg]; exact Nat.ne_of_lt (blk_lt (g := gb725) (o := .cells #[.int .i64 a0_0, .slice A0_1 l0_1.length c0_1] 24 (0, 0)) q45_34) : gb725 ≠ gb741)); have n10_ := Aside0.mk ((by rw [hg]; exact Nat.ne_of_gt (blk_lt (g := gb725) (o := .cells #[.int .i64 a0_0, .slice A0_1 l0_1.length c0_1] 24 (0, 0)) q45_34) : gb741 ≠ gb725)); have n11_ := Aside0.mk ((by rw [hg]; exact Nat.ne_of_lt (blk_lt (g := gb736) (o := .cells #[.int .i64 t731, .slice Ao22 t732.length co22] 27 (0, 0)) q45_35) : gb736 ≠ gb741)); have n12_ := Aside0.mk ((by rw [hg]; exact Nat.ne_of_gt (blk_lt (g := gb736) (o := .cells #[.int .i64 t731, .slice Ao22 t732.length co22] 27 (0, 0)) q45_35) : gb741 ≠ gb736)); clear HO730; clear HO734; clear HO740; clear BK725; clear BK736; clear HB; have HO730 := n0_; have HO734 := n1_; have HO740 := n2_; have BK725 := n3_; have BK736 := n4_; have HB := n5_; have BK741 := n6_; have GW741 := n7_; have GE741 := n8_; have NB725_741 := n9_; have NB741_725 := n10_; have NB736_741 := n11_; have NB741_736 := n12_; clear n0_ n1_ n2_ n3_ n4_ n5_ n6_ n7_ n8_ n9_ n10_ n11_ n12_; clear hb hbox hg; have hnb26 := NB741_725.out; have hnc26 := NB725_741.out; have hnb27 := NB741_736.out; have hnc27 := NB736_741.out; have hcz28_0 : w25.cell? ⟨gb741, 0, none⟩ = some (.int .i64 0) := (blk_cell BK741.out 0).trans rfl; have hcz28_1 : w25.cell? ⟨gb741, 1, none⟩ = some (.slice none 0 0) := (blk_cell BK741.out 1).trans rfl; have hfz28_0 := blk_frozen BK741.out 0; have hfz28_1 := blk_frozen BK741.out 1; obtain ⟨Ao29, co29, eo29⟩ := Kd.R_slice HO740.out; subst eo29) | ((with_reducible refine gate_callee (f := 44) rfl ?_); refine goesL_ (some 29) rfl rfl Try.func44 q45_48 rfl #[.agg #[.int .i64 t737, .slice Ao29 t738.length co29]] rfl q45_32 ?_; (with_reducible refine (impl_ReduceContext.calls k t737 _ _ t738 t742 t743 t746 _ ?side1 ?side2 A10.out).mono ?_); (case side1 => refine (Kd.R_reads' (e := 3) (base := w.heap.size) (ok := fun k_ => ((True ∧ some k_ ≠ (.slice Ao17 t728.length co17 : Value).ownBlock) ∧ some k_ ≠ (.slice Ao22 t732.length co22 : Value).ownBlock)) (n := t738.length) (c := co29) ?_).2.2; exact q45_19); (case side2 => exact (Kd.R_reads' HO740.out).2.1); rintro e w30 ⟨v744, rfl, ho0, hb⟩; refine ⟨_, rfl, ?_⟩; have n0_ := Aside0.mk (Kd.R_elder' q45_17 (Kd.R_base ho0) hb); have n1_ := Aside0.mk (Kd.R_elder' q45_18 (Kd.R_base ho0) hb); have n2_ := Aside0.mk (Kd.R_elder' q45_19 (Kd.R_base ho0) hb); have n3_ := Aside0.mk (Kd.R_lower (Kd.R_new' (Kd.R_new' (Kd.R_new' ho0 (Kd.R_lt q45_17)) (Kd.R_lt q45_18)) (Kd.R_lt q45_19)) (below_size q45_26)); have n4_ := Aside0.mk (blk_below (g := gb725) (o := .cells #[.int .i64 a0_0, .slice A0_1 l0_1.length c0_1] 24 (0, 0)) (by (with_reducible repeat (first | refine blk_drewN ?_ _ | refine blk_drew ?_ | refine blk_alloc ?_ _)); refine blk_far ?_ NB725_741.out _; (with_reducible repeat (first | refine blk_drewN ?_ _ | refine blk_drew ?_ | refine blk_alloc ?_ _)); refine blk_far ?_ NB725_741.out _; (with_reducible repeat (first | refine blk_drewN ?_ _ | refine blk_drew ?_ | refine blk_alloc ?_ _)); exact BK725.out) hb); have n5_ := Aside0.mk (blk_below (g := gb736) (o := .cells #[.int .i64 t731, .slice Ao22 t732.length co22] 27 (0, 0)) (by (with_reducible repeat (first | refine blk_drewN ?_ _ | refine blk_drew ?_ | refine blk_alloc ?_ _)); refine blk_far ?_ NB736_741.out _; (with_reducible repeat (first | refine blk_drewN ?_ _ | refine blk_drew ?_ | refine blk_alloc ?_ _)); refine blk_far ?_ NB736_741.out _; (with_reducible repeat (first | refine blk_drewN ?_ _ | refine blk_drew ?_ | refine blk_alloc ?_ _)); exact BK736.out) hb); have n6_ := Aside0.mk (blk_below (g := gb741) (o := .cells #[.int .i64 t737, .slice Ao29 t738.length co29] 27 (0, 0)) (by (with_reducible repeat (first | refine blk_drewN ?_ _ | refine blk_drew ?_ | refine blk_alloc ?_ _)); refine blk_put (cs := #[.int .i64 t737, .slice none 0 0]) ?_ 1 _ rfl; (with_reducible repeat (first | refine blk_drewN ?_ _ | refine blk_drew ?_ | refine blk_alloc ?_ _)); refine blk_put (cs := #[.int .i64 0, .slice none 0 0]) ?_ 0 _ rfl; (with_reducible repeat (first | refine blk_drewN ?_ _ | refine blk_drew ?_ | refine blk_alloc ?_ _)); exact BK741.out) hb); have n7_ := Aside0.mk (below_step q45_26 hb); clear HO730; clear HO734; clear HO740; clear BK725; clear BK736; clear BK741; clear HB; have HO730 := n0_; have HO734 := n1_; have HO740 := n2_; have HO745 := n3_; have BK725 := n4_; have BK736 := n5_; have BK741 := n6_; have HB := n7_; clear n0_ n1_ n2_ n3_ n4_ n5_ n6_ n7_; (try clear hb); (try clear hb2); (try clear hk); (try clear hi); (try clear ho0)) | ((with_reducible refine gate_dst (N := 7) rfl ?_); refine box_event ?hg (N := 7) ?hd (cs := #[.int .i64 0, .slice none 0 0]) (t := 27) ?hr ?_; (case hd => rfl); (case hg => rfl); (case hr => first | (go_simp; done) | (go_simp; rfl)); intro gb747 hg w31 hbox hb; have n0_ := Aside0.mk (Kd.R_below q45_41 hb); have n1_ := Aside0.mk (Kd.R_below q45_42 hb); have n2_ := Aside0.mk (Kd.R_below (by (with_reducible repeat (first | apply Kd.R_alloc | apply Kd.R_drewN | apply Kd.R_drew)); exact HO740.out) hb); have n3_ := Aside0.mk (Kd.R_below (by (with_reducible repeat (first | apply Kd.R_alloc | apply Kd.R_drewN | apply Kd.R_drew)); exact HO745.out) hb); have n4_ := Aside0.mk (blk_below (g := gb725) (o := .cells #[.int .i64 a0_0, .slice A0_1 l0_1.length c0_1] 24 (0, 0)) q45_34 hb); have n5_ := Aside0.mk (blk_below (g := gb736) (o := .cells #[.int .i64 t731, .slice Ao22 t732.length co22] 27 (0, 0)) q45_35 hb); have n6_ := Aside0.mk (blk_below (g := gb741) (o := .cells #[.int .i64 t737, .slice Ao29 t738.length co29] 27 (0, 0)) q45_36 hb); have n7_ := Aside0.mk (below_step q45_26 hb); have n8_ := Aside0.mk (hbox); have n9_ := Aside0.mk ((by rw [hg]; exact (below_size q45_26) : w.heap.size ≤ gb747)); have n10_ := Aside0.mk ((by rw [hg]; exact (below_size q45_26) : w.heap.size ≤ gb747)); have n11_ := Aside0.mk ((by rw [hg]; exact Nat.ne_of_lt (blk_lt (g := gb725) (o := .cells #[.int .i64 a0_0, .slice A0_1 l0_1.length c0_1] 24 (0, 0)) q45_34) : gb725 ≠ gb747)); have n12_ := Aside0.mk ((by rw [hg]; exact Nat.ne_of_gt (blk_lt (g := gb725) (o := .cells #[.int .i64 a0_0, .slice A0_1 l0_1.length c0_1] 24 (0, 0)) q45_34) : gb747 ≠ gb725)); have n13_ := Aside0.mk ((by rw [hg]; exact Nat.ne_of_lt (blk_lt (g := gb736) (o := .cells #[.int .i64 t731, .slice Ao22 t732.length co22] 27 (0, 0)) q45_35) : gb736 ≠ gb747)); have n14_ := Aside0.mk ((by rw [hg]; exact Nat.ne_of_gt (blk_lt (g := gb736) (o := .cells #[.int .i64 t731, .slice Ao22 t732.length co22] 27 (0, 0)) q45_35) : gb747 ≠ gb736)); have n15_ := Aside0.mk ((by rw [hg]; exact Nat.ne_of_lt (blk_lt (g := gb741) (o := .cells #[.int .i64 t737, .slice Ao29 t738.length co29] 27 (0, 0)) q45_36) : gb741 ≠ gb747)); have n16_ := Aside0.mk ((by rw [hg]; exact Nat.ne_of_gt (blk_lt (g := gb741) (o := .cells #[.int .i64 t737, .slice Ao29 t738.length co29] 27 (0, 0)) q45_36) : gb747 ≠ gb741)); clear HO730; clear HO734; clear HO740; clear HO745; clear BK725; clear BK736; clear BK741; clear HB; have HO730 := n0_; have HO734 := n1_; have HO740 := n2_; have HO745 := n3_; have BK725 := n4_; have BK736 := n5_; have BK741 := n6_; have HB := n7_; have BK747 := n8_; have GW747 := n9_; have GE747 := n10_; have NB725_747 := n11_; have NB747_725 := n12_; have NB736_747 := n13_; have NB747_736 := n14_; have NB741_747 := n15_; have NB747_741 := n16_; clear n0_ n1_ n2_ n3_ n4_ n5_ n6_ n7_ n8_ n9_ n10_ n11_ n12_ n13_ n14_ n15_ n16_; clear hb hbox hg; have hnb32 := NB747_725.out; have hnc32 := NB725_747.out; have hnb33 := NB747_736.out; have hnc33 := NB736_747.out; have hnb34 := NB747_741.out; have hnc34 := NB741_747.out; have hcz35_0 : w31.cell? ⟨gb747, 0, none⟩ = some (.int .i64 0) := (blk_cell BK747.out 0).trans rfl; have hcz35_1 : w31.cell? ⟨gb747, 1, none⟩ = some (.slice none 0 0) := (blk_cell BK747.out 1).trans rfl; have hfz35_0 := blk_frozen BK747.out 0; have hfz35_1 := blk_frozen BK747.out 1; obtain ⟨Ao36, co36, eo36⟩ := Kd.R_slice HO745.out; subst eo36))
  (try simp only [Act.put, List.setIfInBounds_toArray, List.set_cons_zero, List.set_cons_succ])
  go_cut [40] (fun v40 wc => ∃ (kq : Nat) (x40_10 : Bool), v40 = .bool x40_10 ∧ Aside0 (laws_FnExactReduceContext.j0 kq t735 t746 x40_10 a0_0 l0_1 t731 t732 t737 t738 t742 t743 = some r) ∧ Aside0 (kq ≤ k) ∧ Aside0 (Kd.R (Kd.int .i64) 3 wc w.heap.size (fun k_ => some k_ ≠ ((.slice Ao29 t738.length co29) : Value).ownBlock ∧ some k_ ≠ ((.slice Ao36 t743.length co36) : Value).ownBlock) (.slice Ao22 t732.length co22) t732) ∧ Aside0 (Kd.R (Kd.int .i64) 3 wc w.heap.size (fun k_ => some k_ ≠ ((.slice Ao22 t732.length co22) : Value).ownBlock ∧ some k_ ≠ ((.slice Ao36 t743.length co36) : Value).ownBlock) (.slice Ao29 t738.length co29) t738) ∧ Aside0 (Kd.R (Kd.int .i64) 3 wc w.heap.size (fun k_ => some k_ ≠ ((.slice Ao22 t732.length co22) : Value).ownBlock ∧ some k_ ≠ ((.slice Ao29 t738.length co29) : Value).ownBlock) (.slice Ao36 t743.length co36) t743) ∧ Aside0 (wc.heap[gb725]? = some (.cells #[.int .i64 a0_0, (.slice A0_1 l0_1.length c0_1)] 24 (0, 0))) ∧ Aside0 (wc.heap[gb736]? = some (.cells #[.int .i64 t731, (.slice Ao22 t732.length co22)] 27 (0, 0))) ∧ Aside0 (wc.heap[gb741]? = some (.cells #[.int .i64 t737, (.slice Ao29 t738.length co29)] 27 (0, 0))) ∧ Aside0 (wc.heap[gb747]? = some (.cells #[.int .i64 t742, (.slice Ao36 t743.length co36)] 27 (0, 0))) ∧ Aside0 (Below w.heap.size w wc))
  case first =>
   have H := HC11.out
   clear HC11
   replace H := Option.bind_eq_some_iff.mp H
   obtain ⟨t748, A370, H⟩ := H
   replace H : (if t748 = true then (laws_FnExactReduceContext.j0 k t735 t746 (t746 != t735) a0_0 l0_1 t731 t732 t737 t738 t742 t743) else (laws_FnExactReduceContext.j0 k t735 t746 true a0_0 l0_1 t731 t732 t737 t738 t742 t743)) = some r := H
   have A37 := Aside0.mk A370
   clear A370
   by_cases c38 : t748 = true
   ·
    subst c38
    have H1 : (laws_FnExactReduceContext.j0 k t735 t746 (t746 != t735) a0_0 l0_1 t731 t732 t737 t738 t742 t743) = some r := q45_47
    clear H
    have H := H1
    clear H1
    have H' := Aside0.mk H
    clear H
    have hnb39 := NB747_725.out
    have hnc39 := NB725_747.out
    have hnb40 := NB747_736.out
    have hnc40 := NB736_747.out
    have hnb41 := NB747_741.out
    have hnc41 := NB741_747.out
    have hcz42_0 : w31.cell? ⟨gb747, 0, none⟩ = some (.int .i64 0) := (blk_cell BK747.out 0).trans rfl
    have hcz42_1 : w31.cell? ⟨gb747, 1, none⟩ = some (.slice none 0 0) := (blk_cell BK747.out 1).trans rfl
    have hfz42_0 := blk_frozen BK747.out 0
    have hfz42_1 := blk_frozen BK747.out 1
    have hnb43 := NB736_725.out
    have hnc43 := NB725_736.out
    have hnb44 := NB736_741.out
    have hnc44 := NB741_736.out
    have hcz45_0 : w31.cell? ⟨gb736, 0, none⟩ = some (.int .i64 t731) := (blk_cell BK736.out 0).trans rfl
    have hcz45_1 : w31.cell? ⟨gb736, 1, none⟩ = some (.slice Ao22 t732.length co22) := (blk_cell BK736.out 1).trans rfl
    have hfz45_0 := blk_frozen BK736.out 0
    have hfz45_1 := blk_frozen BK736.out 1
    go_wp2_with (first | ((with_reducible refine gate_callee (f := 19) rfl ?_); refine goesL_ (some 34) rfl rfl Try.func19 q45_48 rfl #[.agg #[.int .i64 t742, .slice Ao36 t743.length co36], .agg #[.int .i64 t731, .slice Ao22 t732.length co22]] rfl q45_32 ?_; (with_reducible refine (laws_eqContext.calls k t742 _ _ t743 t731 _ _ t732 true _ ?side1 ?side2 ?side3 ?side4 A37.out).mono ?_); (case side1 => refine (Kd.R_reads' (e := 3) (base := w.heap.size) (ok := fun k_ => (((True ∧ some k_ ≠ (.slice Ao17 t728.length co17 : Value).ownBlock) ∧ some k_ ≠ (.slice Ao22 t732.length co22 : Value).ownBlock) ∧ some k_ ≠ (.slice Ao29 t738.length co29 : Value).ownBlock)) (n := t743.length) (c := co36) ?_).2.2; exact q45_23); (case side2 => exact (Kd.R_reads' HO745.out).2.1); (case side3 => refine (Kd.R_reads' (e := 3) (base := w.heap.size) (ok := fun k_ => (((True ∧ some k_ ≠ (.slice Ao17 t728.length co17 : Value).ownBlock) ∧ some k_ ≠ (.slice Ao29 t738.length co29 : Value).ownBlock) ∧ some k_ ≠ (.slice Ao36 t743.length co36 : Value).ownBlock)) (n := t732.length) (c := co22) ?_).2.2; exact q45_21); (case side4 => exact (Kd.R_reads' HO734.out).2.1); rintro e w46 ⟨rfl, hb⟩; refine ⟨_, rfl, ?_⟩; have n0_ := Aside0.mk (Kd.R_below q45_20 hb); have n1_ := Aside0.mk (Kd.R_below q45_21 hb); have n2_ := Aside0.mk (Kd.R_below q45_22 hb); have n3_ := Aside0.mk (Kd.R_below q45_23 hb); have n4_ := Aside0.mk (blk_below (g := gb725) (o := .cells #[.int .i64 a0_0, .slice A0_1 l0_1.length c0_1] 24 (0, 0)) q45_3 hb); have n5_ := Aside0.mk (blk_below (g := gb736) (o := .cells #[.int .i64 t731, .slice Ao22 t732.length co22] 27 (0, 0)) q45_5 hb); have n6_ := Aside0.mk (blk_below (g := gb741) (o := .cells #[.int .i64 t737, .slice Ao29 t738.length co29] 27 (0, 0)) q45_7 hb); have n7_ := Aside0.mk (blk_below (g := gb747) (o := .cells #[.int .i64 t742, .slice Ao36 t743.length co36] 27 (0, 0)) q45_1 hb); have n8_ := Aside0.mk (below_step q45_25 hb); clear HO730; clear HO734; clear HO740; clear HO745; clear BK725; clear BK736; clear BK741; clear BK747; clear HB; have HO730 := n0_; have HO734 := n1_; have HO740 := n2_; have HO745 := n3_; have BK725 := n4_; have BK736 := n5_; have BK741 := n6_; have BK747 := n7_; have HB := n8_; clear n0_ n1_ n2_ n3_ n4_ n5_ n6_ n7_ n8_; (try clear hb); (try clear hb2); (try clear hk); (try clear hi)))
    go_meet
    case rel => exact ⟨_, ((t746 != t735)), q45_45, H', ⟨by first | omega | exact Nat.le_refl _⟩, ⟨by (with_reducible repeat (first | apply Kd.R_alloc | apply Kd.R_drewN | apply Kd.R_drew)); exact Kd.R_mono HO734.out (fun _ hk => ⟨hk.1.2, hk.2⟩)⟩, ⟨by (with_reducible repeat (first | apply Kd.R_alloc | apply Kd.R_drewN | apply Kd.R_drew)); exact Kd.R_mono HO740.out (fun _ hk => ⟨hk.1.2, hk.2⟩)⟩, ⟨by (with_reducible repeat (first | apply Kd.R_alloc | apply Kd.R_drewN | apply Kd.R_drew)); exact Kd.R_mono HO745.out (fun _ hk => ⟨hk.1.2, hk.2⟩)⟩, ⟨by (with_reducible repeat (first | refine blk_drewN ?_ _ | refine blk_drew ?_ | refine blk_alloc ?_ _)); exact BK725.out⟩, ⟨by (with_reducible repeat (first | refine blk_drewN ?_ _ | refine blk_drew ?_ | refine blk_alloc ?_ _)); exact BK736.out⟩, ⟨by (with_reducible repeat (first | refine blk_drewN ?_ _ | refine blk_drew ?_ | refine blk_alloc ?_ _)); exact BK741.out⟩, ⟨by (with_reducible repeat (first | refine blk_drewN ?_ _ | refine blk_drew ?_ | refine blk_alloc ?_ _)); exact BK747.out⟩, ⟨by repeat (first | (with_reducible first | exact HB.out | apply below_alloc | apply pw_below_drewN | apply below_drew1 | refine below_set ?_ GE725.out | refine below_set ?_ GE736.out | refine below_set ?_ GE741.out | refine below_set ?_ GE747.out) | exact HB.out)⟩⟩
   ·
    replace c38 := Bool.eq_false_iff.mpr c38
    subst c38
    have H1 : (laws_FnExactReduceContext.j0 k t735 t746 true a0_0 l0_1 t731 t732 t737 t738 t742 t743) = some r := q45_46
    clear H
    have H := H1
    clear H1
    have H' := Aside0.mk H
    clear H
    have hnb47 := NB747_725.out
    have hnc47 := NB725_747.out
    have hnb48 := NB747_736.out
    have hnc48 := NB736_747.out
    have hnb49 := NB747_741.out
    have hnc49 := NB741_747.out
    have hcz50_0 : w31.cell? ⟨gb747, 0, none⟩ = some (.int .i64 0) := (blk_cell BK747.out 0).trans rfl
    have hcz50_1 : w31.cell? ⟨gb747, 1, none⟩ = some (.slice none 0 0) := (blk_cell BK747.out 1).trans rfl
    have hfz50_0 := blk_frozen BK747.out 0
    have hfz50_1 := blk_frozen BK747.out 1
    have hnb51 := NB736_725.out
    have hnc51 := NB725_736.out
    have hnb52 := NB736_741.out
    have hnc52 := NB741_736.out
    have hcz53_0 : w31.cell? ⟨gb736, 0, none⟩ = some (.int .i64 t731) := (blk_cell BK736.out 0).trans rfl
    have hcz53_1 : w31.cell? ⟨gb736, 1, none⟩ = some (.slice Ao22 t732.length co22) := (blk_cell BK736.out 1).trans rfl
    have hfz53_0 := blk_frozen BK736.out 0
    have hfz53_1 := blk_frozen BK736.out 1
    go_wp2_with (first | ((with_reducible refine gate_callee (f := 19) rfl ?_); refine goesL_ (some 34) rfl rfl Try.func19 q45_48 rfl #[.agg #[.int .i64 t742, .slice Ao36 t743.length co36], .agg #[.int .i64 t731, .slice Ao22 t732.length co22]] rfl q45_32 ?_; (with_reducible refine (laws_eqContext.calls k t742 _ _ t743 t731 _ _ t732 false _ ?side1 ?side2 ?side3 ?side4 A37.out).mono ?_); (case side1 => refine (Kd.R_reads' (e := 3) (base := w.heap.size) (ok := fun k_ => (((True ∧ some k_ ≠ (.slice Ao17 t728.length co17 : Value).ownBlock) ∧ some k_ ≠ (.slice Ao22 t732.length co22 : Value).ownBlock) ∧ some k_ ≠ (.slice Ao29 t738.length co29 : Value).ownBlock)) (n := t743.length) (c := co36) ?_).2.2; exact q45_23); (case side2 => exact (Kd.R_reads' HO745.out).2.1); (case side3 => refine (Kd.R_reads' (e := 3) (base := w.heap.size) (ok := fun k_ => (((True ∧ some k_ ≠ (.slice Ao17 t728.length co17 : Value).ownBlock) ∧ some k_ ≠ (.slice Ao29 t738.length co29 : Value).ownBlock) ∧ some k_ ≠ (.slice Ao36 t743.length co36 : Value).ownBlock)) (n := t732.length) (c := co22) ?_).2.2; exact q45_21); (case side4 => exact (Kd.R_reads' HO734.out).2.1); rintro e w54 ⟨rfl, hb⟩; refine ⟨_, rfl, ?_⟩; have n0_ := Aside0.mk (Kd.R_below q45_20 hb); have n1_ := Aside0.mk (Kd.R_below q45_21 hb); have n2_ := Aside0.mk (Kd.R_below q45_22 hb); have n3_ := Aside0.mk (Kd.R_below q45_23 hb); have n4_ := Aside0.mk (blk_below (g := gb725) (o := .cells #[.int .i64 a0_0, .slice A0_1 l0_1.length c0_1] 24 (0, 0)) q45_3 hb); have n5_ := Aside0.mk (blk_below (g := gb736) (o := .cells #[.int .i64 t731, .slice Ao22 t732.length co22] 27 (0, 0)) q45_5 hb); have n6_ := Aside0.mk (blk_below (g := gb741) (o := .cells #[.int .i64 t737, .slice Ao29 t738.length co29] 27 (0, 0)) q45_7 hb); have n7_ := Aside0.mk (blk_below (g := gb747) (o := .cells #[.int .i64 t742, .slice Ao36 t743.length co36] 27 (0, 0)) q45_1 hb); have n8_ := Aside0.mk (below_step q45_25 hb); clear HO730; clear HO734; clear HO740; clear HO745; clear BK725; clear BK736; clear BK741; clear BK747; clear HB; have HO730 := n0_; have HO734 := n1_; have HO740 := n2_; have HO745 := n3_; have BK725 := n4_; have BK736 := n5_; have BK741 := n6_; have BK747 := n7_; have HB := n8_; clear n0_ n1_ n2_ n3_ n4_ n5_ n6_ n7_ n8_; (try clear hb); (try clear hb2); (try clear hk); (try clear hi)))
    go_meet
    case rel => exact ⟨_, (true), q45_45, H', ⟨by first | omega | exact Nat.le_refl _⟩, ⟨by (with_reducible repeat (first | apply Kd.R_alloc | apply Kd.R_drewN | apply Kd.R_drew)); exact Kd.R_mono HO734.out (fun _ hk => ⟨hk.1.2, hk.2⟩)⟩, ⟨by (with_reducible repeat (first | apply Kd.R_alloc | apply Kd.R_drewN | apply Kd.R_drew)); exact Kd.R_mono HO740.out (fun _ hk => ⟨hk.1.2, hk.2⟩)⟩, ⟨by (with_reducible repeat (first | apply Kd.R_alloc | apply Kd.R_drewN | apply Kd.R_drew)); exact Kd.R_mono HO745.out (fun _ hk => ⟨hk.1.2, hk.2⟩)⟩, ⟨by (with_reducible repeat (first | refine blk_drewN ?_ _ | refine blk_drew ?_ | refine blk_alloc ?_ _)); exact BK725.out⟩, ⟨by (with_reducible repeat (first | refine blk_drewN ?_ _ | refine blk_drew ?_ | refine blk_alloc ?_ _)); exact BK736.out⟩, ⟨by (with_reducible repeat (first | refine blk_drewN ?_ _ | refine blk_drew ?_ | refine blk_alloc ?_ _)); exact BK741.out⟩, ⟨by (with_reducible repeat (first | refine blk_drewN ?_ _ | refine blk_drew ?_ | refine blk_alloc ?_ _)); exact BK747.out⟩, ⟨by repeat (first | (with_reducible first | exact HB.out | apply below_alloc | apply pw_below_drewN | apply below_drew1 | refine below_set ?_ GE725.out | refine below_set ?_ GE736.out | refine below_set ?_ GE741.out | refine below_set ?_ GE747.out) | exact HB.out)⟩⟩
  case rest =>
   clear HC11
   try clear c1
   try clear c2
   try clear p2
   try clear c3
   try clear c3b0
   try clear c4
   try clear c5
   try clear c14
   try clear c15
   try clear c17
   try clear c19
   try clear c20
   try clear c26
   try clear c27
   try clear c32
   try clear c33
   try clear c34
   try clear c38
   try clear c39
   try clear c40
   try clear c41
   try clear c43
   try clear c44
   try clear c47
   try clear c48
   try clear c49
   try clear c51
   try clear c52
   try clear hcz13_0
   try clear hcz13_1
   try clear hcz15_0
   try clear hcz15_1
   try clear hcz21_0
   try clear hcz21_1
   try clear hcz23_0
   try clear hcz23_1
   try clear hcz28_0
   try clear hcz28_1
   try clear hcz35_0
   try clear hcz35_1
   try clear hcz42_0
   try clear hcz42_1
   try clear hcz45_0
   try clear hcz45_1
   try clear hcz50_0
   try clear hcz50_1
   try clear hcz53_0
   try clear hcz53_1
   try clear hcz5_0
   try clear hcz5_1
   try clear hfz13_0
   try clear hfz13_1
   try clear hfz15_0
   try clear hfz15_1
   try clear hfz21_0
   try clear hfz21_1
   try clear hfz23_0
   try clear hfz23_1
   try clear hfz28_0
   try clear hfz28_1
   try clear hfz35_0
   try clear hfz35_1
   try clear hfz42_0
   try clear hfz42_1
   try clear hfz45_0
   try clear hfz45_1
   try clear hfz50_0
   try clear hfz50_1
   try clear hfz53_0
   try clear hfz53_1
   try clear hfz5_0
   try clear hfz5_1
   obtain ⟨kq, x40_10, rfl, HA, HJ10, HO_737001, HO_742001, HO_748001, BK725, BK736, BK741, BK747, HB⟩ := hcut
   cases kq with
   | zero => exact absurd HA.out (by simp [laws_FnExactReduceContext.j0])
   | succ kj10 =>
    have H := HA.out
    clear HA
    simp only [laws_FnExactReduceContext.j0] at H
    by_cases c55 : x40_10 = true
    ·
     subst c55
     have H1 : (some false) = some r := q45_47
     clear H
     have H := H1
     clear H1
     exact absurd ((Option.some.inj H).trans HRT.out) Bool.false_ne_true
    ·
     replace c55 := Bool.eq_false_iff.mpr c55
     subst c55
     have H1 : ((laws_toContext.f kj10 a0_0 l0_1).bind fun bt749 => ((laws_eqContext.f kj10 t737 t738 bt749.1 bt749.2).bind fun t753 => (if t753 = true then ((laws_markContext.f kj10 t737 t738 1).bind fun bt754 => (if bt754.1 < 0 then (laws_FnExactReduceContext.j1 kj10 t735 true a0_0 l0_1 t731 t732 t742 t743) else ((laws_eqContext.f kj10 t742 t743 t731 t732).bind fun t756 => (if t756 = true then (laws_FnExactReduceContext.j1 kj10 t735 (t746 != t735) a0_0 l0_1 t731 t732 t742 t743) else (laws_FnExactReduceContext.j1 kj10 t735 true a0_0 l0_1 t731 t732 t742 t743))))) else (some false)))) = some r := q45_46
     clear H
     have H := H1
     clear H1
     replace H := Option.bind_eq_some_iff.mp H
     obtain ⟨⟨t749, t750⟩, A560, H⟩ := H
     replace H : ((laws_eqContext.f kj10 t737 t738 t749 t750).bind fun t753 => (if t753 = true then ((laws_markContext.f kj10 t737 t738 1).bind fun bt754 => (if bt754.1 < 0 then (laws_FnExactReduceContext.j1 kj10 t735 true a0_0 l0_1 t731 t732 t742 t743) else ((laws_eqContext.f kj10 t742 t743 t731 t732).bind fun t756 => (if t756 = true then (laws_FnExactReduceContext.j1 kj10 t735 (t746 != t735) a0_0 l0_1 t731 t732 t742 t743) else (laws_FnExactReduceContext.j1 kj10 t735 true a0_0 l0_1 t731 t732 t742 t743))))) else (some false))) = some r := H
     have A56 := Aside0.mk A560
     clear A560
     replace H := Option.bind_eq_some_iff.mp H
     obtain ⟨t753, A570, H⟩ := H
     replace H : (if t753 = true then ((laws_markContext.f kj10 t737 t738 1).bind fun bt754 => (if bt754.1 < 0 then (laws_FnExactReduceContext.j1 kj10 t735 true a0_0 l0_1 t731 t732 t742 t743) else ((laws_eqContext.f kj10 t742 t743 t731 t732).bind fun t756 => (if t756 = true then (laws_FnExactReduceContext.j1 kj10 t735 (t746 != t735) a0_0 l0_1 t731 t732 t742 t743) else (laws_FnExactReduceContext.j1 kj10 t735 true a0_0 l0_1 t731 t732 t742 t743))))) else (some false)) = some r := H
     have A57 := Aside0.mk A570
     clear A570
     by_cases c58 : t753 = true
     ·
      subst c58
      have H1 : ((laws_markContext.f kj10 t737 t738 1).bind fun bt754 => (if bt754.1 < 0 then (laws_FnExactReduceContext.j1 kj10 t735 true a0_0 l0_1 t731 t732 t742 t743) else ((laws_eqContext.f kj10 t742 t743 t731 t732).bind fun t756 => (if t756 = true then (laws_FnExactReduceContext.j1 kj10 t735 (t746 != t735) a0_0 l0_1 t731 t732 t742 t743) else (laws_FnExactReduceContext.j1 kj10 t735 true a0_0 l0_1 t731 t732 t742 t743))))) = some r := q45_47
      clear H
      have H := H1
      clear H1
      replace H := Option.bind_eq_some_iff.mp H
      obtain ⟨⟨t754, t755⟩, A590, H⟩ := H
      replace H : (if t754 < 0 then (laws_FnExactReduceContext.j1 kj10 t735 true a0_0 l0_1 t731 t732 t742 t743) else ((laws_eqContext.f kj10 t742 t743 t731 t732).bind fun t756 => (if t756 = true then (laws_FnExactReduceContext.j1 kj10 t735 (t746 != t735) a0_0 l0_1 t731 t732 t742 t743) else (laws_FnExactReduceContext.j1 kj10 t735 true a0_0 l0_1 t731 t732 t742 t743)))) = some r := H
      have A59 := Aside0.mk A590
      clear A590
      have HC60 := Aside0.mk H
      clear H
      try go_wp2
      have n0_ := Aside0.mk (Kd.R_drew HO_737001.out)
      have n1_ := Aside0.mk (Kd.R_drew HO_742001.out)
      have n2_ := Aside0.mk (Kd.R_drew HO_748001.out)
      have n3_ := Aside0.mk (blk_drew BK725.out)
      have n4_ := Aside0.mk (blk_drew BK736.out)
      have n5_ := Aside0.mk (blk_drew BK741.out)
      have n6_ := Aside0.mk (blk_drew BK747.out)
      have n7_ := Aside0.mk (below_drew1 HB.out)
      clear HO_737001
      clear HO_742001
      clear HO_748001
      clear BK725
      clear BK736
      clear BK741
      clear BK747
      clear HB
      have HO_737001 := n0_
      have HO_742001 := n1_
      have HO_748001 := n2_
      have BK725 := n3_
      have BK736 := n4_
      have BK741 := n5_
      have BK747 := n6_
      have HB := n7_
      clear n0_ n1_ n2_ n3_ n4_ n5_ n6_ n7_
      refine start_ (n := 5) (S := fun w' => w'.cell? ⟨gb741, 0, none⟩ = some (.int .i64 t737) ∧ w'.cell? ⟨gb741, 1, none⟩ = some (.slice Ao29 t738.length co29) ∧ w'.cell? ⟨gb725, 0, none⟩ = some (.int .i64 a0_0) ∧ w'.cell? ⟨gb725, 1, none⟩ = some (.slice A0_1 l0_1.length c0_1)) (ds := []) #[false, false, false, false, false] q45_48 rfl rfl ⟨(blk_cell BK741.out 0).trans rfl, (blk_cell BK741.out 1).trans rfl, (blk_cell BK725.out 0).trans rfl, (blk_cell BK725.out 1).trans rfl⟩ (fun hHeld => ?_)
      generalize wc.drew = w61 at HO_737001 HO_742001 HO_748001 BK725 BK736 BK741 BK747 HB hHeld ⊢
      refine take_ (i := 0) (N := some 41) (v := ?_) (a' := ?_) #[true, false, false, false, false] rfl rfl q45_48 (fun _ _ _ h => h) (Or.inl ⟨by rfl, ?_⟩) hHeld ?_ ?_
      rotate_left
      ·
       rintro w' ⟨s0, s1, s2, s3⟩
       go_simp
       with_reducible rfl
      rotate_left
      ·
       exact put45_
      refine take_ (i := 1) (N := some 42) (v := ?_) (a' := ?_) #[true, true, false, false, false] rfl rfl q45_48 (fun _ _ _ h => h) (Or.inl ⟨by rfl, ?_⟩) hHeld ?_ ?_
      rotate_left
      ·
       rintro w' ⟨s0, s1, s2, s3⟩
       go_simp
       with_reducible rfl
      rotate_left
      ·
       exact put45_
      refine one_ (i := 2) (N := some 43) #[true, true, true, false, false] rfl rfl q45_48 (by decide) (fun K hK => ?_)
      refine goes_ Try.func17 q45_48 rfl #[.agg #[.int .i64 a0_0, .slice A0_1 l0_1.length c0_1]] (by rfl) rfl rfl q45_32 ?_
      with_reducible refine (laws_toContext.calls kj10 a0_0 _ _ l0_1 t749 t750 _ ?side1 ?side2 A56.out).mono ?_
      (case side1 => exact q45_30)
      (case side2 => exact HC0_1.out)
      rintro e w62 ⟨v751, rfl, ho0, hb⟩
      refine ⟨_, rfl, ?_⟩
      have n0_ := Aside0.mk (Kd.R_elder' q45_38 (Kd.R_base ho0) hb)
      have n1_ := Aside0.mk (Kd.R_elder' q45_39 (Kd.R_base ho0) hb)
      have n2_ := Aside0.mk (Kd.R_elder' q45_40 (Kd.R_base ho0) hb)
      have n3_ := Aside0.mk (Kd.R_lower (Kd.R_new' (Kd.R_new' (Kd.R_new' ho0 (Kd.R_lt q45_38)) (Kd.R_lt q45_39)) (Kd.R_lt q45_40)) (below_size q45_25))
      have n4_ := Aside0.mk (blk_below (g := gb725) (o := .cells #[.int .i64 a0_0, .slice A0_1 l0_1.length c0_1] 24 (0, 0)) q45_34 hb)
      have n5_ := Aside0.mk (blk_below (g := gb736) (o := .cells #[.int .i64 t731, .slice Ao22 t732.length co22] 27 (0, 0)) q45_35 hb)
      have n6_ := Aside0.mk (blk_below (g := gb741) (o := .cells #[.int .i64 t737, .slice Ao29 t738.length co29] 27 (0, 0)) q45_36 hb)
      have n7_ := Aside0.mk (blk_below (g := gb747) (o := .cells #[.int .i64 t742, .slice Ao36 t743.length co36] 27 (0, 0)) q45_37 hb)
      have n8_ := Aside0.mk (below_step q45_25 hb)
      clear HO_737001
      clear HO_742001
      clear HO_748001
      clear BK725
      clear BK736
      clear BK741
      clear BK747
      clear HB
      have HO_737001 := n0_
      have HO_742001 := n1_
      have HO_748001 := n2_
      have HO752 := n3_
      have BK725 := n4_
      have BK736 := n5_
      have BK741 := n6_
      have BK747 := n7_
      have HB := n8_
      clear n0_ n1_ n2_ n3_ n4_ n5_ n6_ n7_ n8_
      (try clear hb)
      (try clear hb2)
      (try clear hk)
      (try clear hi)
      (try clear ho0)
      obtain ⟨Ao63, co63, eo63⟩ := Kd.R_slice HO752.out
      (first | subst eo63 | (injection eo63 with f1_ f2_ f3_; have f4_ := f1_.symm; have f5_ := f3_.symm; clear f1_ f2_ f3_; subst f4_; subst f5_))
      refine hK.out _ _ ⟨(blk_cell BK741.out 0).trans rfl, (blk_cell BK741.out 1).trans rfl, (blk_cell BK725.out 0).trans rfl, (blk_cell BK725.out 1).trans rfl⟩ (fun hHeld => ?_)
      clear hK K
      refine norm_ (a' := ?_) ?_ ?_
      rotate_left
      ·
       show Act.put _ (some 43) _ = _
       exact put45_
      refine one_ (i := 3) (N := some 44) #[true, true, true, true, false] rfl rfl q45_48 (by decide) (fun K hK => ?_)
      refine goes_ Try.func19 q45_48 rfl #[.agg #[.int .i64 t737, .slice Ao29 t738.length co29], .agg #[.int .i64 t749, .slice Ao63 t750.length co63]] (by rfl) rfl rfl q45_32 ?_
      with_reducible refine (laws_eqContext.calls kj10 t737 _ _ t738 t749 _ _ t750 true _ ?side1 ?side2 ?side3 ?side4 A57.out).mono ?_
      (case side1 => repeat (first | exact (Kd.R_reads' HO_742001.out).2.2 | (with_reducible refine Kd.C_alloc ?_ _) | (with_reducible refine Kd.C_drewN ?_ _) | (with_reducible refine Kd.C_drew ?_)))
      (case side2 => exact (Kd.R_reads' HO_742001.out).2.1)
      (case side3 => repeat (first | exact (Kd.R_reads' HO752.out).2.2 | (with_reducible refine Kd.C_alloc ?_ _) | (with_reducible refine Kd.C_drewN ?_ _) | (with_reducible refine Kd.C_drew ?_)))
      (case side4 => exact (Kd.R_reads' HO752.out).2.1)
      rintro e w64 ⟨rfl, hb⟩
      refine ⟨_, rfl, ?_⟩
      have n0_ := Aside0.mk (Kd.R_below q45_38 hb)
      have n1_ := Aside0.mk (Kd.R_below q45_39 hb)
      have n2_ := Aside0.mk (Kd.R_below q45_40 hb)
      have n3_ := Aside0.mk (Kd.R_below q45_43 hb)
      have n4_ := Aside0.mk (blk_below (g := gb725) (o := .cells #[.int .i64 a0_0, .slice A0_1 l0_1.length c0_1] 24 (0, 0)) q45_34 hb)
      have n5_ := Aside0.mk (blk_below (g := gb736) (o := .cells #[.int .i64 t731, .slice Ao22 t732.length co22] 27 (0, 0)) q45_35 hb)
      have n6_ := Aside0.mk (blk_below (g := gb741) (o := .cells #[.int .i64 t737, .slice Ao29 t738.length co29] 27 (0, 0)) q45_36 hb)
      have n7_ := Aside0.mk (blk_below (g := gb747) (o := .cells #[.int .i64 t742, .slice Ao36 t743.length co36] 27 (0, 0)) q45_37 hb)
      have n8_ := Aside0.mk (below_step q45_25 hb)
      clear HO_737001
      clear HO_742001
      clear HO_748001
      clear HO752
      clear BK725
      clear BK736
      clear BK741
      clear BK747
      clear HB
      have HO_737001 := n0_
      have HO_742001 := n1_
      have HO_748001 := n2_
      have HO752 := n3_
      have BK725 := n4_
      have BK736 := n5_
      have BK741 := n6_
      have BK747 := n7_
      have HB := n8_
      clear n0_ n1_ n2_ n3_ n4_ n5_ n6_ n7_ n8_
      (try clear hb)
      (try clear hb2)
      (try clear hk)
      (try clear hi)
      refine hK.out _ _ ⟨(blk_cell BK741.out 0).trans rfl, (blk_cell BK741.out 1).trans rfl, (blk_cell BK725.out 0).trans rfl, (blk_cell BK725.out 1).trans rfl⟩ (fun hHeld => ?_)
      clear hK K
      refine norm_ (a' := ?_) ?_ ?_
      rotate_left
      ·
       show Act.put _ (some 44) _ = _
       exact put45_
      refine pure_ (i := 4) (N := some 45) (v := ?_) (a' := ?_) #[true, true, true, true, true] rfl rfl q45_48 (fun _ _ _ h => h) (Or.inl ⟨by rfl, ?_⟩) ?_ ?_
      rotate_left
      ·
       intro w'
       go_simp
       with_reducible rfl
      rotate_left
      ·
       exact put45_
      refine done_ q45_48 ?_
      have hnb65 := NB741_725.out
      have hnc65 := NB725_741.out
      have hnb66 := NB741_736.out
      have hnc66 := NB736_741.out
      have hnb67 := NB741_747.out
      have hnc67 := NB747_741.out
      have hcz68_0 : w64.cell? ⟨gb741, 0, none⟩ = some (.int .i64 t737) := (blk_cell BK741.out 0).trans rfl
      have hcz68_1 : w64.cell? ⟨gb741, 1, none⟩ = some (.slice Ao29 t738.length co29) := (blk_cell BK741.out 1).trans rfl
      have hfz68_0 := blk_frozen BK741.out 0
      have hfz68_1 := blk_frozen BK741.out 1
      go_upto_region 14 with (first | ((with_reducible refine gate_callee (f := 37) rfl ?_); refine goesL_ (some 48) rfl rfl Try.func37 q45_48 rfl #[.agg #[.int .i64 t737, .slice Ao29 t738.length co29], .int .i64 1] rfl q45_32 ?_; (with_reducible refine (laws_markContext.calls kj10 t737 (fun k_ => some k_ = (.slice Ao29 t738.length co29 : Value).ownBlock) (.slice Ao29 t738.length co29) t738 1 t754 t755 w _ ?side1 ?side2 A59.out).mono ?_); (case side1 => exact q45_25); (case side2 => exact Kd.R_tight rfl HO_742001.out); rintro e w69 ⟨rfl, hy0, hb, hkp⟩; refine ⟨_, rfl, ?_⟩; have n0_ := Aside0.mk (Kd.R_mono (ok' := fun k_ => some k_ ≠ (.slice Ao29 t738.length co29 : Value).ownBlock ∧ some k_ ≠ (.slice Ao36 t743.length co36 : Value).ownBlock ∧ some k_ ≠ (.slice Ao63 t750.length co63 : Value).ownBlock) (Kd.R_keptB (HO_737001.out) hkp (fun k_ hk_ hs_ => (hk_.1.1) hs_)) (fun k_ hk_ => ⟨hk_.1.1.1, hk_.1.1.2, hk_.1.2⟩)); have n1_ := Aside0.mk (Kd.R_reok rfl hy0 (fun k_ e_ => HO_742001.out.1 k_ e_)); have n2_ := Aside0.mk (Kd.R_mono (ok' := fun k_ => some k_ ≠ (.slice Ao22 t732.length co22 : Value).ownBlock ∧ some k_ ≠ (.slice Ao29 t738.length co29 : Value).ownBlock ∧ some k_ ≠ (.slice Ao63 t750.length co63 : Value).ownBlock) (Kd.R_keptB (HO_748001.out) hkp (fun k_ hk_ hs_ => (hk_.1.2) hs_)) (fun k_ hk_ => ⟨hk_.1.1.1, hk_.1.1.2, hk_.1.2⟩)); have n3_ := Aside0.mk (blk_kept q45_34 hkp (fun hs_ => (fun e_ => (Kd.R_ne HO_742001.out BK725.out (by decide)) e_) hs_)); have n4_ := Aside0.mk (blk_kept q45_35 hkp (fun hs_ => (fun e_ => (Kd.R_ne HO_742001.out BK736.out (by decide)) e_) hs_)); have n5_ := Aside0.mk (blk_kept q45_36 hkp (fun hs_ => (fun e_ => (Kd.R_ne HO_742001.out BK741.out (by decide)) e_) hs_)); have n6_ := Aside0.mk (blk_kept q45_37 hkp (fun hs_ => (fun e_ => (Kd.R_ne HO_742001.out BK747.out (by decide)) e_) hs_)); have n7_ := Aside0.mk (Kd.R_mono (ok' := fun k_ => some k_ ≠ (.slice Ao22 t732.length co22 : Value).ownBlock ∧ some k_ ≠ (.slice Ao29 t738.length co29 : Value).ownBlock ∧ some k_ ≠ (.slice Ao36 t743.length co36 : Value).ownBlock) (Kd.R_keptB (HO752.out) hkp (fun k_ hk_ hs_ => (hk_.1.2) hs_)) (fun k_ hk_ => ⟨hk_.1.1.1.2, hk_.1.1.2, hk_.1.2⟩)); have n8_ := Aside0.mk (hb); clear HO_737001; clear HO_742001; clear HO_748001; clear BK725; clear BK736; clear BK741; clear BK747; clear HO752; clear HB; have HO_737001 := n0_; have HO_742001 := n1_; have HO_748001 := n2_; have BK725 := n3_; have BK736 := n4_; have BK741 := n5_; have BK747 := n6_; have HO752 := n7_; have HB := n8_; clear n0_ n1_ n2_ n3_ n4_ n5_ n6_ n7_ n8_; (try clear hb); (try clear hkp); (try clear hy0)))
      (try simp only [Act.put, List.setIfInBounds_toArray, List.set_cons_zero, List.set_cons_succ])
      go_cut [61] (fun v61 wc => ∃ (kq : Nat) (x61_59 : Bool), v61 = .bool x61_59 ∧ Aside0 (laws_FnExactReduceContext.j1 kq t735 x61_59 a0_0 l0_1 t731 t732 t742 t743 = some r) ∧ Aside0 (kq ≤ kj10) ∧ Aside0 (Kd.R (Kd.int .i64) 3 wc w.heap.size (fun k_ => some k_ ≠ ((.slice Ao29 t738.length co29) : Value).ownBlock ∧ some k_ ≠ ((.slice Ao36 t743.length co36) : Value).ownBlock) (.slice Ao22 t732.length co22) t732) ∧ Aside0 (Kd.R (Kd.int .i64) 3 wc w.heap.size (fun k_ => some k_ ≠ ((.slice Ao22 t732.length co22) : Value).ownBlock ∧ some k_ ≠ ((.slice Ao36 t743.length co36) : Value).ownBlock) (.slice Ao29 t738.length co29) t755) ∧ Aside0 (Kd.R (Kd.int .i64) 3 wc w.heap.size (fun k_ => some k_ ≠ ((.slice Ao22 t732.length co22) : Value).ownBlock ∧ some k_ ≠ ((.slice Ao29 t738.length co29) : Value).ownBlock) (.slice Ao36 t743.length co36) t743) ∧ Aside0 (wc.heap[gb725]? = some (.cells #[.int .i64 a0_0, (.slice A0_1 l0_1.length c0_1)] 24 (0, 0))) ∧ Aside0 (wc.heap[gb736]? = some (.cells #[.int .i64 t731, (.slice Ao22 t732.length co22)] 27 (0, 0))) ∧ Aside0 (wc.heap[gb741]? = some (.cells #[.int .i64 t737, (.slice Ao29 t738.length co29)] 27 (0, 0))) ∧ Aside0 (wc.heap[gb747]? = some (.cells #[.int .i64 t742, (.slice Ao36 t743.length co36)] 27 (0, 0))) ∧ Aside0 (Below w.heap.size w wc))
      case first =>
       have H := HC60.out
       clear HC60
       by_cases c70 : t754 < 0
       ·
        rw [if_pos c70] at H
        have c70b0 : decide (t754 < 0) = true := decide_eq_true c70
        clear c70
        (first | rw [c70b0] | (simp only [i64_w, i32_w]; rw [c70b0]) | skip)
        have H' := Aside0.mk H
        clear H
        go_wp2
        go_meet
        case rel => exact ⟨_, (true), q45_45, H', ⟨by have := HJ10.out; first | omega | exact Nat.le_refl _⟩, ⟨by (with_reducible repeat (first | apply Kd.R_alloc | apply Kd.R_drewN | apply Kd.R_drew)); exact Kd.R_mono HO_737001.out (fun _ hk => ⟨hk.1, hk.2.1⟩)⟩, ⟨by (with_reducible repeat (first | apply Kd.R_alloc | apply Kd.R_drewN | apply Kd.R_drew)); exact Kd.R_mono HO_742001.out (fun _ hk => ⟨hk.1.1, hk.1.2⟩)⟩, ⟨by (with_reducible repeat (first | apply Kd.R_alloc | apply Kd.R_drewN | apply Kd.R_drew)); exact Kd.R_mono HO_748001.out (fun _ hk => ⟨hk.1, hk.2.1⟩)⟩, ⟨by (with_reducible repeat (first | refine blk_drewN ?_ _ | refine blk_drew ?_ | refine blk_alloc ?_ _)); exact BK725.out⟩, ⟨by (with_reducible repeat (first | refine blk_drewN ?_ _ | refine blk_drew ?_ | refine blk_alloc ?_ _)); exact BK736.out⟩, ⟨by (with_reducible repeat (first | refine blk_drewN ?_ _ | refine blk_drew ?_ | refine blk_alloc ?_ _)); exact BK741.out⟩, ⟨by (with_reducible repeat (first | refine blk_drewN ?_ _ | refine blk_drew ?_ | refine blk_alloc ?_ _)); exact BK747.out⟩, ⟨by repeat (first | (with_reducible first | exact HB.out | apply below_alloc | apply pw_below_drewN | apply below_drew1 | refine below_set ?_ GE725.out | refine below_set ?_ GE736.out | refine below_set ?_ GE741.out | refine below_set ?_ GE747.out) | exact HB.out)⟩⟩
       ·
        rw [if_neg c70] at H
        have c70b0 : decide (t754 < 0) = false := decide_eq_false c70
        clear c70
        (first | rw [c70b0] | (simp only [i64_w, i32_w]; rw [c70b0]) | skip)
        replace H := Option.bind_eq_some_iff.mp H
        obtain ⟨t756, A710, H⟩ := H
        replace H : (if t756 = true then (laws_FnExactReduceContext.j1 kj10 t735 (t746 != t735) a0_0 l0_1 t731 t732 t742 t743) else (laws_FnExactReduceContext.j1 kj10 t735 true a0_0 l0_1 t731 t732 t742 t743)) = some r := H
        have A71 := Aside0.mk A710
        clear A710
        by_cases c72 : t756 = true
        ·
         subst c72
         have H1 : (laws_FnExactReduceContext.j1 kj10 t735 (t746 != t735) a0_0 l0_1 t731 t732 t742 t743) = some r := q45_47
         clear H
         have H := H1
         clear H1
         have H' := Aside0.mk H
         clear H
         have hnb73 := NB747_725.out
         have hnc73 := NB725_747.out
         have hnb74 := NB747_736.out
         have hnc74 := NB736_747.out
         have hnb75 := NB747_741.out
         have hnc75 := NB741_747.out
         have hcz76_0 : w69.cell? ⟨gb747, 0, none⟩ = some (.int .i64 t742) := (blk_cell BK747.out 0).trans rfl
         have hcz76_1 : w69.cell? ⟨gb747, 1, none⟩ = some (.slice Ao36 t743.length co36) := (blk_cell BK747.out 1).trans rfl
         have hfz76_0 := blk_frozen BK747.out 0
         have hfz76_1 := blk_frozen BK747.out 1
         have hnb77 := NB736_725.out
         have hnc77 := NB725_736.out
         have hnb78 := NB736_741.out
         have hnc78 := NB741_736.out
         have hcz79_0 : w69.cell? ⟨gb736, 0, none⟩ = some (.int .i64 t731) := (blk_cell BK736.out 0).trans rfl
         have hcz79_1 : w69.cell? ⟨gb736, 1, none⟩ = some (.slice Ao22 t732.length co22) := (blk_cell BK736.out 1).trans rfl
         have hfz79_0 := blk_frozen BK736.out 0
         have hfz79_1 := blk_frozen BK736.out 1
         go_wp2_with (first | (go_at_call 19; (with_reducible refine (laws_eqContext.calls kj10 t742 _ _ t743 t731 _ _ t732 true _ ?side1 ?side2 ?side3 ?side4 A71.out).mono ?_); (case side1 => exact q45_29); (case side2 => exact (Kd.R_reads' HO_748001.out).2.1); (case side3 => exact q45_28); (case side4 => exact (Kd.R_reads' HO_737001.out).2.1); rintro e w80 ⟨rfl, hb⟩; have n0_ := Aside0.mk (Kd.R_below q45_38 hb); have n1_ := Aside0.mk (Kd.R_below q45_39 hb); have n2_ := Aside0.mk (Kd.R_below q45_40 hb); have n3_ := Aside0.mk (Kd.R_below q45_43 hb); have n4_ := Aside0.mk (blk_below (g := gb725) (o := .cells #[.int .i64 a0_0, .slice A0_1 l0_1.length c0_1] 24 (0, 0)) q45_34 hb); have n5_ := Aside0.mk (blk_below (g := gb736) (o := .cells #[.int .i64 t731, .slice Ao22 t732.length co22] 27 (0, 0)) q45_35 hb); have n6_ := Aside0.mk (blk_below (g := gb741) (o := .cells #[.int .i64 t737, .slice Ao29 t738.length co29] 27 (0, 0)) q45_36 hb); have n7_ := Aside0.mk (blk_below (g := gb747) (o := .cells #[.int .i64 t742, .slice Ao36 t743.length co36] 27 (0, 0)) q45_37 hb); have n8_ := Aside0.mk (below_step q45_25 hb); clear HO_737001; clear HO_742001; clear HO_748001; clear HO752; clear BK725; clear BK736; clear BK741; clear BK747; clear HB; have HO_737001 := n0_; have HO_742001 := n1_; have HO_748001 := n2_; have HO752 := n3_; have BK725 := n4_; have BK736 := n5_; have BK741 := n6_; have BK747 := n7_; have HB := n8_; clear n0_ n1_ n2_ n3_ n4_ n5_ n6_ n7_ n8_; (try clear hb); (try clear hb2); (try clear hk); (try clear hi)))
         go_meet
         case rel => exact ⟨_, ((t746 != t735)), q45_45, H', ⟨by have := HJ10.out; first | omega | exact Nat.le_refl _⟩, ⟨by (with_reducible repeat (first | apply Kd.R_alloc | apply Kd.R_drewN | apply Kd.R_drew)); exact Kd.R_mono HO_737001.out (fun _ hk => ⟨hk.1, hk.2.1⟩)⟩, ⟨by (with_reducible repeat (first | apply Kd.R_alloc | apply Kd.R_drewN | apply Kd.R_drew)); exact Kd.R_mono HO_742001.out (fun _ hk => ⟨hk.1.1, hk.1.2⟩)⟩, ⟨by (with_reducible repeat (first | apply Kd.R_alloc | apply Kd.R_drewN | apply Kd.R_drew)); exact Kd.R_mono HO_748001.out (fun _ hk => ⟨hk.1, hk.2.1⟩)⟩, ⟨by (with_reducible repeat (first | refine blk_drewN ?_ _ | refine blk_drew ?_ | refine blk_alloc ?_ _)); exact BK725.out⟩, ⟨by (with_reducible repeat (first | refine blk_drewN ?_ _ | refine blk_drew ?_ | refine blk_alloc ?_ _)); exact BK736.out⟩, ⟨by (with_reducible repeat (first | refine blk_drewN ?_ _ | refine blk_drew ?_ | refine blk_alloc ?_ _)); exact BK741.out⟩, ⟨by (with_reducible repeat (first | refine blk_drewN ?_ _ | refine blk_drew ?_ | refine blk_alloc ?_ _)); exact BK747.out⟩, ⟨by repeat (first | (with_reducible first | exact HB.out | apply below_alloc | apply pw_below_drewN | apply below_drew1 | refine below_set ?_ GE725.out | refine below_set ?_ GE736.out | refine below_set ?_ GE741.out | refine below_set ?_ GE747.out) | exact HB.out)⟩⟩
        ·
         replace c72 := Bool.eq_false_iff.mpr c72
         subst c72
         have H1 : (laws_FnExactReduceContext.j1 kj10 t735 true a0_0 l0_1 t731 t732 t742 t743) = some r := q45_46
         clear H
         have H := H1
         clear H1
         have H' := Aside0.mk H
         clear H
         have hnb81 := NB747_725.out
         have hnc81 := NB725_747.out
         have hnb82 := NB747_736.out
         have hnc82 := NB736_747.out
         have hnb83 := NB747_741.out
         have hnc83 := NB741_747.out
         have hcz84_0 : w69.cell? ⟨gb747, 0, none⟩ = some (.int .i64 t742) := (blk_cell BK747.out 0).trans rfl
         have hcz84_1 : w69.cell? ⟨gb747, 1, none⟩ = some (.slice Ao36 t743.length co36) := (blk_cell BK747.out 1).trans rfl
         have hfz84_0 := blk_frozen BK747.out 0
         have hfz84_1 := blk_frozen BK747.out 1
         have hnb85 := NB736_725.out
         have hnc85 := NB725_736.out
         have hnb86 := NB736_741.out
         have hnc86 := NB741_736.out
         have hcz87_0 : w69.cell? ⟨gb736, 0, none⟩ = some (.int .i64 t731) := (blk_cell BK736.out 0).trans rfl
         have hcz87_1 : w69.cell? ⟨gb736, 1, none⟩ = some (.slice Ao22 t732.length co22) := (blk_cell BK736.out 1).trans rfl
         have hfz87_0 := blk_frozen BK736.out 0
         have hfz87_1 := blk_frozen BK736.out 1
         go_wp2_with (first | (go_at_call 19; (with_reducible refine (laws_eqContext.calls kj10 t742 _ _ t743 t731 _ _ t732 false _ ?side1 ?side2 ?side3 ?side4 A71.out).mono ?_); (case side1 => exact q45_29); (case side2 => exact (Kd.R_reads' HO_748001.out).2.1); (case side3 => exact q45_28); (case side4 => exact (Kd.R_reads' HO_737001.out).2.1); rintro e w88 ⟨rfl, hb⟩; have n0_ := Aside0.mk (Kd.R_below q45_38 hb); have n1_ := Aside0.mk (Kd.R_below q45_39 hb); have n2_ := Aside0.mk (Kd.R_below q45_40 hb); have n3_ := Aside0.mk (Kd.R_below q45_43 hb); have n4_ := Aside0.mk (blk_below (g := gb725) (o := .cells #[.int .i64 a0_0, .slice A0_1 l0_1.length c0_1] 24 (0, 0)) q45_34 hb); have n5_ := Aside0.mk (blk_below (g := gb736) (o := .cells #[.int .i64 t731, .slice Ao22 t732.length co22] 27 (0, 0)) q45_35 hb); have n6_ := Aside0.mk (blk_below (g := gb741) (o := .cells #[.int .i64 t737, .slice Ao29 t738.length co29] 27 (0, 0)) q45_36 hb); have n7_ := Aside0.mk (blk_below (g := gb747) (o := .cells #[.int .i64 t742, .slice Ao36 t743.length co36] 27 (0, 0)) q45_37 hb); have n8_ := Aside0.mk (below_step q45_25 hb); clear HO_737001; clear HO_742001; clear HO_748001; clear HO752; clear BK725; clear BK736; clear BK741; clear BK747; clear HB; have HO_737001 := n0_; have HO_742001 := n1_; have HO_748001 := n2_; have HO752 := n3_; have BK725 := n4_; have BK736 := n5_; have BK741 := n6_; have BK747 := n7_; have HB := n8_; clear n0_ n1_ n2_ n3_ n4_ n5_ n6_ n7_ n8_; (try clear hb); (try clear hb2); (try clear hk); (try clear hi)))
         go_meet
         case rel => exact ⟨_, (true), q45_45, H', ⟨by have := HJ10.out; first | omega | exact Nat.le_refl _⟩, ⟨by (with_reducible repeat (first | apply Kd.R_alloc | apply Kd.R_drewN | apply Kd.R_drew)); exact Kd.R_mono HO_737001.out (fun _ hk => ⟨hk.1, hk.2.1⟩)⟩, ⟨by (with_reducible repeat (first | apply Kd.R_alloc | apply Kd.R_drewN | apply Kd.R_drew)); exact Kd.R_mono HO_742001.out (fun _ hk => ⟨hk.1.1, hk.1.2⟩)⟩, ⟨by (with_reducible repeat (first | apply Kd.R_alloc | apply Kd.R_drewN | apply Kd.R_drew)); exact Kd.R_mono HO_748001.out (fun _ hk => ⟨hk.1, hk.2.1⟩)⟩, ⟨by (with_reducible repeat (first | refine blk_drewN ?_ _ | refine blk_drew ?_ | refine blk_alloc ?_ _)); exact BK725.out⟩, ⟨by (with_reducible repeat (first | refine blk_drewN ?_ _ | refine blk_drew ?_ | refine blk_alloc ?_ _)); exact BK736.out⟩, ⟨by (with_reducible repeat (first | refine blk_drewN ?_ _ | refine blk_drew ?_ | refine blk_alloc ?_ _)); exact BK741.out⟩, ⟨by (with_reducible repeat (first | refine blk_drewN ?_ _ | refine blk_drew ?_ | refine blk_alloc ?_ _)); exact BK747.out⟩, ⟨by repeat (first | (with_reducible first | exact HB.out | apply below_alloc | apply pw_below_drewN | apply below_drew1 | refine below_set ?_ GE725.out | refine below_set ?_ GE736.out | refine below_set ?_ GE741.out | refine below_set ?_ GE747.out) | exact HB.out)⟩⟩
      case rest =>
       clear HC60
       try clear c1
       try clear c2
       try clear p2
       try clear c3
       try clear c3b0
       try clear c4
       try clear c5
       try clear c6
       try clear c7
       try clear c8
       try clear c14
       try clear c15
       try clear c17
       try clear c19
       try clear c20
       try clear c26
       try clear c27
       try clear c32
       try clear c33
       try clear c34
       try clear c37
       try clear c38
       try clear c39
       try clear c40
       try clear c41
       try clear c43
       try clear c44
       try clear c47
       try clear c48
       try clear c49
       try clear c51
       try clear c52
       try clear c55
       try clear c58
       try clear c65
       try clear c66
       try clear c67
       try clear c70
       try clear c70b0
       try clear c72
       try clear c73
       try clear c74
       try clear c75
       try clear c77
       try clear c78
       try clear c81
       try clear c82
       try clear c83
       try clear c85
       try clear c86
       try clear hcz13_0
       try clear hcz13_1
       try clear hcz15_0
       try clear hcz15_1
       try clear hcz21_0
       try clear hcz21_1
       try clear hcz23_0
       try clear hcz23_1
       try clear hcz28_0
       try clear hcz28_1
       try clear hcz35_0
       try clear hcz35_1
       try clear hcz42_0
       try clear hcz42_1
       try clear hcz45_0
       try clear hcz45_1
       try clear hcz50_0
       try clear hcz50_1
       try clear hcz53_0
       try clear hcz53_1
       try clear hcz5_0
       try clear hcz5_1
       try clear hcz68_0
       try clear hcz68_1
       try clear hcz76_0
       try clear hcz76_1
       try clear hcz79_0
       try clear hcz79_1
       try clear hcz84_0
       try clear hcz84_1
       try clear hcz87_0
       try clear hcz87_1
       try clear hfz13_0
       try clear hfz13_1
       try clear hfz15_0
       try clear hfz15_1
       try clear hfz21_0
       try clear hfz21_1
       try clear hfz23_0
       try clear hfz23_1
       try clear hfz28_0
       try clear hfz28_1
       try clear hfz35_0
       try clear hfz35_1
       try clear hfz42_0
       try clear hfz42_1
       try clear hfz45_0
       try clear hfz45_1
       try clear hfz50_0
       try clear hfz50_1
       try clear hfz53_0
       try clear hfz53_1
       try clear hfz5_0
       try clear hfz5_1
       try clear hfz68_0
       try clear hfz68_1
       try clear hfz76_0
       try clear hfz76_1
       try clear hfz79_0
       try clear hfz79_1
       try clear hfz84_0
       try clear hfz84_1
       try clear hfz87_0
       try clear hfz87_1
       try clear p2
       obtain ⟨kq, x61_59, rfl, HA, HJ59, HO_737001, HO_742001, HO_748001, BK725, BK736, BK741, BK747, HB⟩ := hcut
       have hl742001_59 := (Kd.R_reads' HO_742001.out).1
       rw [hl742001_59] at HO_742001
       (try simp only [hl742001_59])
       (try simp only [hl742001_59] at BK725)
       (try simp only [hl742001_59] at BK736)
       (try simp only [hl742001_59] at BK741)
       (try simp only [hl742001_59] at BK747)
       (try simp only [hl742001_59] at HO_737001)
       (try simp only [hl742001_59] at HO_748001)
       cases kq with
       | zero => exact absurd HA.out (by simp [laws_FnExactReduceContext.j1])
       | succ kj59 =>
        have H := HA.out
        clear HA
        simp only [laws_FnExactReduceContext.j1] at H
        by_cases c89 : x61_59 = true
        ·
         subst c89
         have H1 : (some false) = some r := q45_47
         clear H
         have H := H1
         clear H1
         exact absurd ((Option.some.inj H).trans HRT.out) Bool.false_ne_true
        ·
         replace c89 := Bool.eq_false_iff.mpr c89
         subst c89
         have H1 : ((laws_markContext.f kj59 t742 t743 1).bind fun bt757 => ((laws_heldContext.f kj59 t742 bt757.2 1).bind fun t759 => (if t759 < 0 then (some false) else (if t759 = bt757.1 then ((laws_toContext.f kj59 a0_0 l0_1).bind fun bt760 => ((impl_ReduceContext.f kj59 bt760.1 bt760.2).bind fun bt764 => ((laws_eqContext.f kj59 bt764.1 bt764.2.1 t731 t732).bind fun t770 => (if t770 = true then (laws_FnExactReduceContext.j2 kj59 bt757.1 (bt764.2.2 != t735) t742 bt757.2) else (laws_FnExactReduceContext.j2 kj59 bt757.1 true t742 bt757.2))))) else (some false))))) = some r := q45_46
         clear H
         have H := H1
         clear H1
         replace H := Option.bind_eq_some_iff.mp H
         obtain ⟨⟨t757, t758⟩, A900, H⟩ := H
         replace H : ((laws_heldContext.f kj59 t742 t758 1).bind fun t759 => (if t759 < 0 then (some false) else (if t759 = t757 then ((laws_toContext.f kj59 a0_0 l0_1).bind fun bt760 => ((impl_ReduceContext.f kj59 bt760.1 bt760.2).bind fun bt764 => ((laws_eqContext.f kj59 bt764.1 bt764.2.1 t731 t732).bind fun t770 => (if t770 = true then (laws_FnExactReduceContext.j2 kj59 t757 (bt764.2.2 != t735) t742 t758) else (laws_FnExactReduceContext.j2 kj59 t757 true t742 t758))))) else (some false)))) = some r := H
         have A90 := Aside0.mk A900
         clear A900
         replace H := Option.bind_eq_some_iff.mp H
         obtain ⟨t759, A910, H⟩ := H
         replace H : (if t759 < 0 then (some false) else (if t759 = t757 then ((laws_toContext.f kj59 a0_0 l0_1).bind fun bt760 => ((impl_ReduceContext.f kj59 bt760.1 bt760.2).bind fun bt764 => ((laws_eqContext.f kj59 bt764.1 bt764.2.1 t731 t732).bind fun t770 => (if t770 = true then (laws_FnExactReduceContext.j2 kj59 t757 (bt764.2.2 != t735) t742 t758) else (laws_FnExactReduceContext.j2 kj59 t757 true t742 t758))))) else (some false))) = some r := H
         have A91 := Aside0.mk A910
         clear A910
         by_cases c92 : t759 < 0
         ·
          rw [if_pos c92] at H
          exact absurd ((Option.some.inj H).trans HRT.out) Bool.false_ne_true
         ·
          rw [if_neg c92] at H
          have c92b0 : decide (t759 < 0) = false := decide_eq_false c92
          clear c92
          by_cases c93 : t759 = t757
          ·
           rw [if_pos c93] at H
           have c93b0 : (t759 == t757) = true := beq_iff_eq.mpr c93
           have c93b1 : (t759 != t757) = false := bne_eq_false_iff_eq.mpr c93
           clear c93
           replace H := Option.bind_eq_some_iff.mp H
           obtain ⟨⟨t760, t761⟩, A940, H⟩ := H
           replace H : ((impl_ReduceContext.f kj59 t760 t761).bind fun bt764 => ((laws_eqContext.f kj59 bt764.1 bt764.2.1 t731 t732).bind fun t770 => (if t770 = true then (laws_FnExactReduceContext.j2 kj59 t757 (bt764.2.2 != t735) t742 t758) else (laws_FnExactReduceContext.j2 kj59 t757 true t742 t758)))) = some r := H
           have A94 := Aside0.mk A940
           clear A940
           replace H := Option.bind_eq_some_iff.mp H
           obtain ⟨⟨t764, t765, t768⟩, A950, H⟩ := H
           replace H : ((laws_eqContext.f kj59 t764 t765 t731 t732).bind fun t770 => (if t770 = true then (laws_FnExactReduceContext.j2 kj59 t757 (t768 != t735) t742 t758) else (laws_FnExactReduceContext.j2 kj59 t757 true t742 t758))) = some r := H
           have A95 := Aside0.mk A950
           clear A950
           have HC96 := Aside0.mk H
           clear H
           have hnb97 := NB747_725.out
           have hnc97 := NB725_747.out
           have hnb98 := NB747_736.out
           have hnc98 := NB736_747.out
           have hnb99 := NB747_741.out
           have hnc99 := NB741_747.out
           have hcz100_0 : wc.cell? ⟨gb747, 0, none⟩ = some (.int .i64 t742) := (blk_cell BK747.out 0).trans rfl
           have hcz100_1 : wc.cell? ⟨gb747, 1, none⟩ = some (.slice Ao36 t743.length co36) := (blk_cell BK747.out 1).trans rfl
           have hfz100_0 := blk_frozen BK747.out 0
           have hfz100_1 := blk_frozen BK747.out 1
           go_upto_region 25 with (first | ((with_reducible refine gate_callee (f := 37) rfl ?_); refine goesL_ (some 64) rfl rfl Try.func37 q45_48 rfl #[.agg #[.int .i64 t742, .slice Ao36 t743.length co36], .int .i64 1] rfl q45_32 ?_; (with_reducible refine (laws_markContext.calls kj59 t742 (fun k_ => some k_ = (.slice Ao36 t743.length co36 : Value).ownBlock) (.slice Ao36 t743.length co36) t743 1 t757 t758 w _ ?side1 ?side2 A90.out).mono ?_); (case side1 => exact q45_25); (case side2 => exact Kd.R_tight rfl HO_748001.out); rintro e w101 ⟨rfl, hy0, hb, hkp⟩; refine ⟨_, rfl, ?_⟩; have n0_ := Aside0.mk (Kd.R_mono (ok' := fun k_ => some k_ ≠ (.slice Ao29 t755.length co29 : Value).ownBlock ∧ some k_ ≠ (.slice Ao36 t743.length co36 : Value).ownBlock) (Kd.R_keptB (HO_737001.out) hkp (fun k_ hk_ hs_ => (hk_.2) hs_)) (fun k_ hk_ => ⟨hk_.1.1, hk_.1.2⟩)); have n1_ := Aside0.mk (Kd.R_mono (ok' := fun k_ => some k_ ≠ (.slice Ao22 t732.length co22 : Value).ownBlock ∧ some k_ ≠ (.slice Ao36 t743.length co36 : Value).ownBlock) (Kd.R_keptB (HO_742001.out) hkp (fun k_ hk_ hs_ => (hk_.2) hs_)) (fun k_ hk_ => ⟨hk_.1.1, hk_.1.2⟩)); have n2_ := Aside0.mk (Kd.R_reok rfl hy0 (fun k_ e_ => HO_748001.out.1 k_ e_)); have n3_ := Aside0.mk (blk_kept q45_34 hkp (fun hs_ => (fun e_ => (Kd.R_ne HO_748001.out BK725.out (by decide)) e_) hs_)); have n4_ := Aside0.mk (blk_kept q45_35 hkp (fun hs_ => (fun e_ => (Kd.R_ne HO_748001.out BK736.out (by decide)) e_) hs_)); have n5_ := Aside0.mk (blk_kept q45_36 hkp (fun hs_ => (fun e_ => (Kd.R_ne HO_748001.out BK741.out (by decide)) e_) hs_)); have n6_ := Aside0.mk (blk_kept q45_37 hkp (fun hs_ => (fun e_ => (Kd.R_ne HO_748001.out BK747.out (by decide)) e_) hs_)); have n7_ := Aside0.mk (hb); clear HO_737001; clear HO_742001; clear HO_748001; clear BK725; clear BK736; clear BK741; clear BK747; clear HB; have HO_737001 := n0_; have HO_742001 := n1_; have HO_748001 := n2_; have BK725 := n3_; have BK736 := n4_; have BK741 := n5_; have BK747 := n6_; have HB := n7_; clear n0_ n1_ n2_ n3_ n4_ n5_ n6_ n7_; (try clear hb); (try clear hkp); (try clear hy0); have hcz102_0 : w101.cell? ⟨gb747, 0, none⟩ = some (.int .i64 t742) := (blk_cell BK747.out 0).trans rfl; have hcz102_1 : w101.cell? ⟨gb747, 1, none⟩ = some (.slice Ao36 t743.length co36) := (blk_cell BK747.out 1).trans rfl; have hfz102_0 := blk_frozen BK747.out 0; have hfz102_1 := blk_frozen BK747.out 1) | ((with_reducible refine gate_callee (f := 38) rfl ?_); refine goesL_ (some 67) rfl rfl Try.func38 q45_48 rfl #[.agg #[.int .i64 t742, .slice Ao36 t758.length co36], .int .i64 1] rfl (by (try simp only [List.map_toArray, List.map_cons, List.map_nil]); first | done | (rw [show t758.length = t743.length from (Kd.R_reads' HO_748001.out).1.symm] <;> rfl) | rfl | (simp only [List.length_drop, List.length_take]; rfl)) ?_; (with_reducible refine (laws_heldContext.calls kj59 t742 _ _ t758 1 t759 _ ?side1 ?side2 A91.out).mono ?_); (case side1 => exact q45_29); (case side2 => rw [show t758.length = t743.length from (Kd.R_reads' HO_748001.out).1.symm]; exact (Kd.R_reads' HO_748001.out).2.1); rintro e w103 ⟨rfl, hb⟩; refine ⟨_, rfl, ?_⟩; have n0_ := Aside0.mk (Kd.R_below q45_38 hb); have n1_ := Aside0.mk (Kd.R_below q45_39 hb); have n2_ := Aside0.mk (Kd.R_below q45_40 hb); have n3_ := Aside0.mk (blk_below (g := gb725) (o := .cells #[.int .i64 a0_0, .slice A0_1 l0_1.length c0_1] 24 (0, 0)) q45_34 hb); have n4_ := Aside0.mk (blk_below (g := gb736) (o := .cells #[.int .i64 t731, .slice Ao22 t732.length co22] 27 (0, 0)) q45_35 hb); have n5_ := Aside0.mk (blk_below (g := gb741) (o := .cells #[.int .i64 t737, .slice Ao29 t755.length co29] 27 (0, 0)) q45_36 hb); have n6_ := Aside0.mk (blk_below (g := gb747) (o := .cells #[.int .i64 t742, .slice Ao36 t743.length co36] 27 (0, 0)) q45_37 hb); have n7_ := Aside0.mk (below_step q45_25 hb); clear HO_737001; clear HO_742001; clear HO_748001; clear BK725; clear BK736; clear BK741; clear BK747; clear HB; have HO_737001 := n0_; have HO_742001 := n1_; have HO_748001 := n2_; have BK725 := n3_; have BK736 := n4_; have BK741 := n5_; have BK747 := n6_; have HB := n7_; clear n0_ n1_ n2_ n3_ n4_ n5_ n6_ n7_; (try clear hb); (try clear hb2); (try clear hk); (try clear hi); have hnb104 := NB725_736.out; have hnc104 := NB736_725.out; have hnb105 := NB725_741.out; have hnc105 := NB741_725.out; have hcz106_0 : w103.cell? ⟨gb725, 0, none⟩ = some (.int .i64 a0_0) := (blk_cell BK725.out 0).trans rfl; have hcz106_1 : w103.cell? ⟨gb725, 1, none⟩ = some (.slice A0_1 l0_1.length c0_1) := (blk_cell BK725.out 1).trans rfl; have hfz106_0 := blk_frozen BK725.out 0; have hfz106_1 := blk_frozen BK725.out 1) | ((with_reducible refine gate_callee (f := 17) rfl ?_); refine goesL_ (some 75) rfl rfl Try.func17 q45_48 rfl #[.agg #[.int .i64 a0_0, .slice A0_1 l0_1.length c0_1]] rfl q45_32 ?_; (with_reducible refine (laws_toContext.calls kj59 a0_0 _ _ l0_1 t760 t761 _ ?side1 ?side2 A94.out).mono ?_); (case side1 => exact q45_30); (case side2 => exact HC0_1.out); rintro e w107 ⟨v762, rfl, ho0, hb⟩; refine ⟨_, rfl, ?_⟩; have n0_ := Aside0.mk (Kd.R_elder' q45_38 (Kd.R_base ho0) hb); have n1_ := Aside0.mk (Kd.R_elder' q45_39 (Kd.R_base ho0) hb); have n2_ := Aside0.mk (Kd.R_elder' q45_40 (Kd.R_base ho0) hb); have n3_ := Aside0.mk (Kd.R_lower (Kd.R_new' (Kd.R_new' (Kd.R_new' ho0 (Kd.R_lt q45_38)) (Kd.R_lt q45_39)) (Kd.R_lt q45_40)) (below_size q45_25)); have n4_ := Aside0.mk (blk_below (g := gb725) (o := .cells #[.int .i64 a0_0, .slice A0_1 l0_1.length c0_1] 24 (0, 0)) q45_34 hb); have n5_ := Aside0.mk (blk_below (g := gb736) (o := .cells #[.int .i64 t731, .slice Ao22 t732.length co22] 27 (0, 0)) q45_35 hb); have n6_ := Aside0.mk (blk_below (g := gb741) (o := .cells #[.int .i64 t737, .slice Ao29 t755.length co29] 27 (0, 0)) q45_36 hb); have n7_ := Aside0.mk (blk_below (g := gb747) (o := .cells #[.int .i64 t742, .slice Ao36 t743.length co36] 27 (0, 0)) q45_37 hb); have n8_ := Aside0.mk (below_step q45_25 hb); clear HO_737001; clear HO_742001; clear HO_748001; clear BK725; clear BK736; clear BK741; clear BK747; clear HB; have HO_737001 := n0_; have HO_742001 := n1_; have HO_748001 := n2_; have HO763 := n3_; have BK725 := n4_; have BK736 := n5_; have BK741 := n6_; have BK747 := n7_; have HB := n8_; clear n0_ n1_ n2_ n3_ n4_ n5_ n6_ n7_ n8_; (try clear hb); (try clear hb2); (try clear hk); (try clear hi); (try clear ho0); obtain ⟨Ao108, co108, eo108⟩ := Kd.R_slice HO763.out; subst eo108) | ((with_reducible refine gate_callee (f := 44) rfl ?_); refine goesL_ (some 76) rfl rfl Try.func44 q45_48 rfl #[.agg #[.int .i64 t760, .slice Ao108 t761.length co108]] rfl q45_32 ?_; (with_reducible refine (impl_ReduceContext.calls kj59 t760 _ _ t761 t764 t765 t768 _ ?side1 ?side2 A95.out).mono ?_); (case side1 => repeat (first | exact (Kd.R_reads' HO763.out).2.2 | (with_reducible refine Kd.C_alloc ?_ _) | (with_reducible refine Kd.C_drewN ?_ _) | (with_reducible refine Kd.C_drew ?_))); (case side2 => exact (Kd.R_reads' HO763.out).2.1); rintro e w109 ⟨v766, rfl, ho0, hb⟩; refine ⟨_, rfl, ?_⟩; have n0_ := Aside0.mk (Kd.R_elder' q45_38 (Kd.R_base ho0) hb); have n1_ := Aside0.mk (Kd.R_elder' q45_39 (Kd.R_base ho0) hb); have n2_ := Aside0.mk (Kd.R_elder' q45_40 (Kd.R_base ho0) hb); have n3_ := Aside0.mk (Kd.R_elder' q45_44 (Kd.R_base ho0) hb); have n4_ := Aside0.mk (Kd.R_lower (Kd.R_new' (Kd.R_new' (Kd.R_new' (Kd.R_new' ho0 (Kd.R_lt q45_38)) (Kd.R_lt q45_39)) (Kd.R_lt q45_40)) (Kd.R_lt q45_44)) (below_size q45_25)); have n5_ := Aside0.mk (blk_below (g := gb725) (o := .cells #[.int .i64 a0_0, .slice A0_1 l0_1.length c0_1] 24 (0, 0)) q45_34 hb); have n6_ := Aside0.mk (blk_below (g := gb736) (o := .cells #[.int .i64 t731, .slice Ao22 t732.length co22] 27 (0, 0)) q45_35 hb); have n7_ := Aside0.mk (blk_below (g := gb741) (o := .cells #[.int .i64 t737, .slice Ao29 t755.length co29] 27 (0, 0)) q45_36 hb); have n8_ := Aside0.mk (blk_below (g := gb747) (o := .cells #[.int .i64 t742, .slice Ao36 t743.length co36] 27 (0, 0)) q45_37 hb); have n9_ := Aside0.mk (below_step q45_25 hb); clear HO_737001; clear HO_742001; clear HO_748001; clear HO763; clear BK725; clear BK736; clear BK741; clear BK747; clear HB; have HO_737001 := n0_; have HO_742001 := n1_; have HO_748001 := n2_; have HO763 := n3_; have HO767 := n4_; have BK725 := n5_; have BK736 := n6_; have BK741 := n7_; have BK747 := n8_; have HB := n9_; clear n0_ n1_ n2_ n3_ n4_ n5_ n6_ n7_ n8_ n9_; (try clear hb); (try clear hb2); (try clear hk); (try clear hi); (try clear ho0)) | ((with_reducible refine gate_dst (N := 12) rfl ?_); refine box_event ?hg (N := 12) ?hd (cs := #[.int .i64 0, .slice none 0 0]) (t := 27) ?hr ?_; (case hd => rfl); (case hg => rfl); (case hr => first | (go_simp; done) | (go_simp; rfl)); intro gb769 hg w110 hbox hb; have n0_ := Aside0.mk (Kd.R_below q45_38 hb); have n1_ := Aside0.mk (Kd.R_below q45_39 hb); have n2_ := Aside0.mk (Kd.R_below q45_40 hb); have n3_ := Aside0.mk (Kd.R_below q45_44 hb); have n4_ := Aside0.mk (Kd.R_below (by (with_reducible repeat (first | apply Kd.R_alloc | apply Kd.R_drewN | apply Kd.R_drew)); exact HO767.out) hb); have n5_ := Aside0.mk (blk_below (g := gb725) (o := .cells #[.int .i64 a0_0, .slice A0_1 l0_1.length c0_1] 24 (0, 0)) q45_34 hb); have n6_ := Aside0.mk (blk_below (g := gb736) (o := .cells #[.int .i64 t731, .slice Ao22 t732.length co22] 27 (0, 0)) q45_35 hb); have n7_ := Aside0.mk (blk_below (g := gb741) (o := .cells #[.int .i64 t737, .slice Ao29 t755.length co29] 27 (0, 0)) q45_36 hb); have n8_ := Aside0.mk (blk_below (g := gb747) (o := .cells #[.int .i64 t742, .slice Ao36 t743.length co36] 27 (0, 0)) q45_37 hb); have n9_ := Aside0.mk (below_step q45_25 hb); have n10_ := Aside0.mk (hbox); have n11_ := Aside0.mk ((by rw [hg]; exact (below_size q45_25) : w.heap.size ≤ gb769)); have n12_ := Aside0.mk ((by rw [hg]; exact (below_size q45_25) : w.heap.size ≤ gb769)); have n13_ := Aside0.mk ((by rw [hg]; exact Nat.ne_of_lt (blk_lt (g := gb725) (o := .cells #[.int .i64 a0_0, .slice A0_1 l0_1.length c0_1] 24 (0, 0)) q45_34) : gb725 ≠ gb769)); have n14_ := Aside0.mk ((by rw [hg]; exact Nat.ne_of_gt (blk_lt (g := gb725) (o := .cells #[.int .i64 a0_0, .slice A0_1 l0_1.length c0_1] 24 (0, 0)) q45_34) : gb769 ≠ gb725)); have n15_ := Aside0.mk ((by rw [hg]; exact Nat.ne_of_lt (blk_lt (g := gb736) (o := .cells #[.int .i64 t731, .slice Ao22 t732.length co22] 27 (0, 0)) q45_35) : gb736 ≠ gb769)); have n16_ := Aside0.mk ((by rw [hg]; exact Nat.ne_of_gt (blk_lt (g := gb736) (o := .cells #[.int .i64 t731, .slice Ao22 t732.length co22] 27 (0, 0)) q45_35) : gb769 ≠ gb736)); have n17_ := Aside0.mk ((by rw [hg]; exact Nat.ne_of_lt (blk_lt (g := gb741) (o := .cells #[.int .i64 t737, .slice Ao29 t755.length co29] 27 (0, 0)) q45_36) : gb741 ≠ gb769)); have n18_ := Aside0.mk ((by rw [hg]; exact Nat.ne_of_gt (blk_lt (g := gb741) (o := .cells #[.int .i64 t737, .slice Ao29 t755.length co29] 27 (0, 0)) q45_36) : gb769 ≠ gb741)); have n19_ := Aside0.mk ((by rw [hg]; exact Nat.ne_of_lt (blk_lt (g := gb747) (o := .cells #[.int .i64 t742, .slice Ao36 t743.length co36] 27 (0, 0)) q45_37) : gb747 ≠ gb769)); have n20_ := Aside0.mk ((by rw [hg]; exact Nat.ne_of_gt (blk_lt (g := gb747) (o := .cells #[.int .i64 t742, .slice Ao36 t743.length co36] 27 (0, 0)) q45_37) : gb769 ≠ gb747)); clear HO_737001; clear HO_742001; clear HO_748001; clear HO763; clear HO767; clear BK725; clear BK736; clear BK741; clear BK747; clear HB; have HO_737001 := n0_; have HO_742001 := n1_; have HO_748001 := n2_; have HO763 := n3_; have HO767 := n4_; have BK725 := n5_; have BK736 := n6_; have BK741 := n7_; have BK747 := n8_; have HB := n9_; have BK769 := n10_; have GW769 := n11_; have GE769 := n12_; have NB725_769 := n13_; have NB769_725 := n14_; have NB736_769 := n15_; have NB769_736 := n16_; have NB741_769 := n17_; have NB769_741 := n18_; have NB747_769 := n19_; have NB769_747 := n20_; clear n0_ n1_ n2_ n3_ n4_ n5_ n6_ n7_ n8_ n9_ n10_ n11_ n12_ n13_ n14_ n15_ n16_ n17_ n18_ n19_ n20_; clear hb hbox hg; have hnb111 := NB769_725.out; have hnc111 := NB725_769.out; have hnb112 := NB769_736.out; have hnc112 := NB736_769.out; have hnb113 := NB769_741.out; have hnc113 := NB741_769.out; have hnb114 := NB769_747.out; have hnc114 := NB747_769.out; have hcz115_0 : w110.cell? ⟨gb769, 0, none⟩ = some (.int .i64 0) := (blk_cell BK769.out 0).trans rfl; have hcz115_1 : w110.cell? ⟨gb769, 1, none⟩ = some (.slice none 0 0) := (blk_cell BK769.out 1).trans rfl; have hfz115_0 := blk_frozen BK769.out 0; have hfz115_1 := blk_frozen BK769.out 1; obtain ⟨Ao116, co116, eo116⟩ := Kd.R_slice HO767.out; subst eo116))
           (try simp only [Act.put, List.setIfInBounds_toArray, List.set_cons_zero, List.set_cons_succ])
           go_cut [87] (fun v87 wc => ∃ (kq : Nat) (x87_95 : Bool), v87 = .bool x87_95 ∧ Aside0 (laws_FnExactReduceContext.j2 kq t757 x87_95 t742 t758 = some r) ∧ Aside0 (kq ≤ kj59) ∧ Aside0 (Kd.R (Kd.int .i64) 3 wc w.heap.size (fun k_ => some k_ ≠ ((.slice Ao29 t755.length co29) : Value).ownBlock ∧ some k_ ≠ ((.slice Ao36 t743.length co36) : Value).ownBlock ∧ some k_ ≠ ((.slice Ao116 t765.length co116) : Value).ownBlock) (.slice Ao22 t732.length co22) t732) ∧ Aside0 (Kd.R (Kd.int .i64) 3 wc w.heap.size (fun k_ => some k_ ≠ ((.slice Ao22 t732.length co22) : Value).ownBlock ∧ some k_ ≠ ((.slice Ao36 t743.length co36) : Value).ownBlock ∧ some k_ ≠ ((.slice Ao116 t765.length co116) : Value).ownBlock) (.slice Ao29 t755.length co29) t755) ∧ Aside0 (Kd.R (Kd.int .i64) 3 wc w.heap.size (fun k_ => some k_ ≠ ((.slice Ao22 t732.length co22) : Value).ownBlock ∧ some k_ ≠ ((.slice Ao29 t755.length co29) : Value).ownBlock ∧ some k_ ≠ ((.slice Ao116 t765.length co116) : Value).ownBlock) (.slice Ao36 t743.length co36) t758) ∧ Aside0 (Kd.R (Kd.int .i64) 3 wc w.heap.size (fun k_ => some k_ ≠ ((.slice Ao22 t732.length co22) : Value).ownBlock ∧ some k_ ≠ ((.slice Ao29 t755.length co29) : Value).ownBlock ∧ some k_ ≠ ((.slice Ao36 t743.length co36) : Value).ownBlock) (.slice Ao116 t765.length co116) t765) ∧ Aside0 (wc.heap[gb725]? = some (.cells #[.int .i64 a0_0, (.slice A0_1 l0_1.length c0_1)] 24 (0, 0))) ∧ Aside0 (wc.heap[gb736]? = some (.cells #[.int .i64 t731, (.slice Ao22 t732.length co22)] 27 (0, 0))) ∧ Aside0 (wc.heap[gb741]? = some (.cells #[.int .i64 t737, (.slice Ao29 t755.length co29)] 27 (0, 0))) ∧ Aside0 (wc.heap[gb747]? = some (.cells #[.int .i64 t742, (.slice Ao36 t743.length co36)] 27 (0, 0))) ∧ Aside0 (wc.heap[gb769]? = some (.cells #[.int .i64 t764, (.slice Ao116 t765.length co116)] 27 (0, 0))) ∧ Aside0 (Below w.heap.size w wc))
           case first =>
            have H := HC96.out
            clear HC96
            replace H := Option.bind_eq_some_iff.mp H
            obtain ⟨t770, A1170, H⟩ := H
            replace H : (if t770 = true then (laws_FnExactReduceContext.j2 kj59 t757 (t768 != t735) t742 t758) else (laws_FnExactReduceContext.j2 kj59 t757 true t742 t758)) = some r := H
            have A117 := Aside0.mk A1170
            clear A1170
            by_cases c118 : t770 = true
            ·
             subst c118
             have H1 : (laws_FnExactReduceContext.j2 kj59 t757 (t768 != t735) t742 t758) = some r := q45_47
             clear H
             have H := H1
             clear H1
             have H' := Aside0.mk H
             clear H
             have hnb119 := NB769_725.out
             have hnc119 := NB725_769.out
             have hnb120 := NB769_736.out
             have hnc120 := NB736_769.out
             have hnb121 := NB769_741.out
             have hnc121 := NB741_769.out
             have hnb122 := NB769_747.out
             have hnc122 := NB747_769.out
             have hcz123_0 : w110.cell? ⟨gb769, 0, none⟩ = some (.int .i64 0) := (blk_cell BK769.out 0).trans rfl
             have hcz123_1 : w110.cell? ⟨gb769, 1, none⟩ = some (.slice none 0 0) := (blk_cell BK769.out 1).trans rfl
             have hfz123_0 := blk_frozen BK769.out 0
             have hfz123_1 := blk_frozen BK769.out 1
             have hnb124 := NB736_725.out
             have hnc124 := NB725_736.out
             have hnb125 := NB736_741.out
             have hnc125 := NB741_736.out
             have hnb126 := NB736_747.out
             have hnc126 := NB747_736.out
             have hcz127_0 : w110.cell? ⟨gb736, 0, none⟩ = some (.int .i64 t731) := (blk_cell BK736.out 0).trans rfl
             have hcz127_1 : w110.cell? ⟨gb736, 1, none⟩ = some (.slice Ao22 t732.length co22) := (blk_cell BK736.out 1).trans rfl
             have hfz127_0 := blk_frozen BK736.out 0
             have hfz127_1 := blk_frozen BK736.out 1
             go_wp2_with (first | ((with_reducible refine gate_callee (f := 19) rfl ?_); refine goesL_ (some 81) rfl rfl Try.func19 q45_48 rfl #[.agg #[.int .i64 t764, .slice Ao116 t765.length co116], .agg #[.int .i64 t731, .slice Ao22 t732.length co22]] rfl q45_32 ?_; (with_reducible refine (laws_eqContext.calls kj59 t764 _ _ t765 t731 _ _ t732 true _ ?side1 ?side2 ?side3 ?side4 A117.out).mono ?_); (case side1 => refine (Kd.R_reads' (e := 3) (base := w.heap.size) (ok := fun k_ => ((((True ∧ some k_ ≠ (.slice Ao22 t732.length co22 : Value).ownBlock) ∧ some k_ ≠ (.slice Ao29 t755.length co29 : Value).ownBlock) ∧ some k_ ≠ (.slice Ao36 t743.length co36 : Value).ownBlock) ∧ some k_ ≠ (.slice Ao108 t761.length co108 : Value).ownBlock)) (n := t765.length) (c := co116) ?_).2.2; exact q45_14); (case side2 => exact (Kd.R_reads' HO767.out).2.1); (case side3 => refine (Kd.R_reads' (e := 3) (base := w.heap.size) (ok := fun k_ => (((some k_ ≠ (.slice Ao29 t755.length co29 : Value).ownBlock ∧ some k_ ≠ (.slice Ao36 t743.length co36 : Value).ownBlock) ∧ some k_ ≠ (.slice Ao108 t761.length co108 : Value).ownBlock) ∧ some k_ ≠ (.slice Ao116 t765.length co116 : Value).ownBlock)) (n := t732.length) (c := co22) ?_).2.2; exact q45_10); (case side4 => exact (Kd.R_reads' HO_737001.out).2.1); rintro e w128 ⟨rfl, hb⟩; refine ⟨_, rfl, ?_⟩; have n0_ := Aside0.mk (Kd.R_below q45_10 hb); have n1_ := Aside0.mk (Kd.R_below q45_11 hb); have n2_ := Aside0.mk (Kd.R_below q45_12 hb); have n3_ := Aside0.mk (Kd.R_below q45_13 hb); have n4_ := Aside0.mk (Kd.R_below q45_14 hb); have n5_ := Aside0.mk (blk_below (g := gb725) (o := .cells #[.int .i64 a0_0, .slice A0_1 l0_1.length c0_1] 24 (0, 0)) q45_4 hb); have n6_ := Aside0.mk (blk_below (g := gb736) (o := .cells #[.int .i64 t731, .slice Ao22 t732.length co22] 27 (0, 0)) q45_6 hb); have n7_ := Aside0.mk (blk_below (g := gb741) (o := .cells #[.int .i64 t737, .slice Ao29 t755.length co29] 27 (0, 0)) q45_8 hb); have n8_ := Aside0.mk (blk_below (g := gb747) (o := .cells #[.int .i64 t742, .slice Ao36 t743.length co36] 27 (0, 0)) q45_9 hb); have n9_ := Aside0.mk (blk_below (g := gb769) (o := .cells #[.int .i64 t764, .slice Ao116 t765.length co116] 27 (0, 0)) q45_2 hb); have n10_ := Aside0.mk (below_step q45_24 hb); clear HO_737001; clear HO_742001; clear HO_748001; clear HO763; clear HO767; clear BK725; clear BK736; clear BK741; clear BK747; clear BK769; clear HB; have HO_737001 := n0_; have HO_742001 := n1_; have HO_748001 := n2_; have HO763 := n3_; have HO767 := n4_; have BK725 := n5_; have BK736 := n6_; have BK741 := n7_; have BK747 := n8_; have BK769 := n9_; have HB := n10_; clear n0_ n1_ n2_ n3_ n4_ n5_ n6_ n7_ n8_ n9_ n10_; (try clear hb); (try clear hb2); (try clear hk); (try clear hi)))
             go_meet
             case rel => exact ⟨_, ((t768 != t735)), q45_45, H', ⟨by have := HJ10.out; have := HJ59.out; first | omega | exact Nat.le_refl _⟩, ⟨by (try simp only [hl742001_59]); (with_reducible repeat (first | apply Kd.R_alloc | apply Kd.R_drewN | apply Kd.R_drew)); exact Kd.R_mono HO_737001.out (fun _ hk => ⟨hk.1.1.1, ⟨hk.1.1.2, hk.2⟩⟩)⟩, ⟨by (try simp only [hl742001_59]); (with_reducible repeat (first | apply Kd.R_alloc | apply Kd.R_drewN | apply Kd.R_drew)); exact Kd.R_mono HO_742001.out (fun _ hk => ⟨hk.1.1.1, ⟨hk.1.1.2, hk.2⟩⟩)⟩, ⟨by (try simp only [hl742001_59]); (with_reducible repeat (first | apply Kd.R_alloc | apply Kd.R_drewN | apply Kd.R_drew)); exact Kd.R_mono HO_748001.out (fun _ hk => ⟨hk.1.1.1, ⟨hk.1.1.2, hk.2⟩⟩)⟩, ⟨by (try simp only [hl742001_59]); (with_reducible repeat (first | apply Kd.R_alloc | apply Kd.R_drewN | apply Kd.R_drew)); exact Kd.R_mono HO767.out (fun _ hk => ⟨hk.1.1.1.2, ⟨hk.1.1.2, hk.1.2⟩⟩)⟩, ⟨by (try simp only [hl742001_59]); (with_reducible repeat (first | refine blk_drewN ?_ _ | refine blk_drew ?_ | refine blk_alloc ?_ _)); exact BK725.out⟩, ⟨by (try simp only [hl742001_59]); (with_reducible repeat (first | refine blk_drewN ?_ _ | refine blk_drew ?_ | refine blk_alloc ?_ _)); exact BK736.out⟩, ⟨by (try simp only [hl742001_59]); (with_reducible repeat (first | refine blk_drewN ?_ _ | refine blk_drew ?_ | refine blk_alloc ?_ _)); exact BK741.out⟩, ⟨by (try simp only [hl742001_59]); (with_reducible repeat (first | refine blk_drewN ?_ _ | refine blk_drew ?_ | refine blk_alloc ?_ _)); exact BK747.out⟩, ⟨by (try simp only [hl742001_59]); (with_reducible repeat (first | refine blk_drewN ?_ _ | refine blk_drew ?_ | refine blk_alloc ?_ _)); exact BK769.out⟩, ⟨by repeat (first | (with_reducible first | exact HB.out | apply below_alloc | apply pw_below_drewN | apply below_drew1 | refine below_set ?_ GE725.out | refine below_set ?_ GE736.out | refine below_set ?_ GE741.out | refine below_set ?_ GE747.out | refine below_set ?_ GE769.out) | exact HB.out)⟩⟩
            ·
             replace c118 := Bool.eq_false_iff.mpr c118
             subst c118
             have H1 : (laws_FnExactReduceContext.j2 kj59 t757 true t742 t758) = some r := q45_46
             clear H
             have H := H1
             clear H1
             have H' := Aside0.mk H
             clear H
             have hnb129 := NB769_725.out
             have hnc129 := NB725_769.out
             have hnb130 := NB769_736.out
             have hnc130 := NB736_769.out
             have hnb131 := NB769_741.out
             have hnc131 := NB741_769.out
             have hnb132 := NB769_747.out
             have hnc132 := NB747_769.out
             have hcz133_0 : w110.cell? ⟨gb769, 0, none⟩ = some (.int .i64 0) := (blk_cell BK769.out 0).trans rfl
             have hcz133_1 : w110.cell? ⟨gb769, 1, none⟩ = some (.slice none 0 0) := (blk_cell BK769.out 1).trans rfl
             have hfz133_0 := blk_frozen BK769.out 0
             have hfz133_1 := blk_frozen BK769.out 1
             have hnb134 := NB736_725.out
             have hnc134 := NB725_736.out
             have hnb135 := NB736_741.out
             have hnc135 := NB741_736.out
             have hnb136 := NB736_747.out
             have hnc136 := NB747_736.out
             have hcz137_0 : w110.cell? ⟨gb736, 0, none⟩ = some (.int .i64 t731) := (blk_cell BK736.out 0).trans rfl
             have hcz137_1 : w110.cell? ⟨gb736, 1, none⟩ = some (.slice Ao22 t732.length co22) := (blk_cell BK736.out 1).trans rfl
             have hfz137_0 := blk_frozen BK736.out 0
             have hfz137_1 := blk_frozen BK736.out 1
             go_wp2_with (first | ((with_reducible refine gate_callee (f := 19) rfl ?_); refine goesL_ (some 81) rfl rfl Try.func19 q45_48 rfl #[.agg #[.int .i64 t764, .slice Ao116 t765.length co116], .agg #[.int .i64 t731, .slice Ao22 t732.length co22]] rfl q45_32 ?_; (with_reducible refine (laws_eqContext.calls kj59 t764 _ _ t765 t731 _ _ t732 false _ ?side1 ?side2 ?side3 ?side4 A117.out).mono ?_); (case side1 => refine (Kd.R_reads' (e := 3) (base := w.heap.size) (ok := fun k_ => ((((True ∧ some k_ ≠ (.slice Ao22 t732.length co22 : Value).ownBlock) ∧ some k_ ≠ (.slice Ao29 t755.length co29 : Value).ownBlock) ∧ some k_ ≠ (.slice Ao36 t743.length co36 : Value).ownBlock) ∧ some k_ ≠ (.slice Ao108 t761.length co108 : Value).ownBlock)) (n := t765.length) (c := co116) ?_).2.2; exact q45_14); (case side2 => exact (Kd.R_reads' HO767.out).2.1); (case side3 => refine (Kd.R_reads' (e := 3) (base := w.heap.size) (ok := fun k_ => (((some k_ ≠ (.slice Ao29 t755.length co29 : Value).ownBlock ∧ some k_ ≠ (.slice Ao36 t743.length co36 : Value).ownBlock) ∧ some k_ ≠ (.slice Ao108 t761.length co108 : Value).ownBlock) ∧ some k_ ≠ (.slice Ao116 t765.length co116 : Value).ownBlock)) (n := t732.length) (c := co22) ?_).2.2; exact q45_10); (case side4 => exact (Kd.R_reads' HO_737001.out).2.1); rintro e w138 ⟨rfl, hb⟩; refine ⟨_, rfl, ?_⟩; have n0_ := Aside0.mk (Kd.R_below q45_10 hb); have n1_ := Aside0.mk (Kd.R_below q45_11 hb); have n2_ := Aside0.mk (Kd.R_below q45_12 hb); have n3_ := Aside0.mk (Kd.R_below q45_13 hb); have n4_ := Aside0.mk (Kd.R_below q45_14 hb); have n5_ := Aside0.mk (blk_below (g := gb725) (o := .cells #[.int .i64 a0_0, .slice A0_1 l0_1.length c0_1] 24 (0, 0)) q45_4 hb); have n6_ := Aside0.mk (blk_below (g := gb736) (o := .cells #[.int .i64 t731, .slice Ao22 t732.length co22] 27 (0, 0)) q45_6 hb); have n7_ := Aside0.mk (blk_below (g := gb741) (o := .cells #[.int .i64 t737, .slice Ao29 t755.length co29] 27 (0, 0)) q45_8 hb); have n8_ := Aside0.mk (blk_below (g := gb747) (o := .cells #[.int .i64 t742, .slice Ao36 t743.length co36] 27 (0, 0)) q45_9 hb); have n9_ := Aside0.mk (blk_below (g := gb769) (o := .cells #[.int .i64 t764, .slice Ao116 t765.length co116] 27 (0, 0)) q45_2 hb); have n10_ := Aside0.mk (below_step q45_24 hb); clear HO_737001; clear HO_742001; clear HO_748001; clear HO763; clear HO767; clear BK725; clear BK736; clear BK741; clear BK747; clear BK769; clear HB; have HO_737001 := n0_; have HO_742001 := n1_; have HO_748001 := n2_; have HO763 := n3_; have HO767 := n4_; have BK725 := n5_; have BK736 := n6_; have BK741 := n7_; have BK747 := n8_; have BK769 := n9_; have HB := n10_; clear n0_ n1_ n2_ n3_ n4_ n5_ n6_ n7_ n8_ n9_ n10_; (try clear hb); (try clear hb2); (try clear hk); (try clear hi)))
             go_meet
             case rel => exact ⟨_, (true), q45_45, H', ⟨by have := HJ10.out; have := HJ59.out; first | omega | exact Nat.le_refl _⟩, ⟨by (try simp only [hl742001_59]); (with_reducible repeat (first | apply Kd.R_alloc | apply Kd.R_drewN | apply Kd.R_drew)); exact Kd.R_mono HO_737001.out (fun _ hk => ⟨hk.1.1.1, ⟨hk.1.1.2, hk.2⟩⟩)⟩, ⟨by (try simp only [hl742001_59]); (with_reducible repeat (first | apply Kd.R_alloc | apply Kd.R_drewN | apply Kd.R_drew)); exact Kd.R_mono HO_742001.out (fun _ hk => ⟨hk.1.1.1, ⟨hk.1.1.2, hk.2⟩⟩)⟩, ⟨by (try simp only [hl742001_59]); (with_reducible repeat (first | apply Kd.R_alloc | apply Kd.R_drewN | apply Kd.R_drew)); exact Kd.R_mono HO_748001.out (fun _ hk => ⟨hk.1.1.1, ⟨hk.1.1.2, hk.2⟩⟩)⟩, ⟨by (try simp only [hl742001_59]); (with_reducible repeat (first | apply Kd.R_alloc | apply Kd.R_drewN | apply Kd.R_drew)); exact Kd.R_mono HO767.out (fun _ hk => ⟨hk.1.1.1.2, ⟨hk.1.1.2, hk.1.2⟩⟩)⟩, ⟨by (try simp only [hl742001_59]); (with_reducible repeat (first | refine blk_drewN ?_ _ | refine blk_drew ?_ | refine blk_alloc ?_ _)); exact BK725.out⟩, ⟨by (try simp only [hl742001_59]); (with_reducible repeat (first | refine blk_drewN ?_ _ | refine blk_drew ?_ | refine blk_alloc ?_ _)); exact BK736.out⟩, ⟨by (try simp only [hl742001_59]); (with_reducible repeat (first | refine blk_drewN ?_ _ | refine blk_drew ?_ | refine blk_alloc ?_ _)); exact BK741.out⟩, ⟨by (try simp only [hl742001_59]); (with_reducible repeat (first | refine blk_drewN ?_ _ | refine blk_drew ?_ | refine blk_alloc ?_ _)); exact BK747.out⟩, ⟨by (try simp only [hl742001_59]); (with_reducible repeat (first | refine blk_drewN ?_ _ | refine blk_drew ?_ | refine blk_alloc ?_ _)); exact BK769.out⟩, ⟨by repeat (first | (with_reducible first | exact HB.out | apply below_alloc | apply pw_below_drewN | apply below_drew1 | refine below_set ?_ GE725.out | refine below_set ?_ GE736.out | refine below_set ?_ GE741.out | refine below_set ?_ GE747.out | refine below_set ?_ GE769.out) | exact HB.out)⟩⟩
           case rest =>
            clear HC96
            try clear c1
            try clear c2
            try clear p2
            try clear c3
            try clear c3b0
            try clear c4
            try clear c5
            try clear c6
            try clear c7
            try clear c8
            try clear c9
            try clear c10
            try clear c11
            try clear c12
            try clear c13
            try clear c14
            try clear c15
            try clear c17
            try clear c19
            try clear c20
            try clear c26
            try clear c27
            try clear c32
            try clear c33
            try clear c34
            try clear c37
            try clear c38
            try clear c39
            try clear c40
            try clear c41
            try clear c43
            try clear c44
            try clear c47
            try clear c48
            try clear c49
            try clear c51
            try clear c52
            try clear c55
            try clear c58
            try clear c65
            try clear c66
            try clear c67
            try clear c70
            try clear c70b0
            try clear c72
            try clear c73
            try clear c74
            try clear c75
            try clear c77
            try clear c78
            try clear c81
            try clear c82
            try clear c83
            try clear c85
            try clear c86
            try clear c89
            try clear c92
            try clear c92b0
            try clear c93
            try clear c93b0
            try clear c93b1
            try clear c97
            try clear c98
            try clear c99
            try clear c104
            try clear c105
            try clear c111
            try clear c112
            try clear c113
            try clear c114
            try clear c118
            try clear c119
            try clear c120
            try clear c121
            try clear c122
            try clear c124
            try clear c125
            try clear c126
            try clear c129
            try clear c130
            try clear c131
            try clear c132
            try clear c134
            try clear c135
            try clear c136
            try clear hcz100_0
            try clear hcz100_1
            try clear hcz102_0
            try clear hcz102_1
            try clear hcz106_0
            try clear hcz106_1
            try clear hcz115_0
            try clear hcz115_1
            try clear hcz123_0
            try clear hcz123_1
            try clear hcz127_0
            try clear hcz127_1
            try clear hcz133_0
            try clear hcz133_1
            try clear hcz137_0
            try clear hcz137_1
            try clear hcz13_0
            try clear hcz13_1
            try clear hcz15_0
            try clear hcz15_1
            try clear hcz21_0
            try clear hcz21_1
            try clear hcz23_0
            try clear hcz23_1
            try clear hcz28_0
            try clear hcz28_1
            try clear hcz35_0
            try clear hcz35_1
            try clear hcz42_0
            try clear hcz42_1
            try clear hcz45_0
            try clear hcz45_1
            try clear hcz50_0
            try clear hcz50_1
            try clear hcz53_0
            try clear hcz53_1
            try clear hcz5_0
            try clear hcz5_1
            try clear hcz68_0
            try clear hcz68_1
            try clear hcz76_0
            try clear hcz76_1
            try clear hcz79_0
            try clear hcz79_1
            try clear hcz84_0
            try clear hcz84_1
            try clear hcz87_0
            try clear hcz87_1
            try clear hfz100_0
            try clear hfz100_1
            try clear hfz102_0
            try clear hfz102_1
            try clear hfz106_0
            try clear hfz106_1
            try clear hfz115_0
            try clear hfz115_1
            try clear hfz123_0
            try clear hfz123_1
            try clear hfz127_0
            try clear hfz127_1
            try clear hfz133_0
            try clear hfz133_1
            try clear hfz137_0
            try clear hfz137_1
            try clear hfz13_0
            try clear hfz13_1
            try clear hfz15_0
            try clear hfz15_1
            try clear hfz21_0
            try clear hfz21_1
            try clear hfz23_0
            try clear hfz23_1
            try clear hfz28_0
            try clear hfz28_1
            try clear hfz35_0
            try clear hfz35_1
            try clear hfz42_0
            try clear hfz42_1
            try clear hfz45_0
            try clear hfz45_1
            try clear hfz50_0
            try clear hfz50_1
            try clear hfz53_0
            try clear hfz53_1
            try clear hfz5_0
            try clear hfz5_1
            try clear hfz68_0
            try clear hfz68_1
            try clear hfz76_0
            try clear hfz76_1
            try clear hfz79_0
            try clear hfz79_1
            try clear hfz84_0
            try clear hfz84_1
            try clear hfz87_0
            try clear hfz87_1
            try clear p2
            obtain ⟨kq, x87_95, rfl, HA, HJ95, HO_737001, HO_742001, HO_748001, HO_770001, BK725, BK736, BK741, BK747, BK769, HB⟩ := hcut
            have hl748001_95 := (Kd.R_reads' HO_748001.out).1
            rw [hl748001_95] at HO_748001
            (try simp only [hl748001_95])
            (try simp only [hl748001_95] at BK725)
            (try simp only [hl748001_95] at BK736)
            (try simp only [hl748001_95] at BK741)
            (try simp only [hl748001_95] at BK747)
            (try simp only [hl748001_95] at BK769)
            (try simp only [hl748001_95] at HO_737001)
            (try simp only [hl748001_95] at HO_742001)
            (try simp only [hl748001_95] at HO_770001)
            cases kq with
            | zero => exact absurd HA.out (by simp [laws_FnExactReduceContext.j2])
            | succ kj95 =>
             have H := HA.out
             clear HA
             simp only [laws_FnExactReduceContext.j2] at H
             by_cases c139 : x87_95 = true
             ·
              subst c139
              have H1 : (some false) = some r := q45_47
              clear H
              have H := H1
              clear H1
              exact absurd ((Option.some.inj H).trans HRT.out) Bool.false_ne_true
             ·
              replace c139 := Bool.eq_false_iff.mpr c139
              subst c139
              have H1 : ((laws_heldContext.f kj95 t742 t758 1).bind fun t771 => (if t771 < 0 then (some false) else (if t771 = t757 then (some true) else (some false)))) = some r := q45_46
              clear H
              have H := H1
              clear H1
              replace H := Option.bind_eq_some_iff.mp H
              obtain ⟨t771, A1400, H⟩ := H
              replace H : (if t771 < 0 then (some false) else (if t771 = t757 then (some true) else (some false))) = some r := H
              have A140 := Aside0.mk A1400
              clear A1400
              by_cases c141 : t771 < 0
              ·
               rw [if_pos c141] at H
               exact absurd ((Option.some.inj H).trans HRT.out) Bool.false_ne_true
              ·
               rw [if_neg c141] at H
               have c141b0 : decide (t771 < 0) = false := decide_eq_false c141
               clear c141
               by_cases c142 : t771 = t757
               ·
                rw [if_pos c142] at H
                have c142b0 : (t771 == t757) = true := beq_iff_eq.mpr c142
                have c142b1 : (t771 != t757) = false := bne_eq_false_iff_eq.mpr c142
                clear c142
                obtain rfl := Option.some.inj H
                have hnb143 := NB747_725.out
                have hnc143 := NB725_747.out
                have hnb144 := NB747_736.out
                have hnc144 := NB736_747.out
                have hnb145 := NB747_741.out
                have hnc145 := NB741_747.out
                have hnb146 := NB747_769.out
                have hnc146 := NB769_747.out
                have hcz147_0 : wc.cell? ⟨gb747, 0, none⟩ = some (.int .i64 t742) := (blk_cell BK747.out 0).trans rfl
                have hcz147_1 : wc.cell? ⟨gb747, 1, none⟩ = some (.slice Ao36 t758.length co36) := (blk_cell BK747.out 1).trans rfl
                have hfz147_0 := blk_frozen BK747.out 0
                have hfz147_1 := blk_frozen BK747.out 1
                go_wp2_with (first | ((with_reducible refine gate_callee (f := 38) rfl ?_); refine goesL_ (some 90) rfl rfl Try.func38 q45_48 rfl #[.agg #[.int .i64 t742, .slice Ao36 t758.length co36], .int .i64 1] rfl q45_32 ?_; (with_reducible refine (laws_heldContext.calls kj95 t742 _ _ t758 1 t771 _ ?side1 ?side2 A140.out).mono ?_); (case side1 => exact q45_29); (case side2 => exact (Kd.R_reads' HO_748001.out).2.1); rintro e w148 ⟨rfl, hb⟩; refine ⟨_, rfl, ?_⟩; have n0_ := Aside0.mk (Kd.R_below q45_38 hb); have n1_ := Aside0.mk (Kd.R_below q45_39 hb); have n2_ := Aside0.mk (Kd.R_below q45_40 hb); have n3_ := Aside0.mk (Kd.R_below (by (with_reducible repeat (first | apply Kd.R_alloc | apply Kd.R_drewN | apply Kd.R_drew)); exact HO_770001.out) hb); have n4_ := Aside0.mk (blk_below (g := gb725) (o := .cells #[.int .i64 a0_0, .slice A0_1 l0_1.length c0_1] 24 (0, 0)) q45_34 hb); have n5_ := Aside0.mk (blk_below (g := gb736) (o := .cells #[.int .i64 t731, .slice Ao22 t732.length co22] 27 (0, 0)) q45_35 hb); have n6_ := Aside0.mk (blk_below (g := gb741) (o := .cells #[.int .i64 t737, .slice Ao29 t755.length co29] 27 (0, 0)) q45_36 hb); have n7_ := Aside0.mk (blk_below (g := gb747) (o := .cells #[.int .i64 t742, .slice Ao36 t758.length co36] 27 (0, 0)) q45_37 hb); have n8_ := Aside0.mk (blk_below (g := gb769) (o := .cells #[.int .i64 t764, .slice Ao116 t765.length co116] 27 (0, 0)) (by (with_reducible repeat (first | refine blk_drewN ?_ _ | refine blk_drew ?_ | refine blk_alloc ?_ _)); exact BK769.out) hb); have n9_ := Aside0.mk (below_step q45_24 hb); clear HO_737001; clear HO_742001; clear HO_748001; clear HO_770001; clear BK725; clear BK736; clear BK741; clear BK747; clear BK769; clear HB; have HO_737001 := n0_; have HO_742001 := n1_; have HO_748001 := n2_; have HO_770001 := n3_; have BK725 := n4_; have BK736 := n5_; have BK741 := n6_; have BK747 := n7_; have BK769 := n8_; have HB := n9_; clear n0_ n1_ n2_ n3_ n4_ n5_ n6_ n7_ n8_ n9_; (try clear hb); (try clear hb2); (try clear hk); (try clear hi)))
                go_ret
                exact ⟨by first | rfl | (simp [errW_none, errW_some] <;> rfl) | (simp [*, errW_none, errW_some] <;> rfl), by repeat (first | (with_reducible first | exact HB.out | apply below_alloc | apply pw_below_drewN | apply below_drew1 | refine below_set ?_ GE725.out | refine below_set ?_ GE736.out | refine below_set ?_ GE741.out | refine below_set ?_ GE747.out | refine below_set ?_ GE769.out) | exact HB.out)⟩
               ·
                rw [if_neg c142] at H
                exact absurd ((Option.some.inj H).trans HRT.out) Bool.false_ne_true
          ·
           rw [if_neg c93] at H
           exact absurd ((Option.some.inj H).trans HRT.out) Bool.false_ne_true
     ·
      replace c58 := Bool.eq_false_iff.mpr c58
      subst c58
      have H1 : (some false) = some r := q45_46
      clear H
      have H := H1
      clear H1
      exact absurd ((Option.some.inj H).trans HRT.out) Bool.false_ne_true
end Go.Proofs.Ytemhlblajnlogaa.Pr
