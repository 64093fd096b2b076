/- What the law needs of the program's functions as plain functions, of the proofs that their calls answer so, and of plain laws: gathered by a program of this place (pack.py) out of its printed texts. No condition beyond what each statement says. -/
import Derived.Test.YtafnamchckehmaaGreatDoorZFnModels2
import Derived.Test.YtafnamchckehmaaGreatDoorZFnModels3
import Derived.Test.YtafnamchckehmaaGreatDoorZFnModels4
import Derived.Test.YtafnamchckehmaaGreatDoorZFnModels5
import Derived.Test.YtafnamchckehmaaGreatDoorZFnModels6
import Derived.Test.YtafnamchckehmaaGreatDoorZFnModels7
import Derived.Test.YtafnamchckehmaaGreatDoorZFnModels8
import Derived.Test.YtafnamchckehmaaGreatDoorZFnModels9
import Derived.Test.YtafnamchckehmaaGreatDoorZFnModels12
namespace Go.Proofs.YtafnamchckehmaaGreatDoor.Pr
open Go.RowKit Go.Proofs.YtafnamchckehmaaGreatDoorW.PrintWords Go.Proofs.YtafnamchckehmaaGreatDoorW.PrintLast Go.Proofs.YtafnamchckehmaaGreatDoorW.PrintMore
attribute [local go_sem] max2_int min2_int max_two min_two max_three min_three max_four min_four
set_option linter.unusedVariables false
set_option linter.unusedSimpArgs false
theorem bnd60_ {α β : Type} {o : Option α} {f : α → Option β} {r : β} (h : o.bind f = some r) : ∃ a, Aside0 (o = some a) ∧ f a = some r := by
 obtain ⟨a, h1, h2⟩ := Option.bind_eq_some_iff.mp h
 exact ⟨a, ⟨h1⟩, h2⟩
theorem q60_1 {P : Prop} (h : P := by (with_reducible repeat (first | apply Kd.R_alloc | apply Kd.R_drewN | apply Kd.R_drew)); exact (Kd.R_mono (Kd.R_far (p := ⟨gb671, 1, none⟩) (Kd.R_far (p := ⟨gb671, 0, none⟩) (Kd.R_types HO665.out BK671.out (by decide)) (fun _ hk => hk.2) (.int .i64 t666)) (fun _ hk => hk.2) (.slice Ao20 t667.length co20)) (fun _ h_ => h_.1))) : P := h
theorem q60_2 {P : Prop} (h : P := by (with_reducible repeat (first | apply Kd.R_alloc | apply Kd.R_drewN | apply Kd.R_drew)); exact (Kd.R_mono (Kd.R_far (p := ⟨gb671, 1, none⟩) (Kd.R_far (p := ⟨gb671, 0, none⟩) (Kd.R_types HO669.out BK671.out (by decide)) (fun _ hk => hk.2) (.int .i64 t666)) (fun _ hk => hk.2) (.slice Ao20 t667.length co20)) (fun _ h_ => h_.1))) : P := h
theorem q60_3 {P : Prop} (h : P := by (with_reducible repeat (first | apply Kd.R_alloc | apply Kd.R_drewN | apply Kd.R_drew)); exact (Kd.R_mono (Kd.R_far (p := ⟨gb677, 1, none⟩) (Kd.R_far (p := ⟨gb677, 0, none⟩) (Kd.R_types HO665.out BK677.out (by decide)) (fun _ hk => hk.2) (.int .i64 t672)) (fun _ hk => hk.2) (.slice Ao25 t673.length co25)) (fun _ h_ => h_.1))) : P := h
theorem q60_4 {P : Prop} (h : P := by (with_reducible repeat (first | apply Kd.R_alloc | apply Kd.R_drewN | apply Kd.R_drew)); exact (Kd.R_mono (Kd.R_far (p := ⟨gb677, 1, none⟩) (Kd.R_far (p := ⟨gb677, 0, none⟩) (Kd.R_types HO669.out BK677.out (by decide)) (fun _ hk => hk.2) (.int .i64 t672)) (fun _ hk => hk.2) (.slice Ao25 t673.length co25)) (fun _ h_ => h_.1))) : P := h
theorem q60_5 {P : Prop} (h : P := by (with_reducible repeat (first | apply Kd.R_alloc | apply Kd.R_drewN | apply Kd.R_drew)); exact (Kd.R_mono (Kd.R_far (p := ⟨gb677, 1, none⟩) (Kd.R_far (p := ⟨gb677, 0, none⟩) (Kd.R_types HO675.out BK677.out (by decide)) (fun _ hk => hk.2) (.int .i64 t672)) (fun _ hk => hk.2) (.slice Ao25 t673.length co25)) (fun _ h_ => h_.1))) : P := h
theorem q60_6 {P : Prop} (h : P := by (with_reducible repeat (first | apply Kd.R_alloc | apply Kd.R_drewN | apply Kd.R_drew)); exact (Kd.R_mono (Kd.R_far (p := ⟨gb703, 1, none⟩) (Kd.R_far (p := ⟨gb703, 0, none⟩) (Kd.R_types HO669.out BK703.out (by decide)) (fun _ hk => hk.2) (.int .i64 t698)) (fun _ hk => hk.2) (.slice Ao37 t699.length co37)) (fun _ h_ => h_.1))) : P := h
theorem q60_7 {P : Prop} (h : P := by (with_reducible repeat (first | apply Kd.R_alloc | apply Kd.R_drewN | apply Kd.R_drew)); exact (Kd.R_mono (Kd.R_far (p := ⟨gb703, 1, none⟩) (Kd.R_far (p := ⟨gb703, 0, none⟩) (Kd.R_types HO675.out BK703.out (by decide)) (fun _ hk => hk.2) (.int .i64 t698)) (fun _ hk => hk.2) (.slice Ao37 t699.length co37)) (fun _ h_ => h_.1))) : P := h
theorem q60_8 {P : Prop} (h : P := by (with_reducible repeat (first | apply Kd.R_alloc | apply Kd.R_drewN | apply Kd.R_drew)); exact (Kd.R_mono (Kd.R_far (p := ⟨gb703, 1, none⟩) (Kd.R_far (p := ⟨gb703, 0, none⟩) (Kd.R_types HO681.out BK703.out (by decide)) (fun _ hk => hk.2) (.int .i64 t698)) (fun _ hk => hk.2) (.slice Ao37 t699.length co37)) (fun _ h_ => h_.1))) : P := h
theorem q60_9 {P : Prop} (h : P := by (with_reducible repeat (first | apply Kd.R_alloc | apply Kd.R_drewN | apply Kd.R_drew)); exact (Kd.R_mono (Kd.R_far (p := ⟨gb703, 1, none⟩) (Kd.R_far (p := ⟨gb703, 0, none⟩) (Kd.R_types HO685.out BK703.out (by decide)) (fun _ hk => hk.2) (.int .i64 t698)) (fun _ hk => hk.2) (.slice Ao37 t699.length co37)) (fun _ h_ => h_.1))) : P := h
theorem q60_10 {P : Prop} (h : P := by (with_reducible repeat (first | apply Kd.R_alloc | apply Kd.R_drewN | apply Kd.R_drew)); exact (Kd.R_mono (Kd.R_far (p := ⟨gb703, 1, none⟩) (Kd.R_far (p := ⟨gb703, 0, none⟩) (Kd.R_types HO689.out BK703.out (by decide)) (fun _ hk => hk.2) (.int .i64 t698)) (fun _ hk => hk.2) (.slice Ao37 t699.length co37)) (fun _ h_ => h_.1))) : P := h
theorem q60_11 {P : Prop} (h : P := by (with_reducible repeat (first | apply Kd.R_alloc | apply Kd.R_drewN | apply Kd.R_drew)); exact (Kd.R_mono (Kd.R_far (p := ⟨gb703, 1, none⟩) (Kd.R_far (p := ⟨gb703, 0, none⟩) (Kd.R_types HO693.out BK703.out (by decide)) (fun _ hk => hk.2) (.int .i64 t698)) (fun _ hk => hk.2) (.slice Ao37 t699.length co37)) (fun _ h_ => h_.1))) : P := h
theorem q60_12 {P : Prop} (h : P := by (with_reducible repeat (first | apply Kd.R_alloc | apply Kd.R_drewN | apply Kd.R_drew)); exact (Kd.R_mono (Kd.R_far (p := ⟨gb703, 1, none⟩) (Kd.R_far (p := ⟨gb703, 0, none⟩) (Kd.R_types HO697.out BK703.out (by decide)) (fun _ hk => hk.2) (.int .i64 t698)) (fun _ hk => hk.2) (.slice Ao37 t699.length co37)) (fun _ h_ => h_.1))) : P := h
theorem q60_13 {P : Prop} (h : P := by (with_reducible repeat (first | apply Kd.R_alloc | apply Kd.R_drewN | apply Kd.R_drew)); exact (Kd.R_mono (Kd.R_far (p := ⟨gb703, 1, none⟩) (Kd.R_far (p := ⟨gb703, 0, none⟩) (Kd.R_types HO701.out BK703.out (by decide)) (fun _ hk => hk.2) (.int .i64 t698)) (fun _ hk => hk.2) (.slice Ao37 t699.length co37)) (fun _ h_ => h_.1))) : P := h
theorem q60_14 {P : Prop} (h : P := by (with_reducible repeat (first | apply Kd.R_alloc | apply Kd.R_drewN | apply Kd.R_drew)); exact (Kd.R_mono (Kd.R_far (p := ⟨gb709, 1, none⟩) (Kd.R_far (p := ⟨gb709, 0, none⟩) (Kd.R_types HO669.out BK709.out (by decide)) (fun _ hk => hk.2) (.int .i64 t704)) (fun _ hk => hk.2) (.slice Ao44 t705.length co44)) (fun _ h_ => h_.1))) : P := h
theorem q60_15 {P : Prop} (h : P := by (with_reducible repeat (first | apply Kd.R_alloc | apply Kd.R_drewN | apply Kd.R_drew)); exact (Kd.R_mono (Kd.R_far (p := ⟨gb709, 1, none⟩) (Kd.R_far (p := ⟨gb709, 0, none⟩) (Kd.R_types HO675.out BK709.out (by decide)) (fun _ hk => hk.2) (.int .i64 t704)) (fun _ hk => hk.2) (.slice Ao44 t705.length co44)) (fun _ h_ => h_.1))) : P := h
theorem q60_16 {P : Prop} (h : P := by repeat (first | (with_reducible first | exact HB.out | apply below_alloc | apply pw_below_drewN | apply below_drew1 | refine below_set ?_ GE671.out | refine below_set ?_ GE677.out | refine below_set ?_ GE703.out | refine below_set ?_ GE709.out) | exact HB.out)) : P := h
theorem q60_17 {P : Prop} (h : P := by repeat (first | (with_reducible first | exact HB.out | apply below_alloc | apply pw_below_drewN | apply below_drew1 | refine below_set ?_ GE671.out | refine below_set ?_ GE677.out | refine below_set ?_ GE703.out) | exact HB.out)) : P := h
theorem q60_18 {P : Prop} (h : P := by repeat (first | (with_reducible first | exact HB.out | apply below_alloc | apply pw_below_drewN | apply below_drew1 | refine below_set ?_ GE671.out | refine below_set ?_ GE677.out) | exact HB.out)) : P := h
theorem q60_19 {P : Prop} (h : P := by repeat (first | (with_reducible first | exact HB.out | apply below_alloc | apply pw_below_drewN | apply below_drew1 | refine below_set ?_ GE671.out | refine below_set ?_ GE703.out) | exact HB.out)) : P := h
theorem q60_20 {P : Prop} (h : P := by repeat (first | exact (Kd.R_reads' HO_672001.out).2.2 | (with_reducible refine Kd.C_alloc ?_ _) | (with_reducible refine Kd.C_drewN ?_ _) | (with_reducible refine Kd.C_drew ?_))) : P := h
theorem q60_21 {P : Prop} (h : P := by repeat (first | exact (Kd.R_reads' HO_704001.out).2.2 | (with_reducible refine Kd.C_alloc ?_ _) | (with_reducible refine Kd.C_drewN ?_ _) | (with_reducible refine Kd.C_drew ?_))) : P := h
theorem q60_22 {P : Prop} (h : P := by repeat (first | exact (Kd.R_reads' HO665.out).2.2 | (with_reducible refine Kd.C_alloc ?_ _) | (with_reducible refine Kd.C_drewN ?_ _) | (with_reducible refine Kd.C_drew ?_))) : P := h
theorem q60_23 {P : Prop} (h : P := by repeat (first | exact (Kd.R_reads' HO697.out).2.2 | (with_reducible refine Kd.C_alloc ?_ _) | (with_reducible refine Kd.C_drewN ?_ _) | (with_reducible refine Kd.C_drew ?_))) : P := h
theorem q60_24 {P : Prop} (h : P := by repeat (first | exact (Kd.R_reads' HO_18.out).2.2 | (with_reducible refine Kd.C_alloc ?_ _) | (with_reducible refine Kd.C_drewN ?_ _) | (with_reducible refine Kd.C_drew ?_))) : P := h
theorem q60_25 {P : Prop} (h : P := by repeat (first | exact (Kd.R_reads' HO_4.out).2.2 | (with_reducible refine Kd.C_alloc ?_ _) | (with_reducible refine Kd.C_drewN ?_ _) | (with_reducible refine Kd.C_drew ?_))) : P := h
theorem q60_26 {P : Prop} (h : P := by repeat (first | exact (Kd.R_reads' HO_9.out).2.2 | (with_reducible refine Kd.C_alloc ?_ _) | (with_reducible refine Kd.C_drewN ?_ _) | (with_reducible refine Kd.C_drew ?_))) : P := h
theorem q60_27 {P : Prop} (h : P := by repeat (first | (with_reducible first | exact HB.out | apply below_alloc | apply pw_below_drewN | apply below_drew1 | refine below_set ?_ GE671.out) | exact HB.out)) : P := h
theorem q60_28 {P : Prop} (h : P := by repeat (first | exact HR0.out | (with_reducible refine Kd.C_alloc ?_ _) | (with_reducible refine Kd.C_drewN ?_ _) | (with_reducible refine Kd.C_drew ?_))) : P := h
theorem q60_30 {P : Prop} (h : P := by (with_reducible repeat (first | apply Kd.R_alloc | apply Kd.R_drewN | apply Kd.R_drew)); exact Kd.R_mono HO_672001.out (fun _ hk => hk.1.1)) : P := h
theorem q60_31 {P : Prop} (h : P := by (with_reducible repeat (first | apply Kd.R_alloc | apply Kd.R_drewN | apply Kd.R_drew)); exact Kd.R_mono HO_672001.out (fun _ hk => hk.1)) : P := h
theorem q60_32 {P : Prop} (h : P := by (with_reducible repeat (first | apply Kd.R_alloc | apply Kd.R_drewN | apply Kd.R_drew)); exact Kd.R_mono HO_9.out (fun _ hk => hk.1.2.1)) : P := h
theorem q60_33 {P : Prop} (h : P := by (with_reducible repeat (first | apply Kd.R_alloc | apply Kd.R_drewN | apply Kd.R_drew)); exact Kd.R_mono HO_9.out (fun _ hk => hk.2.1)) : P := h
theorem q60_35 {P : Prop} (h : P := by (with_reducible repeat (first | refine blk_drewN ?_ _ | refine blk_drew ?_ | refine blk_alloc ?_ _)); exact BK671.out) : P := h
theorem q60_36 {P : Prop} (h : P := by (with_reducible repeat (first | refine blk_drewN ?_ _ | refine blk_drew ?_ | refine blk_alloc ?_ _)); exact BK677.out) : P := h
theorem q60_37 {P : Prop} (h : P := by (with_reducible repeat (first | refine blk_drewN ?_ _ | refine blk_drew ?_ | refine blk_alloc ?_ _)); exact BK703.out) : P := h
theorem q60_38 {P : Prop} (h : P := by (with_reducible repeat (first | apply Kd.R_alloc | apply Kd.R_drewN | apply Kd.R_drew)); exact HO_672001.out) : P := h
theorem q60_39 {P : Prop} (h : P := by (with_reducible repeat (first | apply Kd.R_alloc | apply Kd.R_drewN | apply Kd.R_drew)); exact HO_704001.out) : P := h
theorem q60_40 {P : Prop} (h : P := by (with_reducible repeat (first | apply Kd.R_alloc | apply Kd.R_drewN | apply Kd.R_drew)); exact HO665.out) : P := h
theorem q60_41 {P : Prop} (h : P := by (with_reducible repeat (first | apply Kd.R_alloc | apply Kd.R_drewN | apply Kd.R_drew)); exact HO669.out) : P := h
theorem q60_42 {P : Prop} (h : P := by (with_reducible repeat (first | apply Kd.R_alloc | apply Kd.R_drewN | apply Kd.R_drew)); exact HO675.out) : P := h
theorem q60_43 {P : Prop} (h : P := by (with_reducible repeat (first | apply Kd.R_alloc | apply Kd.R_drewN | apply Kd.R_drew)); exact HO681.out) : P := h
theorem q60_44 {P : Prop} (h : P := by (with_reducible repeat (first | apply Kd.R_alloc | apply Kd.R_drewN | apply Kd.R_drew)); exact HO685.out) : P := h
theorem q60_45 {P : Prop} (h : P := by (with_reducible repeat (first | apply Kd.R_alloc | apply Kd.R_drewN | apply Kd.R_drew)); exact HO689.out) : P := h
theorem q60_46 {P : Prop} (h : P := by (with_reducible repeat (first | apply Kd.R_alloc | apply Kd.R_drewN | apply Kd.R_drew)); exact HO693.out) : P := h
theorem q60_47 {P : Prop} (h : P := by (with_reducible repeat (first | apply Kd.R_alloc | apply Kd.R_drewN | apply Kd.R_drew)); exact HO697.out) : P := h
theorem q60_48 {P : Prop} (h : P := by (with_reducible repeat (first | apply Kd.R_alloc | apply Kd.R_drewN | apply Kd.R_drew)); exact HO701.out) : P := h
theorem q60_49 {P : Prop} (h : P := by (with_reducible repeat (first | apply Kd.R_alloc | apply Kd.R_drewN | apply Kd.R_drew)); exact HO734.out) : P := h
theorem q60_50 {P : Prop} (h : P := by (with_reducible repeat (first | apply Kd.R_alloc | apply Kd.R_drewN | apply Kd.R_drew)); exact HO_18.out) : P := h
theorem q60_52 {P : Prop} (h : P := by (with_reducible repeat (first | apply Kd.R_alloc | apply Kd.R_drewN | apply Kd.R_drew)); exact HO_9.out) : P := h
theorem q60_55 {P : Prop} (h : P := by simp only [laws_FnModels.j0]; exact fun h => by cases h) : P := h
mutual
def laws_FnModels.j0 : Nat → Int → List (S48) → Bool → List Int → Bool → List Int → Bool → Bool → Int → List Int → Int → List Int → Option (Bool)
 | 0, _, _, _, _, _, _, _, _, _, _, _, _ => none
 | k + 1, x3, x4, x6, x9, x10, x18, x20, x135, x672000, x672001, x704000, x704001 => if x135 = true then (some false) else (if x10 = true then ((impl_IsClosureFamily.f k x3 x9).bind fun t716 => (if t716 = true then (if x20 = true then ((spec_Concepts.f k x704000 x704001).bind fun t717 => ((laws_intents.f k t717).bind fun t720 => ((laws_sameInts.f k t720 x18).bind fun t723 => (laws_FnModels.j1 k x3 x4 x6 x9 (!t723) x672000 x672001)))) else (laws_FnModels.j1 k x3 x4 x6 x9 false x672000 x672001)) else (laws_FnModels.j1 k x3 x4 x6 x9 true x672000 x672001))) else (if x20 = true then ((spec_Concepts.f k x704000 x704001).bind fun t724 => ((laws_intents.f k t724).bind fun t727 => ((laws_sameInts.f k t727 x18).bind fun t730 => (laws_FnModels.j1 k x3 x4 x6 x9 (!t730) x672000 x672001)))) else (laws_FnModels.j1 k x3 x4 x6 x9 false x672000 x672001)))
def laws_FnModels.j1 : Nat → Int → List (S48) → Bool → List Int → Bool → Int → List Int → Option (Bool)
 | 0, _, _, _, _, _, _, _ => none
 | k + 1, x3, x4, x6, x9, x153, x672000, x672001 => if x153 = true then (some false) else ((spec_ShortRules.f k x3 x4).bind fun bt731 => (if x6 = true then ((spec_Concepts.f k x672000 x672001).bind fun t735 => ((laws_intents.f k t735).bind fun t738 => ((laws_sameInts.f k t738 x9).bind fun t741 => (if t741 = true then ((spec_StemBase.f k x672000 x672001).bind fun t742 => ((laws_sameRules.f k t742 bt731.1).bind fun t745 => (some t745))) else (some false))))) else (some true)))
end
def laws_FnModels.f (k : Nat) (l0 : List Int) : Option (Bool) := (laws_big.f l0).bind fun t661 => (if t661 = true then (some true) else ((spec_DrawContextOfRules.f k l0).bind fun bt662 => ((impl_ContextOfRules.f k bt662.1 bt662.2).bind fun bt666 => ((spec_ContextOfRules.f k bt662.1 bt662.2).bind fun bt672 => ((impl_ModelsOf.f k bt662.1 bt662.2).bind fun bt678 => ((spec_ModelsOf.f k bt662.1 bt662.2).bind fun bt682 => ((impl_IrreducibleModels.f k bt662.1 bt662.2).bind fun bt686 => ((spec_IrreducibleModels.f k bt662.1 bt662.2).bind fun bt690 => ((spec_DrawContextOfFamily.f k l0).bind fun bt694 => ((impl_ContextOfFamily.f k bt694.1 bt694.2).bind fun bt698 => ((spec_ContextOfFamily.f k bt694.1 bt694.2).bind fun bt704 => (if (bt666.2.2 != bt672.2.2) = true then (laws_FnModels.j0 k bt662.1 bt662.2 bt666.2.2 bt678.1 bt678.2 bt694.2 bt698.2.2 true bt666.1 bt666.2.1 bt698.1 bt698.2.1) else ((spec_EqualContext.f k bt666.1 bt666.2.1 bt672.1 bt672.2.1).bind fun t710 => (if t710 = true then (if (bt678.2 != bt682.2) = true then (laws_FnModels.j0 k bt662.1 bt662.2 bt666.2.2 bt678.1 bt678.2 bt694.2 bt698.2.2 true bt666.1 bt666.2.1 bt698.1 bt698.2.1) else ((laws_sameInts.f k bt678.1 bt682.1).bind fun t711 => (if t711 = true then (if (bt686.2 != bt690.2) = true then (laws_FnModels.j0 k bt662.1 bt662.2 bt666.2.2 bt678.1 bt678.2 bt694.2 bt698.2.2 true bt666.1 bt666.2.1 bt698.1 bt698.2.1) else ((laws_sameInts.f k bt686.1 bt690.1).bind fun t712 => (if t712 = true then (if (bt698.2.2 != bt704.2.2) = true then (laws_FnModels.j0 k bt662.1 bt662.2 bt666.2.2 bt678.1 bt678.2 bt694.2 bt698.2.2 true bt666.1 bt666.2.1 bt698.1 bt698.2.1) else ((spec_EqualContext.f k bt698.1 bt698.2.1 bt704.1 bt704.2.1).bind fun t713 => (if t713 = true then ((impl_IsClosureFamily.f k bt694.1 bt694.2).bind fun t714 => ((spec_IsClosureFamily.f k bt694.1 bt694.2).bind fun t715 => (laws_FnModels.j0 k bt662.1 bt662.2 bt666.2.2 bt678.1 bt678.2 bt694.2 bt698.2.2 (t714 != t715) bt666.1 bt666.2.1 bt698.1 bt698.2.1))) else (laws_FnModels.j0 k bt662.1 bt662.2 bt666.2.2 bt678.1 bt678.2 bt694.2 bt698.2.2 true bt666.1 bt666.2.1 bt698.1 bt698.2.1)))) else (laws_FnModels.j0 k bt662.1 bt662.2 bt666.2.2 bt678.1 bt678.2 bt694.2 bt698.2.2 true bt666.1 bt666.2.1 bt698.1 bt698.2.1)))) else (laws_FnModels.j0 k bt662.1 bt662.2 bt666.2.2 bt678.1 bt678.2 bt694.2 bt698.2.2 true bt666.1 bt666.2.1 bt698.1 bt698.2.1)))) else (laws_FnModels.j0 k bt662.1 bt662.2 bt666.2.2 bt678.1 bt678.2 bt694.2 bt698.2.2 true bt666.1 bt666.2.1 bt698.1 bt698.2.1)))))))))))))))
set_option maxHeartbeats 40000000 in
set_option maxRecDepth 100000 in
theorem laws_FnModels.calls (k : Nat) (A0 : Option Addr) (c0 : Nat) (l0 : List Int) (r : Bool) (w : World) (hr0 : Kd.C (Kd.int .u8) w A0 l0.length l0) (hc0 : l0.length ≤ c0) (hrt : r = true) (htab : Tab64 w) (h : laws_FnModels.f k l0 = some r) :
  Calls Tryz.prog 3 #[.slice A0 l0.length c0] w fun e w' => e = .returned (.bool r) ∧ Below w.heap.size w w' := by
 have HTB := Aside0.mk htab; clear htab; have hu29 := Tryz.underlying29; have HR0 := Aside0.mk hr0; have HC0 := Aside0.mk hc0; clear hr0 hc0; have HB := Aside0.mk (Below.refl w.heap.size w); have HRT := Aside0.mk hrt; clear hrt; have H := h; clear h; unfold laws_FnModels.f at H; obtain ⟨t661, A2, H⟩ := bnd60_ H
 by_cases c3 : t661 = true
 ·
  subst c3; rw [if_pos rfl] at H; obtain rfl := Option.some.inj H
  go_enter Tryz.func3, Tryz.ntmps3
  go_wp2_with (first | ((with_reducible refine gate_callee (f := 9) rfl ?_); refine gL_ 9 26 Tryz.func9 #[.slice A0 l0.length c0] ?_; (with_reducible refine (laws_big.calls _ _ l0 true _ ?side1 ?side2 A2.out).mono ?_); (case side1 => exact q60_28); (case side2 => exact HC0.out); rintro e w' ⟨rfl, ⟨nd, rfl⟩⟩; refine ⟨_, rfl, ?_⟩))
  go_ret
  exact ⟨s7_, s1_⟩
 ·
  replace c3 := Bool.eq_false_iff.mpr c3; subst c3
  rw [if_neg (show ¬ (false = true) by decide)] at H
  obtain ⟨⟨t662, t663⟩, A4, H⟩ := bnd60_ H; dsimp only at H; obtain ⟨⟨t666, t667, t670⟩, A5, H⟩ := bnd60_ H; dsimp only at H; obtain ⟨⟨t672, t673, t676⟩, A6, H⟩ := bnd60_ H; dsimp only at H; obtain ⟨⟨t678, t679⟩, A7, H⟩ := bnd60_ H; dsimp only at H; obtain ⟨⟨t682, t683⟩, A8, H⟩ := bnd60_ H; dsimp only at H; obtain ⟨⟨t686, t687⟩, A9, H⟩ := bnd60_ H; dsimp only at H; obtain ⟨⟨t690, t691⟩, A10, H⟩ := bnd60_ H; dsimp only at H; obtain ⟨⟨t694, t695⟩, A11, H⟩ := bnd60_ H; dsimp only at H; obtain ⟨⟨t698, t699, t702⟩, A12, H⟩ := bnd60_ H; dsimp only at H; obtain ⟨⟨t704, t705, t708⟩, A13, H⟩ := bnd60_ H; dsimp only at H; have HC14 := Aside0.mk H; clear H
  go_enter Tryz.func3, Tryz.ntmps3
  go_upto_region 13 with (first | ((with_reducible refine gate_callee (f := 9) rfl ?_); refine gL_ 9 26 Tryz.func9 #[.slice A0 l0.length c0] ?_; (with_reducible refine (laws_big.calls _ _ l0 false _ ?side1 ?side2 A2.out).mono ?_); (case side1 => exact q60_28); (case side2 => exact HC0.out); rintro e w' ⟨rfl, ⟨nd, rfl⟩⟩; refine ⟨_, rfl, ?_⟩) | ((with_reducible refine gate_callee (f := 10) rfl ?_); refine gL_ 10 29 Tryz.func10 #[.slice A0 l0.length c0] ?_; (with_reducible refine (spec_DrawContextOfRules.calls k _ _ l0 t662 t663 _ ?side1 ?side2 A4.out).mono ?_); (case side1 => exact q60_28); (case side2 => exact HC0.out); rintro e w15 ⟨v664, rfl, ho0, hb⟩; refine ⟨_, rfl, ?_⟩; have n_ := ac_ (Kd.R_lower ho0 (below_size s1_)) <| Aside0.mk (below_step s1_ hb); clear HB; obtain ⟨HO665, HB⟩ := n_; (try clear hb ho0); obtain ⟨Ao16, co16, eo16⟩ := Kd.R_slice HO665.out; subst eo16) | ((with_reducible refine gate_callee (f := 11) rfl ?_); refine gL_ 11 35 Tryz.func11 #[.int .i64 t662, .slice Ao16 t663.length co16] ?_; (with_reducible refine (impl_ContextOfRules.calls k t662 _ _ t663 t666 t667 t670 _ ?side1 ?side2 ?tab A5.out).mono ?_); (case tab => first | exact HTB.out | (refine Tab64.below HTB.out ?_; repeat (first | (with_reducible first | exact HB.out | apply below_alloc | apply pw_below_drewN | apply below_drew1 | refine below_set ?_ GE671.out | refine below_set ?_ GE677.out | refine below_set ?_ GE703.out | refine below_set ?_ GE709.out) | exact HB.out)) | (repeat (first | exact HTB.out | apply Tab64.drewN | apply Tab64.drew | apply Tab64.alloc))); (case side1 => exact q60_22); (case side2 => exact (Kd.R_reads' HO665.out).2.1); rintro e w17 ⟨v668, rfl, ho0, hb⟩; refine ⟨_, rfl, ?_⟩; have n_ := ac_ (Kd.R_below q60_40 hb) <| ac_ (Kd.R_lower ho0 (below_size s1_)) <| Aside0.mk (below_step s1_ hb); clear HO665 HB; obtain ⟨HO665, HO669, HB⟩ := n_; (try clear hb ho0)) | (refine be_ 5 #[.int .i64 0, .slice none 0 0] 29 ?_; intro gb671 hg w18 hbox hb; have n_ := ac_ (Kd.R_below q60_40 hb) <| ac_ (Kd.R_below q60_41 hb) <| ac_ (below_step s1_ hb) <| ac_ (hbox) <| ac_ ((gz_ w hg s1_)) <| Aside0.mk ((gz_ w hg s1_)); clear HO665 HO669 HB; obtain ⟨HO665, HO669, HB, BK671, GW671, GE671⟩ := n_; clear hb hbox hg; have hcz19_0 : w18.cell? ⟨gb671, 0, none⟩ = some (.int .i64 0) := (blk_cell BK671.out 0).trans rfl; have hcz19_1 : w18.cell? ⟨gb671, 1, none⟩ = some (.slice none 0 0) := (blk_cell BK671.out 1).trans rfl; have hfz19_0 := blk_frozen BK671.out 0; have hfz19_1 := blk_frozen BK671.out 1; obtain ⟨Ao20, co20, eo20⟩ := Kd.R_slice HO669.out; subst eo20) | ((with_reducible refine gate_callee (f := 12) rfl ?_); refine gL_ 12 41 Tryz.func12 #[.int .i64 t662, .slice Ao16 t663.length co16] ?_; (with_reducible refine (spec_ContextOfRules.calls k t662 _ _ t663 t672 t673 t676 _ ?side1 ?side2 A6.out).mono ?_); (case side1 => refine (Kd.R_reads' (e := 48) (base := w.heap.size) (ok := fun k_ => True) (n := t663.length) (c := co16) ?_).2.2; exact q60_1); (case side2 => exact (Kd.R_reads' HO665.out).2.1); rintro e w21 ⟨v674, rfl, ho0, hb⟩; refine ⟨_, rfl, ?_⟩; have n_ := ac_ (Kd.R_below q60_1 hb) <| ac_ (Kd.R_elder' q60_2 (Kd.R_base ho0) hb) <| ac_ (Kd.R_lower (Kd.R_new' ho0 (Kd.R_lt q60_2)) (below_size q60_27)) <| ac_ (blk_below (g := gb671) (o := .cells #[.int .i64 t666, .slice Ao20 t667.length co20] 29 (0, 0)) (by (with_reducible repeat (first | refine blk_drewN ?_ _ | refine blk_drew ?_ | refine blk_alloc ?_ _)); refine blk_put (cs := #[.int .i64 t666, .slice none 0 0]) ?_ 1 _ rfl; (with_reducible repeat (first | refine blk_drewN ?_ _ | refine blk_drew ?_ | refine blk_alloc ?_ _)); refine blk_put (cs := #[.int .i64 0, .slice none 0 0]) ?_ 0 _ rfl; (with_reducible repeat (first | refine blk_drewN ?_ _ | refine blk_drew ?_ | refine blk_alloc ?_ _)); exact BK671.out) hb) <| Aside0.mk (below_step q60_27 hb); clear HO665 HO669 BK671 HB; obtain ⟨HO665, HO669, HO675, BK671, HB⟩ := n_; (try clear hb ho0)) | (refine be_ 7 #[.int .i64 0, .slice none 0 0] 29 ?_; intro gb677 hg w22 hbox hb; have n_ := ac_ (Kd.R_below q60_40 hb) <| ac_ (Kd.R_below q60_41 hb) <| ac_ (Kd.R_below q60_42 hb) <| ac_ (blk_below (g := gb671) (o := .cells #[.int .i64 t666, .slice Ao20 t667.length co20] 29 (0, 0)) q60_35 hb) <| ac_ (below_step q60_27 hb) <| ac_ (hbox) <| ac_ ((gz_ w hg q60_27)) <| ac_ ((gz_ w hg q60_27)) <| ac_ ((nl_ hg (blk_lt (g := gb671) (o := .cells #[.int .i64 t666, .slice Ao20 t667.length co20] 29 (0, 0)) q60_35))) <| Aside0.mk ((ng_ hg (blk_lt (g := gb671) (o := .cells #[.int .i64 t666, .slice Ao20 t667.length co20] 29 (0, 0)) q60_35))); clear HO665 HO669 HO675 BK671 HB; obtain ⟨HO665, HO669, HO675, BK671, HB, BK677, GW677, GE677, NB671_677, NB677_671⟩ := n_; clear hb hbox hg; have hnb23 := NB677_671.out; have hnc23 := NB671_677.out; have hcz24_0 : w22.cell? ⟨gb677, 0, none⟩ = some (.int .i64 0) := (blk_cell BK677.out 0).trans rfl; have hcz24_1 : w22.cell? ⟨gb677, 1, none⟩ = some (.slice none 0 0) := (blk_cell BK677.out 1).trans rfl; have hfz24_0 := blk_frozen BK677.out 0; have hfz24_1 := blk_frozen BK677.out 1; obtain ⟨Ao25, co25, eo25⟩ := Kd.R_slice HO675.out; subst eo25) | ((with_reducible refine gate_callee (f := 13) rfl ?_); refine gL_ 13 47 Tryz.func13 #[.int .i64 t662, .slice Ao16 t663.length co16] ?_; (with_reducible refine (impl_ModelsOf.calls k t662 _ _ t663 t678 t679 _ ?side1 ?side2 ?tab A7.out).mono ?_); (case tab => first | exact HTB.out | (refine Tab64.below HTB.out ?_; repeat (first | (with_reducible first | exact HB.out | apply below_alloc | apply pw_below_drewN | apply below_drew1 | refine below_set ?_ GE671.out | refine below_set ?_ GE677.out | refine below_set ?_ GE703.out | refine below_set ?_ GE709.out) | exact HB.out)) | (repeat (first | exact HTB.out | apply Tab64.drewN | apply Tab64.drew | apply Tab64.alloc))); (case side1 => refine (Kd.R_reads' (e := 48) (base := w.heap.size) (ok := fun k_ => True) (n := t663.length) (c := co16) ?_).2.2; exact q60_3); (case side2 => exact (Kd.R_reads' HO665.out).2.1); rintro e w26 ⟨v680, rfl, ho0, hb⟩; refine ⟨_, rfl, ?_⟩; have n_ := ac_ (Kd.R_below q60_3 hb) <| ac_ (Kd.R_elder' q60_4 (Kd.R_base ho0) hb) <| ac_ (Kd.R_elder' q60_5 (Kd.R_base ho0) hb) <| ac_ (Kd.R_lower (Kd.R_new' (Kd.R_new' ho0 (Kd.R_lt q60_4)) (Kd.R_lt q60_5)) (below_size q60_18)) <| ac_ (blk_below (g := gb671) (o := .cells #[.int .i64 t666, .slice Ao20 t667.length co20] 29 (0, 0)) (by (with_reducible repeat (first | refine blk_drewN ?_ _ | refine blk_drew ?_ | refine blk_alloc ?_ _)); refine blk_far ?_ NB671_677.out _; (with_reducible repeat (first | refine blk_drewN ?_ _ | refine blk_drew ?_ | refine blk_alloc ?_ _)); refine blk_far ?_ NB671_677.out _; (with_reducible repeat (first | refine blk_drewN ?_ _ | refine blk_drew ?_ | refine blk_alloc ?_ _)); exact BK671.out) hb) <| ac_ (blk_below (g := gb677) (o := .cells #[.int .i64 t672, .slice Ao25 t673.length co25] 29 (0, 0)) (by (with_reducible repeat (first | refine blk_drewN ?_ _ | refine blk_drew ?_ | refine blk_alloc ?_ _)); refine blk_put (cs := #[.int .i64 t672, .slice none 0 0]) ?_ 1 _ rfl; (with_reducible repeat (first | refine blk_drewN ?_ _ | refine blk_drew ?_ | refine blk_alloc ?_ _)); refine blk_put (cs := #[.int .i64 0, .slice none 0 0]) ?_ 0 _ rfl; (with_reducible repeat (first | refine blk_drewN ?_ _ | refine blk_drew ?_ | refine blk_alloc ?_ _)); exact BK677.out) hb) <| Aside0.mk (below_step q60_18 hb); clear HO665 HO669 HO675 BK671 BK677 HB; obtain ⟨HO665, HO669, HO675, HO681, BK671, BK677, HB⟩ := n_; (try clear hb ho0)) | ((with_reducible refine gate_callee (f := 14) rfl ?_); refine gL_ 14 53 Tryz.func14 #[.int .i64 t662, .slice Ao16 t663.length co16] ?_; (with_reducible refine (spec_ModelsOf.calls k t662 _ _ t663 t682 t683 _ ?side1 ?side2 A8.out).mono ?_); (case side1 => exact q60_22); (case side2 => exact (Kd.R_reads' HO665.out).2.1); rintro e w27 ⟨v684, rfl, ho0, hb⟩; refine ⟨_, rfl, ?_⟩; have n_ := ac_ (Kd.R_below q60_40 hb) <| ac_ (Kd.R_elder' q60_41 (Kd.R_base ho0) hb) <| ac_ (Kd.R_elder' q60_42 (Kd.R_base ho0) hb) <| ac_ (Kd.R_elder' q60_43 (Kd.R_base ho0) hb) <| ac_ (Kd.R_lower (Kd.R_new' (Kd.R_new' (Kd.R_new' ho0 (Kd.R_lt q60_41)) (Kd.R_lt q60_42)) (Kd.R_lt q60_43)) (below_size q60_18)) <| ac_ (blk_below (g := gb671) (o := .cells #[.int .i64 t666, .slice Ao20 t667.length co20] 29 (0, 0)) q60_35 hb) <| ac_ (blk_below (g := gb677) (o := .cells #[.int .i64 t672, .slice Ao25 t673.length co25] 29 (0, 0)) q60_36 hb) <| Aside0.mk (below_step q60_18 hb); clear HO665 HO669 HO675 HO681 BK671 BK677 HB; obtain ⟨HO665, HO669, HO675, HO681, HO685, BK671, BK677, HB⟩ := n_; (try clear hb ho0)) | ((with_reducible refine gate_callee (f := 15) rfl ?_); refine gL_ 15 59 Tryz.func15 #[.int .i64 t662, .slice Ao16 t663.length co16] ?_; (with_reducible refine (impl_IrreducibleModels.calls k t662 _ _ t663 t686 t687 _ ?side1 ?side2 ?tab A9.out).mono ?_); (case tab => first | exact HTB.out | (refine Tab64.below HTB.out ?_; repeat (first | (with_reducible first | exact HB.out | apply below_alloc | apply pw_below_drewN | apply below_drew1 | refine below_set ?_ GE671.out | refine below_set ?_ GE677.out | refine below_set ?_ GE703.out | refine below_set ?_ GE709.out) | exact HB.out)) | (repeat (first | exact HTB.out | apply Tab64.drewN | apply Tab64.drew | apply Tab64.alloc))); (case side1 => exact q60_22); (case side2 => exact (Kd.R_reads' HO665.out).2.1); rintro e w28 ⟨v688, rfl, ho0, hb⟩; refine ⟨_, rfl, ?_⟩; have n_ := ac_ (Kd.R_below q60_40 hb) <| ac_ (Kd.R_elder' q60_41 (Kd.R_base ho0) hb) <| ac_ (Kd.R_elder' q60_42 (Kd.R_base ho0) hb) <| ac_ (Kd.R_elder' q60_43 (Kd.R_base ho0) hb) <| ac_ (Kd.R_elder' q60_44 (Kd.R_base ho0) hb) <| ac_ (Kd.R_lower (Kd.R_new' (Kd.R_new' (Kd.R_new' (Kd.R_new' ho0 (Kd.R_lt q60_41)) (Kd.R_lt q60_42)) (Kd.R_lt q60_43)) (Kd.R_lt q60_44)) (below_size q60_18)) <| ac_ (blk_below (g := gb671) (o := .cells #[.int .i64 t666, .slice Ao20 t667.length co20] 29 (0, 0)) q60_35 hb) <| ac_ (blk_below (g := gb677) (o := .cells #[.int .i64 t672, .slice Ao25 t673.length co25] 29 (0, 0)) q60_36 hb) <| Aside0.mk (below_step q60_18 hb); clear HO665 HO669 HO675 HO681 HO685 BK671 BK677 HB; obtain ⟨HO665, HO669, HO675, HO681, HO685, HO689, BK671, BK677, HB⟩ := n_; (try clear hb ho0)) | ((with_reducible refine gate_callee (f := 16) rfl ?_); refine gL_ 16 65 Tryz.func16 #[.int .i64 t662, .slice Ao16 t663.length co16] ?_; (with_reducible refine (spec_IrreducibleModels.calls k t662 _ _ t663 t690 t691 _ ?side1 ?side2 A10.out).mono ?_); (case side1 => exact q60_22); (case side2 => exact (Kd.R_reads' HO665.out).2.1); rintro e w29 ⟨v692, rfl, ho0, hb⟩; refine ⟨_, rfl, ?_⟩; have n_ := ac_ (Kd.R_below q60_40 hb) <| ac_ (Kd.R_elder' q60_41 (Kd.R_base ho0) hb) <| ac_ (Kd.R_elder' q60_42 (Kd.R_base ho0) hb) <| ac_ (Kd.R_elder' q60_43 (Kd.R_base ho0) hb) <| ac_ (Kd.R_elder' q60_44 (Kd.R_base ho0) hb) <| ac_ (Kd.R_elder' q60_45 (Kd.R_base ho0) hb) <| ac_ (Kd.R_lower (Kd.R_new' (Kd.R_new' (Kd.R_new' (Kd.R_new' (Kd.R_new' ho0 (Kd.R_lt q60_41)) (Kd.R_lt q60_42)) (Kd.R_lt q60_43)) (Kd.R_lt q60_44)) (Kd.R_lt q60_45)) (below_size q60_18)) <| ac_ (blk_below (g := gb671) (o := .cells #[.int .i64 t666, .slice Ao20 t667.length co20] 29 (0, 0)) q60_35 hb) <| ac_ (blk_below (g := gb677) (o := .cells #[.int .i64 t672, .slice Ao25 t673.length co25] 29 (0, 0)) q60_36 hb) <| Aside0.mk (below_step q60_18 hb); clear HO665 HO669 HO675 HO681 HO685 HO689 BK671 BK677 HB; obtain ⟨HO665, HO669, HO675, HO681, HO685, HO689, HO693, BK671, BK677, HB⟩ := n_; (try clear hb ho0)) | ((with_reducible refine gate_callee (f := 17) rfl ?_); refine gL_ 17 70 Tryz.func17 #[.slice A0 l0.length c0] ?_; (with_reducible refine (spec_DrawContextOfFamily.calls k _ _ l0 t694 t695 _ ?side1 ?side2 A11.out).mono ?_); (case side1 => repeat (first | exact (Kd.C_below HR0.out HB.out) | (with_reducible refine Kd.C_alloc ?_ _) | (with_reducible refine Kd.C_drewN ?_ _) | (with_reducible refine Kd.C_drew ?_))); (case side2 => exact HC0.out); rintro e w30 ⟨v696, rfl, ho0, hb⟩; refine ⟨_, rfl, ?_⟩; have n_ := ac_ (Kd.R_below q60_40 hb) <| ac_ (Kd.R_elder' q60_41 (Kd.R_base ho0) hb) <| ac_ (Kd.R_elder' q60_42 (Kd.R_base ho0) hb) <| ac_ (Kd.R_elder' q60_43 (Kd.R_base ho0) hb) <| ac_ (Kd.R_elder' q60_44 (Kd.R_base ho0) hb) <| ac_ (Kd.R_elder' q60_45 (Kd.R_base ho0) hb) <| ac_ (Kd.R_elder' q60_46 (Kd.R_base ho0) hb) <| ac_ (Kd.R_lower (Kd.R_new' (Kd.R_new' (Kd.R_new' (Kd.R_new' (Kd.R_new' (Kd.R_new' ho0 (Kd.R_lt q60_41)) (Kd.R_lt q60_42)) (Kd.R_lt q60_43)) (Kd.R_lt q60_44)) (Kd.R_lt q60_45)) (Kd.R_lt q60_46)) (below_size q60_18)) <| ac_ (blk_below (g := gb671) (o := .cells #[.int .i64 t666, .slice Ao20 t667.length co20] 29 (0, 0)) q60_35 hb) <| ac_ (blk_below (g := gb677) (o := .cells #[.int .i64 t672, .slice Ao25 t673.length co25] 29 (0, 0)) q60_36 hb) <| Aside0.mk (below_step q60_18 hb); clear HO665 HO669 HO675 HO681 HO685 HO689 HO693 BK671 BK677 HB; obtain ⟨HO665, HO669, HO675, HO681, HO685, HO689, HO693, HO697, BK671, BK677, HB⟩ := n_; (try clear hb ho0); obtain ⟨Ao31, co31, eo31⟩ := Kd.R_slice HO697.out; subst eo31) | ((with_reducible refine gate_callee (f := 18) rfl ?_); refine gL_ 18 76 Tryz.func18 #[.int .i64 t694, .slice Ao31 t695.length co31] ?_; (with_reducible refine (impl_ContextOfFamily.calls k t694 _ _ t695 t698 t699 t702 _ ?side1 ?side2 ?tab A12.out).mono ?_); (case tab => first | exact HTB.out | (refine Tab64.below HTB.out ?_; repeat (first | (with_reducible first | exact HB.out | apply below_alloc | apply pw_below_drewN | apply below_drew1 | refine below_set ?_ GE671.out | refine below_set ?_ GE677.out | refine below_set ?_ GE703.out | refine below_set ?_ GE709.out) | exact HB.out)) | (repeat (first | exact HTB.out | apply Tab64.drewN | apply Tab64.drew | apply Tab64.alloc))); (case side1 => exact q60_23); (case side2 => exact (Kd.R_reads' HO697.out).2.1); rintro e w32 ⟨v700, rfl, ho0, hb⟩; refine ⟨_, rfl, ?_⟩; have n_ := ac_ (Kd.R_below q60_40 hb) <| ac_ (Kd.R_elder' q60_41 (Kd.R_base ho0) hb) <| ac_ (Kd.R_elder' q60_42 (Kd.R_base ho0) hb) <| ac_ (Kd.R_elder' q60_43 (Kd.R_base ho0) hb) <| ac_ (Kd.R_elder' q60_44 (Kd.R_base ho0) hb) <| ac_ (Kd.R_elder' q60_45 (Kd.R_base ho0) hb) <| ac_ (Kd.R_elder' q60_46 (Kd.R_base ho0) hb) <| ac_ (Kd.R_elder' q60_47 (Kd.R_base ho0) hb) <| ac_ (Kd.R_lower (Kd.R_new' (Kd.R_new' (Kd.R_new' (Kd.R_new' (Kd.R_new' (Kd.R_new' (Kd.R_new' ho0 (Kd.R_lt q60_41)) (Kd.R_lt q60_42)) (Kd.R_lt q60_43)) (Kd.R_lt q60_44)) (Kd.R_lt q60_45)) (Kd.R_lt q60_46)) (Kd.R_lt q60_47)) (below_size q60_18)) <| ac_ (blk_below (g := gb671) (o := .cells #[.int .i64 t666, .slice Ao20 t667.length co20] 29 (0, 0)) q60_35 hb) <| ac_ (blk_below (g := gb677) (o := .cells #[.int .i64 t672, .slice Ao25 t673.length co25] 29 (0, 0)) q60_36 hb) <| Aside0.mk (below_step q60_18 hb); clear HO665 HO669 HO675 HO681 HO685 HO689 HO693 HO697 BK671 BK677 HB; obtain ⟨HO665, HO669, HO675, HO681, HO685, HO689, HO693, HO697, HO701, BK671, BK677, HB⟩ := n_; (try clear hb ho0)) | (refine be_ 19 #[.int .i64 0, .slice none 0 0] 29 ?_; intro gb703 hg w33 hbox hb; have n_ := ac_ (Kd.R_below q60_40 hb) <| ac_ (Kd.R_below q60_41 hb) <| ac_ (Kd.R_below q60_42 hb) <| ac_ (Kd.R_below q60_43 hb) <| ac_ (Kd.R_below q60_44 hb) <| ac_ (Kd.R_below q60_45 hb) <| ac_ (Kd.R_below q60_46 hb) <| ac_ (Kd.R_below q60_47 hb) <| ac_ (Kd.R_below q60_48 hb) <| ac_ (blk_below (g := gb671) (o := .cells #[.int .i64 t666, .slice Ao20 t667.length co20] 29 (0, 0)) q60_35 hb) <| ac_ (blk_below (g := gb677) (o := .cells #[.int .i64 t672, .slice Ao25 t673.length co25] 29 (0, 0)) q60_36 hb) <| ac_ (below_step q60_18 hb) <| ac_ (hbox) <| ac_ ((gz_ w hg q60_18)) <| ac_ ((gz_ w hg q60_18)) <| ac_ ((nl_ hg (blk_lt (g := gb671) (o := .cells #[.int .i64 t666, .slice Ao20 t667.length co20] 29 (0, 0)) q60_35))) <| ac_ ((ng_ hg (blk_lt (g := gb671) (o := .cells #[.int .i64 t666, .slice Ao20 t667.length co20] 29 (0, 0)) q60_35))) <| ac_ ((nl_ hg (blk_lt (g := gb677) (o := .cells #[.int .i64 t672, .slice Ao25 t673.length co25] 29 (0, 0)) q60_36))) <| Aside0.mk ((ng_ hg (blk_lt (g := gb677) (o := .cells #[.int .i64 t672, .slice Ao25 t673.length co25] 29 (0, 0)) q60_36))); clear HO665 HO669 HO675 HO681 HO685 HO689 HO693 HO697 HO701 BK671 BK677 HB; obtain ⟨HO665, HO669, HO675, HO681, HO685, HO689, HO693, HO697, HO701, BK671, BK677, HB, BK703, GW703, GE703, NB671_703, NB703_671, NB677_703, NB703_677⟩ := n_; clear hb hbox hg; have hnb34 := NB703_671.out; have hnc34 := NB671_703.out; have hnb35 := NB703_677.out; have hnc35 := NB677_703.out; have hcz36_0 : w33.cell? ⟨gb703, 0, none⟩ = some (.int .i64 0) := (blk_cell BK703.out 0).trans rfl; have hcz36_1 : w33.cell? ⟨gb703, 1, none⟩ = some (.slice none 0 0) := (blk_cell BK703.out 1).trans rfl; have hfz36_0 := blk_frozen BK703.out 0; have hfz36_1 := blk_frozen BK703.out 1; obtain ⟨Ao37, co37, eo37⟩ := Kd.R_slice HO701.out; subst eo37) | ((with_reducible refine gate_callee (f := 19) rfl ?_); refine gL_ 19 82 Tryz.func19 #[.int .i64 t694, .slice Ao31 t695.length co31] ?_; (with_reducible refine (spec_ContextOfFamily.calls k t694 _ _ t695 t704 t705 t708 _ ?side1 ?side2 A13.out).mono ?_); (case side1 => refine (Kd.R_reads' (e := 3) (base := w.heap.size) (ok := fun k_ => (((((((True ∧ some k_ ≠ (.slice Ao20 t667.length co20 : Value).ownBlock) ∧ some k_ ≠ (.slice Ao25 t673.length co25 : Value).ownBlock) ∧ some k_ ≠ (v680 : Value).ownBlock) ∧ some k_ ≠ (v684 : Value).ownBlock) ∧ some k_ ≠ (v688 : Value).ownBlock) ∧ some k_ ≠ (v692 : Value).ownBlock) ∧ some k_ ≠ (.slice Ao37 t699.length co37 : Value).ownBlock)) (n := t695.length) (c := co31) ?_).2.2; exact q60_12); (case side2 => exact (Kd.R_reads' HO697.out).2.1); rintro e w38 ⟨v706, rfl, ho0, hb⟩; refine ⟨_, rfl, ?_⟩; have n_ := ac_ (Kd.R_below (by (with_reducible repeat (first | apply Kd.R_alloc | apply Kd.R_drewN | apply Kd.R_drew)); exact (Kd.R_mono (Kd.R_far (p := ⟨gb703, 1, none⟩) (Kd.R_far (p := ⟨gb703, 0, none⟩) (Kd.R_types HO665.out BK703.out (by decide)) (fun _ hk => hk.2) (.int .i64 t698)) (fun _ hk => hk.2) (.slice Ao37 t699.length co37)) (fun _ h_ => h_.1))) hb) <| ac_ (Kd.R_elder' q60_6 (Kd.R_base ho0) hb) <| ac_ (Kd.R_elder' q60_7 (Kd.R_base ho0) hb) <| ac_ (Kd.R_elder' q60_8 (Kd.R_base ho0) hb) <| ac_ (Kd.R_elder' q60_9 (Kd.R_base ho0) hb) <| ac_ (Kd.R_elder' q60_10 (Kd.R_base ho0) hb) <| ac_ (Kd.R_elder' q60_11 (Kd.R_base ho0) hb) <| ac_ (Kd.R_elder' q60_12 (Kd.R_base ho0) hb) <| ac_ (Kd.R_elder' q60_13 (Kd.R_base ho0) hb) <| ac_ (Kd.R_lower (Kd.R_new' (Kd.R_new' (Kd.R_new' (Kd.R_new' (Kd.R_new' (Kd.R_new' (Kd.R_new' (Kd.R_new' ho0 (Kd.R_lt q60_6)) (Kd.R_lt q60_7)) (Kd.R_lt q60_8)) (Kd.R_lt q60_9)) (Kd.R_lt q60_10)) (Kd.R_lt q60_11)) (Kd.R_lt q60_12)) (Kd.R_lt q60_13)) (below_size q60_17)) <| ac_ (blk_below (g := gb671) (o := .cells #[.int .i64 t666, .slice Ao20 t667.length co20] 29 (0, 0)) (by (with_reducible repeat (first | refine blk_drewN ?_ _ | refine blk_drew ?_ | refine blk_alloc ?_ _)); refine blk_far ?_ NB671_703.out _; (with_reducible repeat (first | refine blk_drewN ?_ _ | refine blk_drew ?_ | refine blk_alloc ?_ _)); refine blk_far ?_ NB671_703.out _; (with_reducible repeat (first | refine blk_drewN ?_ _ | refine blk_drew ?_ | refine blk_alloc ?_ _)); exact BK671.out) hb) <| ac_ (blk_below (g := gb677) (o := .cells #[.int .i64 t672, .slice Ao25 t673.length co25] 29 (0, 0)) (by (with_reducible repeat (first | refine blk_drewN ?_ _ | refine blk_drew ?_ | refine blk_alloc ?_ _)); refine blk_far ?_ NB677_703.out _; (with_reducible repeat (first | refine blk_drewN ?_ _ | refine blk_drew ?_ | refine blk_alloc ?_ _)); refine blk_far ?_ NB677_703.out _; (with_reducible repeat (first | refine blk_drewN ?_ _ | refine blk_drew ?_ | refine blk_alloc ?_ _)); exact BK677.out) hb) <| ac_ (blk_below (g := gb703) (o := .cells #[.int .i64 t698, .slice Ao37 t699.length co37] 29 (0, 0)) (by (with_reducible repeat (first | refine blk_drewN ?_ _ | refine blk_drew ?_ | refine blk_alloc ?_ _)); refine blk_put (cs := #[.int .i64 t698, .slice none 0 0]) ?_ 1 _ rfl; (with_reducible repeat (first | refine blk_drewN ?_ _ | refine blk_drew ?_ | refine blk_alloc ?_ _)); refine blk_put (cs := #[.int .i64 0, .slice none 0 0]) ?_ 0 _ rfl; (with_reducible repeat (first | refine blk_drewN ?_ _ | refine blk_drew ?_ | refine blk_alloc ?_ _)); exact BK703.out) hb) <| Aside0.mk (below_step q60_17 hb); clear HO665 HO669 HO675 HO681 HO685 HO689 HO693 HO697 HO701 BK671 BK677 BK703 HB; obtain ⟨HO665, HO669, HO675, HO681, HO685, HO689, HO693, HO697, HO701, HO707, BK671, BK677, BK703, HB⟩ := n_; (try clear hb ho0)) | (refine be_ 21 #[.int .i64 0, .slice none 0 0] 29 ?_; intro gb709 hg w39 hbox hb; have n_ := ac_ (Kd.R_below q60_40 hb) <| ac_ (Kd.R_below q60_41 hb) <| ac_ (Kd.R_below q60_42 hb) <| ac_ (Kd.R_below q60_43 hb) <| ac_ (Kd.R_below q60_44 hb) <| ac_ (Kd.R_below q60_45 hb) <| ac_ (Kd.R_below q60_46 hb) <| ac_ (Kd.R_below q60_47 hb) <| ac_ (Kd.R_below q60_48 hb) <| ac_ (Kd.R_below (by (with_reducible repeat (first | apply Kd.R_alloc | apply Kd.R_drewN | apply Kd.R_drew)); exact HO707.out) hb) <| ac_ (blk_below (g := gb671) (o := .cells #[.int .i64 t666, .slice Ao20 t667.length co20] 29 (0, 0)) q60_35 hb) <| ac_ (blk_below (g := gb677) (o := .cells #[.int .i64 t672, .slice Ao25 t673.length co25] 29 (0, 0)) q60_36 hb) <| ac_ (blk_below (g := gb703) (o := .cells #[.int .i64 t698, .slice Ao37 t699.length co37] 29 (0, 0)) q60_37 hb) <| ac_ (below_step q60_17 hb) <| ac_ (hbox) <| ac_ ((gz_ w hg q60_17)) <| ac_ ((gz_ w hg q60_17)) <| ac_ ((nl_ hg (blk_lt (g := gb671) (o := .cells #[.int .i64 t666, .slice Ao20 t667.length co20] 29 (0, 0)) q60_35))) <| ac_ ((ng_ hg (blk_lt (g := gb671) (o := .cells #[.int .i64 t666, .slice Ao20 t667.length co20] 29 (0, 0)) q60_35))) <| ac_ ((nl_ hg (blk_lt (g := gb677) (o := .cells #[.int .i64 t672, .slice Ao25 t673.length co25] 29 (0, 0)) q60_36))) <| ac_ ((ng_ hg (blk_lt (g := gb677) (o := .cells #[.int .i64 t672, .slice Ao25 t673.length co25] 29 (0, 0)) q60_36))) <| ac_ ((nl_ hg (blk_lt (g := gb703) (o := .cells #[.int .i64 t698, .slice Ao37 t699.length co37] 29 (0, 0)) q60_37))) <| Aside0.mk ((ng_ hg (blk_lt (g := gb703) (o := .cells #[.int .i64 t698, .slice Ao37 t699.length co37] 29 (0, 0)) q60_37))); clear HO665 HO669 HO675 HO681 HO685 HO689 HO693 HO697 HO701 HO707 BK671 BK677 BK703 HB; obtain ⟨HO665, HO669, HO675, HO681, HO685, HO689, HO693, HO697, HO701, HO707, BK671, BK677, BK703, HB, BK709, GW709, GE709, NB671_709, NB709_671, NB677_709, NB709_677, NB703_709, NB709_703⟩ := n_; clear hb hbox hg; have hnb40 := NB709_671.out; have hnc40 := NB671_709.out; have hnb41 := NB709_677.out; have hnc41 := NB677_709.out; have hnb42 := NB709_703.out; have hnc42 := NB703_709.out; have hcz43_0 : w39.cell? ⟨gb709, 0, none⟩ = some (.int .i64 0) := (blk_cell BK709.out 0).trans rfl; have hcz43_1 : w39.cell? ⟨gb709, 1, none⟩ = some (.slice none 0 0) := (blk_cell BK709.out 1).trans rfl; have hfz43_0 := blk_frozen BK709.out 0; have hfz43_1 := blk_frozen BK709.out 1; obtain ⟨Ao44, co44, eo44⟩ := Kd.R_slice HO707.out; subst eo44))
  (try simp only [Act.put, List.setIfInBounds_toArray, List.set_cons_zero, List.set_cons_succ])
  go_cut [135] (fun v135 wc => ∃ (kq : Nat) (x135_13 : Bool), v135 = .bool x135_13 ∧ Aside0 (laws_FnModels.j0 kq t662 t663 t670 t678 t679 t695 t702 x135_13 t666 t667 t698 t699 = some r) ∧ Aside0 (kq ≤ k) ∧ Aside0 (Kd.R k48 48 wc w.heap.size (fun _ => True) (.slice Ao16 t663.length co16) t663) ∧ Aside0 (Kd.R (Kd.int .i64) 3 wc w.heap.size (fun k_ => some k_ ≠ ((.slice Ao31 t695.length co31) : Value).ownBlock ∧ some k_ ≠ ((.slice Ao20 t667.length co20) : Value).ownBlock ∧ some k_ ≠ ((.slice Ao37 t699.length co37) : Value).ownBlock) v680 t678) ∧ Aside0 (Kd.R (Kd.int .i64) 3 wc w.heap.size (fun k_ => some k_ ≠ (v680 : Value).ownBlock ∧ some k_ ≠ ((.slice Ao20 t667.length co20) : Value).ownBlock ∧ some k_ ≠ ((.slice Ao37 t699.length co37) : Value).ownBlock) (.slice Ao31 t695.length co31) t695) ∧ Aside0 (Kd.R (Kd.int .i64) 3 wc w.heap.size (fun k_ => some k_ ≠ (v680 : Value).ownBlock ∧ some k_ ≠ ((.slice Ao31 t695.length co31) : Value).ownBlock ∧ some k_ ≠ ((.slice Ao37 t699.length co37) : Value).ownBlock) (.slice Ao20 t667.length co20) t667) ∧ Aside0 (Kd.R (Kd.int .i64) 3 wc w.heap.size (fun k_ => some k_ ≠ (v680 : Value).ownBlock ∧ some k_ ≠ ((.slice Ao31 t695.length co31) : Value).ownBlock ∧ some k_ ≠ ((.slice Ao20 t667.length co20) : Value).ownBlock) (.slice Ao37 t699.length co37) t699) ∧ Aside0 (wc.heap[gb671]? = some (.cells #[.int .i64 t666, (.slice Ao20 t667.length co20)] 29 (0, 0))) ∧ Aside0 (wc.heap[gb703]? = some (.cells #[.int .i64 t698, (.slice Ao37 t699.length co37)] 29 (0, 0))) ∧ Aside0 (Below w.heap.size w wc))
  case first =>
   have H := HC14.out; clear HC14
   by_cases c45 : (t670 != t676) = true
   ·
    rw [if_pos c45] at H
    refine absurd ?_ Bool.false_ne_true; revert H; generalize k = kq_; intro H; cases kq_ with | zero => exact absurd H q60_55 | succ kq_ => simp only [laws_FnModels.j0] at H; (try rw [if_pos rfl] at H); exact (Option.some.inj H).trans HRT.out
   ·
    rw [if_neg c45] at H
    have c45b0 : (t670 != t676) = false := by simpa using c45
    (try (have c45b1 : decide (t670 = t676) = true := by simpa using c45))
    (try (have c45b2 : (t670 == t676) = true := by simpa using c45))
    clear c45
    (first | rw [c45b0] | (simp only [i64_w, i32_w]; rw [c45b0]) | skip)
    obtain ⟨t710, A46, H⟩ := bnd60_ H
    by_cases c47 : t710 = true
    ·
     subst c47; rw [if_pos rfl] at H
     by_cases c48 : (t679 != t683) = true
     ·
      rw [if_pos c48] at H
      refine absurd ?_ Bool.false_ne_true; revert H; generalize k = kq_; intro H; cases kq_ with | zero => exact absurd H q60_55 | succ kq_ => simp only [laws_FnModels.j0] at H; (try rw [if_pos rfl] at H); exact (Option.some.inj H).trans HRT.out
     ·
      rw [if_neg c48] at H
      have c48b0 : (t679 != t683) = false := by simpa using c48
      (try (have c48b1 : decide (t679 = t683) = true := by simpa using c48))
      (try (have c48b2 : (t679 == t683) = true := by simpa using c48))
      clear c48; obtain ⟨t711, A49, H⟩ := bnd60_ H
      by_cases c50 : t711 = true
      ·
       subst c50; rw [if_pos rfl] at H
       by_cases c51 : (t687 != t691) = true
       ·
        rw [if_pos c51] at H
        refine absurd ?_ Bool.false_ne_true; revert H; generalize k = kq_; intro H; cases kq_ with | zero => exact absurd H q60_55 | succ kq_ => simp only [laws_FnModels.j0] at H; (try rw [if_pos rfl] at H); exact (Option.some.inj H).trans HRT.out
       ·
        rw [if_neg c51] at H
        have c51b0 : (t687 != t691) = false := by simpa using c51
        (try (have c51b1 : decide (t687 = t691) = true := by simpa using c51))
        (try (have c51b2 : (t687 == t691) = true := by simpa using c51))
        clear c51; obtain ⟨t712, A52, H⟩ := bnd60_ H
        by_cases c53 : t712 = true
        ·
         subst c53; rw [if_pos rfl] at H
         by_cases c54 : (t702 != t708) = true
         ·
          rw [if_pos c54] at H
          refine absurd ?_ Bool.false_ne_true; revert H; generalize k = kq_; intro H; cases kq_ with | zero => exact absurd H q60_55 | succ kq_ => simp only [laws_FnModels.j0] at H; (try rw [if_pos rfl] at H); exact (Option.some.inj H).trans HRT.out
         ·
          rw [if_neg c54] at H
          have c54b0 : (t702 != t708) = false := by simpa using c54
          (try (have c54b1 : decide (t702 = t708) = true := by simpa using c54))
          (try (have c54b2 : (t702 == t708) = true := by simpa using c54))
          clear c54; obtain ⟨t713, A55, H⟩ := bnd60_ H
          by_cases c56 : t713 = true
          ·
           subst c56; rw [if_pos rfl] at H; obtain ⟨t714, A57, H⟩ := bnd60_ H; obtain ⟨t715, A58, H⟩ := bnd60_ H; have H' := Aside0.mk H; clear H; have hnb59 := NB671_677.out; have hnc59 := NB677_671.out; have hnb60 := NB671_703.out; have hnc60 := NB703_671.out; have hnb61 := NB671_709.out; have hnc61 := NB709_671.out; have hcz62_0 : w39.cell? ⟨gb671, 0, none⟩ = some (.int .i64 t666) := (blk_cell BK671.out 0).trans rfl; have hcz62_1 : w39.cell? ⟨gb671, 1, none⟩ = some (.slice Ao20 t667.length co20) := (blk_cell BK671.out 1).trans rfl; have hfz62_0 := blk_frozen BK671.out 0; have hfz62_1 := blk_frozen BK671.out 1; have hnb63 := NB677_703.out; have hnc63 := NB703_677.out; have hnb64 := NB677_709.out; have hnc64 := NB709_677.out; have hcz65_0 : w39.cell? ⟨gb677, 0, none⟩ = some (.int .i64 t672) := (blk_cell BK677.out 0).trans rfl; have hcz65_1 : w39.cell? ⟨gb677, 1, none⟩ = some (.slice Ao25 t673.length co25) := (blk_cell BK677.out 1).trans rfl; have hfz65_0 := blk_frozen BK677.out 0
           have hfz65_1 := blk_frozen BK677.out 1
           go_wp2_with (first | (go_at_call 20; (with_reducible refine (spec_EqualContext.calls k t666 _ _ t667 t672 _ _ t673 true _ ?side1 ?side2 ?side3 ?side4 A46.out).mono ?_); (case side1 => refine (Kd.R_reads' (e := 3) (base := w.heap.size) (ok := fun k_ => ((((((((True ∧ some k_ ≠ (.slice Ao25 t673.length co25 : Value).ownBlock) ∧ some k_ ≠ (v680 : Value).ownBlock) ∧ some k_ ≠ (v684 : Value).ownBlock) ∧ some k_ ≠ (v688 : Value).ownBlock) ∧ some k_ ≠ (v692 : Value).ownBlock) ∧ some k_ ≠ (.slice Ao31 t695.length co31 : Value).ownBlock) ∧ some k_ ≠ (.slice Ao37 t699.length co37 : Value).ownBlock) ∧ some k_ ≠ (.slice Ao44 t705.length co44 : Value).ownBlock)) (n := t667.length) (c := co20) ?_).2.2; exact q60_14); (case side2 => exact (Kd.R_reads' HO669.out).2.1); (case side3 => refine (Kd.R_reads' (e := 3) (base := w.heap.size) (ok := fun k_ => ((((((((True ∧ some k_ ≠ (.slice Ao20 t667.length co20 : Value).ownBlock) ∧ some k_ ≠ (v680 : Value).ownBlock) ∧ some k_ ≠ (v684 : Value).ownBlock) ∧ some k_ ≠ (v688 : Value).ownBlock) ∧ some k_ ≠ (v692 : Value).ownBlock) ∧ some k_ ≠ (.slice Ao31 t695.length co31 : Value).ownBlock) ∧ some k_ ≠ (.slice Ao37 t699.length co37 : Value).ownBlock) ∧ some k_ ≠ (.slice Ao44 t705.length co44 : Value).ownBlock)) (n := t673.length) (c := co25) ?_).2.2; exact q60_15); (case side4 => exact (Kd.R_reads' HO675.out).2.1); rintro e w66 ⟨rfl, hb⟩; have n_ := ac_ (Kd.R_below (by (with_reducible repeat (first | apply Kd.R_alloc | apply Kd.R_drewN | apply Kd.R_drew)); exact (Kd.R_mono (Kd.R_far (p := ⟨gb709, 1, none⟩) (Kd.R_far (p := ⟨gb709, 0, none⟩) (Kd.R_types HO665.out BK709.out (by decide)) (fun _ hk => hk.2) (.int .i64 t704)) (fun _ hk => hk.2) (.slice Ao44 t705.length co44)) (fun _ h_ => h_.1))) hb) <| ac_ (Kd.R_below q60_14 hb) <| ac_ (Kd.R_below q60_15 hb) <| ac_ (Kd.R_below (by (with_reducible repeat (first | apply Kd.R_alloc | apply Kd.R_drewN | apply Kd.R_drew)); exact (Kd.R_mono (Kd.R_far (p := ⟨gb709, 1, none⟩) (Kd.R_far (p := ⟨gb709, 0, none⟩) (Kd.R_types HO681.out BK709.out (by decide)) (fun _ hk => hk.2) (.int .i64 t704)) (fun _ hk => hk.2) (.slice Ao44 t705.length co44)) (fun _ h_ => h_.1))) hb) <| ac_ (Kd.R_below (by (with_reducible repeat (first | apply Kd.R_alloc | apply Kd.R_drewN | apply Kd.R_drew)); exact (Kd.R_mono (Kd.R_far (p := ⟨gb709, 1, none⟩) (Kd.R_far (p := ⟨gb709, 0, none⟩) (Kd.R_types HO685.out BK709.out (by decide)) (fun _ hk => hk.2) (.int .i64 t704)) (fun _ hk => hk.2) (.slice Ao44 t705.length co44)) (fun _ h_ => h_.1))) hb) <| ac_ (Kd.R_below (by (with_reducible repeat (first | apply Kd.R_alloc | apply Kd.R_drewN | apply Kd.R_drew)); exact (Kd.R_mono (Kd.R_far (p := ⟨gb709, 1, none⟩) (Kd.R_far (p := ⟨gb709, 0, none⟩) (Kd.R_types HO689.out BK709.out (by decide)) (fun _ hk => hk.2) (.int .i64 t704)) (fun _ hk => hk.2) (.slice Ao44 t705.length co44)) (fun _ h_ => h_.1))) hb) <| ac_ (Kd.R_below (by (with_reducible repeat (first | apply Kd.R_alloc | apply Kd.R_drewN | apply Kd.R_drew)); exact (Kd.R_mono (Kd.R_far (p := ⟨gb709, 1, none⟩) (Kd.R_far (p := ⟨gb709, 0, none⟩) (Kd.R_types HO693.out BK709.out (by decide)) (fun _ hk => hk.2) (.int .i64 t704)) (fun _ hk => hk.2) (.slice Ao44 t705.length co44)) (fun _ h_ => h_.1))) hb) <| ac_ (Kd.R_below (by (with_reducible repeat (first | apply Kd.R_alloc | apply Kd.R_drewN | apply Kd.R_drew)); exact (Kd.R_mono (Kd.R_far (p := ⟨gb709, 1, none⟩) (Kd.R_far (p := ⟨gb709, 0, none⟩) (Kd.R_types HO697.out BK709.out (by decide)) (fun _ hk => hk.2) (.int .i64 t704)) (fun _ hk => hk.2) (.slice Ao44 t705.length co44)) (fun _ h_ => h_.1))) hb) <| ac_ (Kd.R_below (by (with_reducible repeat (first | apply Kd.R_alloc | apply Kd.R_drewN | apply Kd.R_drew)); exact (Kd.R_mono (Kd.R_far (p := ⟨gb709, 1, none⟩) (Kd.R_far (p := ⟨gb709, 0, none⟩) (Kd.R_types HO701.out BK709.out (by decide)) (fun _ hk => hk.2) (.int .i64 t704)) (fun _ hk => hk.2) (.slice Ao44 t705.length co44)) (fun _ h_ => h_.1))) hb) <| ac_ (Kd.R_below (by (with_reducible repeat (first | apply Kd.R_alloc | apply Kd.R_drewN | apply Kd.R_drew)); exact (Kd.R_mono (Kd.R_far (p := ⟨gb709, 1, none⟩) (Kd.R_far (p := ⟨gb709, 0, none⟩) (Kd.R_types HO707.out BK709.out (by decide)) (fun _ hk => hk.2) (.int .i64 t704)) (fun _ hk => hk.2) (.slice Ao44 t705.length co44)) (fun _ h_ => h_.1))) hb) <| ac_ (blk_below (g := gb671) (o := .cells #[.int .i64 t666, .slice Ao20 t667.length co20] 29 (0, 0)) (by (with_reducible repeat (first | refine blk_drewN ?_ _ | refine blk_drew ?_ | refine blk_alloc ?_ _)); refine blk_far ?_ NB671_709.out _; (with_reducible repeat (first | refine blk_drewN ?_ _ | refine blk_drew ?_ | refine blk_alloc ?_ _)); refine blk_far ?_ NB671_709.out _; (with_reducible repeat (first | refine blk_drewN ?_ _ | refine blk_drew ?_ | refine blk_alloc ?_ _)); exact BK671.out) hb) <| ac_ (blk_below (g := gb677) (o := .cells #[.int .i64 t672, .slice Ao25 t673.length co25] 29 (0, 0)) (by (with_reducible repeat (first | refine blk_drewN ?_ _ | refine blk_drew ?_ | refine blk_alloc ?_ _)); refine blk_far ?_ NB677_709.out _; (with_reducible repeat (first | refine blk_drewN ?_ _ | refine blk_drew ?_ | refine blk_alloc ?_ _)); refine blk_far ?_ NB677_709.out _; (with_reducible repeat (first | refine blk_drewN ?_ _ | refine blk_drew ?_ | refine blk_alloc ?_ _)); exact BK677.out) hb) <| ac_ (blk_below (g := gb703) (o := .cells #[.int .i64 t698, .slice Ao37 t699.length co37] 29 (0, 0)) (by (with_reducible repeat (first | refine blk_drewN ?_ _ | refine blk_drew ?_ | refine blk_alloc ?_ _)); refine blk_far ?_ NB703_709.out _; (with_reducible repeat (first | refine blk_drewN ?_ _ | refine blk_drew ?_ | refine blk_alloc ?_ _)); refine blk_far ?_ NB703_709.out _; (with_reducible repeat (first | refine blk_drewN ?_ _ | refine blk_drew ?_ | refine blk_alloc ?_ _)); exact BK703.out) hb) <| ac_ (blk_below (g := gb709) (o := .cells #[.int .i64 t704, .slice Ao44 t705.length co44] 29 (0, 0)) (by (with_reducible repeat (first | refine blk_drewN ?_ _ | refine blk_drew ?_ | refine blk_alloc ?_ _)); refine blk_put (cs := #[.int .i64 t704, .slice none 0 0]) ?_ 1 _ rfl; (with_reducible repeat (first | refine blk_drewN ?_ _ | refine blk_drew ?_ | refine blk_alloc ?_ _)); refine blk_put (cs := #[.int .i64 0, .slice none 0 0]) ?_ 0 _ rfl; (with_reducible repeat (first | refine blk_drewN ?_ _ | refine blk_drew ?_ | refine blk_alloc ?_ _)); exact BK709.out) hb) <| Aside0.mk (below_step q60_16 hb); clear HO665 HO669 HO675 HO681 HO685 HO689 HO693 HO697 HO701 HO707 BK671 BK677 BK703 BK709 HB; obtain ⟨HO665, HO669, HO675, HO681, HO685, HO689, HO693, HO697, HO701, HO707, BK671, BK677, BK703, BK709, HB⟩ := n_; (try clear hb); obtain ⟨Ao67, co67, eo67⟩ := Kd.R_slice HO681.out; subst eo67; obtain ⟨Ao68, co68, eo68⟩ := Kd.R_slice HO685.out; subst eo68) | (go_at_call 21; (with_reducible refine (laws_sameInts.calls k _ _ t678 _ _ t682 true _ ?side1 ?side2 ?side3 ?side4 A49.out).mono ?_); (case side1 => repeat (first | exact (Kd.R_reads' HO681.out).2.2 | (with_reducible refine Kd.C_alloc ?_ _) | (with_reducible refine Kd.C_drewN ?_ _) | (with_reducible refine Kd.C_drew ?_))); (case side2 => exact (Kd.R_reads' HO681.out).2.1); (case side3 => repeat (first | exact (Kd.R_reads' HO685.out).2.2 | (with_reducible refine Kd.C_alloc ?_ _) | (with_reducible refine Kd.C_drewN ?_ _) | (with_reducible refine Kd.C_drew ?_))); (case side4 => exact (Kd.R_reads' HO685.out).2.1); rintro e w' ⟨rfl, ⟨nd, rfl⟩⟩; obtain ⟨Ao69, co69, eo69⟩ := Kd.R_slice HO689.out; subst eo69; obtain ⟨Ao70, co70, eo70⟩ := Kd.R_slice HO693.out; subst eo70) | (go_at_call 21; (with_reducible refine (laws_sameInts.calls k _ _ t686 _ _ t690 true _ ?side1 ?side2 ?side3 ?side4 A52.out).mono ?_); (case side1 => repeat (first | exact (Kd.R_reads' HO689.out).2.2 | (with_reducible refine Kd.C_alloc ?_ _) | (with_reducible refine Kd.C_drewN ?_ _) | (with_reducible refine Kd.C_drew ?_))); (case side2 => exact (Kd.R_reads' HO689.out).2.1); (case side3 => repeat (first | exact (Kd.R_reads' HO693.out).2.2 | (with_reducible refine Kd.C_alloc ?_ _) | (with_reducible refine Kd.C_drewN ?_ _) | (with_reducible refine Kd.C_drew ?_))); (case side4 => exact (Kd.R_reads' HO693.out).2.1); rintro e w' ⟨rfl, ⟨nd, rfl⟩⟩; have hnb71 := NB703_709.out; have hnc71 := NB709_703.out; have hcz72_0 : w66.cell? ⟨gb703, 0, none⟩ = some (.int .i64 t698) := (blk_cell BK703.out 0).trans rfl; have hcz72_1 : w66.cell? ⟨gb703, 1, none⟩ = some (.slice Ao37 t699.length co37) := (blk_cell BK703.out 1).trans rfl; have hfz72_0 := blk_frozen BK703.out 0; have hfz72_1 := blk_frozen BK703.out 1; have hcz73_0 : w66.cell? ⟨gb709, 0, none⟩ = some (.int .i64 t704) := (blk_cell BK709.out 0).trans rfl; have hcz73_1 : w66.cell? ⟨gb709, 1, none⟩ = some (.slice Ao44 t705.length co44) := (blk_cell BK709.out 1).trans rfl; have hfz73_0 := blk_frozen BK709.out 0; have hfz73_1 := blk_frozen BK709.out 1) | (go_at_call 20; (with_reducible refine (spec_EqualContext.calls k t698 _ _ t699 t704 _ _ t705 true _ ?side1 ?side2 ?side3 ?side4 A55.out).mono ?_); (case side1 => repeat (first | exact (Kd.R_reads' HO701.out).2.2 | (with_reducible refine Kd.C_alloc ?_ _) | (with_reducible refine Kd.C_drewN ?_ _) | (with_reducible refine Kd.C_drew ?_))); (case side2 => exact (Kd.R_reads' HO701.out).2.1); (case side3 => repeat (first | exact (Kd.R_reads' HO707.out).2.2 | (with_reducible refine Kd.C_alloc ?_ _) | (with_reducible refine Kd.C_drewN ?_ _) | (with_reducible refine Kd.C_drew ?_))); (case side4 => exact (Kd.R_reads' HO707.out).2.1); rintro e w74 ⟨rfl, hb⟩; have n_ := ac_ (Kd.R_below q60_40 hb) <| ac_ (Kd.R_below q60_41 hb) <| ac_ (Kd.R_below q60_42 hb) <| ac_ (Kd.R_below q60_43 hb) <| ac_ (Kd.R_below q60_44 hb) <| ac_ (Kd.R_below q60_45 hb) <| ac_ (Kd.R_below q60_46 hb) <| ac_ (Kd.R_below q60_47 hb) <| ac_ (Kd.R_below q60_48 hb) <| ac_ (Kd.R_below (by (with_reducible repeat (first | apply Kd.R_alloc | apply Kd.R_drewN | apply Kd.R_drew)); exact HO707.out) hb) <| ac_ (blk_below (g := gb671) (o := .cells #[.int .i64 t666, .slice Ao20 t667.length co20] 29 (0, 0)) q60_35 hb) <| ac_ (blk_below (g := gb677) (o := .cells #[.int .i64 t672, .slice Ao25 t673.length co25] 29 (0, 0)) q60_36 hb) <| ac_ (blk_below (g := gb703) (o := .cells #[.int .i64 t698, .slice Ao37 t699.length co37] 29 (0, 0)) q60_37 hb) <| ac_ (blk_below (g := gb709) (o := .cells #[.int .i64 t704, .slice Ao44 t705.length co44] 29 (0, 0)) (by (with_reducible repeat (first | refine blk_drewN ?_ _ | refine blk_drew ?_ | refine blk_alloc ?_ _)); exact BK709.out) hb) <| Aside0.mk (below_step q60_16 hb); clear HO665 HO669 HO675 HO681 HO685 HO689 HO693 HO697 HO701 HO707 BK671 BK677 BK703 BK709 HB; obtain ⟨HO665, HO669, HO675, HO681, HO685, HO689, HO693, HO697, HO701, HO707, BK671, BK677, BK703, BK709, HB⟩ := n_; (try clear hb)) | (go_at_call 22; (with_reducible refine (impl_IsClosureFamily.calls k t694 _ _ t695 t714 _ ?side1 ?side2 ?tab A57.out).mono ?_); (case tab => first | exact HTB.out | (refine Tab64.below HTB.out ?_; repeat (first | (with_reducible first | exact HB.out | apply below_alloc | apply pw_below_drewN | apply below_drew1 | refine below_set ?_ GE671.out | refine below_set ?_ GE677.out | refine below_set ?_ GE703.out | refine below_set ?_ GE709.out) | exact HB.out)) | (repeat (first | exact HTB.out | apply Tab64.drewN | apply Tab64.drew | apply Tab64.alloc))); (case side1 => exact q60_23); (case side2 => exact (Kd.R_reads' HO697.out).2.1); rintro e w' ⟨rfl, ⟨nd, rfl⟩⟩) | (go_at_call 23; (with_reducible refine (spec_IsClosureFamily.calls k t694 _ _ t695 t715 _ ?side1 ?side2 A58.out).mono ?_); (case side1 => exact q60_23); (case side2 => exact (Kd.R_reads' HO697.out).2.1); rintro e w' ⟨rfl, ⟨nd, rfl⟩⟩))
           go_meet
           case rel => exact ⟨_, ((t714 != t715)), s2_, H', ⟨(by first | omega | exact Nat.le_refl _)⟩, ⟨q60_40⟩, ⟨(by (with_reducible repeat (first | apply Kd.R_alloc | apply Kd.R_drewN | apply Kd.R_drew)); exact Kd.R_mono HO681.out (fun _ hk => ⟨hk.1.1.2, ⟨hk.1.1.1.1.1.1.1.2, hk.1.2⟩⟩))⟩, ⟨(by (with_reducible repeat (first | apply Kd.R_alloc | apply Kd.R_drewN | apply Kd.R_drew)); exact Kd.R_mono HO697.out (fun _ hk => ⟨hk.1.1.1.1.1.2, ⟨hk.1.1.1.1.1.1.1.2, hk.1.2⟩⟩))⟩, ⟨(by (with_reducible repeat (first | apply Kd.R_alloc | apply Kd.R_drewN | apply Kd.R_drew)); exact Kd.R_mono HO669.out (fun _ hk => ⟨hk.1.1.1.1.1.1.2, ⟨hk.1.1.2, hk.1.2⟩⟩))⟩, ⟨(by (with_reducible repeat (first | apply Kd.R_alloc | apply Kd.R_drewN | apply Kd.R_drew)); exact Kd.R_mono HO701.out (fun _ hk => ⟨hk.1.1.1.1.1.2, ⟨hk.1.2, hk.1.1.1.1.1.1.1.2⟩⟩))⟩, ⟨q60_35⟩, ⟨q60_37⟩, ⟨q60_16⟩⟩
          ·
           replace c56 := Bool.eq_false_iff.mpr c56; subst c56
           rw [if_neg (show ¬ (false = true) by decide)] at H
           refine absurd ?_ Bool.false_ne_true; revert H; generalize k = kq_; intro H; cases kq_ with | zero => exact absurd H q60_55 | succ kq_ => simp only [laws_FnModels.j0] at H; (try rw [if_pos rfl] at H); exact (Option.some.inj H).trans HRT.out
        ·
         replace c53 := Bool.eq_false_iff.mpr c53; subst c53
         rw [if_neg (show ¬ (false = true) by decide)] at H
         refine absurd ?_ Bool.false_ne_true; revert H; generalize k = kq_; intro H; cases kq_ with | zero => exact absurd H q60_55 | succ kq_ => simp only [laws_FnModels.j0] at H; (try rw [if_pos rfl] at H); exact (Option.some.inj H).trans HRT.out
      ·
       replace c50 := Bool.eq_false_iff.mpr c50; subst c50
       rw [if_neg (show ¬ (false = true) by decide)] at H
       refine absurd ?_ Bool.false_ne_true; revert H; generalize k = kq_; intro H; cases kq_ with | zero => exact absurd H q60_55 | succ kq_ => simp only [laws_FnModels.j0] at H; (try rw [if_pos rfl] at H); exact (Option.some.inj H).trans HRT.out
    ·
     replace c47 := Bool.eq_false_iff.mpr c47; subst c47
     rw [if_neg (show ¬ (false = true) by decide)] at H
     refine absurd ?_ Bool.false_ne_true; revert H; generalize k = kq_; intro H; cases kq_ with | zero => exact absurd H q60_55 | succ kq_ => simp only [laws_FnModels.j0] at H; (try rw [if_pos rfl] at H); exact (Option.some.inj H).trans HRT.out
  case rest =>
   clear HC14
   try clear c1
   try clear c2
   try clear p2
   try clear c3
   try clear c4
   try clear c5
   try clear c6
   try clear c7
   try clear c9
   try clear c10
   try clear c11
   try clear c12
   try clear c13
   try clear c14
   try clear c15
   try clear c16
   try clear c17
   try clear c18
   try clear c19
   try clear c23
   try clear c34
   try clear c35
   try clear c40
   try clear c41
   try clear c42
   try clear c45
   try clear c45b0
   try clear c45b1
   try clear c45b2
   try clear c47
   try clear c48
   try clear c48b0
   try clear c48b1
   try clear c48b2
   try clear c50
   try clear c51
   try clear c51b0
   try clear c51b1
   try clear c51b2
   try clear c53
   try clear c54
   try clear c54b0
   try clear c54b1
   try clear c54b2
   try clear c56
   try clear c59
   try clear c60
   try clear c61
   try clear c63
   try clear c64
   try clear c71
   try clear hcz19_0
   try clear hcz19_1
   try clear hcz24_0
   try clear hcz24_1
   try clear hcz36_0
   try clear hcz36_1
   try clear hcz43_0
   try clear hcz43_1
   try clear hcz62_0
   try clear hcz62_1
   try clear hcz65_0
   try clear hcz65_1
   try clear hcz72_0
   try clear hcz72_1
   try clear hcz73_0
   try clear hcz73_1
   try clear hfz19_0
   try clear hfz19_1
   try clear hfz24_0
   try clear hfz24_1
   try clear hfz36_0
   try clear hfz36_1
   try clear hfz43_0
   try clear hfz43_1
   try clear hfz62_0
   try clear hfz62_1
   try clear hfz65_0
   try clear hfz65_1
   try clear hfz72_0
   try clear hfz72_1
   try clear hfz73_0
   try clear hfz73_1
   obtain ⟨kq, x135_13, rfl, HA, HJ13, HO_4, HO_9, HO_18, HO_672001, HO_704001, BK671, BK703, HB⟩ := hcut
   cases kq with
   | zero => exact absurd HA.out (by simp [laws_FnModels.j0])
   | succ kj13 =>
    have H := HA.out; clear HA
    simp only [laws_FnModels.j0] at H
    by_cases c75 : x135_13 = true
    ·
     subst c75; rw [if_pos rfl] at H
     exact absurd ((Option.some.inj H).trans HRT.out) Bool.false_ne_true
    ·
     replace c75 := Bool.eq_false_iff.mpr c75; subst c75
     rw [if_neg (show ¬ (false = true) by decide)] at H
     have HC76 := Aside0.mk H; clear H
     go_upto_region 15 with (fail)
     go_cut [153] (fun v153 wc => ∃ (kq : Nat) (x153_75 : Bool), v153 = .bool x153_75 ∧ Aside0 (laws_FnModels.j1 kq t662 t663 t670 t678 x153_75 t666 t667 = some r) ∧ Aside0 (kq ≤ kj13) ∧ Aside0 (Kd.R k48 48 wc w.heap.size (fun _ => True) (.slice Ao16 t663.length co16) t663) ∧ Aside0 (Kd.R (Kd.int .i64) 3 wc w.heap.size (fun k_ => some k_ ≠ ((.slice Ao20 t667.length co20) : Value).ownBlock) v680 t678) ∧ Aside0 (Kd.R (Kd.int .i64) 3 wc w.heap.size (fun k_ => some k_ ≠ (v680 : Value).ownBlock) (.slice Ao20 t667.length co20) t667) ∧ Aside0 (wc.heap[gb671]? = some (.cells #[.int .i64 t666, (.slice Ao20 t667.length co20)] 29 (0, 0))) ∧ Aside0 (Below w.heap.size w wc))
     case first =>
      have H := HC76.out; clear HC76
      by_cases c77 : t679 = true
      ·
       subst c77; rw [if_pos rfl] at H; obtain ⟨t716, A78, H⟩ := bnd60_ H
       by_cases c79 : t716 = true
       ·
        subst c79; rw [if_pos rfl] at H
        by_cases c80 : t702 = true
        ·
         subst c80; rw [if_pos rfl] at H; obtain ⟨t717, A81, H⟩ := bnd60_ H; obtain ⟨t720, A82, H⟩ := bnd60_ H; obtain ⟨t723, A83, H⟩ := bnd60_ H; have H' := Aside0.mk H; clear H; obtain ⟨Ao84, co84, eo84⟩ := Kd.R_slice HO_9.out; subst eo84
         go_wp2_with (first | (go_at_call 22; (with_reducible refine (impl_IsClosureFamily.calls kj13 t662 _ _ t678 true _ ?side1 ?side2 ?tab A78.out).mono ?_); (case tab => first | exact HTB.out | (refine Tab64.below HTB.out ?_; repeat (first | (with_reducible first | exact HB.out | apply below_alloc | apply pw_below_drewN | apply below_drew1 | refine below_set ?_ GE671.out | refine below_set ?_ GE677.out | refine below_set ?_ GE703.out | refine below_set ?_ GE709.out) | exact HB.out)) | (repeat (first | exact HTB.out | apply Tab64.drewN | apply Tab64.drew | apply Tab64.alloc))); (case side1 => exact q60_26); (case side2 => exact (Kd.R_reads' HO_9.out).2.1); rintro e w' ⟨rfl, ⟨nd, rfl⟩⟩; have hnb85 := NB703_671.out; have hnc85 := NB671_703.out; have hcz86_0 : wc.cell? ⟨gb703, 0, none⟩ = some (.int .i64 t698) := (blk_cell BK703.out 0).trans rfl; have hcz86_1 : wc.cell? ⟨gb703, 1, none⟩ = some (.slice Ao37 t699.length co37) := (blk_cell BK703.out 1).trans rfl; have hfz86_0 := blk_frozen BK703.out 0; have hfz86_1 := blk_frozen BK703.out 1) | (go_at_call 25; (with_reducible refine (spec_Concepts.calls kj13 t698 _ _ t699 t717 _ ?side1 ?side2 A81.out).mono ?_); (case side1 => exact q60_21); (case side2 => exact (Kd.R_reads' HO_704001.out).2.1); rintro e w87 ⟨v718, rfl, ho0, hb⟩; have n_ := ac_ (Kd.R_below s21_ hb) <| ac_ (Kd.R_below q60_52 hb) <| ac_ (Kd.R_below q60_50 hb) <| ac_ (Kd.R_below q60_38 hb) <| ac_ (Kd.R_below q60_39 hb) <| ac_ (Kd.R_lower ho0 (below_size q60_19)) <| ac_ (blk_below (g := gb671) (o := .cells #[.int .i64 t666, .slice Ao20 t667.length co20] 29 (0, 0)) q60_35 hb) <| ac_ (blk_below (g := gb703) (o := .cells #[.int .i64 t698, .slice Ao37 t699.length co37] 29 (0, 0)) q60_37 hb) <| Aside0.mk (below_step q60_19 hb); clear HO_4 HO_9 HO_18 HO_672001 HO_704001 BK671 BK703 HB; obtain ⟨HO_4, HO_9, HO_18, HO_672001, HO_704001, HO719, BK671, BK703, HB⟩ := n_; (try clear hb ho0); obtain ⟨Ao88, co88, eo88⟩ := Kd.R_slice HO719.out; subst eo88) | (go_at_call 24; (with_reducible refine (laws_intents.calls kj13 _ _ t717 t720 _ ?side1 ?side2 A82.out).mono ?_); (case side1 => repeat (first | exact (Kd.R_reads' HO719.out).2.2 | (with_reducible refine Kd.C_alloc ?_ _) | (with_reducible refine Kd.C_drewN ?_ _) | (with_reducible refine Kd.C_drew ?_))); (case side2 => exact (Kd.R_reads' HO719.out).2.1); rintro e w89 ⟨v721, rfl, ho0, hb⟩; have n_ := ac_ (Kd.R_below s21_ hb) <| ac_ (Kd.R_elder' q60_52 (Kd.R_base ho0) hb) <| ac_ (Kd.R_elder' q60_50 (Kd.R_base ho0) hb) <| ac_ (Kd.R_elder' q60_38 (Kd.R_base ho0) hb) <| ac_ (Kd.R_elder' q60_39 (Kd.R_base ho0) hb) <| ac_ (Kd.R_below (by (with_reducible repeat (first | apply Kd.R_alloc | apply Kd.R_drewN | apply Kd.R_drew)); exact HO719.out) hb) <| ac_ (Kd.R_lower (Kd.R_new' (Kd.R_new' (Kd.R_new' (Kd.R_new' ho0 (Kd.R_lt q60_52)) (Kd.R_lt q60_50)) (Kd.R_lt q60_38)) (Kd.R_lt q60_39)) (below_size q60_19)) <| ac_ (blk_below (g := gb671) (o := .cells #[.int .i64 t666, .slice Ao20 t667.length co20] 29 (0, 0)) q60_35 hb) <| ac_ (blk_below (g := gb703) (o := .cells #[.int .i64 t698, .slice Ao37 t699.length co37] 29 (0, 0)) q60_37 hb) <| Aside0.mk (below_step q60_19 hb); clear HO_4 HO_9 HO_18 HO_672001 HO_704001 HO719 BK671 BK703 HB; obtain ⟨HO_4, HO_9, HO_18, HO_672001, HO_704001, HO719, HO722, BK671, BK703, HB⟩ := n_; (try clear hb ho0); obtain ⟨Ao90, co90, eo90⟩ := Kd.R_slice HO722.out; subst eo90) | (go_at_call 21; (with_reducible refine (laws_sameInts.calls kj13 _ _ t720 _ _ t695 t723 _ ?side1 ?side2 ?side3 ?side4 A83.out).mono ?_); (case side1 => repeat (first | exact (Kd.R_reads' HO722.out).2.2 | (with_reducible refine Kd.C_alloc ?_ _) | (with_reducible refine Kd.C_drewN ?_ _) | (with_reducible refine Kd.C_drew ?_))); (case side2 => exact (Kd.R_reads' HO722.out).2.1); (case side3 => exact q60_24); (case side4 => exact (Kd.R_reads' HO_18.out).2.1); rintro e w' ⟨rfl, ⟨nd, rfl⟩⟩))
         go_meet
         case rel => exact ⟨_, (!t723), s2_, H', ⟨by have := HJ13.out; first | omega | exact Nat.le_refl _⟩, ⟨s21_⟩, ⟨q60_32⟩, ⟨q60_30⟩, ⟨q60_35⟩, ⟨q60_19⟩⟩
        ·
         replace c80 := Bool.eq_false_iff.mpr c80; subst c80
         rw [if_neg (show ¬ (false = true) by decide)] at H
         have H' := Aside0.mk H; clear H; obtain ⟨Ao91, co91, eo91⟩ := Kd.R_slice HO_9.out; subst eo91
         go_wp2_with (first | (go_at_call 22; (with_reducible refine (impl_IsClosureFamily.calls kj13 t662 _ _ t678 true _ ?side1 ?side2 ?tab A78.out).mono ?_); (case tab => first | exact HTB.out | (refine Tab64.below HTB.out ?_; repeat (first | (with_reducible first | exact HB.out | apply below_alloc | apply pw_below_drewN | apply below_drew1 | refine below_set ?_ GE671.out | refine below_set ?_ GE677.out | refine below_set ?_ GE703.out | refine below_set ?_ GE709.out) | exact HB.out)) | (repeat (first | exact HTB.out | apply Tab64.drewN | apply Tab64.drew | apply Tab64.alloc))); (case side1 => exact q60_26); (case side2 => exact (Kd.R_reads' HO_9.out).2.1); rintro e w' ⟨rfl, ⟨nd, rfl⟩⟩))
         go_meet
         case rel => exact ⟨_, (false), s2_, H', ⟨by have := HJ13.out; first | omega | exact Nat.le_refl _⟩, ⟨s21_⟩, ⟨q60_33⟩, ⟨q60_31⟩, ⟨q60_35⟩, ⟨q60_19⟩⟩
       ·
        replace c79 := Bool.eq_false_iff.mpr c79; subst c79
        rw [if_neg (show ¬ (false = true) by decide)] at H
        refine absurd ?_ Bool.false_ne_true; revert H; generalize kj13 = kq_; intro H; cases kq_ with | zero => exact absurd H (by simp only [laws_FnModels.j1]; exact fun h => by cases h) | succ kq_ => simp only [laws_FnModels.j1] at H; (try rw [if_pos rfl] at H); exact (Option.some.inj H).trans HRT.out
      ·
       replace c77 := Bool.eq_false_iff.mpr c77; subst c77
       rw [if_neg (show ¬ (false = true) by decide)] at H
       by_cases c92 : t702 = true
       ·
        subst c92; rw [if_pos rfl] at H; obtain ⟨t724, A93, H⟩ := bnd60_ H; obtain ⟨t727, A94, H⟩ := bnd60_ H; obtain ⟨t730, A95, H⟩ := bnd60_ H; have H' := Aside0.mk H; clear H; have hnb96 := NB703_671.out; have hnc96 := NB671_703.out; have hcz97_0 : wc.cell? ⟨gb703, 0, none⟩ = some (.int .i64 t698) := (blk_cell BK703.out 0).trans rfl; have hcz97_1 : wc.cell? ⟨gb703, 1, none⟩ = some (.slice Ao37 t699.length co37) := (blk_cell BK703.out 1).trans rfl; have hfz97_0 := blk_frozen BK703.out 0; have hfz97_1 := blk_frozen BK703.out 1
        go_wp2_with (first | (go_at_call 25; (with_reducible refine (spec_Concepts.calls kj13 t698 _ _ t699 t724 _ ?side1 ?side2 A93.out).mono ?_); (case side1 => exact q60_21); (case side2 => exact (Kd.R_reads' HO_704001.out).2.1); rintro e w98 ⟨v725, rfl, ho0, hb⟩; have n_ := ac_ (Kd.R_below s21_ hb) <| ac_ (Kd.R_below q60_52 hb) <| ac_ (Kd.R_below q60_50 hb) <| ac_ (Kd.R_below q60_38 hb) <| ac_ (Kd.R_below q60_39 hb) <| ac_ (Kd.R_lower ho0 (below_size q60_19)) <| ac_ (blk_below (g := gb671) (o := .cells #[.int .i64 t666, .slice Ao20 t667.length co20] 29 (0, 0)) q60_35 hb) <| ac_ (blk_below (g := gb703) (o := .cells #[.int .i64 t698, .slice Ao37 t699.length co37] 29 (0, 0)) q60_37 hb) <| Aside0.mk (below_step q60_19 hb); clear HO_4 HO_9 HO_18 HO_672001 HO_704001 BK671 BK703 HB; obtain ⟨HO_4, HO_9, HO_18, HO_672001, HO_704001, HO726, BK671, BK703, HB⟩ := n_; (try clear hb ho0); obtain ⟨Ao99, co99, eo99⟩ := Kd.R_slice HO726.out; subst eo99) | (go_at_call 24; (with_reducible refine (laws_intents.calls kj13 _ _ t724 t727 _ ?side1 ?side2 A94.out).mono ?_); (case side1 => repeat (first | exact (Kd.R_reads' HO726.out).2.2 | (with_reducible refine Kd.C_alloc ?_ _) | (with_reducible refine Kd.C_drewN ?_ _) | (with_reducible refine Kd.C_drew ?_))); (case side2 => exact (Kd.R_reads' HO726.out).2.1); rintro e w100 ⟨v728, rfl, ho0, hb⟩; have n_ := ac_ (Kd.R_below s21_ hb) <| ac_ (Kd.R_elder' q60_52 (Kd.R_base ho0) hb) <| ac_ (Kd.R_elder' q60_50 (Kd.R_base ho0) hb) <| ac_ (Kd.R_elder' q60_38 (Kd.R_base ho0) hb) <| ac_ (Kd.R_elder' q60_39 (Kd.R_base ho0) hb) <| ac_ (Kd.R_below (by (with_reducible repeat (first | apply Kd.R_alloc | apply Kd.R_drewN | apply Kd.R_drew)); exact HO726.out) hb) <| ac_ (Kd.R_lower (Kd.R_new' (Kd.R_new' (Kd.R_new' (Kd.R_new' ho0 (Kd.R_lt q60_52)) (Kd.R_lt q60_50)) (Kd.R_lt q60_38)) (Kd.R_lt q60_39)) (below_size q60_19)) <| ac_ (blk_below (g := gb671) (o := .cells #[.int .i64 t666, .slice Ao20 t667.length co20] 29 (0, 0)) q60_35 hb) <| ac_ (blk_below (g := gb703) (o := .cells #[.int .i64 t698, .slice Ao37 t699.length co37] 29 (0, 0)) q60_37 hb) <| Aside0.mk (below_step q60_19 hb); clear HO_4 HO_9 HO_18 HO_672001 HO_704001 HO726 BK671 BK703 HB; obtain ⟨HO_4, HO_9, HO_18, HO_672001, HO_704001, HO726, HO729, BK671, BK703, HB⟩ := n_; (try clear hb ho0); obtain ⟨Ao101, co101, eo101⟩ := Kd.R_slice HO729.out; subst eo101) | (go_at_call 21; (with_reducible refine (laws_sameInts.calls kj13 _ _ t727 _ _ t695 t730 _ ?side1 ?side2 ?side3 ?side4 A95.out).mono ?_); (case side1 => repeat (first | exact (Kd.R_reads' HO729.out).2.2 | (with_reducible refine Kd.C_alloc ?_ _) | (with_reducible refine Kd.C_drewN ?_ _) | (with_reducible refine Kd.C_drew ?_))); (case side2 => exact (Kd.R_reads' HO729.out).2.1); (case side3 => exact q60_24); (case side4 => exact (Kd.R_reads' HO_18.out).2.1); rintro e w' ⟨rfl, ⟨nd, rfl⟩⟩))
        go_meet
        case rel => exact ⟨_, (!t730), s2_, H', ⟨by have := HJ13.out; first | omega | exact Nat.le_refl _⟩, ⟨s21_⟩, ⟨q60_32⟩, ⟨q60_30⟩, ⟨q60_35⟩, ⟨q60_19⟩⟩
       ·
        replace c92 := Bool.eq_false_iff.mpr c92; subst c92
        rw [if_neg (show ¬ (false = true) by decide)] at H
        have H' := Aside0.mk H; clear H
        go_wp2
        go_meet
        case rel => exact ⟨_, (false), s2_, H', ⟨by have := HJ13.out; first | omega | exact Nat.le_refl _⟩, ⟨s21_⟩, ⟨q60_33⟩, ⟨q60_31⟩, ⟨q60_35⟩, ⟨q60_19⟩⟩
     case rest =>
      clear HC76
      try clear c1
      try clear c2
      try clear p2
      try clear c3
      try clear c4
      try clear c5
      try clear c6
      try clear c7
      try clear c8
      try clear c9
      try clear c10
      try clear c11
      try clear c12
      try clear c13
      try clear c14
      try clear c15
      try clear c16
      try clear c17
      try clear c18
      try clear c19
      try clear c23
      try clear c34
      try clear c35
      try clear c40
      try clear c41
      try clear c42
      try clear c45
      try clear c45b0
      try clear c45b1
      try clear c45b2
      try clear c47
      try clear c48
      try clear c48b0
      try clear c48b1
      try clear c48b2
      try clear c50
      try clear c51
      try clear c51b0
      try clear c51b1
      try clear c51b2
      try clear c53
      try clear c54
      try clear c54b0
      try clear c54b1
      try clear c54b2
      try clear c56
      try clear c59
      try clear c60
      try clear c61
      try clear c63
      try clear c64
      try clear c71
      try clear c75
      try clear c77
      try clear c79
      try clear c80
      try clear c85
      try clear c92
      try clear c96
      try clear hcz19_0
      try clear hcz19_1
      try clear hcz24_0
      try clear hcz24_1
      try clear hcz36_0
      try clear hcz36_1
      try clear hcz43_0
      try clear hcz43_1
      try clear hcz62_0
      try clear hcz62_1
      try clear hcz65_0
      try clear hcz65_1
      try clear hcz72_0
      try clear hcz72_1
      try clear hcz73_0
      try clear hcz73_1
      try clear hcz86_0
      try clear hcz86_1
      try clear hcz97_0
      try clear hcz97_1
      try clear hfz19_0
      try clear hfz19_1
      try clear hfz24_0
      try clear hfz24_1
      try clear hfz36_0
      try clear hfz36_1
      try clear hfz43_0
      try clear hfz43_1
      try clear hfz62_0
      try clear hfz62_1
      try clear hfz65_0
      try clear hfz65_1
      try clear hfz72_0
      try clear hfz72_1
      try clear hfz73_0
      try clear hfz73_1
      try clear hfz86_0
      try clear hfz86_1
      try clear hfz97_0
      try clear hfz97_1
      try clear p2
      obtain ⟨kq, x153_75, rfl, HA, HJ75, HO_4, HO_9, HO_672001, BK671, HB⟩ := hcut
      cases kq with
      | zero => exact absurd HA.out (by simp [laws_FnModels.j1])
      | succ kj75 =>
       have H := HA.out; clear HA
       simp only [laws_FnModels.j1] at H
       by_cases c102 : x153_75 = true
       ·
        subst c102; rw [if_pos rfl] at H
        exact absurd ((Option.some.inj H).trans HRT.out) Bool.false_ne_true
       ·
        replace c102 := Bool.eq_false_iff.mpr c102; subst c102
        rw [if_neg (show ¬ (false = true) by decide)] at H
        obtain ⟨⟨t731, t732⟩, A103, H⟩ := bnd60_ H; dsimp only at H
        by_cases c104 : t670 = true
        ·
         subst c104; rw [if_pos rfl] at H; obtain ⟨t735, A105, H⟩ := bnd60_ H; obtain ⟨t738, A106, H⟩ := bnd60_ H; obtain ⟨t741, A107, H⟩ := bnd60_ H
         by_cases c108 : t741 = true
         ·
          subst c108; rw [if_pos rfl] at H; obtain ⟨t742, A109, H⟩ := bnd60_ H; obtain ⟨t745, A110, H⟩ := bnd60_ H; obtain rfl := Option.some.inj H
          go_wp2_with (first | ((with_reducible refine gate_callee (f := 26) rfl ?_); refine gL_ 26 157 Tryz.func26 #[.int .i64 t662, .slice Ao16 t663.length co16] ?_; (with_reducible refine (spec_ShortRules.calls kj75 t662 _ _ t663 t731 t732 _ ?side1 ?side2 A103.out).mono ?_); (case side1 => exact q60_25); (case side2 => exact (Kd.R_reads' HO_4.out).2.1); rintro e w111 ⟨v733, rfl, ho0, hb⟩; refine ⟨_, rfl, ?_⟩; have n_ := ac_ (Kd.R_elder' s21_ (Kd.R_base ho0) hb) <| ac_ (Kd.R_below q60_52 hb) <| ac_ (Kd.R_below q60_38 hb) <| ac_ (Kd.R_lower (Kd.R_new' ho0 (Kd.R_lt s21_)) (below_size q60_27)) <| ac_ (blk_below (g := gb671) (o := .cells #[.int .i64 t666, .slice Ao20 t667.length co20] 29 (0, 0)) q60_35 hb) <| Aside0.mk (below_step q60_27 hb); clear HO_4 HO_9 HO_672001 BK671 HB; obtain ⟨HO_4, HO_9, HO_672001, HO734, BK671, HB⟩ := n_; (try clear hb ho0); have hcz112_0 : w111.cell? ⟨gb671, 0, none⟩ = some (.int .i64 t666) := (blk_cell BK671.out 0).trans rfl; have hcz112_1 : w111.cell? ⟨gb671, 1, none⟩ = some (.slice Ao20 t667.length co20) := (blk_cell BK671.out 1).trans rfl; have hfz112_0 := blk_frozen BK671.out 0; have hfz112_1 := blk_frozen BK671.out 1) | (go_at_call 25; (with_reducible refine (spec_Concepts.calls kj75 t666 _ _ t667 t735 _ ?side1 ?side2 A105.out).mono ?_); (case side1 => exact q60_20); (case side2 => exact (Kd.R_reads' HO_672001.out).2.1); rintro e w113 ⟨v736, rfl, ho0, hb⟩; have n_ := ac_ (Kd.R_below s21_ hb) <| ac_ (Kd.R_below q60_52 hb) <| ac_ (Kd.R_below q60_38 hb) <| ac_ (Kd.R_below q60_49 hb) <| ac_ (Kd.R_lower ho0 (below_size q60_27)) <| ac_ (blk_below (g := gb671) (o := .cells #[.int .i64 t666, .slice Ao20 t667.length co20] 29 (0, 0)) q60_35 hb) <| Aside0.mk (below_step q60_27 hb); clear HO_4 HO_9 HO_672001 HO734 BK671 HB; obtain ⟨HO_4, HO_9, HO_672001, HO734, HO737, BK671, HB⟩ := n_; (try clear hb ho0); obtain ⟨Ao114, co114, eo114⟩ := Kd.R_slice HO737.out; subst eo114) | (go_at_call 24; (with_reducible refine (laws_intents.calls kj75 _ _ t735 t738 _ ?side1 ?side2 A106.out).mono ?_); (case side1 => repeat (first | exact (Kd.R_reads' HO737.out).2.2 | (with_reducible refine Kd.C_alloc ?_ _) | (with_reducible refine Kd.C_drewN ?_ _) | (with_reducible refine Kd.C_drew ?_))); (case side2 => exact (Kd.R_reads' HO737.out).2.1); rintro e w115 ⟨v739, rfl, ho0, hb⟩; have n_ := ac_ (Kd.R_below s21_ hb) <| ac_ (Kd.R_elder' q60_52 (Kd.R_base ho0) hb) <| ac_ (Kd.R_elder' q60_38 (Kd.R_base ho0) hb) <| ac_ (Kd.R_below q60_49 hb) <| ac_ (Kd.R_below (by (with_reducible repeat (first | apply Kd.R_alloc | apply Kd.R_drewN | apply Kd.R_drew)); exact HO737.out) hb) <| ac_ (Kd.R_lower (Kd.R_new' (Kd.R_new' ho0 (Kd.R_lt q60_52)) (Kd.R_lt q60_38)) (below_size q60_27)) <| ac_ (blk_below (g := gb671) (o := .cells #[.int .i64 t666, .slice Ao20 t667.length co20] 29 (0, 0)) q60_35 hb) <| Aside0.mk (below_step q60_27 hb); clear HO_4 HO_9 HO_672001 HO734 HO737 BK671 HB; obtain ⟨HO_4, HO_9, HO_672001, HO734, HO737, HO740, BK671, HB⟩ := n_; (try clear hb ho0); obtain ⟨Ao116, co116, eo116⟩ := Kd.R_slice HO740.out; subst eo116; obtain ⟨Ao117, co117, eo117⟩ := Kd.R_slice HO_9.out; subst eo117) | (go_at_call 21; (with_reducible refine (laws_sameInts.calls kj75 _ _ t738 _ _ t678 true _ ?side1 ?side2 ?side3 ?side4 A107.out).mono ?_); (case side1 => repeat (first | exact (Kd.R_reads' HO740.out).2.2 | (with_reducible refine Kd.C_alloc ?_ _) | (with_reducible refine Kd.C_drewN ?_ _) | (with_reducible refine Kd.C_drew ?_))); (case side2 => exact (Kd.R_reads' HO740.out).2.1); (case side3 => exact q60_26); (case side4 => exact (Kd.R_reads' HO_9.out).2.1); rintro e w' ⟨rfl, ⟨nd, rfl⟩⟩; have hcz118_0 : w115.cell? ⟨gb671, 0, none⟩ = some (.int .i64 t666) := (blk_cell BK671.out 0).trans rfl; have hcz118_1 : w115.cell? ⟨gb671, 1, none⟩ = some (.slice Ao20 t667.length co20) := (blk_cell BK671.out 1).trans rfl; have hfz118_0 := blk_frozen BK671.out 0; have hfz118_1 := blk_frozen BK671.out 1) | (go_at_call 28; (with_reducible refine (spec_StemBase.calls kj75 t666 _ _ t667 t742 _ ?side1 ?side2 A109.out).mono ?_); (case side1 => exact q60_20); (case side2 => exact (Kd.R_reads' HO_672001.out).2.1); rintro e w119 ⟨v743, rfl, ho0, hb⟩; have n_ := ac_ (Kd.R_elder' s21_ (Kd.R_base ho0) hb) <| ac_ (Kd.R_below q60_52 hb) <| ac_ (Kd.R_below q60_38 hb) <| ac_ (Kd.R_elder' q60_49 (Kd.R_base ho0) hb) <| ac_ (Kd.R_below (by (with_reducible repeat (first | apply Kd.R_alloc | apply Kd.R_drewN | apply Kd.R_drew)); exact HO737.out) hb) <| ac_ (Kd.R_below (by (with_reducible repeat (first | apply Kd.R_alloc | apply Kd.R_drewN | apply Kd.R_drew)); exact HO740.out) hb) <| ac_ (Kd.R_lower (Kd.R_new' (Kd.R_new' ho0 (Kd.R_lt s21_)) (Kd.R_lt q60_49)) (below_size q60_27)) <| ac_ (blk_below (g := gb671) (o := .cells #[.int .i64 t666, .slice Ao20 t667.length co20] 29 (0, 0)) q60_35 hb) <| Aside0.mk (below_step q60_27 hb); clear HO_4 HO_9 HO_672001 HO734 HO737 HO740 BK671 HB; obtain ⟨HO_4, HO_9, HO_672001, HO734, HO737, HO740, HO744, BK671, HB⟩ := n_; (try clear hb ho0); obtain ⟨Ao120, co120, eo120⟩ := Kd.R_slice HO744.out; subst eo120; obtain ⟨Ao121, co121, eo121⟩ := Kd.R_slice HO734.out; subst eo121) | (go_at_call 27; (with_reducible refine (laws_sameRules.calls kj75 _ _ t742 _ _ t731 t745 _ ?side1 ?side2 ?side3 ?side4 A110.out).mono ?_); (case side1 => repeat (first | exact (Kd.R_reads' HO744.out).2.2 | (with_reducible refine Kd.C_alloc ?_ _) | (with_reducible refine Kd.C_drewN ?_ _) | (with_reducible refine Kd.C_drew ?_))); (case side2 => exact (Kd.R_reads' HO744.out).2.1); (case side3 => repeat (first | exact (Kd.R_reads' HO734.out).2.2 | (with_reducible refine Kd.C_alloc ?_ _) | (with_reducible refine Kd.C_drewN ?_ _) | (with_reducible refine Kd.C_drew ?_))); (case side4 => exact (Kd.R_reads' HO734.out).2.1); rintro e w' ⟨rfl, ⟨nd, rfl⟩⟩))
          go_ret
          exact ⟨s7_, q60_27⟩
         ·
          replace c108 := Bool.eq_false_iff.mpr c108; subst c108
          rw [if_neg (show ¬ (false = true) by decide)] at H
          exact absurd ((Option.some.inj H).trans HRT.out) Bool.false_ne_true
        ·
         replace c104 := Bool.eq_false_iff.mpr c104; subst c104
         rw [if_neg (show ¬ (false = true) by decide)] at H
         obtain rfl := Option.some.inj H
         go_wp2_with (first | ((with_reducible refine gate_callee (f := 26) rfl ?_); refine gL_ 26 157 Tryz.func26 #[.int .i64 t662, .slice Ao16 t663.length co16] ?_; (with_reducible refine (spec_ShortRules.calls kj75 t662 _ _ t663 t731 t732 _ ?side1 ?side2 A103.out).mono ?_); (case side1 => exact q60_25); (case side2 => exact (Kd.R_reads' HO_4.out).2.1); rintro e w122 ⟨v733, rfl, ho0, hb⟩; refine ⟨_, rfl, ?_⟩; have n_ := ac_ (Kd.R_elder' s21_ (Kd.R_base ho0) hb) <| ac_ (Kd.R_below q60_52 hb) <| ac_ (Kd.R_below q60_38 hb) <| ac_ (Kd.R_lower (Kd.R_new' ho0 (Kd.R_lt s21_)) (below_size q60_27)) <| ac_ (blk_below (g := gb671) (o := .cells #[.int .i64 t666, .slice Ao20 t667.length co20] 29 (0, 0)) q60_35 hb) <| Aside0.mk (below_step q60_27 hb); clear HO_4 HO_9 HO_672001 BK671 HB; obtain ⟨HO_4, HO_9, HO_672001, HO734, BK671, HB⟩ := n_; (try clear hb ho0)))
         go_ret
         exact ⟨s7_, q60_27⟩
end Go.Proofs.YtafnamchckehmaaGreatDoor.Pr
