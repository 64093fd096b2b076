/- Functions of the program as plain functions, proofs that their calls answer so, and plain laws: what the law needs. No condition beyond what each statement says. -/
import Derived.Test.YtafnamchckehmaaGreatDoorZFnRules11
import Derived.Test.YtafnamchckehmaaGreatDoorZFnRules12
namespace Go.Proofs.YtafnamchckehmaaGreatDoor.Pr
open Go.RowKit Go.Proofs.YtafnamchckehmaaGreatDoorW.PrintWords Go.Proofs.YtafnamchckehmaaGreatDoorW.PrintLast Go.Proofs.YtafnamchckehmaaGreatDoorW.PrintMore
attribute [local go_sem] max2_int min2_int max_two min_two max_three min_three max_four min_four
set_option linter.unusedVariables false
set_option linter.unusedSimpArgs false
theorem bnd51_ {α β : Type} {o : Option α} {f : α → Option β} {r : β} (h : o.bind f = some r) : ∃ a, Aside0 (o = some a) ∧ f a = some r := by
 obtain ⟨a, h1, h2⟩ := Option.bind_eq_some_iff.mp h
 exact ⟨a, ⟨h1⟩, h2⟩
theorem q51_1 {P : Prop} (h : P := by (with_reducible repeat (first | apply Kd.R_alloc | apply Kd.R_drewN | apply Kd.R_drew)); exact Kd.R_mono HO_6.out (fun _ hk => ⟨by first | exact hk.1.2.1 | exact hk.1.1.2 | exact hk.1.1 | exact hk.1.2 | exact hk.2 | exact hk.1 | exact hk.1.1.1 | exact hk | exact hk.1.2.2 | exact hk.1.1.2.1 | exact hk.1.1.2.2 | exact hk.2.1 | exact hk.2.2 | exact hk.1.1.1.1 | exact hk.1.1.1.2 | exact hk.1.2.2.1 | exact hk.1.2.2.2 | exact hk.1.1.1.2.1 | exact hk.1.1.1.2.2 | exact hk.2.2.1 | exact hk.2.2.2 | exact hk.1.1.2.2.1 | exact hk.1.1.2.2.2 | exact hk.1.2.2.2.1 | exact hk.1.2.2.2.2 | exact hk.1.1.1.1.1 | exact hk.1.1.1.1.2, by first | exact hk.1.2.2 | exact hk.1.1.2 | exact hk.1.1 | exact hk.1.2 | exact hk.2 | exact hk.1 | exact hk.1.1.1 | exact hk | exact hk.1.2.1 | exact hk.1.1.2.1 | exact hk.1.1.2.2 | exact hk.2.1 | exact hk.2.2 | exact hk.1.1.1.1 | exact hk.1.1.1.2 | exact hk.1.2.2.1 | exact hk.1.2.2.2 | exact hk.1.1.1.2.1 | exact hk.1.1.1.2.2 | exact hk.2.2.1 | exact hk.2.2.2 | exact hk.1.1.2.2.1 | exact hk.1.1.2.2.2 | exact hk.1.2.2.2.1 | exact hk.1.2.2.2.2 | exact hk.1.1.1.1.1 | exact hk.1.1.1.1.2⟩)) : P := h
theorem q51_2 {P : Prop} (h : P := by (with_reducible repeat (first | apply Kd.R_alloc | apply Kd.R_drewN | apply Kd.R_drew)); exact (Kd.R_mono (Kd.R_mono (Kd.R_far (p := ⟨gb1081, 1, none⟩) (Kd.R_far (p := ⟨gb1081, 0, none⟩) (Kd.R_far (p := ⟨gb1080, 1, none⟩) (Kd.R_far (p := ⟨gb1080, 0, none⟩) (Kd.R_types (Kd.R_types HO1077.out BK1080.out (by decide)) BK1081.out (by decide)) (fun _ hk => hk.1.2) (.int .i64 t1074)) (fun _ hk => hk.1.2) (.slice Ao23 t1075.length co23)) (fun _ hk => hk.2) (.int .i64 t1078)) (fun _ hk => hk.2) (.int .i64 t1079)) (fun _ h_ => h_.1)) (fun _ h_ => h_.1))) : P := h
theorem q51_3 {P : Prop} (h : P := by (with_reducible repeat (first | refine blk_drewN ?_ _ | refine blk_drew ?_ | refine blk_alloc ?_ _)); refine blk_put (cs := #[.int .i64 t1095, .int .i64 0]) ?_ 1 _ rfl; (with_reducible repeat (first | refine blk_drewN ?_ _ | refine blk_drew ?_ | refine blk_alloc ?_ _)); refine blk_put (cs := #[.int .i64 0, .int .i64 0]) ?_ 0 _ rfl; (with_reducible repeat (first | refine blk_drewN ?_ _ | refine blk_drew ?_ | refine blk_alloc ?_ _)); exact BK1098.out) : P := h
theorem q51_4 {P : Prop} (h : P := by (with_reducible repeat (first | refine blk_drewN ?_ _ | refine blk_drew ?_ | refine blk_alloc ?_ _)); refine blk_far ?_ NB1081_1098.out _; (with_reducible repeat (first | refine blk_drewN ?_ _ | refine blk_drew ?_ | refine blk_alloc ?_ _)); refine blk_far ?_ NB1081_1098.out _; (with_reducible repeat (first | refine blk_drewN ?_ _ | refine blk_drew ?_ | refine blk_alloc ?_ _)); exact BK1081.out) : P := h
theorem q51_5 {P : Prop} (h : P := by (with_reducible repeat (first | refine blk_drewN ?_ _ | refine blk_drew ?_ | refine blk_alloc ?_ _)); refine blk_far ?_ NB1088_1098.out _; (with_reducible repeat (first | refine blk_drewN ?_ _ | refine blk_drew ?_ | refine blk_alloc ?_ _)); refine blk_far ?_ NB1088_1098.out _; (with_reducible repeat (first | refine blk_drewN ?_ _ | refine blk_drew ?_ | refine blk_alloc ?_ _)); exact BK1088.out) : P := h
theorem q51_6 {P : Prop} (h : P := by (with_reducible repeat (first | apply Kd.R_alloc | apply Kd.R_drewN | apply Kd.R_drew)); exact (Kd.R_mono (Kd.R_far (p := ⟨gb1088, 1, none⟩) (Kd.R_far (p := ⟨gb1088, 0, none⟩) (Kd.R_mono HO1085.out (fun k_ hk => (⟨hk, hk.2⟩ : _ ∧ k_ ≠ gb1088))) (fun _ hk => hk.2) (.int .i64 t1086)) (fun _ hk => hk.2) (.int .i64 t1087)) (fun _ h_ => h_.1))) : P := h
theorem q51_7 {P : Prop} (h : P := by (with_reducible repeat (first | apply Kd.R_alloc | apply Kd.R_drewN | apply Kd.R_drew)); exact (Kd.R_mono (Kd.R_far (p := ⟨gb1098, 1, none⟩) (Kd.R_far (p := ⟨gb1098, 0, none⟩) (Kd.R_mono HO1085.out (fun k_ hk => (⟨hk, hk.2⟩ : _ ∧ k_ ≠ gb1098))) (fun _ hk => hk.2) (.int .i64 t1095)) (fun _ hk => hk.2) (.int .i64 t1096)) (fun _ h_ => h_.1))) : P := h
theorem q51_8 {P : Prop} (h : P := by (with_reducible repeat (first | apply Kd.R_alloc | apply Kd.R_drewN | apply Kd.R_drew)); exact (Kd.R_mono (Kd.R_far (p := ⟨gb1098, 1, none⟩) (Kd.R_far (p := ⟨gb1098, 0, none⟩) (Kd.R_mono HO1093.out (fun k_ hk => (⟨hk, hk.2⟩ : _ ∧ k_ ≠ gb1098))) (fun _ hk => hk.2) (.int .i64 t1095)) (fun _ hk => hk.2) (.int .i64 t1096)) (fun _ h_ => h_.1))) : P := h
theorem q51_9 {P : Prop} (h : P := by repeat (first | (with_reducible first | exact HB.out | apply below_alloc | apply pw_below_drewN | apply below_drew1 | refine below_set ?_ GE1080.out | refine below_set ?_ GE1081.out | refine below_set ?_ GE1088.out | refine below_set ?_ GE1098.out) | exact HB.out)) : P := h
theorem q51_10 {P : Prop} (h : P := by repeat (first | (with_reducible first | exact HB.out | apply below_alloc | apply pw_below_drewN | apply below_drew1 | refine below_set ?_ GE1080.out | refine below_set ?_ GE1081.out | refine below_set ?_ GE1088.out) | exact HB.out)) : P := h
theorem q51_11 {P : Prop} (h : P := by repeat (first | (with_reducible first | exact HB.out | apply below_alloc | apply pw_below_drewN | apply below_drew1 | refine below_set ?_ GE1080.out | refine below_set ?_ GE1081.out) | exact HB.out)) : P := h
theorem q51_12 {P : Prop} (h : P := by repeat (first | exact (Kd.R_reads' HO_1081001.out).2.2 | (with_reducible refine Kd.C_alloc ?_ _) | (with_reducible refine Kd.C_drewN ?_ _) | (with_reducible refine Kd.C_drew ?_))) : P := h
theorem q51_13 {P : Prop} (h : P := by repeat (first | exact (Kd.R_reads' HO1093.out).2.2 | (with_reducible refine Kd.C_alloc ?_ _) | (with_reducible refine Kd.C_drewN ?_ _) | (with_reducible refine Kd.C_drew ?_))) : P := h
theorem q51_14 {P : Prop} (h : P := by repeat (first | exact (Kd.R_reads' HO1102.out).2.2 | (with_reducible refine Kd.C_alloc ?_ _) | (with_reducible refine Kd.C_drewN ?_ _) | (with_reducible refine Kd.C_drew ?_))) : P := h
theorem q51_15 {P : Prop} (h : P := by repeat (first | exact (Kd.R_reads' HO1114.out).2.2 | (with_reducible refine Kd.C_alloc ?_ _) | (with_reducible refine Kd.C_drewN ?_ _) | (with_reducible refine Kd.C_drew ?_))) : P := h
theorem q51_17 {P : Prop} (h : P := by repeat (first | exact (Kd.R_reads' HO_6.out).2.2 | (with_reducible refine Kd.C_alloc ?_ _) | (with_reducible refine Kd.C_drewN ?_ _) | (with_reducible refine Kd.C_drew ?_))) : P := h
theorem q51_18 {P : Prop} (h : P := by repeat (first | (with_reducible first | exact HB.out | apply below_alloc | apply pw_below_drewN | apply below_drew1 | refine below_set ?_ GE1080.out) | exact HB.out)) : P := h
theorem q51_19 {P : Prop} (h : P := by repeat (first | (with_reducible first | exact HB.out | apply below_alloc | apply pw_below_drewN | apply below_drew1 | refine below_set ?_ GE1088.out) | exact HB.out)) : P := h
theorem q51_22 {P : Prop} (h : P := by (with_reducible repeat (first | apply Kd.R_alloc | apply Kd.R_drewN | apply Kd.R_drew)); exact Kd.R_mono HO_6.out (fun _ hk => hk.2)) : P := h
theorem q51_24 {P : Prop} (h : P := by (with_reducible repeat (first | refine blk_drewN ?_ _ | refine blk_drew ?_ | refine blk_alloc ?_ _)); exact BK1080.out) : P := h
theorem q51_25 {P : Prop} (h : P := by (with_reducible repeat (first | refine blk_drewN ?_ _ | refine blk_drew ?_ | refine blk_alloc ?_ _)); exact BK1081.out) : P := h
theorem q51_26 {P : Prop} (h : P := by (with_reducible repeat (first | refine blk_drewN ?_ _ | refine blk_drew ?_ | refine blk_alloc ?_ _)); exact BK1088.out) : P := h
theorem q51_27 {P : Prop} (h : P := by (with_reducible repeat (first | refine blk_drewN ?_ _ | refine blk_drew ?_ | refine blk_alloc ?_ _)); exact BK1098.out) : P := h
theorem q51_28 {P : Prop} (h : P := by (with_reducible repeat (first | apply Kd.R_alloc | apply Kd.R_drewN | apply Kd.R_drew)); exact HO_1081001.out) : P := h
theorem q51_29 {P : Prop} (h : P := by (with_reducible repeat (first | apply Kd.R_alloc | apply Kd.R_drewN | apply Kd.R_drew)); exact HO1077.out) : P := h
theorem q51_30 {P : Prop} (h : P := by (with_reducible repeat (first | apply Kd.R_alloc | apply Kd.R_drewN | apply Kd.R_drew)); exact HO1085.out) : P := h
theorem q51_31 {P : Prop} (h : P := by (with_reducible repeat (first | apply Kd.R_alloc | apply Kd.R_drewN | apply Kd.R_drew)); exact HO1093.out) : P := h
theorem q51_32 {P : Prop} (h : P := by (with_reducible repeat (first | apply Kd.R_alloc | apply Kd.R_drewN | apply Kd.R_drew)); exact HO1102.out) : P := h
theorem q51_33 {P : Prop} (h : P := by (with_reducible repeat (first | apply Kd.R_alloc | apply Kd.R_drewN | apply Kd.R_drew)); exact HO1107.out) : P := h
theorem q51_34 {P : Prop} (h : P := by (with_reducible repeat (first | apply Kd.R_alloc | apply Kd.R_drewN | apply Kd.R_drew)); exact HO1111.out) : P := h
theorem q51_35 {P : Prop} (h : P := by (with_reducible repeat (first | apply Kd.R_alloc | apply Kd.R_drewN | apply Kd.R_drew)); exact HO1114.out) : P := h
theorem q51_36 {P : Prop} (h : P := by (with_reducible repeat (first | apply Kd.R_alloc | apply Kd.R_drewN | apply Kd.R_drew)); exact HO_6.out) : P := h
theorem q51_39 {P : Prop} (h : P := by simp only [laws_FnRules.j0]; exact fun h => by cases h) : P := h
mutual
def laws_FnRules.j0 : Nat → Bool → List (S48) → Bool → List (S48) → ByteArray → Bool → Int → List Int → Int → Int → Int → Int → Option (Bool)
 | 0, _, _, _, _, _, _, _, _, _, _, _, _ => none
 | k + 1, x5, x6, x8, x21, x22, x141, x1081000, x1081001, x1082000, x1082001, x1089000, x1089001 => if x141 = true then (some false) else ((impl_ParseRules.f k x22).bind fun bt1127 => (if x22.toList = ([] : List UInt8) then (laws_FnRules.j1 k x5 x6 x8 false x1081000 x1081001 x1082000 x1082001 x1089000 x1089001) else (if bt1127.2 = true then ((laws_sameRules.f k bt1127.1 x21).bind fun t1131 => (laws_FnRules.j1 k x5 x6 x8 (!t1131) x1081000 x1081001 x1082000 x1082001 x1089000 x1089001)) else (laws_FnRules.j1 k x5 x6 x8 true x1081000 x1081001 x1082000 x1082001 x1089000 x1089001))))
def laws_FnRules.j1 : Nat → Bool → List (S48) → Bool → Bool → Int → List Int → Int → Int → Int → Int → Option (Bool)
 | 0, _, _, _, _, _, _, _, _, _, _ => none
 | k + 1, x5, x6, x8, x158, x1081000, x1081001, x1082000, x1082001, x1089000, x1089001 => if x158 = true then (some false) else ((spec_IsContext.f k x1081000 x1081001).bind fun t1132 => (if t1132 = true then ((spec_IsSet.f x1081000 x1082000).bind fun t1133 => (if t1133 = true then ((spec_IsSet.f x1081000 x1082001).bind fun t1134 => (laws_FnRules.j2 k x5 x6 x8 t1134 x1081000 x1081001 x1082000 x1082001 x1089000 x1089001)) else (laws_FnRules.j2 k x5 x6 x8 false x1081000 x1081001 x1082000 x1082001 x1089000 x1089001))) else (laws_FnRules.j2 k x5 x6 x8 false x1081000 x1081001 x1082000 x1082001 x1089000 x1089001)))
def laws_FnRules.j2 : Nat → Bool → List (S48) → Bool → Bool → Int → List Int → Int → Int → Int → Int → Option (Bool)
 | 0, _, _, _, _, _, _, _, _, _, _ => none
 | k + 1, x5, x6, x8, x174, x1081000, x1081001, x1082000, x1082001, x1089000, x1089001 => if x174 = true then (laws_FnRules.l0 k x5 x6 x8 true 0 x1081000 x1081001 x1082000 x1082001 x1089000 x1089001) else (laws_FnRules.j4 k x6 x8 x1089000 x1089001)
def laws_FnRules.j4 : Nat → List (S48) → Bool → Int → Int → Option (Bool)
 | 0, _, _, _, _ => none
 | k + 1, x6, x8, x1089000, x1089001 => (spec_AreRules.f k 6 x6).bind fun t1137 => (if t1137 = true then ((spec_AreRules.f k 6 (([(⟨x1089000, x1089001⟩ : S48)] : List (S48)))).bind fun t1141 => (laws_FnRules.j5 k x6 x8 (!t1141) x1089000 x1089001)) else (laws_FnRules.j5 k x6 x8 true x1089000 x1089001))
def laws_FnRules.j5 : Nat → List (S48) → Bool → Bool → Int → Int → Option (Bool)
 | 0, _, _, _, _, _ => none
 | k + 1, x6, x8, x203, x1089000, x1089001 => if x203 = true then (some true) else (laws_FnRules.l1 k x6 x8 true 0 x1089000 x1089001)
def laws_FnRules.l1 : Nat → List (S48) → Bool → Bool → Int → Int → Int → Option (Bool)
 | 0, _, _, _, _, _, _ => none
 | k + 1, x6, x8, x27, x28, x1089000, x1089001 => if x28 < 64 then ((impl_ClosedBy.f k x6 x28).bind fun t1142 => (if t1142 = x28 then (if x27 = true then ((impl_Respects.f x1089000 x1089001 x28).bind fun t1143 => (laws_FnRules.l1 k x6 x8 t1143 (wrap64 (x28 + 1)) x1089000 x1089001)) else (laws_FnRules.l1 k x6 x8 false (wrap64 (x28 + 1)) x1089000 x1089001)) else (laws_FnRules.l1 k x6 x8 x27 (wrap64 (x28 + 1)) x1089000 x1089001))) else (some (x27 == x8))
def laws_FnRules.l0 : Nat → Bool → List (S48) → Bool → Bool → Int → Int → List Int → Int → Int → Int → Int → Option (Bool)
 | 0, _, _, _, _, _, _, _, _, _, _, _ => none
 | k + 1, x5, x6, x8, x25, x26, x1081000, x1081001, x1082000, x1082001, x1089000, x1089001 => if x26 < (x1081001.length : Int) then (if x25 = true then (if 0 ≤ x26 then ((impl_Respects.f x1082000 x1082001 (rd x1081001 x26)).bind fun t1136 => (laws_FnRules.l0 k x5 x6 x8 t1136 (wrap64 (x26 + 1)) x1081000 x1081001 x1082000 x1082001 x1089000 x1089001)) else (none)) else (laws_FnRules.l0 k x5 x6 x8 false (wrap64 (x26 + 1)) x1081000 x1081001 x1082000 x1082001 x1089000 x1089001)) else (if (x25 != x5) = true then (some false) else (laws_FnRules.j4 k x6 x8 x1089000 x1089001))
end
def laws_FnRules.f (k : Nat) (l0 : List Int) : Option (Bool) := (laws_big.f l0).bind fun t1073 => (if t1073 = true then (some true) else ((spec_DrawHoldsIn.f k l0).bind fun bt1074 => ((impl_HoldsIn.f k bt1074.1 bt1074.2.1 bt1074.2.2.1 bt1074.2.2.2).bind fun t1082 => ((spec_DrawFollows.f k l0).bind fun bt1083 => ((impl_Follows.f k bt1083.1 bt1083.2.1 bt1083.2.2).bind fun t1089 => ((spec_DrawClosedBy.f k l0).bind fun bt1090 => ((impl_ClosedBy.f k bt1090.1 bt1090.2).bind fun t1094 => ((spec_DrawRespects.f k l0).bind fun bt1095 => ((spec_DrawAreRules.f k l0).bind fun bt1099 => ((spec_DrawParseRules.f k l0).bind fun t1103 => ((impl_ParseRules.f k t1103).bind fun bt1104 => ((spec_ParseRules.f k t1103).bind fun bt1108 => ((spec_DrawRulesText.f k l0).bind fun t1112 => ((impl_RulesText.f k t1112).bind fun t1115 => ((spec_HoldsIn.f k bt1074.1 bt1074.2.1 bt1074.2.2.1 bt1074.2.2.2).bind fun t1116 => (if (t1082 != t1116) = true then (laws_FnRules.j0 k t1082 bt1083.1 t1089 t1112 t1115 true bt1074.1 bt1074.2.1 bt1074.2.2.1 bt1074.2.2.2 bt1083.2.1 bt1083.2.2) else ((spec_Follows.f k bt1083.1 bt1083.2.1 bt1083.2.2).bind fun t1117 => (if (t1089 != t1117) = true then (laws_FnRules.j0 k t1082 bt1083.1 t1089 t1112 t1115 true bt1074.1 bt1074.2.1 bt1074.2.2.1 bt1074.2.2.2 bt1083.2.1 bt1083.2.2) else ((spec_ClosedBy.f k bt1090.1 bt1090.2).bind fun t1118 => (if t1094 = t1118 then ((impl_Respects.f bt1095.1 bt1095.2.1 bt1095.2.2).bind fun t1119 => ((spec_Respects.f bt1095.1 bt1095.2.1 bt1095.2.2).bind fun t1120 => (if (t1119 != t1120) = true then (laws_FnRules.j0 k t1082 bt1083.1 t1089 t1112 t1115 true bt1074.1 bt1074.2.1 bt1074.2.2.1 bt1074.2.2.2 bt1083.2.1 bt1083.2.2) else ((impl_AreRules.f bt1099.1 bt1099.2).bind fun t1121 => ((spec_AreRules.f k bt1099.1 bt1099.2).bind fun t1122 => (if (t1121 != t1122) = true then (laws_FnRules.j0 k t1082 bt1083.1 t1089 t1112 t1115 true bt1074.1 bt1074.2.1 bt1074.2.2.1 bt1074.2.2.2 bt1083.2.1 bt1083.2.2) else (if (bt1104.2 != bt1108.2) = true then (laws_FnRules.j0 k t1082 bt1083.1 t1089 t1112 t1115 true bt1074.1 bt1074.2.1 bt1074.2.2.1 bt1074.2.2.2 bt1083.2.1 bt1083.2.2) else ((laws_sameRules.f k bt1104.1 bt1108.1).bind fun t1123 => (if t1123 = true then ((spec_RulesText.f k t1112).bind fun t1124 => (if t1115.toList = t1124.toList then ((impl_RuleText.f k bt1095.1 bt1095.2.1).bind fun t1125 => ((spec_RuleText.f k bt1095.1 bt1095.2.1).bind fun t1126 => (laws_FnRules.j0 k t1082 bt1083.1 t1089 t1112 t1115 (t1125.toList != t1126.toList) bt1074.1 bt1074.2.1 bt1074.2.2.1 bt1074.2.2.2 bt1083.2.1 bt1083.2.2))) else (laws_FnRules.j0 k t1082 bt1083.1 t1089 t1112 t1115 true bt1074.1 bt1074.2.1 bt1074.2.2.1 bt1074.2.2.2 bt1083.2.1 bt1083.2.2))) else (laws_FnRules.j0 k t1082 bt1083.1 t1089 t1112 t1115 true bt1074.1 bt1074.2.1 bt1074.2.2.1 bt1074.2.2.2 bt1083.2.1 bt1083.2.2)))))))))) else (laws_FnRules.j0 k t1082 bt1083.1 t1089 t1112 t1115 true bt1074.1 bt1074.2.1 bt1074.2.2.1 bt1074.2.2.2 bt1083.2.1 bt1083.2.2)))))))))))))))))))))
def laws_FnRules.T16 : Bool × List (List Nat × List Nat) := (true, [([], []), ([], []), ([], []), ([1, 2], [1, 2]), ([0, 3], [0, 3]), ([4, 3], [4]), ([5], [5]), ([5], [5]), ([5], [5]), ([7, 8, 5, 5], [5, 7, 8]), ([6, 9, 5], [5, 6, 9]), ([5, 10], [5, 10]), ([11, 9], [11]), ([12], [12]), ([12], [12]), ([12], [12]), ([14, 15, 12, 12], [12, 14, 15]), ([13, 16, 12], [12, 13, 16]), ([12, 17], [12, 17]), ([18, 16], [18]), ([19], [19]), ([19], [19]), ([20, 21, 19, 19], [19, 20, 21]), ([19], [19]), ([19], [19]), ([23, 24, 22, 19], [19, 23, 24]), ([22, 25, 19], [19, 22, 25]), ([19, 26], [19, 26]), ([27, 25], [27]), ([28], [28]), ([28], [28]), ([29, 30, 28, 28], [28, 29, 30]), ([28], [28]), ([28], [28]), ([32, 33, 31, 28], [28, 32, 33]), ([31, 34, 28], [28, 31, 34]), ([28, 35], [28, 35]), ([36, 34], [36]), ([37], [37]), ([37], [37]), ([38, 39, 37], [37, 38, 39]), ([37, 40], [37, 40]), ([41, 37], [41]), ([42], [42]), ([42], [42]), ([43, 44, 42, 42], [42, 43, 44]), ([45, 42], [42, 45]), ([42, 46], [42, 46]), ([47, 45], [47]), ([48], [48]), ([48], [48]), ([50, 48, 48], [48, 50]), ([49, 51, 48], [48, 49, 51]), ([48, 52], [48, 52]), ([53, 51], [53]), ([54], [54]), ([55, 54, 54], [54, 55]), ([54], [54]), ([57, 56, 54], [54, 57]), ([56, 58, 54], [54, 56, 58]), ([54, 59], [54, 59])])
def laws_FnRules.B16 : List Nat := [0, 0, 0, 6, 15, 31, 63, 63, 63, 447, 1023, 2047, 4095, 8191, 8191, 8191, 57343, 131071, 262143, 524287, 1048575, 1048575, 4194303, 1048575, 1048575, 33554431, 67108863, 134217727, 268435455, 536870911, 536870911, 2147483647, 536870911, 536870911, 17179869183, 34359738367, 68719476735, 137438953471, 274877906943, 274877906943, 1099511627775, 2199023255551, 4398046511103, 8796093022207, 8796093022207, 35184372088831, 70368744177663, 140737488355327, 281474976710655, 562949953421311, 562949953421311, 1688849860263935, 4503599627370495, 9007199254740991, 18014398509481983, 36028797018963967, 72057594037927935, 36028797018963967, 288230376151711743, 576460752303423487, 1152921504606846975]
theorem laws_FnRules.tab16 : rtab .any (opsOf Tryz.f6 16) = laws_FnRules.T16 := s10_
theorem laws_FnRules.bits16 : waitsOk laws_FnRules.T16.2 laws_FnRules.B16 = true := s10_
def laws_FnRules.T26 : Bool × List (List Nat × List Nat) := (true, [([], []), ([0], [0]), ([1], [1]), ([1], [1]), ([3, 1], [1, 3]), ([1], [1]), ([4, 5, 1], [1, 4, 5]), ([6, 1], [1, 6]), ([2, 7, 1, 1], [1, 2, 7]), ([1, 8], [1, 8]), ([9, 8, 0, 1, 2, 3, 4, 5, 6, 7, 8, 9], [0, 9])])
def laws_FnRules.B26 : List Nat := [0, 1, 3, 3, 11, 3, 59, 123, 255, 511, 1023]
theorem laws_FnRules.tab26 : rtab .any (opsOf Tryz.f6 26) = laws_FnRules.T26 := s10_
theorem laws_FnRules.bits26 : waitsOk laws_FnRules.T26.2 laws_FnRules.B26 = true := s10_
set_option maxHeartbeats 40000000 in
set_option maxRecDepth 100000 in
theorem laws_FnRules.calls (k : Nat) (A0 : Option Addr) (c0 : Nat) (l0 : List Int) (r : Bool) (w : World) (hr0 : Kd.C (Kd.int .u8) w A0 l0.length l0) (hc0 : l0.length ≤ c0) (hrt : r = true) (htab : TabMax w) (h : laws_FnRules.f k l0 = some r) :
  Calls Tryz.prog 6 #[.slice A0 l0.length c0] w fun e w' => e = .returned (.bool r) ∧ Below w.heap.size w w' := by
 have HTB := Aside0.mk htab; clear htab; have hu29 := Tryz.underlying29; have hu48 := Tryz.underlying48; have HR0 := Aside0.mk hr0; have HC0 := Aside0.mk hc0; clear hr0 hc0; have HB := Aside0.mk (Below.refl w.heap.size w); have HRT := Aside0.mk hrt; clear hrt; have H := h; clear h; unfold laws_FnRules.f at H; obtain ⟨t1073, A2, H⟩ := bnd51_ H
 by_cases c3 : t1073 = true
 ·
  subst c3; rw [if_pos rfl] at H; obtain rfl := Option.some.inj H
  go_enter Tryz.func6, Tryz.ntmps6
  go_wp2_with (first | ((with_reducible refine gate_callee (f := 9) rfl ?_); refine gL_ 9 30 Tryz.func9 #[.slice A0 l0.length c0] ?_; (with_reducible refine (laws_big.calls _ _ l0 true _ ?side1 ?side2 A2.out).mono ?_); (case side1 => exact s15_); (case side2 => exact HC0.out); rintro e w' ⟨rfl, ⟨nd, rfl⟩⟩; refine ⟨_, rfl, ?_⟩))
  go_ret
  exact ⟨s2_, s1_⟩
 ·
  replace c3 := Bool.eq_false_iff.mpr c3; subst c3
  rw [if_neg (show ¬ (false = true) by decide)] at H
  obtain ⟨⟨t1074, t1075, t1078, t1079⟩, A4, H⟩ := bnd51_ H; dsimp only at H; obtain ⟨t1082, A5, H⟩ := bnd51_ H; obtain ⟨⟨t1083, t1086, t1087⟩, A6, H⟩ := bnd51_ H; dsimp only at H; obtain ⟨t1089, A7, H⟩ := bnd51_ H; obtain ⟨⟨t1090, t1091⟩, A8, H⟩ := bnd51_ H; dsimp only at H; obtain ⟨t1094, A9, H⟩ := bnd51_ H; obtain ⟨⟨t1095, t1096, t1097⟩, A10, H⟩ := bnd51_ H; dsimp only at H; obtain ⟨⟨t1099, t1100⟩, A11, H⟩ := bnd51_ H; dsimp only at H; obtain ⟨t1103, A12, H⟩ := bnd51_ H; obtain ⟨⟨t1104, t1105⟩, A13, H⟩ := bnd51_ H; dsimp only at H; obtain ⟨⟨t1108, t1109⟩, A14, H⟩ := bnd51_ H; dsimp only at H; obtain ⟨t1112, A15, H⟩ := bnd51_ H; obtain ⟨t1115, A16, H⟩ := bnd51_ H; have HC17 := Aside0.mk H; clear H
  go_enter Tryz.func6, Tryz.ntmps6
  go_upto_region 16 with (first | ((with_reducible refine gate_callee (f := 9) rfl ?_); refine gL_ 9 30 Tryz.func9 #[.slice A0 l0.length c0] ?_; (with_reducible refine (laws_big.calls _ _ l0 false _ ?side1 ?side2 A2.out).mono ?_); (case side1 => exact s15_); (case side2 => exact HC0.out); rintro e w' ⟨rfl, ⟨nd, rfl⟩⟩; refine ⟨_, rfl, ?_⟩) | ((with_reducible refine gate_callee (f := 65) rfl ?_); refine gL_ 65 33 Tryz.func65 #[.slice A0 l0.length c0] ?_; (with_reducible refine (spec_DrawHoldsIn.calls k _ _ l0 t1074 t1075 t1078 t1079 _ ?side1 ?side2 A4.out).mono ?_); (case side1 => exact s15_); (case side2 => exact HC0.out); rintro e w18 ⟨v1076, rfl, ho0, hb⟩; refine ⟨_, rfl, ?_⟩; have n_ := ac_ (Kd.R_lower ho0 (below_size s1_)) <| Aside0.mk (below_step s1_ hb); clear HB; obtain ⟨HO1077, HB⟩ := n_; (try clear hb ho0)) | ((with_reducible refine gate_dst (N := 3) rfl ?_); (try (refine gate_guard (by rfl) ?_; dsimp only)); refine box_event ?hg (N := 3) ?hd (cs := #[.int .i64 0, .slice none 0 0]) (t := 29) ?hr ?_; (case hd => rfl); (case hg => rfl); (case hr => first | (go_simp; done) | (go_simp; rfl)); intro gb1080 hg w19 hbox hb; have n_ := ac_ (Kd.R_below q51_29 hb) <| ac_ (below_step s1_ hb) <| ac_ (hbox) <| ac_ ((gz_ w hg s1_)) <| Aside0.mk ((gz_ w hg s1_)); clear HO1077 HB; obtain ⟨HO1077, HB, BK1080, GW1080, GE1080⟩ := n_; clear hb hbox hg) | ((with_reducible refine gate_dst (N := 4) rfl ?_); (try (refine gate_guard (by rfl) ?_; dsimp only)); refine box_event ?hg (N := 4) ?hd (cs := #[.int .i64 0, .int .i64 0]) (t := 48) ?hr ?_; (case hd => rfl); (case hg => rfl); (case hr => first | (go_simp; done) | (go_simp; rfl)); intro gb1081 hg w20 hbox hb; have n_ := ac_ (Kd.R_below q51_29 hb) <| ac_ (blk_below (g := gb1080) (o := .cells #[.int .i64 0, .slice none 0 0] 29 (0, 0)) q51_24 hb) <| ac_ (below_step q51_18 hb) <| ac_ (hbox) <| ac_ ((gz_ w hg q51_18)) <| ac_ ((gz_ w hg q51_18)) <| ac_ ((nl_ hg (blk_lt (g := gb1080) (o := .cells #[.int .i64 0, .slice none 0 0] 29 (0, 0)) q51_24))) <| Aside0.mk ((ng_ hg (blk_lt (g := gb1080) (o := .cells #[.int .i64 0, .slice none 0 0] 29 (0, 0)) q51_24))); clear HO1077 BK1080 HB; obtain ⟨HO1077, BK1080, HB, BK1081, GW1081, GE1081, NB1080_1081, NB1081_1080⟩ := n_; clear hb hbox hg; have hnb21 := NB1080_1081.out; have hnc21 := NB1081_1080.out; have hcz22_0 : w20.cell? ⟨gb1080, 0, none⟩ = some (.int .i64 0) := (blk_cell BK1080.out 0).trans rfl; have hcz22_1 : w20.cell? ⟨gb1080, 1, none⟩ = some (.slice none 0 0) := (blk_cell BK1080.out 1).trans rfl; have hfz22_0 := blk_frozen BK1080.out 0; have hfz22_1 := blk_frozen BK1080.out 1; obtain ⟨Ao23, co23, eo23⟩ := Kd.R_slice HO1077.out; subst eo23; have hcz24_0 : w20.cell? ⟨gb1081, 0, none⟩ = some (.int .i64 0) := (blk_cell BK1081.out 0).trans rfl; have hcz24_1 : w20.cell? ⟨gb1081, 1, none⟩ = some (.int .i64 0) := (blk_cell BK1081.out 1).trans rfl; have hfz24_0 := blk_frozen BK1081.out 0; have hfz24_1 := blk_frozen BK1081.out 1) | ((with_reducible refine gate_callee (f := 66) rfl ?_); refine gL_ 66 38 Tryz.func66 #[.agg #[.int .i64 t1074, .slice Ao23 t1075.length co23], .agg #[.int .i64 t1078, .int .i64 t1079]] ?_; (with_reducible refine (impl_HoldsIn.calls k t1074 _ _ t1075 t1078 t1079 t1082 _ ?side1 ?side2 A5.out).mono ?_); (case side1 => refine (Kd.R_reads' (e := 3) (base := w.heap.size) (ok := fun k_ => True) (n := t1075.length) (c := co23) ?_).2.2; exact q51_2); (case side2 => exact (Kd.R_reads' HO1077.out).2.1); rintro e w25 ⟨rfl, hb⟩; refine ⟨_, rfl, ?_⟩; have n_ := ac_ (Kd.R_below q51_2 hb) <| ac_ (blk_below (g := gb1080) (o := .cells #[.int .i64 t1074, .slice Ao23 t1075.length co23] 29 (0, 0)) (by (with_reducible repeat (first | refine blk_drewN ?_ _ | refine blk_drew ?_ | refine blk_alloc ?_ _)); refine blk_far ?_ NB1080_1081.out _; (with_reducible repeat (first | refine blk_drewN ?_ _ | refine blk_drew ?_ | refine blk_alloc ?_ _)); refine blk_far ?_ NB1080_1081.out _; (with_reducible repeat (first | refine blk_drewN ?_ _ | refine blk_drew ?_ | refine blk_alloc ?_ _)); refine blk_put (cs := #[.int .i64 t1074, .slice none 0 0]) ?_ 1 _ rfl; (with_reducible repeat (first | refine blk_drewN ?_ _ | refine blk_drew ?_ | refine blk_alloc ?_ _)); refine blk_put (cs := #[.int .i64 0, .slice none 0 0]) ?_ 0 _ rfl; (with_reducible repeat (first | refine blk_drewN ?_ _ | refine blk_drew ?_ | refine blk_alloc ?_ _)); exact BK1080.out) hb) <| ac_ (blk_below (g := gb1081) (o := .cells #[.int .i64 t1078, .int .i64 t1079] 48 (0, 0)) (by (with_reducible repeat (first | refine blk_drewN ?_ _ | refine blk_drew ?_ | refine blk_alloc ?_ _)); refine blk_put (cs := #[.int .i64 t1078, .int .i64 0]) ?_ 1 _ rfl; (with_reducible repeat (first | refine blk_drewN ?_ _ | refine blk_drew ?_ | refine blk_alloc ?_ _)); refine blk_put (cs := #[.int .i64 0, .int .i64 0]) ?_ 0 _ rfl; (with_reducible repeat (first | refine blk_drewN ?_ _ | refine blk_drew ?_ | refine blk_alloc ?_ _)); refine blk_far ?_ NB1081_1080.out _; (with_reducible repeat (first | refine blk_drewN ?_ _ | refine blk_drew ?_ | refine blk_alloc ?_ _)); refine blk_far ?_ NB1081_1080.out _; (with_reducible repeat (first | refine blk_drewN ?_ _ | refine blk_drew ?_ | refine blk_alloc ?_ _)); exact BK1081.out) hb) <| Aside0.mk (below_step q51_11 hb); clear HO1077 BK1080 BK1081 HB; obtain ⟨HO1077, BK1080, BK1081, HB⟩ := n_; (try clear hb)) | ((with_reducible refine gate_callee (f := 67) rfl ?_); refine gL_ 67 41 Tryz.func67 #[.slice A0 l0.length c0] ?_; (with_reducible refine (spec_DrawFollows.calls k _ _ l0 t1083 t1086 t1087 _ ?side1 ?side2 A6.out).mono ?_); (case side1 => exact s12_); (case side2 => exact HC0.out); rintro e w26 ⟨v1084, rfl, ho0, hb⟩; refine ⟨_, rfl, ?_⟩; have n_ := ac_ (Kd.R_below q51_29 hb) <| ac_ (Kd.R_lower (Kd.R_newB ho0 (g := gb1081) (o := .cells #[.int .i64 t1078, .int .i64 t1079] 48 (0, 0)) q51_25) (below_size q51_11)) <| ac_ (blk_below (g := gb1080) (o := .cells #[.int .i64 t1074, .slice Ao23 t1075.length co23] 29 (0, 0)) q51_24 hb) <| ac_ (blk_below (g := gb1081) (o := .cells #[.int .i64 t1078, .int .i64 t1079] 48 (0, 0)) q51_25 hb) <| Aside0.mk (below_step q51_11 hb); clear HO1077 BK1080 BK1081 HB; obtain ⟨HO1077, HO1085, BK1080, BK1081, HB⟩ := n_; (try clear hb ho0)) | ((with_reducible refine gate_dst (N := 7) rfl ?_); (try (refine gate_guard (by rfl) ?_; dsimp only)); refine box_event ?hg (N := 7) ?hd (cs := #[.int .i64 0, .int .i64 0]) (t := 48) ?hr ?_; (case hd => rfl); (case hg => rfl); (case hr => first | (go_simp; done) | (go_simp; rfl)); intro gb1088 hg w27 hbox hb; have n_ := ac_ (Kd.R_below q51_29 hb) <| ac_ (Kd.R_below (Kd.R_elderB q51_30 gb1088 (Nat.le_of_eq hg.symm)) hb) <| ac_ (blk_below (g := gb1080) (o := .cells #[.int .i64 t1074, .slice Ao23 t1075.length co23] 29 (0, 0)) q51_24 hb) <| ac_ (blk_below (g := gb1081) (o := .cells #[.int .i64 t1078, .int .i64 t1079] 48 (0, 0)) q51_25 hb) <| ac_ (below_step q51_11 hb) <| ac_ (hbox) <| ac_ ((gz_ w hg q51_11)) <| ac_ ((gz_ w hg q51_11)) <| ac_ ((nl_ hg (blk_lt (g := gb1080) (o := .cells #[.int .i64 t1074, .slice Ao23 t1075.length co23] 29 (0, 0)) q51_24))) <| ac_ ((ng_ hg (blk_lt (g := gb1080) (o := .cells #[.int .i64 t1074, .slice Ao23 t1075.length co23] 29 (0, 0)) q51_24))) <| ac_ ((nl_ hg (blk_lt (g := gb1081) (o := .cells #[.int .i64 t1078, .int .i64 t1079] 48 (0, 0)) q51_25))) <| Aside0.mk ((ng_ hg (blk_lt (g := gb1081) (o := .cells #[.int .i64 t1078, .int .i64 t1079] 48 (0, 0)) q51_25))); clear HO1077 HO1085 BK1080 BK1081 HB; obtain ⟨HO1077, HO1085, BK1080, BK1081, HB, BK1088, GW1088, GE1088, NB1080_1088, NB1088_1080, NB1081_1088, NB1088_1081⟩ := n_; clear hb hbox hg; have hnb28 := NB1088_1080.out; have hnc28 := NB1080_1088.out; have hnb29 := NB1088_1081.out; have hnc29 := NB1081_1088.out; have hcz30_0 : w27.cell? ⟨gb1088, 0, none⟩ = some (.int .i64 0) := (blk_cell BK1088.out 0).trans rfl; have hcz30_1 : w27.cell? ⟨gb1088, 1, none⟩ = some (.int .i64 0) := (blk_cell BK1088.out 1).trans rfl; have hfz30_0 := blk_frozen BK1088.out 0; have hfz30_1 := blk_frozen BK1088.out 1; obtain ⟨Ao31, co31, eo31⟩ := Kd.R_slice HO1085.out; subst eo31) | ((with_reducible refine gate_callee (f := 68) rfl ?_); refine gL_ 68 46 Tryz.func68 #[.slice Ao31 t1083.length co31, .agg #[.int .i64 t1086, .int .i64 t1087]] ?_; (with_reducible refine (impl_Follows.calls k _ _ t1083 t1086 t1087 t1089 _ ?side1 ?side2 A7.out).mono ?_); (case side1 => refine (Kd.R_reads' (e := 48) (base := w.heap.size) (ok := fun k_ => ((True ∧ k_ ≠ gb1081) ∧ k_ ≠ gb1088)) (n := t1083.length) (c := co31) ?_).2.2; exact q51_6); (case side2 => exact (Kd.R_reads' HO1085.out).2.1); rintro e w32 ⟨rfl, hb⟩; refine ⟨_, rfl, ?_⟩; have n_ := ac_ (Kd.R_below (by (with_reducible repeat (first | apply Kd.R_alloc | apply Kd.R_drewN | apply Kd.R_drew)); exact (Kd.R_mono (Kd.R_far (p := ⟨gb1088, 1, none⟩) (Kd.R_far (p := ⟨gb1088, 0, none⟩) (Kd.R_types HO1077.out BK1088.out (by decide)) (fun _ hk => hk.2) (.int .i64 t1086)) (fun _ hk => hk.2) (.int .i64 t1087)) (fun _ h_ => h_.1))) hb) <| ac_ (Kd.R_below q51_6 hb) <| ac_ (blk_below (g := gb1080) (o := .cells #[.int .i64 t1074, .slice Ao23 t1075.length co23] 29 (0, 0)) (by (with_reducible repeat (first | refine blk_drewN ?_ _ | refine blk_drew ?_ | refine blk_alloc ?_ _)); refine blk_far ?_ NB1080_1088.out _; (with_reducible repeat (first | refine blk_drewN ?_ _ | refine blk_drew ?_ | refine blk_alloc ?_ _)); refine blk_far ?_ NB1080_1088.out _; (with_reducible repeat (first | refine blk_drewN ?_ _ | refine blk_drew ?_ | refine blk_alloc ?_ _)); exact BK1080.out) hb) <| ac_ (blk_below (g := gb1081) (o := .cells #[.int .i64 t1078, .int .i64 t1079] 48 (0, 0)) (by (with_reducible repeat (first | refine blk_drewN ?_ _ | refine blk_drew ?_ | refine blk_alloc ?_ _)); refine blk_far ?_ NB1081_1088.out _; (with_reducible repeat (first | refine blk_drewN ?_ _ | refine blk_drew ?_ | refine blk_alloc ?_ _)); refine blk_far ?_ NB1081_1088.out _; (with_reducible repeat (first | refine blk_drewN ?_ _ | refine blk_drew ?_ | refine blk_alloc ?_ _)); exact BK1081.out) hb) <| ac_ (blk_below (g := gb1088) (o := .cells #[.int .i64 t1086, .int .i64 t1087] 48 (0, 0)) (by (with_reducible repeat (first | refine blk_drewN ?_ _ | refine blk_drew ?_ | refine blk_alloc ?_ _)); refine blk_put (cs := #[.int .i64 t1086, .int .i64 0]) ?_ 1 _ rfl; (with_reducible repeat (first | refine blk_drewN ?_ _ | refine blk_drew ?_ | refine blk_alloc ?_ _)); refine blk_put (cs := #[.int .i64 0, .int .i64 0]) ?_ 0 _ rfl; (with_reducible repeat (first | refine blk_drewN ?_ _ | refine blk_drew ?_ | refine blk_alloc ?_ _)); exact BK1088.out) hb) <| Aside0.mk (below_step q51_10 hb); clear HO1077 HO1085 BK1080 BK1081 BK1088 HB; obtain ⟨HO1077, HO1085, BK1080, BK1081, BK1088, HB⟩ := n_; (try clear hb)) | ((with_reducible refine gate_callee (f := 69) rfl ?_); refine gL_ 69 49 Tryz.func69 #[.slice A0 l0.length c0] ?_; (with_reducible refine (spec_DrawClosedBy.calls k _ _ l0 t1090 t1091 _ ?side1 ?side2 A8.out).mono ?_); (case side1 => exact s12_); (case side2 => exact HC0.out); rintro e w33 ⟨v1092, rfl, ho0, hb⟩; refine ⟨_, rfl, ?_⟩; have n_ := ac_ (Kd.R_below q51_29 hb) <| ac_ (Kd.R_elder' q51_30 (Kd.R_base ho0) hb) <| ac_ (Kd.R_lower (Kd.R_newB (Kd.R_newB (Kd.R_new' ho0 (Kd.R_lt q51_30)) (g := gb1081) (o := .cells #[.int .i64 t1078, .int .i64 t1079] 48 (0, 0)) q51_25) (g := gb1088) (o := .cells #[.int .i64 t1086, .int .i64 t1087] 48 (0, 0)) q51_26) (below_size q51_10)) <| ac_ (blk_below (g := gb1080) (o := .cells #[.int .i64 t1074, .slice Ao23 t1075.length co23] 29 (0, 0)) q51_24 hb) <| ac_ (blk_below (g := gb1081) (o := .cells #[.int .i64 t1078, .int .i64 t1079] 48 (0, 0)) q51_25 hb) <| ac_ (blk_below (g := gb1088) (o := .cells #[.int .i64 t1086, .int .i64 t1087] 48 (0, 0)) q51_26 hb) <| Aside0.mk (below_step q51_10 hb); clear HO1077 HO1085 BK1080 BK1081 BK1088 HB; obtain ⟨HO1077, HO1085, HO1093, BK1080, BK1081, BK1088, HB⟩ := n_; (try clear hb ho0); obtain ⟨Ao34, co34, eo34⟩ := Kd.R_slice HO1093.out; subst eo34) | ((with_reducible refine gate_callee (f := 70) rfl ?_); refine gL_ 70 54 Tryz.func70 #[.slice Ao34 t1090.length co34, .int .i64 t1091] ?_; (with_reducible refine (impl_ClosedBy.calls k _ _ t1090 t1091 t1094 _ ?side1 ?side2 A9.out).mono ?_); (case side1 => exact q51_13); (case side2 => exact (Kd.R_reads' HO1093.out).2.1); rintro e w35 ⟨rfl, hb⟩; refine ⟨_, rfl, ?_⟩; have n_ := ac_ (Kd.R_below q51_29 hb) <| ac_ (Kd.R_below q51_30 hb) <| ac_ (Kd.R_below q51_31 hb) <| ac_ (blk_below (g := gb1080) (o := .cells #[.int .i64 t1074, .slice Ao23 t1075.length co23] 29 (0, 0)) q51_24 hb) <| ac_ (blk_below (g := gb1081) (o := .cells #[.int .i64 t1078, .int .i64 t1079] 48 (0, 0)) q51_25 hb) <| ac_ (blk_below (g := gb1088) (o := .cells #[.int .i64 t1086, .int .i64 t1087] 48 (0, 0)) q51_26 hb) <| Aside0.mk (below_step q51_10 hb); clear HO1077 HO1085 HO1093 BK1080 BK1081 BK1088 HB; obtain ⟨HO1077, HO1085, HO1093, BK1080, BK1081, BK1088, HB⟩ := n_; (try clear hb)) | ((with_reducible refine gate_callee (f := 71) rfl ?_); refine gL_ 71 57 Tryz.func71 #[.slice A0 l0.length c0] ?_; (with_reducible refine (spec_DrawRespects.calls k _ _ l0 t1095 t1096 t1097 _ ?side1 ?side2 A10.out).mono ?_); (case side1 => exact s12_); (case side2 => exact HC0.out); rintro e w36 ⟨rfl, hb⟩; refine ⟨_, rfl, ?_⟩; have n_ := ac_ (Kd.R_below q51_29 hb) <| ac_ (Kd.R_below q51_30 hb) <| ac_ (Kd.R_below q51_31 hb) <| ac_ (blk_below (g := gb1080) (o := .cells #[.int .i64 t1074, .slice Ao23 t1075.length co23] 29 (0, 0)) q51_24 hb) <| ac_ (blk_below (g := gb1081) (o := .cells #[.int .i64 t1078, .int .i64 t1079] 48 (0, 0)) q51_25 hb) <| ac_ (blk_below (g := gb1088) (o := .cells #[.int .i64 t1086, .int .i64 t1087] 48 (0, 0)) q51_26 hb) <| Aside0.mk (below_step q51_10 hb); clear HO1077 HO1085 HO1093 BK1080 BK1081 BK1088 HB; obtain ⟨HO1077, HO1085, HO1093, BK1080, BK1081, BK1088, HB⟩ := n_; (try clear hb)) | ((with_reducible refine gate_dst (N := 12) rfl ?_); (try (refine gate_guard (by rfl) ?_; dsimp only)); refine box_event ?hg (N := 12) ?hd (cs := #[.int .i64 0, .int .i64 0]) (t := 48) ?hr ?_; (case hd => rfl); (case hg => rfl); (case hr => first | (go_simp; done) | (go_simp; rfl)); intro gb1098 hg w37 hbox hb; have n_ := ac_ (Kd.R_below q51_29 hb) <| ac_ (Kd.R_below (Kd.R_elderB q51_30 gb1098 (Nat.le_of_eq hg.symm)) hb) <| ac_ (Kd.R_below (Kd.R_elderB q51_31 gb1098 (Nat.le_of_eq hg.symm)) hb) <| ac_ (blk_below (g := gb1080) (o := .cells #[.int .i64 t1074, .slice Ao23 t1075.length co23] 29 (0, 0)) q51_24 hb) <| ac_ (blk_below (g := gb1081) (o := .cells #[.int .i64 t1078, .int .i64 t1079] 48 (0, 0)) q51_25 hb) <| ac_ (blk_below (g := gb1088) (o := .cells #[.int .i64 t1086, .int .i64 t1087] 48 (0, 0)) q51_26 hb) <| ac_ (below_step q51_10 hb) <| ac_ (hbox) <| ac_ ((gz_ w hg q51_10)) <| ac_ ((gz_ w hg q51_10)) <| ac_ ((nl_ hg (blk_lt (g := gb1080) (o := .cells #[.int .i64 t1074, .slice Ao23 t1075.length co23] 29 (0, 0)) q51_24))) <| ac_ ((ng_ hg (blk_lt (g := gb1080) (o := .cells #[.int .i64 t1074, .slice Ao23 t1075.length co23] 29 (0, 0)) q51_24))) <| ac_ ((nl_ hg (blk_lt (g := gb1081) (o := .cells #[.int .i64 t1078, .int .i64 t1079] 48 (0, 0)) q51_25))) <| ac_ ((ng_ hg (blk_lt (g := gb1081) (o := .cells #[.int .i64 t1078, .int .i64 t1079] 48 (0, 0)) q51_25))) <| ac_ ((nl_ hg (blk_lt (g := gb1088) (o := .cells #[.int .i64 t1086, .int .i64 t1087] 48 (0, 0)) q51_26))) <| Aside0.mk ((ng_ hg (blk_lt (g := gb1088) (o := .cells #[.int .i64 t1086, .int .i64 t1087] 48 (0, 0)) q51_26))); clear HO1077 HO1085 HO1093 BK1080 BK1081 BK1088 HB; obtain ⟨HO1077, HO1085, HO1093, BK1080, BK1081, BK1088, HB, BK1098, GW1098, GE1098, NB1080_1098, NB1098_1080, NB1081_1098, NB1098_1081, NB1088_1098, NB1098_1088⟩ := n_; clear hb hbox hg; have hnb38 := NB1098_1080.out; have hnc38 := NB1080_1098.out; have hnb39 := NB1098_1081.out; have hnc39 := NB1081_1098.out; have hnb40 := NB1098_1088.out; have hnc40 := NB1088_1098.out; have hcz41_0 : w37.cell? ⟨gb1098, 0, none⟩ = some (.int .i64 0) := (blk_cell BK1098.out 0).trans rfl; have hcz41_1 : w37.cell? ⟨gb1098, 1, none⟩ = some (.int .i64 0) := (blk_cell BK1098.out 1).trans rfl; have hfz41_0 := blk_frozen BK1098.out 0; have hfz41_1 := blk_frozen BK1098.out 1) | ((with_reducible refine gate_callee (f := 72) rfl ?_); refine gL_ 72 62 Tryz.func72 #[.slice A0 l0.length c0] ?_; (with_reducible refine (spec_DrawAreRules.calls k _ _ l0 t1099 t1100 _ ?side1 ?side2 A11.out).mono ?_); (case side1 => exact Kd.C_below HR0.out q51_9); (case side2 => exact HC0.out); rintro e w42 ⟨v1101, rfl, ho0, hb⟩; refine ⟨_, rfl, ?_⟩; have n_ := ac_ (Kd.R_below (by (with_reducible repeat (first | apply Kd.R_alloc | apply Kd.R_drewN | apply Kd.R_drew)); exact (Kd.R_mono (Kd.R_far (p := ⟨gb1098, 1, none⟩) (Kd.R_far (p := ⟨gb1098, 0, none⟩) (Kd.R_types HO1077.out BK1098.out (by decide)) (fun _ hk => hk.2) (.int .i64 t1095)) (fun _ hk => hk.2) (.int .i64 t1096)) (fun _ h_ => h_.1))) hb) <| ac_ (Kd.R_elder' q51_7 (Kd.R_base ho0) hb) <| ac_ (Kd.R_elder' q51_8 (Kd.R_base ho0) hb) <| ac_ (Kd.R_lower (Kd.R_newB (Kd.R_newB (Kd.R_newB (Kd.R_new' (Kd.R_new' ho0 (Kd.R_lt q51_7)) (Kd.R_lt q51_8)) (g := gb1081) (o := .cells #[.int .i64 t1078, .int .i64 t1079] 48 (0, 0)) q51_4) (g := gb1088) (o := .cells #[.int .i64 t1086, .int .i64 t1087] 48 (0, 0)) q51_5) (g := gb1098) (o := .cells #[.int .i64 t1095, .int .i64 t1096] 48 (0, 0)) q51_3) (below_size q51_9)) <| ac_ (blk_below (g := gb1080) (o := .cells #[.int .i64 t1074, .slice Ao23 t1075.length co23] 29 (0, 0)) (by (with_reducible repeat (first | refine blk_drewN ?_ _ | refine blk_drew ?_ | refine blk_alloc ?_ _)); refine blk_far ?_ NB1080_1098.out _; (with_reducible repeat (first | refine blk_drewN ?_ _ | refine blk_drew ?_ | refine blk_alloc ?_ _)); refine blk_far ?_ NB1080_1098.out _; (with_reducible repeat (first | refine blk_drewN ?_ _ | refine blk_drew ?_ | refine blk_alloc ?_ _)); exact BK1080.out) hb) <| ac_ (blk_below (g := gb1081) (o := .cells #[.int .i64 t1078, .int .i64 t1079] 48 (0, 0)) q51_4 hb) <| ac_ (blk_below (g := gb1088) (o := .cells #[.int .i64 t1086, .int .i64 t1087] 48 (0, 0)) q51_5 hb) <| ac_ (blk_below (g := gb1098) (o := .cells #[.int .i64 t1095, .int .i64 t1096] 48 (0, 0)) q51_3 hb) <| Aside0.mk (below_step q51_9 hb); clear HO1077 HO1085 HO1093 BK1080 BK1081 BK1088 BK1098 HB; obtain ⟨HO1077, HO1085, HO1093, HO1102, BK1080, BK1081, BK1088, BK1098, HB⟩ := n_; (try clear hb ho0)) | ((with_reducible refine gate_callee (f := 73) rfl ?_); refine gL_ 73 66 Tryz.func73 #[.slice A0 l0.length c0] ?_; (with_reducible refine (spec_DrawParseRules.calls k _ _ l0 t1103 _ ?side1 ?side2 A12.out).mono ?_); (case side1 => exact s12_); (case side2 => exact HC0.out); rintro e w43 ⟨rfl, hb⟩; refine ⟨_, rfl, ?_⟩; have n_ := ac_ (Kd.R_below q51_29 hb) <| ac_ (Kd.R_below q51_30 hb) <| ac_ (Kd.R_below q51_31 hb) <| ac_ (Kd.R_below q51_32 hb) <| ac_ (blk_below (g := gb1080) (o := .cells #[.int .i64 t1074, .slice Ao23 t1075.length co23] 29 (0, 0)) q51_24 hb) <| ac_ (blk_below (g := gb1081) (o := .cells #[.int .i64 t1078, .int .i64 t1079] 48 (0, 0)) q51_25 hb) <| ac_ (blk_below (g := gb1088) (o := .cells #[.int .i64 t1086, .int .i64 t1087] 48 (0, 0)) q51_26 hb) <| ac_ (blk_below (g := gb1098) (o := .cells #[.int .i64 t1095, .int .i64 t1096] 48 (0, 0)) q51_27 hb) <| Aside0.mk (below_step q51_9 hb); clear HO1077 HO1085 HO1093 HO1102 BK1080 BK1081 BK1088 BK1098 HB; obtain ⟨HO1077, HO1085, HO1093, HO1102, BK1080, BK1081, BK1088, BK1098, HB⟩ := n_; (try clear hb)) | ((with_reducible refine gate_callee (f := 74) rfl ?_); refine gL_ 74 69 Tryz.func74 #[.string t1103] ?_; (with_reducible refine (impl_ParseRules.calls k t1103 t1104 t1105 _ ?tab A13.out).mono ?_); (case tab => first | exact HTB.out | (refine TabMax.below HTB.out ?_; repeat (first | (with_reducible first | exact HB.out | apply below_alloc | apply pw_below_drewN | apply below_drew1 | refine below_set ?_ GE1080.out | refine below_set ?_ GE1081.out | refine below_set ?_ GE1088.out | refine below_set ?_ GE1098.out) | exact HB.out)) | (repeat (first | exact HTB.out | apply TabMax.drewN | apply TabMax.drew | apply TabMax.alloc))); rintro e w44 ⟨v1106, rfl, ho0, hb⟩; refine ⟨_, rfl, ?_⟩; have n_ := ac_ (Kd.R_below q51_29 hb) <| ac_ (Kd.R_elder' q51_30 (Kd.R_base ho0) hb) <| ac_ (Kd.R_elder' q51_31 (Kd.R_base ho0) hb) <| ac_ (Kd.R_elder' q51_32 (Kd.R_base ho0) hb) <| ac_ (Kd.R_lower (Kd.R_newB (Kd.R_newB (Kd.R_newB (Kd.R_new' (Kd.R_new' (Kd.R_new' ho0 (Kd.R_lt q51_30)) (Kd.R_lt q51_31)) (Kd.R_lt q51_32)) (g := gb1081) (o := .cells #[.int .i64 t1078, .int .i64 t1079] 48 (0, 0)) q51_25) (g := gb1088) (o := .cells #[.int .i64 t1086, .int .i64 t1087] 48 (0, 0)) q51_26) (g := gb1098) (o := .cells #[.int .i64 t1095, .int .i64 t1096] 48 (0, 0)) q51_27) (below_size q51_9)) <| ac_ (blk_below (g := gb1080) (o := .cells #[.int .i64 t1074, .slice Ao23 t1075.length co23] 29 (0, 0)) q51_24 hb) <| ac_ (blk_below (g := gb1081) (o := .cells #[.int .i64 t1078, .int .i64 t1079] 48 (0, 0)) q51_25 hb) <| ac_ (blk_below (g := gb1088) (o := .cells #[.int .i64 t1086, .int .i64 t1087] 48 (0, 0)) q51_26 hb) <| ac_ (blk_below (g := gb1098) (o := .cells #[.int .i64 t1095, .int .i64 t1096] 48 (0, 0)) q51_27 hb) <| Aside0.mk (below_step q51_9 hb); clear HO1077 HO1085 HO1093 HO1102 BK1080 BK1081 BK1088 BK1098 HB; obtain ⟨HO1077, HO1085, HO1093, HO1102, HO1107, BK1080, BK1081, BK1088, BK1098, HB⟩ := n_; (try clear hb ho0)) | ((with_reducible refine gate_callee (f := 75) rfl ?_); refine gL_ 75 74 Tryz.func75 #[.string t1103] ?_; (with_reducible refine (spec_ParseRules.calls k t1103 t1108 t1109 _ A14.out).mono ?_); rintro e w45 ⟨v1110, rfl, ho0, hb⟩; refine ⟨_, rfl, ?_⟩; have n_ := ac_ (Kd.R_below q51_29 hb) <| ac_ (Kd.R_elder' q51_30 (Kd.R_base ho0) hb) <| ac_ (Kd.R_elder' q51_31 (Kd.R_base ho0) hb) <| ac_ (Kd.R_elder' q51_32 (Kd.R_base ho0) hb) <| ac_ (Kd.R_elder' q51_33 (Kd.R_base ho0) hb) <| ac_ (Kd.R_lower (Kd.R_newB (Kd.R_newB (Kd.R_newB (Kd.R_new' (Kd.R_new' (Kd.R_new' (Kd.R_new' ho0 (Kd.R_lt q51_30)) (Kd.R_lt q51_31)) (Kd.R_lt q51_32)) (Kd.R_lt q51_33)) (g := gb1081) (o := .cells #[.int .i64 t1078, .int .i64 t1079] 48 (0, 0)) q51_25) (g := gb1088) (o := .cells #[.int .i64 t1086, .int .i64 t1087] 48 (0, 0)) q51_26) (g := gb1098) (o := .cells #[.int .i64 t1095, .int .i64 t1096] 48 (0, 0)) q51_27) (below_size q51_9)) <| ac_ (blk_below (g := gb1080) (o := .cells #[.int .i64 t1074, .slice Ao23 t1075.length co23] 29 (0, 0)) q51_24 hb) <| ac_ (blk_below (g := gb1081) (o := .cells #[.int .i64 t1078, .int .i64 t1079] 48 (0, 0)) q51_25 hb) <| ac_ (blk_below (g := gb1088) (o := .cells #[.int .i64 t1086, .int .i64 t1087] 48 (0, 0)) q51_26 hb) <| ac_ (blk_below (g := gb1098) (o := .cells #[.int .i64 t1095, .int .i64 t1096] 48 (0, 0)) q51_27 hb) <| Aside0.mk (below_step q51_9 hb); clear HO1077 HO1085 HO1093 HO1102 HO1107 BK1080 BK1081 BK1088 BK1098 HB; obtain ⟨HO1077, HO1085, HO1093, HO1102, HO1107, HO1111, BK1080, BK1081, BK1088, BK1098, HB⟩ := n_; (try clear hb ho0)) | ((with_reducible refine gate_callee (f := 76) rfl ?_); refine gL_ 76 78 Tryz.func76 #[.slice A0 l0.length c0] ?_; (with_reducible refine (spec_DrawRulesText.calls k _ _ l0 t1112 _ ?side1 ?side2 A15.out).mono ?_); (case side1 => exact s12_); (case side2 => exact HC0.out); rintro e w46 ⟨v1113, rfl, ho0, hb⟩; refine ⟨_, rfl, ?_⟩; have n_ := ac_ (Kd.R_below q51_29 hb) <| ac_ (Kd.R_elder' q51_30 (Kd.R_base ho0) hb) <| ac_ (Kd.R_elder' q51_31 (Kd.R_base ho0) hb) <| ac_ (Kd.R_elder' q51_32 (Kd.R_base ho0) hb) <| ac_ (Kd.R_elder' q51_33 (Kd.R_base ho0) hb) <| ac_ (Kd.R_elder' q51_34 (Kd.R_base ho0) hb) <| ac_ (Kd.R_lower (Kd.R_newB (Kd.R_newB (Kd.R_newB (Kd.R_new' (Kd.R_new' (Kd.R_new' (Kd.R_new' (Kd.R_new' ho0 (Kd.R_lt q51_30)) (Kd.R_lt q51_31)) (Kd.R_lt q51_32)) (Kd.R_lt q51_33)) (Kd.R_lt q51_34)) (g := gb1081) (o := .cells #[.int .i64 t1078, .int .i64 t1079] 48 (0, 0)) q51_25) (g := gb1088) (o := .cells #[.int .i64 t1086, .int .i64 t1087] 48 (0, 0)) q51_26) (g := gb1098) (o := .cells #[.int .i64 t1095, .int .i64 t1096] 48 (0, 0)) q51_27) (below_size q51_9)) <| ac_ (blk_below (g := gb1080) (o := .cells #[.int .i64 t1074, .slice Ao23 t1075.length co23] 29 (0, 0)) q51_24 hb) <| ac_ (blk_below (g := gb1081) (o := .cells #[.int .i64 t1078, .int .i64 t1079] 48 (0, 0)) q51_25 hb) <| ac_ (blk_below (g := gb1088) (o := .cells #[.int .i64 t1086, .int .i64 t1087] 48 (0, 0)) q51_26 hb) <| ac_ (blk_below (g := gb1098) (o := .cells #[.int .i64 t1095, .int .i64 t1096] 48 (0, 0)) q51_27 hb) <| Aside0.mk (below_step q51_9 hb); clear HO1077 HO1085 HO1093 HO1102 HO1107 HO1111 BK1080 BK1081 BK1088 BK1098 HB; obtain ⟨HO1077, HO1085, HO1093, HO1102, HO1107, HO1111, HO1114, BK1080, BK1081, BK1088, BK1098, HB⟩ := n_; (try clear hb ho0); obtain ⟨Ao47, co47, eo47⟩ := Kd.R_slice HO1114.out; subst eo47) | ((with_reducible refine gate_callee (f := 77) rfl ?_); refine gL_ 77 80 Tryz.func77 #[.slice Ao47 t1112.length co47] ?_; (with_reducible refine (impl_RulesText.calls k _ _ t1112 t1115 _ ?side1 ?side2 A16.out).mono ?_); (case side1 => exact q51_15); (case side2 => exact (Kd.R_reads' HO1114.out).2.1); rintro e w48 ⟨rfl, hb⟩; refine ⟨_, rfl, ?_⟩; have n_ := ac_ (Kd.R_below q51_29 hb) <| ac_ (Kd.R_below q51_30 hb) <| ac_ (Kd.R_below q51_31 hb) <| ac_ (Kd.R_below q51_32 hb) <| ac_ (Kd.R_below q51_33 hb) <| ac_ (Kd.R_below q51_34 hb) <| ac_ (Kd.R_below q51_35 hb) <| ac_ (blk_below (g := gb1080) (o := .cells #[.int .i64 t1074, .slice Ao23 t1075.length co23] 29 (0, 0)) q51_24 hb) <| ac_ (blk_below (g := gb1081) (o := .cells #[.int .i64 t1078, .int .i64 t1079] 48 (0, 0)) q51_25 hb) <| ac_ (blk_below (g := gb1088) (o := .cells #[.int .i64 t1086, .int .i64 t1087] 48 (0, 0)) q51_26 hb) <| ac_ (blk_below (g := gb1098) (o := .cells #[.int .i64 t1095, .int .i64 t1096] 48 (0, 0)) q51_27 hb) <| Aside0.mk (below_step q51_9 hb); clear HO1077 HO1085 HO1093 HO1102 HO1107 HO1111 HO1114 BK1080 BK1081 BK1088 BK1098 HB; obtain ⟨HO1077, HO1085, HO1093, HO1102, HO1107, HO1111, HO1114, BK1080, BK1081, BK1088, BK1098, HB⟩ := n_; (try clear hb)))
  (try simp only [Act.put, List.setIfInBounds_toArray, List.set_cons_zero, List.set_cons_succ])
  go_cut [141] (fun v141 wc => ∃ (kq : Nat) (x141_16 : Bool), v141 = .bool x141_16 ∧ Aside0 (laws_FnRules.j0 kq t1082 t1083 t1089 t1112 t1115 x141_16 t1074 t1075 t1078 t1079 t1086 t1087 = some r) ∧ Aside0 (kq ≤ k) ∧ Aside0 (Kd.R k48 48 wc w.heap.size (fun k_ => some k_ ≠ ((.slice Ao47 t1112.length co47) : Value).ownBlock ∧ k_ ≠ gb1081 ∧ k_ ≠ gb1088) (.slice Ao31 t1083.length co31) t1083) ∧ Aside0 (Kd.R k48 48 wc w.heap.size (fun k_ => some k_ ≠ ((.slice Ao31 t1083.length co31) : Value).ownBlock ∧ k_ ≠ gb1081 ∧ k_ ≠ gb1088) (.slice Ao47 t1112.length co47) t1112) ∧ Aside0 (Kd.R (Kd.int .i64) 3 wc w.heap.size (fun _ => True) (.slice Ao23 t1075.length co23) t1075) ∧ Aside0 (wc.heap[gb1080]? = some (.cells #[.int .i64 t1074, (.slice Ao23 t1075.length co23)] 29 (0, 0))) ∧ Aside0 (wc.heap[gb1081]? = some (.cells #[.int .i64 t1078, .int .i64 t1079] 48 (0, 0))) ∧ Aside0 (wc.heap[gb1088]? = some (.cells #[.int .i64 t1086, .int .i64 t1087] 48 (0, 0))) ∧ Aside0 (Below w.heap.size w wc))
  case first => as_aux_lemma =>
   have H := HC17.out; clear HC17; obtain ⟨t1116, A49, H⟩ := bnd51_ H
   by_cases c50 : (t1082 != t1116) = true
   ·
    rw [if_pos c50] at H; have c50b0 : (t1082 != t1116) = true := c50
    (try (have c50b1 : decide (t1082 = t1116) = false := by simpa using c50))
    (try (have c50b2 : (t1082 == t1116) = false := by simpa using c50))
    (try (have c50b3 : ¬ (t1082 = t1116) := by simpa using c50))
    clear c50
    (first | rw [c50b0] | (simp only [i64_w, i32_w]; rw [c50b0]) | skip)
    refine absurd ?_ Bool.false_ne_true; revert H; generalize k = kq_; intro H; cases kq_ with | zero => exact absurd H q51_39 | succ kq_ => simp only [laws_FnRules.j0] at H; (try rw [if_pos rfl] at H); exact (Option.some.inj H).trans HRT.out
   ·
    rw [if_neg c50] at H
    have c50b0 : (t1082 != t1116) = false := by simpa using c50
    (try (have c50b1 : decide (t1082 = t1116) = true := by simpa using c50))
    (try (have c50b2 : (t1082 == t1116) = true := by simpa using c50))
    clear c50
    (first | rw [c50b0] | (simp only [i64_w, i32_w]; rw [c50b0]) | skip)
    obtain ⟨t1117, A51, H⟩ := bnd51_ H
    by_cases c52 : (t1089 != t1117) = true
    ·
     rw [if_pos c52] at H; have c52b0 : (t1089 != t1117) = true := c52
     (try (have c52b1 : decide (t1089 = t1117) = false := by simpa using c52))
     (try (have c52b2 : (t1089 == t1117) = false := by simpa using c52))
     (try (have c52b3 : ¬ (t1089 = t1117) := by simpa using c52))
     clear c52
     refine absurd ?_ Bool.false_ne_true; revert H; generalize k = kq_; intro H; cases kq_ with | zero => exact absurd H q51_39 | succ kq_ => simp only [laws_FnRules.j0] at H; (try rw [if_pos rfl] at H); exact (Option.some.inj H).trans HRT.out
    ·
     rw [if_neg c52] at H
     have c52b0 : (t1089 != t1117) = false := by simpa using c52
     (try (have c52b1 : decide (t1089 = t1117) = true := by simpa using c52))
     (try (have c52b2 : (t1089 == t1117) = true := by simpa using c52))
     clear c52; obtain ⟨t1118, A53, H⟩ := bnd51_ H
     by_cases c54 : t1094 = t1118
     ·
      rw [if_pos c54] at H; have c54b0 : (t1094 == t1118) = true := beq_iff_eq.mpr c54; have c54b1 : (t1094 != t1118) = false := bne_eq_false_iff_eq.mpr c54; clear c54; obtain ⟨t1119, A55, H⟩ := bnd51_ H; obtain ⟨t1120, A56, H⟩ := bnd51_ H
      by_cases c57 : (t1119 != t1120) = true
      ·
       rw [if_pos c57] at H; have c57b0 : (t1119 != t1120) = true := c57
       (try (have c57b1 : decide (t1119 = t1120) = false := by simpa using c57))
       (try (have c57b2 : (t1119 == t1120) = false := by simpa using c57))
       (try (have c57b3 : ¬ (t1119 = t1120) := by simpa using c57))
       clear c57
       refine absurd ?_ Bool.false_ne_true; revert H; generalize k = kq_; intro H; cases kq_ with | zero => exact absurd H q51_39 | succ kq_ => simp only [laws_FnRules.j0] at H; (try rw [if_pos rfl] at H); exact (Option.some.inj H).trans HRT.out
      ·
       rw [if_neg c57] at H
       have c57b0 : (t1119 != t1120) = false := by simpa using c57
       (try (have c57b1 : decide (t1119 = t1120) = true := by simpa using c57))
       (try (have c57b2 : (t1119 == t1120) = true := by simpa using c57))
       clear c57; obtain ⟨t1121, A58, H⟩ := bnd51_ H; obtain ⟨t1122, A59, H⟩ := bnd51_ H
       by_cases c60 : (t1121 != t1122) = true
       ·
        rw [if_pos c60] at H; have c60b0 : (t1121 != t1122) = true := c60
        (try (have c60b1 : decide (t1121 = t1122) = false := by simpa using c60))
        (try (have c60b2 : (t1121 == t1122) = false := by simpa using c60))
        (try (have c60b3 : ¬ (t1121 = t1122) := by simpa using c60))
        clear c60
        refine absurd ?_ Bool.false_ne_true; revert H; generalize k = kq_; intro H; cases kq_ with | zero => exact absurd H q51_39 | succ kq_ => simp only [laws_FnRules.j0] at H; (try rw [if_pos rfl] at H); exact (Option.some.inj H).trans HRT.out
       ·
        rw [if_neg c60] at H
        have c60b0 : (t1121 != t1122) = false := by simpa using c60
        (try (have c60b1 : decide (t1121 = t1122) = true := by simpa using c60))
        (try (have c60b2 : (t1121 == t1122) = true := by simpa using c60))
        clear c60
        by_cases c61 : (t1105 != t1109) = true
        ·
         rw [if_pos c61] at H; have c61b0 : (t1105 != t1109) = true := c61
         (try (have c61b1 : decide (t1105 = t1109) = false := by simpa using c61))
         (try (have c61b2 : (t1105 == t1109) = false := by simpa using c61))
         (try (have c61b3 : ¬ (t1105 = t1109) := by simpa using c61))
         clear c61
         refine absurd ?_ Bool.false_ne_true; revert H; generalize k = kq_; intro H; cases kq_ with | zero => exact absurd H q51_39 | succ kq_ => simp only [laws_FnRules.j0] at H; (try rw [if_pos rfl] at H); exact (Option.some.inj H).trans HRT.out
        ·
         rw [if_neg c61] at H
         have c61b0 : (t1105 != t1109) = false := by simpa using c61
         (try (have c61b1 : decide (t1105 = t1109) = true := by simpa using c61))
         (try (have c61b2 : (t1105 == t1109) = true := by simpa using c61))
         clear c61; obtain ⟨t1123, A62, H⟩ := bnd51_ H
         by_cases c63 : t1123 = true
         ·
          subst c63; rw [if_pos rfl] at H; obtain ⟨t1124, A64, H⟩ := bnd51_ H
          by_cases c65 : t1115.toList = t1124.toList
          ·
           rw [if_pos c65] at H; have c65b0 : (t1115.toList == t1124.toList) = true := beq_iff_eq.mpr c65; have c65b1 : (t1115.toList != t1124.toList) = false := bne_eq_false_iff_eq.mpr c65; clear c65; obtain ⟨t1125, A66, H⟩ := bnd51_ H; obtain ⟨t1126, A67, H⟩ := bnd51_ H; have H' := Aside0.mk H; clear H
           try go_wp2
           have n0_ := Aside0.mk (Kd.R_drew HO1077.out); have n1_ := Aside0.mk (Kd.R_drew HO1085.out); have n2_ := Aside0.mk (Kd.R_drew HO1093.out); have n3_ := Aside0.mk (Kd.R_drew HO1102.out); have n4_ := Aside0.mk (Kd.R_drew HO1107.out); have n5_ := Aside0.mk (Kd.R_drew HO1111.out); have n6_ := Aside0.mk (Kd.R_drew HO1114.out); have n7_ := Aside0.mk (blk_drew BK1080.out); have n8_ := Aside0.mk (blk_drew BK1081.out); have n9_ := Aside0.mk (blk_drew BK1088.out); have n10_ := Aside0.mk (blk_drew BK1098.out); have n11_ := Aside0.mk (below_drew1 HB.out); clear HO1077; clear HO1085; clear HO1093; clear HO1102; clear HO1107; clear HO1111; clear HO1114; clear BK1080; clear BK1081; clear BK1088; clear BK1098; clear HB; have HO1077 := n0_; have HO1085 := n1_; have HO1093 := n2_; have HO1102 := n3_; have HO1107 := n4_; have HO1111 := n5_; have HO1114 := n6_; have BK1080 := n7_; have BK1081 := n8_; have BK1088 := n9_; have BK1098 := n10_; have HB := n11_
           clear n0_ n1_ n2_ n3_ n4_ n5_ n6_ n7_ n8_ n9_ n10_ n11_
           refine start_ (n := 61) (S := fun w' => w'.cell? ⟨gb1080, 0, none⟩ = some (.int .i64 t1074) ∧ w'.cell? ⟨gb1080, 1, none⟩ = some (.slice Ao23 t1075.length co23) ∧ w'.cell? ⟨gb1081, 0, none⟩ = some (.int .i64 t1078) ∧ w'.cell? ⟨gb1081, 1, none⟩ = some (.int .i64 t1079) ∧ w'.cell? ⟨gb1088, 0, none⟩ = some (.int .i64 t1086) ∧ w'.cell? ⟨gb1088, 1, none⟩ = some (.int .i64 t1087) ∧ w'.cell? ⟨gb1098, 0, none⟩ = some (.int .i64 t1095) ∧ w'.cell? ⟨gb1098, 1, none⟩ = some (.int .i64 t1096)) (ds := []) (tb_ 61 0) s10_ rfl rfl ⟨(blk_cell BK1080.out 0).trans rfl, (blk_cell BK1080.out 1).trans rfl, (blk_cell BK1081.out 0).trans rfl, (blk_cell BK1081.out 1).trans rfl, (blk_cell BK1088.out 0).trans rfl, (blk_cell BK1088.out 1).trans rfl, (blk_cell BK1098.out 0).trans rfl, (blk_cell BK1098.out 1).trans rfl⟩ (fun hHeld => ?_); refine with_tabW laws_FnRules.tab16 laws_FnRules.bits16 (fun HT_ HW_ => ?_)
           generalize w48.drew = w68 at HO1077 HO1085 HO1093 HO1102 HO1107 HO1111 HO1114 BK1080 BK1081 BK1088 BK1098 HB hHeld ⊢
           refine pl_ 0 81 (tb_ 61 1) ?_; refine tk_ 1 82 (tb_ 61 3) hHeld ?_; refine tk_ 2 83 (tb_ 61 7) hHeld ?_
           refine on_ 3 84 (tb_ 61 15) (fun K hK => ?_)
           refine goes_ Tryz.func78 s10_ rfl #[.agg #[.int .i64 t1074, .slice Ao23 t1075.length co23], .agg #[.int .i64 t1078, .int .i64 t1079]] (by rfl) rfl rfl s0_ ?_
           with_reducible refine (spec_HoldsIn.calls k t1074 _ _ t1075 t1078 t1079 t1116 _ ?side1 ?side2 A49.out).mono ?_
           (case side1 => repeat (first | exact (Kd.R_reads' HO1077.out).2.2 | (with_reducible refine Kd.C_alloc ?_ _) | (with_reducible refine Kd.C_drewN ?_ _) | (with_reducible refine Kd.C_drew ?_)))
           (case side2 => exact (Kd.R_reads' HO1077.out).2.1)
           rintro e w69 ⟨rfl, hb⟩
           refine ⟨_, rfl, ?_⟩
           have n0_ := Aside0.mk (Kd.R_below q51_29 hb); have n1_ := Aside0.mk (Kd.R_below q51_30 hb); have n2_ := Aside0.mk (Kd.R_below q51_31 hb); have n3_ := Aside0.mk (Kd.R_below q51_32 hb); have n4_ := Aside0.mk (Kd.R_below q51_33 hb); have n5_ := Aside0.mk (Kd.R_below q51_34 hb); have n6_ := Aside0.mk (Kd.R_below q51_35 hb); have n7_ := Aside0.mk (blk_below (g := gb1080) (o := .cells #[.int .i64 t1074, .slice Ao23 t1075.length co23] 29 (0, 0)) q51_24 hb); have n8_ := Aside0.mk (blk_below (g := gb1081) (o := .cells #[.int .i64 t1078, .int .i64 t1079] 48 (0, 0)) q51_25 hb); have n9_ := Aside0.mk (blk_below (g := gb1088) (o := .cells #[.int .i64 t1086, .int .i64 t1087] 48 (0, 0)) q51_26 hb); have n10_ := Aside0.mk (blk_below (g := gb1098) (o := .cells #[.int .i64 t1095, .int .i64 t1096] 48 (0, 0)) q51_27 hb); have n11_ := Aside0.mk (below_step q51_9 hb); clear HO1077; clear HO1085; clear HO1093; clear HO1102; clear HO1107; clear HO1111; clear HO1114; clear BK1080; clear BK1081
           clear BK1088; clear BK1098; clear HB; have HO1077 := n0_; have HO1085 := n1_; have HO1093 := n2_; have HO1102 := n3_; have HO1107 := n4_; have HO1111 := n5_; have HO1114 := n6_; have BK1080 := n7_; have BK1081 := n8_; have BK1088 := n9_; have BK1098 := n10_; have HB := n11_; clear n0_ n1_ n2_ n3_ n4_ n5_ n6_ n7_ n8_ n9_ n10_ n11_
           (try clear hb)
           (try clear hb2)
           (try clear hk)
           (try clear hi)
           refine hK.out _ _ ⟨(blk_cell BK1080.out 0).trans rfl, (blk_cell BK1080.out 1).trans rfl, (blk_cell BK1081.out 0).trans rfl, (blk_cell BK1081.out 1).trans rfl, (blk_cell BK1088.out 0).trans rfl, (blk_cell BK1088.out 1).trans rfl, (blk_cell BK1098.out 0).trans rfl, (blk_cell BK1098.out 1).trans rfl⟩ (fun hHeld => ?_)
           clear hK K
           refine norm_ (a' := ?_) ?_ ?_
           rotate_left
           ·
            show Act.put _ (some 84) _ = _
            exact s9_
           refine pl_ 4 85 (tb_ 61 31) ?_; refine pl_ 5 86 (tb_ 61 63) ?_; refine pl_ 6 87 (tb_ 61 127) ?_; refine pl_ 7 88 (tb_ 61 255) ?_; refine tk_ 8 89 (tb_ 61 511) hHeld ?_
           refine on_ 9 90 (tb_ 61 1023) (fun K hK => ?_)
           refine goes_ Tryz.func49 s10_ rfl #[.slice Ao31 t1083.length co31, .agg #[.int .i64 t1086, .int .i64 t1087]] (by rfl) rfl rfl s0_ ?_
           with_reducible refine (spec_Follows.calls k _ _ t1083 t1086 t1087 t1117 _ ?side1 ?side2 A51.out).mono ?_
           (case side1 => repeat (first | exact (Kd.R_reads' HO1085.out).2.2 | (with_reducible refine Kd.C_alloc ?_ _) | (with_reducible refine Kd.C_drewN ?_ _) | (with_reducible refine Kd.C_drew ?_)))
           (case side2 => exact (Kd.R_reads' HO1085.out).2.1)
           rintro e w70 ⟨rfl, hb⟩
           refine ⟨_, rfl, ?_⟩
           have n0_ := Aside0.mk (Kd.R_below q51_29 hb); have n1_ := Aside0.mk (Kd.R_below q51_30 hb); have n2_ := Aside0.mk (Kd.R_below q51_31 hb); have n3_ := Aside0.mk (Kd.R_below q51_32 hb); have n4_ := Aside0.mk (Kd.R_below q51_33 hb); have n5_ := Aside0.mk (Kd.R_below q51_34 hb); have n6_ := Aside0.mk (Kd.R_below q51_35 hb); have n7_ := Aside0.mk (blk_below (g := gb1080) (o := .cells #[.int .i64 t1074, .slice Ao23 t1075.length co23] 29 (0, 0)) q51_24 hb); have n8_ := Aside0.mk (blk_below (g := gb1081) (o := .cells #[.int .i64 t1078, .int .i64 t1079] 48 (0, 0)) q51_25 hb); have n9_ := Aside0.mk (blk_below (g := gb1088) (o := .cells #[.int .i64 t1086, .int .i64 t1087] 48 (0, 0)) q51_26 hb); have n10_ := Aside0.mk (blk_below (g := gb1098) (o := .cells #[.int .i64 t1095, .int .i64 t1096] 48 (0, 0)) q51_27 hb); have n11_ := Aside0.mk (below_step q51_9 hb); clear HO1077; clear HO1085; clear HO1093; clear HO1102; clear HO1107; clear HO1111; clear HO1114; clear BK1080; clear BK1081
           clear BK1088; clear BK1098; clear HB; have HO1077 := n0_; have HO1085 := n1_; have HO1093 := n2_; have HO1102 := n3_; have HO1107 := n4_; have HO1111 := n5_; have HO1114 := n6_; have BK1080 := n7_; have BK1081 := n8_; have BK1088 := n9_; have BK1098 := n10_; have HB := n11_; clear n0_ n1_ n2_ n3_ n4_ n5_ n6_ n7_ n8_ n9_ n10_ n11_
           (try clear hb)
           (try clear hb2)
           (try clear hk)
           (try clear hi)
           refine hK.out _ _ ⟨(blk_cell BK1080.out 0).trans rfl, (blk_cell BK1080.out 1).trans rfl, (blk_cell BK1081.out 0).trans rfl, (blk_cell BK1081.out 1).trans rfl, (blk_cell BK1088.out 0).trans rfl, (blk_cell BK1088.out 1).trans rfl, (blk_cell BK1098.out 0).trans rfl, (blk_cell BK1098.out 1).trans rfl⟩ (fun hHeld => ?_)
           clear hK K
           refine norm_ (a' := ?_) ?_ ?_
           rotate_left
           ·
            show Act.put _ (some 90) _ = _
            exact s9_
           refine pl_ 10 91 (tb_ 61 2047) ?_; refine pl_ 11 92 (tb_ 61 4095) ?_; refine pl_ 12 93 (tb_ 61 8191) ?_; refine pl_ 13 94 (tb_ 61 16383) ?_; refine pl_ 14 95 (tb_ 61 32767) ?_; refine pl_ 15 96 (tb_ 61 65535) ?_
           refine on_ 16 97 (tb_ 61 131071) (fun K hK => ?_)
           refine goes_ Tryz.func63 s10_ rfl #[.slice Ao34 t1090.length co34, .int .i64 t1091] (by rfl) rfl rfl s0_ ?_
           with_reducible refine (spec_ClosedBy.calls k _ _ t1090 t1091 t1118 _ ?side1 ?side2 A53.out).mono ?_
           (case side1 => exact q51_13)
           (case side2 => exact (Kd.R_reads' HO1093.out).2.1)
           rintro e w71 ⟨rfl, hb⟩
           refine ⟨_, rfl, ?_⟩
           have n0_ := Aside0.mk (Kd.R_below q51_29 hb); have n1_ := Aside0.mk (Kd.R_below q51_30 hb); have n2_ := Aside0.mk (Kd.R_below q51_31 hb); have n3_ := Aside0.mk (Kd.R_below q51_32 hb); have n4_ := Aside0.mk (Kd.R_below q51_33 hb); have n5_ := Aside0.mk (Kd.R_below q51_34 hb); have n6_ := Aside0.mk (Kd.R_below q51_35 hb); have n7_ := Aside0.mk (blk_below (g := gb1080) (o := .cells #[.int .i64 t1074, .slice Ao23 t1075.length co23] 29 (0, 0)) q51_24 hb); have n8_ := Aside0.mk (blk_below (g := gb1081) (o := .cells #[.int .i64 t1078, .int .i64 t1079] 48 (0, 0)) q51_25 hb); have n9_ := Aside0.mk (blk_below (g := gb1088) (o := .cells #[.int .i64 t1086, .int .i64 t1087] 48 (0, 0)) q51_26 hb); have n10_ := Aside0.mk (blk_below (g := gb1098) (o := .cells #[.int .i64 t1095, .int .i64 t1096] 48 (0, 0)) q51_27 hb); have n11_ := Aside0.mk (below_step q51_9 hb); clear HO1077; clear HO1085; clear HO1093; clear HO1102; clear HO1107; clear HO1111; clear HO1114; clear BK1080; clear BK1081
           clear BK1088; clear BK1098; clear HB; have HO1077 := n0_; have HO1085 := n1_; have HO1093 := n2_; have HO1102 := n3_; have HO1107 := n4_; have HO1111 := n5_; have HO1114 := n6_; have BK1080 := n7_; have BK1081 := n8_; have BK1088 := n9_; have BK1098 := n10_; have HB := n11_; clear n0_ n1_ n2_ n3_ n4_ n5_ n6_ n7_ n8_ n9_ n10_ n11_
           (try clear hb)
           (try clear hb2)
           (try clear hk)
           (try clear hi)
           refine hK.out _ _ ⟨(blk_cell BK1080.out 0).trans rfl, (blk_cell BK1080.out 1).trans rfl, (blk_cell BK1081.out 0).trans rfl, (blk_cell BK1081.out 1).trans rfl, (blk_cell BK1088.out 0).trans rfl, (blk_cell BK1088.out 1).trans rfl, (blk_cell BK1098.out 0).trans rfl, (blk_cell BK1098.out 1).trans rfl⟩ (fun hHeld => ?_)
           clear hK K
           refine norm_ (a' := ?_) ?_ ?_
           rotate_left
           ·
            show Act.put _ (some 97) _ = _
            exact s9_
           refine pl_ 17 98 (tb_ 61 262143) ?_; refine pl_ 18 99 (tb_ 61 524287) ?_; refine pl_ 19 100 (tb_ 61 1048575) ?_; refine pl_ 21 102 (tb_ 61 3145727) ?_; refine pl_ 24 105 (tb_ 61 19922943) ?_; refine tk_ 20 101 (tb_ 61 20971519) hHeld ?_; refine tk_ 23 104 (tb_ 61 29360127) hHeld ?_
           refine on_ 22 103 (tb_ 61 33554431) (fun K hK => ?_)
           refine goes_ Tryz.func79 s10_ rfl #[.agg #[.int .i64 t1095, .int .i64 t1096], .int .i64 t1097] (by rfl) rfl rfl s0_ ?_
           with_reducible refine (impl_Respects.calls t1095 t1096 t1097 t1119 _ A55.out).mono ?_
           rintro e w72 ⟨rfl, hb⟩
           refine ⟨_, rfl, ?_⟩
           have n0_ := Aside0.mk (Kd.R_below q51_29 hb); have n1_ := Aside0.mk (Kd.R_below q51_30 hb); have n2_ := Aside0.mk (Kd.R_below q51_31 hb); have n3_ := Aside0.mk (Kd.R_below q51_32 hb); have n4_ := Aside0.mk (Kd.R_below q51_33 hb); have n5_ := Aside0.mk (Kd.R_below q51_34 hb); have n6_ := Aside0.mk (Kd.R_below q51_35 hb); have n7_ := Aside0.mk (blk_below (g := gb1080) (o := .cells #[.int .i64 t1074, .slice Ao23 t1075.length co23] 29 (0, 0)) q51_24 hb); have n8_ := Aside0.mk (blk_below (g := gb1081) (o := .cells #[.int .i64 t1078, .int .i64 t1079] 48 (0, 0)) q51_25 hb); have n9_ := Aside0.mk (blk_below (g := gb1088) (o := .cells #[.int .i64 t1086, .int .i64 t1087] 48 (0, 0)) q51_26 hb); have n10_ := Aside0.mk (blk_below (g := gb1098) (o := .cells #[.int .i64 t1095, .int .i64 t1096] 48 (0, 0)) q51_27 hb); have n11_ := Aside0.mk (below_step q51_9 hb); clear HO1077; clear HO1085; clear HO1093; clear HO1102; clear HO1107; clear HO1111; clear HO1114; clear BK1080; clear BK1081
           clear BK1088; clear BK1098; clear HB; have HO1077 := n0_; have HO1085 := n1_; have HO1093 := n2_; have HO1102 := n3_; have HO1107 := n4_; have HO1111 := n5_; have HO1114 := n6_; have BK1080 := n7_; have BK1081 := n8_; have BK1088 := n9_; have BK1098 := n10_; have HB := n11_; clear n0_ n1_ n2_ n3_ n4_ n5_ n6_ n7_ n8_ n9_ n10_ n11_
           (try clear hb)
           (try clear hb2)
           (try clear hk)
           (try clear hi)
           refine hK.out _ _ ⟨(blk_cell BK1080.out 0).trans rfl, (blk_cell BK1080.out 1).trans rfl, (blk_cell BK1081.out 0).trans rfl, (blk_cell BK1081.out 1).trans rfl, (blk_cell BK1088.out 0).trans rfl, (blk_cell BK1088.out 1).trans rfl, (blk_cell BK1098.out 0).trans rfl, (blk_cell BK1098.out 1).trans rfl⟩ (fun hHeld => ?_)
           clear hK K
           refine norm_ (a' := ?_) ?_ ?_
           rotate_left
           ·
            show Act.put _ (some 103) _ = _
            exact s9_
           refine on_ 25 106 (tb_ 61 67108863) (fun K hK => ?_)
           refine goes_ Tryz.func80 s10_ rfl #[.agg #[.int .i64 t1095, .int .i64 t1096], .int .i64 t1097] (by rfl) rfl rfl s0_ ?_
           with_reducible refine (spec_Respects.calls t1095 t1096 t1097 t1120 _ A56.out).mono ?_
           rintro e w73 ⟨rfl, hb⟩
           refine ⟨_, rfl, ?_⟩
           have n0_ := Aside0.mk (Kd.R_below q51_29 hb); have n1_ := Aside0.mk (Kd.R_below q51_30 hb); have n2_ := Aside0.mk (Kd.R_below q51_31 hb); have n3_ := Aside0.mk (Kd.R_below q51_32 hb); have n4_ := Aside0.mk (Kd.R_below q51_33 hb); have n5_ := Aside0.mk (Kd.R_below q51_34 hb); have n6_ := Aside0.mk (Kd.R_below q51_35 hb); have n7_ := Aside0.mk (blk_below (g := gb1080) (o := .cells #[.int .i64 t1074, .slice Ao23 t1075.length co23] 29 (0, 0)) q51_24 hb); have n8_ := Aside0.mk (blk_below (g := gb1081) (o := .cells #[.int .i64 t1078, .int .i64 t1079] 48 (0, 0)) q51_25 hb); have n9_ := Aside0.mk (blk_below (g := gb1088) (o := .cells #[.int .i64 t1086, .int .i64 t1087] 48 (0, 0)) q51_26 hb); have n10_ := Aside0.mk (blk_below (g := gb1098) (o := .cells #[.int .i64 t1095, .int .i64 t1096] 48 (0, 0)) q51_27 hb); have n11_ := Aside0.mk (below_step q51_9 hb); clear HO1077; clear HO1085; clear HO1093; clear HO1102; clear HO1107; clear HO1111; clear HO1114; clear BK1080; clear BK1081
           clear BK1088; clear BK1098; clear HB; have HO1077 := n0_; have HO1085 := n1_; have HO1093 := n2_; have HO1102 := n3_; have HO1107 := n4_; have HO1111 := n5_; have HO1114 := n6_; have BK1080 := n7_; have BK1081 := n8_; have BK1088 := n9_; have BK1098 := n10_; have HB := n11_; clear n0_ n1_ n2_ n3_ n4_ n5_ n6_ n7_ n8_ n9_ n10_ n11_
           (try clear hb)
           (try clear hb2)
           (try clear hk)
           (try clear hi)
           obtain ⟨Ao74, co74, eo74⟩ := Kd.R_slice HO1102.out
           (first | subst eo74 | (injection eo74 with f1_ f2_ f3_; have f4_ := f1_.symm; have f5_ := f3_.symm; clear f1_ f2_ f3_; subst f4_; subst f5_))
           refine hK.out _ _ ⟨(blk_cell BK1080.out 0).trans rfl, (blk_cell BK1080.out 1).trans rfl, (blk_cell BK1081.out 0).trans rfl, (blk_cell BK1081.out 1).trans rfl, (blk_cell BK1088.out 0).trans rfl, (blk_cell BK1088.out 1).trans rfl, (blk_cell BK1098.out 0).trans rfl, (blk_cell BK1098.out 1).trans rfl⟩ (fun hHeld => ?_)
           clear hK K
           refine norm_ (a' := ?_) ?_ ?_
           rotate_left
           ·
            show Act.put _ (some 106) _ = _
            exact s9_
           refine pl_ 26 107 (tb_ 61 134217727) ?_; refine pl_ 27 108 (tb_ 61 268435455) ?_; refine pl_ 28 109 (tb_ 61 536870911) ?_; refine pl_ 29 110 (tb_ 61 1073741823) ?_; refine pl_ 30 111 (tb_ 61 2147483647) ?_; refine pl_ 32 113 (tb_ 61 6442450943) ?_; refine pl_ 33 114 (tb_ 61 15032385535) ?_
           refine on_ 31 112 (tb_ 61 17179869183) (fun K hK => ?_)
           refine goes_ Tryz.func81 s10_ rfl #[.int .i64 t1099, .slice Ao74 t1100.length co74] (by rfl) rfl rfl s0_ ?_
           with_reducible refine (impl_AreRules.calls t1099 _ _ t1100 t1121 _ ?side1 ?side2 A58.out).mono ?_
           (case side1 => exact q51_14)
           (case side2 => exact (Kd.R_reads' HO1102.out).2.1)
           rintro e w75 ⟨rfl, hb⟩
           refine ⟨_, rfl, ?_⟩
           have n0_ := Aside0.mk (Kd.R_below q51_29 hb); have n1_ := Aside0.mk (Kd.R_below q51_30 hb); have n2_ := Aside0.mk (Kd.R_below q51_31 hb); have n3_ := Aside0.mk (Kd.R_below q51_32 hb); have n4_ := Aside0.mk (Kd.R_below q51_33 hb); have n5_ := Aside0.mk (Kd.R_below q51_34 hb); have n6_ := Aside0.mk (Kd.R_below q51_35 hb); have n7_ := Aside0.mk (blk_below (g := gb1080) (o := .cells #[.int .i64 t1074, .slice Ao23 t1075.length co23] 29 (0, 0)) q51_24 hb); have n8_ := Aside0.mk (blk_below (g := gb1081) (o := .cells #[.int .i64 t1078, .int .i64 t1079] 48 (0, 0)) q51_25 hb); have n9_ := Aside0.mk (blk_below (g := gb1088) (o := .cells #[.int .i64 t1086, .int .i64 t1087] 48 (0, 0)) q51_26 hb); have n10_ := Aside0.mk (blk_below (g := gb1098) (o := .cells #[.int .i64 t1095, .int .i64 t1096] 48 (0, 0)) q51_27 hb); have n11_ := Aside0.mk (below_step q51_9 hb); clear HO1077; clear HO1085; clear HO1093; clear HO1102; clear HO1107; clear HO1111; clear HO1114; clear BK1080; clear BK1081
           clear BK1088; clear BK1098; clear HB; have HO1077 := n0_; have HO1085 := n1_; have HO1093 := n2_; have HO1102 := n3_; have HO1107 := n4_; have HO1111 := n5_; have HO1114 := n6_; have BK1080 := n7_; have BK1081 := n8_; have BK1088 := n9_; have BK1098 := n10_; have HB := n11_; clear n0_ n1_ n2_ n3_ n4_ n5_ n6_ n7_ n8_ n9_ n10_ n11_
           (try clear hb)
           (try clear hb2)
           (try clear hk)
           (try clear hi)
           refine hK.out _ _ ⟨(blk_cell BK1080.out 0).trans rfl, (blk_cell BK1080.out 1).trans rfl, (blk_cell BK1081.out 0).trans rfl, (blk_cell BK1081.out 1).trans rfl, (blk_cell BK1088.out 0).trans rfl, (blk_cell BK1088.out 1).trans rfl, (blk_cell BK1098.out 0).trans rfl, (blk_cell BK1098.out 1).trans rfl⟩ (fun hHeld => ?_)
           clear hK K
           refine norm_ (a' := ?_) ?_ ?_
           rotate_left
           ·
            show Act.put _ (some 112) _ = _
            exact s9_
           refine on_ 34 115 (tb_ 61 34359738367) (fun K hK => ?_)
           refine goes_ Tryz.func82 s10_ rfl #[.int .i64 t1099, .slice Ao74 t1100.length co74] (by rfl) rfl rfl s0_ ?_
           with_reducible refine (spec_AreRules.calls k t1099 _ _ t1100 t1122 _ ?side1 ?side2 A59.out).mono ?_
           (case side1 => exact q51_14)
           (case side2 => exact (Kd.R_reads' HO1102.out).2.1)
           rintro e w76 ⟨rfl, hb⟩
           refine ⟨_, rfl, ?_⟩
           have n0_ := Aside0.mk (Kd.R_below q51_29 hb); have n1_ := Aside0.mk (Kd.R_below q51_30 hb); have n2_ := Aside0.mk (Kd.R_below q51_31 hb); have n3_ := Aside0.mk (Kd.R_below q51_32 hb); have n4_ := Aside0.mk (Kd.R_below q51_33 hb); have n5_ := Aside0.mk (Kd.R_below q51_34 hb); have n6_ := Aside0.mk (Kd.R_below q51_35 hb); have n7_ := Aside0.mk (blk_below (g := gb1080) (o := .cells #[.int .i64 t1074, .slice Ao23 t1075.length co23] 29 (0, 0)) q51_24 hb); have n8_ := Aside0.mk (blk_below (g := gb1081) (o := .cells #[.int .i64 t1078, .int .i64 t1079] 48 (0, 0)) q51_25 hb); have n9_ := Aside0.mk (blk_below (g := gb1088) (o := .cells #[.int .i64 t1086, .int .i64 t1087] 48 (0, 0)) q51_26 hb); have n10_ := Aside0.mk (blk_below (g := gb1098) (o := .cells #[.int .i64 t1095, .int .i64 t1096] 48 (0, 0)) q51_27 hb); have n11_ := Aside0.mk (below_step q51_9 hb); clear HO1077; clear HO1085; clear HO1093; clear HO1102; clear HO1107; clear HO1111; clear HO1114; clear BK1080; clear BK1081
           clear BK1088; clear BK1098; clear HB; have HO1077 := n0_; have HO1085 := n1_; have HO1093 := n2_; have HO1102 := n3_; have HO1107 := n4_; have HO1111 := n5_; have HO1114 := n6_; have BK1080 := n7_; have BK1081 := n8_; have BK1088 := n9_; have BK1098 := n10_; have HB := n11_; clear n0_ n1_ n2_ n3_ n4_ n5_ n6_ n7_ n8_ n9_ n10_ n11_
           (try clear hb)
           (try clear hb2)
           (try clear hk)
           (try clear hi)
           obtain ⟨Ao77, co77, eo77⟩ := Kd.R_slice HO1107.out
           (first | subst eo77 | (injection eo77 with f1_ f2_ f3_; have f4_ := f1_.symm; have f5_ := f3_.symm; clear f1_ f2_ f3_; subst f4_; subst f5_))
           obtain ⟨Ao78, co78, eo78⟩ := Kd.R_slice HO1111.out
           (first | subst eo78 | (injection eo78 with f1_ f2_ f3_; have f4_ := f1_.symm; have f5_ := f3_.symm; clear f1_ f2_ f3_; subst f4_; subst f5_))
           refine hK.out _ _ ⟨(blk_cell BK1080.out 0).trans rfl, (blk_cell BK1080.out 1).trans rfl, (blk_cell BK1081.out 0).trans rfl, (blk_cell BK1081.out 1).trans rfl, (blk_cell BK1088.out 0).trans rfl, (blk_cell BK1088.out 1).trans rfl, (blk_cell BK1098.out 0).trans rfl, (blk_cell BK1098.out 1).trans rfl⟩ (fun hHeld => ?_)
           clear hK K
           refine norm_ (a' := ?_) ?_ ?_
           rotate_left
           ·
            show Act.put _ (some 115) _ = _
            exact s9_
           refine pl_ 35 116 (tb_ 61 68719476735) ?_; refine pl_ 36 117 (tb_ 61 137438953471) ?_; refine pl_ 37 118 (tb_ 61 274877906943) ?_; refine pl_ 38 119 (tb_ 61 549755813887) ?_; refine pl_ 39 120 (tb_ 61 1099511627775) ?_; refine pl_ 40 121 (tb_ 61 2199023255551) ?_; refine pl_ 41 122 (tb_ 61 4398046511103) ?_; refine pl_ 42 123 (tb_ 61 8796093022207) ?_; refine pl_ 43 124 (tb_ 61 17592186044415) ?_; refine pl_ 44 125 (tb_ 61 35184372088831) ?_
           refine on_ 45 126 (tb_ 61 70368744177663) (fun K hK => ?_)
           refine goes_ Tryz.func27 s10_ rfl #[.slice Ao77 t1104.length co77, .slice Ao78 t1108.length co78] (by rfl) rfl rfl s0_ ?_
           with_reducible refine (laws_sameRules.calls k _ _ t1104 _ _ t1108 true _ ?side1 ?side2 ?side3 ?side4 A62.out).mono ?_
           (case side1 => repeat (first | exact (Kd.R_reads' HO1107.out).2.2 | (with_reducible refine Kd.C_alloc ?_ _) | (with_reducible refine Kd.C_drewN ?_ _) | (with_reducible refine Kd.C_drew ?_)))
           (case side2 => exact (Kd.R_reads' HO1107.out).2.1)
           (case side3 => repeat (first | exact (Kd.R_reads' HO1111.out).2.2 | (with_reducible refine Kd.C_alloc ?_ _) | (with_reducible refine Kd.C_drewN ?_ _) | (with_reducible refine Kd.C_drew ?_)))
           (case side4 => exact (Kd.R_reads' HO1111.out).2.1)
           rintro e w' ⟨rfl, ⟨nd, rfl⟩⟩
           refine ⟨_, rfl, ?_⟩
           refine hK.out _ _ ⟨(blk_cell BK1080.out 0).trans rfl, (blk_cell BK1080.out 1).trans rfl, (blk_cell BK1081.out 0).trans rfl, (blk_cell BK1081.out 1).trans rfl, (blk_cell BK1088.out 0).trans rfl, (blk_cell BK1088.out 1).trans rfl, (blk_cell BK1098.out 0).trans rfl, (blk_cell BK1098.out 1).trans rfl⟩ (fun hHeld => ?_)
           clear hK K
           refine norm_ (a' := ?_) ?_ ?_
           rotate_left
           ·
            show Act.put _ (some 126) _ = _
            exact s9_
           refine pl_ 46 127 (tb_ 61 140737488355327) ?_; refine pl_ 47 128 (tb_ 61 281474976710655) ?_; refine pl_ 48 129 (tb_ 61 562949953421311) ?_; refine pl_ 49 130 (tb_ 61 1125899906842623) ?_; refine pl_ 50 131 (tb_ 61 2251799813685247) ?_
           refine on_ 51 132 (tb_ 61 4503599627370495) (fun K hK => ?_)
           refine goes_ Tryz.func83 s10_ rfl #[.slice Ao47 t1112.length co47] (by rfl) rfl rfl s0_ ?_
           with_reducible refine (spec_RulesText.calls k _ _ t1112 t1124 _ ?side1 ?side2 A64.out).mono ?_
           (case side1 => exact q51_15)
           (case side2 => exact (Kd.R_reads' HO1114.out).2.1)
           rintro e w79 ⟨rfl, hb⟩
           refine ⟨_, rfl, ?_⟩
           have n0_ := Aside0.mk (Kd.R_below q51_29 hb); have n1_ := Aside0.mk (Kd.R_below q51_30 hb); have n2_ := Aside0.mk (Kd.R_below q51_31 hb); have n3_ := Aside0.mk (Kd.R_below q51_32 hb); have n4_ := Aside0.mk (Kd.R_below q51_33 hb); have n5_ := Aside0.mk (Kd.R_below q51_34 hb); have n6_ := Aside0.mk (Kd.R_below q51_35 hb); have n7_ := Aside0.mk (blk_below (g := gb1080) (o := .cells #[.int .i64 t1074, .slice Ao23 t1075.length co23] 29 (0, 0)) q51_24 hb); have n8_ := Aside0.mk (blk_below (g := gb1081) (o := .cells #[.int .i64 t1078, .int .i64 t1079] 48 (0, 0)) q51_25 hb); have n9_ := Aside0.mk (blk_below (g := gb1088) (o := .cells #[.int .i64 t1086, .int .i64 t1087] 48 (0, 0)) q51_26 hb); have n10_ := Aside0.mk (blk_below (g := gb1098) (o := .cells #[.int .i64 t1095, .int .i64 t1096] 48 (0, 0)) q51_27 hb); have n11_ := Aside0.mk (below_step q51_9 hb); clear HO1077; clear HO1085; clear HO1093; clear HO1102; clear HO1107; clear HO1111; clear HO1114; clear BK1080; clear BK1081
           clear BK1088; clear BK1098; clear HB; have HO1077 := n0_; have HO1085 := n1_; have HO1093 := n2_; have HO1102 := n3_; have HO1107 := n4_; have HO1111 := n5_; have HO1114 := n6_; have BK1080 := n7_; have BK1081 := n8_; have BK1088 := n9_; have BK1098 := n10_; have HB := n11_; clear n0_ n1_ n2_ n3_ n4_ n5_ n6_ n7_ n8_ n9_ n10_ n11_
           (try clear hb)
           (try clear hb2)
           (try clear hk)
           (try clear hi)
           refine hK.out _ _ ⟨(blk_cell BK1080.out 0).trans rfl, (blk_cell BK1080.out 1).trans rfl, (blk_cell BK1081.out 0).trans rfl, (blk_cell BK1081.out 1).trans rfl, (blk_cell BK1088.out 0).trans rfl, (blk_cell BK1088.out 1).trans rfl, (blk_cell BK1098.out 0).trans rfl, (blk_cell BK1098.out 1).trans rfl⟩ (fun hHeld => ?_)
           clear hK K
           refine norm_ (a' := ?_) ?_ ?_
           rotate_left
           ·
            show Act.put _ (some 132) _ = _
            exact s9_
           refine pl_ 52 133 (tb_ 61 9007199254740991) ?_; refine pl_ 53 134 (tb_ 61 18014398509481983) ?_; refine pl_ 54 135 (tb_ 61 36028797018963967) ?_; refine tk_ 55 136 (tb_ 61 72057594037927935) hHeld ?_; refine tk_ 57 138 (tb_ 61 216172782113783807) hHeld ?_
           refine on_ 56 137 (tb_ 61 288230376151711743) (fun K hK => ?_)
           refine goes_ Tryz.func84 s10_ rfl #[.agg #[.int .i64 t1095, .int .i64 t1096]] (by rfl) rfl rfl s0_ ?_
           with_reducible refine (impl_RuleText.calls k t1095 t1096 t1125 _ A66.out).mono ?_
           rintro e w80 ⟨rfl, hb⟩
           refine ⟨_, rfl, ?_⟩
           have n0_ := Aside0.mk (Kd.R_below q51_29 hb); have n1_ := Aside0.mk (Kd.R_below q51_30 hb); have n2_ := Aside0.mk (Kd.R_below q51_31 hb); have n3_ := Aside0.mk (Kd.R_below q51_32 hb); have n4_ := Aside0.mk (Kd.R_below q51_33 hb); have n5_ := Aside0.mk (Kd.R_below q51_34 hb); have n6_ := Aside0.mk (Kd.R_below q51_35 hb); have n7_ := Aside0.mk (blk_below (g := gb1080) (o := .cells #[.int .i64 t1074, .slice Ao23 t1075.length co23] 29 (0, 0)) q51_24 hb); have n8_ := Aside0.mk (blk_below (g := gb1081) (o := .cells #[.int .i64 t1078, .int .i64 t1079] 48 (0, 0)) q51_25 hb); have n9_ := Aside0.mk (blk_below (g := gb1088) (o := .cells #[.int .i64 t1086, .int .i64 t1087] 48 (0, 0)) q51_26 hb); have n10_ := Aside0.mk (blk_below (g := gb1098) (o := .cells #[.int .i64 t1095, .int .i64 t1096] 48 (0, 0)) q51_27 hb); have n11_ := Aside0.mk (below_step q51_9 hb); clear HO1077; clear HO1085; clear HO1093; clear HO1102; clear HO1107; clear HO1111; clear HO1114; clear BK1080; clear BK1081
           clear BK1088; clear BK1098; clear HB; have HO1077 := n0_; have HO1085 := n1_; have HO1093 := n2_; have HO1102 := n3_; have HO1107 := n4_; have HO1111 := n5_; have HO1114 := n6_; have BK1080 := n7_; have BK1081 := n8_; have BK1088 := n9_; have BK1098 := n10_; have HB := n11_; clear n0_ n1_ n2_ n3_ n4_ n5_ n6_ n7_ n8_ n9_ n10_ n11_
           (try clear hb)
           (try clear hb2)
           (try clear hk)
           (try clear hi)
           refine hK.out _ _ ⟨(blk_cell BK1080.out 0).trans rfl, (blk_cell BK1080.out 1).trans rfl, (blk_cell BK1081.out 0).trans rfl, (blk_cell BK1081.out 1).trans rfl, (blk_cell BK1088.out 0).trans rfl, (blk_cell BK1088.out 1).trans rfl, (blk_cell BK1098.out 0).trans rfl, (blk_cell BK1098.out 1).trans rfl⟩ (fun hHeld => ?_)
           clear hK K
           refine norm_ (a' := ?_) ?_ ?_
           rotate_left
           ·
            show Act.put _ (some 137) _ = _
            exact s9_
           refine on_ 58 139 (tb_ 61 576460752303423487) (fun K hK => ?_)
           refine goes_ Tryz.func85 s10_ rfl #[.agg #[.int .i64 t1095, .int .i64 t1096]] (by rfl) rfl rfl s0_ ?_
           with_reducible refine (spec_RuleText.calls k t1095 t1096 t1126 _ A67.out).mono ?_
           rintro e w81 ⟨rfl, hb⟩
           refine ⟨_, rfl, ?_⟩
           have n0_ := Aside0.mk (Kd.R_below q51_29 hb); have n1_ := Aside0.mk (Kd.R_below q51_30 hb); have n2_ := Aside0.mk (Kd.R_below q51_31 hb); have n3_ := Aside0.mk (Kd.R_below q51_32 hb); have n4_ := Aside0.mk (Kd.R_below q51_33 hb); have n5_ := Aside0.mk (Kd.R_below q51_34 hb); have n6_ := Aside0.mk (Kd.R_below q51_35 hb); have n7_ := Aside0.mk (blk_below (g := gb1080) (o := .cells #[.int .i64 t1074, .slice Ao23 t1075.length co23] 29 (0, 0)) q51_24 hb); have n8_ := Aside0.mk (blk_below (g := gb1081) (o := .cells #[.int .i64 t1078, .int .i64 t1079] 48 (0, 0)) q51_25 hb); have n9_ := Aside0.mk (blk_below (g := gb1088) (o := .cells #[.int .i64 t1086, .int .i64 t1087] 48 (0, 0)) q51_26 hb); have n10_ := Aside0.mk (blk_below (g := gb1098) (o := .cells #[.int .i64 t1095, .int .i64 t1096] 48 (0, 0)) q51_27 hb); have n11_ := Aside0.mk (below_step q51_9 hb); clear HO1077; clear HO1085; clear HO1093; clear HO1102; clear HO1107; clear HO1111; clear HO1114; clear BK1080; clear BK1081
           clear BK1088; clear BK1098; clear HB; have HO1077 := n0_; have HO1085 := n1_; have HO1093 := n2_; have HO1102 := n3_; have HO1107 := n4_; have HO1111 := n5_; have HO1114 := n6_; have BK1080 := n7_; have BK1081 := n8_; have BK1088 := n9_; have BK1098 := n10_; have HB := n11_; clear n0_ n1_ n2_ n3_ n4_ n5_ n6_ n7_ n8_ n9_ n10_ n11_
           (try clear hb)
           (try clear hb2)
           (try clear hk)
           (try clear hi)
           refine hK.out _ _ ⟨(blk_cell BK1080.out 0).trans rfl, (blk_cell BK1080.out 1).trans rfl, (blk_cell BK1081.out 0).trans rfl, (blk_cell BK1081.out 1).trans rfl, (blk_cell BK1088.out 0).trans rfl, (blk_cell BK1088.out 1).trans rfl, (blk_cell BK1098.out 0).trans rfl, (blk_cell BK1098.out 1).trans rfl⟩ (fun hHeld => ?_)
           clear hK K
           refine norm_ (a' := ?_) ?_ ?_
           rotate_left
           ·
            show Act.put _ (some 139) _ = _
            exact s9_
           refine pl_ 59 140 (tb_ 61 1152921504606846975) ?_; refine pl_ 60 141 (tb_ 61 2305843009213693951) ?_
           refine done_ (done_of HT_.out s10_) ?_
           try go_wp2
           go_meet
           case rel => exact ⟨_, ((t1125.toList != t1126.toList)), s3_, H', ⟨(by first | omega | exact Nat.le_refl _)⟩, ⟨(by (with_reducible repeat (first | apply Kd.R_alloc | apply Kd.R_drewN | apply Kd.R_drew)); exact Kd.R_mono HO1085.out (fun _ hk => ⟨hk.2, ⟨hk.1.1.1.1.1.1.1.2, hk.1.1.1.1.1.1.2⟩⟩))⟩, ⟨(by (with_reducible repeat (first | apply Kd.R_alloc | apply Kd.R_drewN | apply Kd.R_drew)); exact Kd.R_mono HO1114.out (fun _ hk => ⟨hk.1.1.1.1.1.1.1.2, ⟨hk.1.1.2, hk.1.2⟩⟩))⟩, ⟨q51_29⟩, ⟨q51_24⟩, ⟨q51_25⟩, ⟨q51_26⟩, ⟨q51_9⟩⟩
          ·
           rw [if_neg c65] at H; have c65b0 : (t1115.toList == t1124.toList) = false := beq_eq_false_iff_ne.mpr c65; have c65b1 : (t1115.toList != t1124.toList) = true := bne_iff_ne.mpr c65
           refine absurd ?_ Bool.false_ne_true; revert H; generalize k = kq_; intro H; cases kq_ with | zero => exact absurd H q51_39 | succ kq_ => simp only [laws_FnRules.j0] at H; (try rw [if_pos rfl] at H); exact (Option.some.inj H).trans HRT.out
         ·
          replace c63 := Bool.eq_false_iff.mpr c63; subst c63
          rw [if_neg (show ¬ (false = true) by decide)] at H
          refine absurd ?_ Bool.false_ne_true; revert H; generalize k = kq_; intro H; cases kq_ with | zero => exact absurd H q51_39 | succ kq_ => simp only [laws_FnRules.j0] at H; (try rw [if_pos rfl] at H); exact (Option.some.inj H).trans HRT.out
     ·
      rw [if_neg c54] at H; have c54b0 : (t1094 == t1118) = false := beq_eq_false_iff_ne.mpr c54; have c54b1 : (t1094 != t1118) = true := bne_iff_ne.mpr c54
      refine absurd ?_ Bool.false_ne_true; revert H; generalize k = kq_; intro H; cases kq_ with | zero => exact absurd H q51_39 | succ kq_ => simp only [laws_FnRules.j0] at H; (try rw [if_pos rfl] at H); exact (Option.some.inj H).trans HRT.out
  case rest => as_aux_lemma =>
   clear HC17
   try clear c2
   try clear p2
   try clear c5
   try clear c6
   try clear c8
   try clear c27
   try clear c54
   try clear c54b0
   try clear c54b1
   try clear c63
   try clear c65
   try clear c65b0
   try clear c65b1
   try clear c80
   try clear c81
   obtain ⟨kq, x141_16, rfl, HA, HJ16, HO_6, HO_21, HO_1081001, BK1080, BK1081, BK1088, HB⟩ := hcut
   cases kq with
   | zero => exact absurd HA.out (by simp [laws_FnRules.j0])
   | succ kj16 =>
    have H := HA.out; clear HA
    simp only [laws_FnRules.j0] at H
    by_cases c82 : x141_16 = true
    ·
     subst c82; rw [if_pos rfl] at H
     exact absurd ((Option.some.inj H).trans HRT.out) Bool.false_ne_true
    ·
     replace c82 := Bool.eq_false_iff.mpr c82; subst c82
     rw [if_neg (show ¬ (false = true) by decide)] at H
     obtain ⟨⟨t1127, t1128⟩, A83, H⟩ := bnd51_ H; dsimp only at H; have HC84 := Aside0.mk H; clear H
     go_upto_region 19 with (first | ((with_reducible refine gate_callee (f := 74) rfl ?_); refine gL_ 74 144 Tryz.func74 #[.string t1115] ?_; (with_reducible refine (impl_ParseRules.calls kj16 t1115 t1127 t1128 _ ?tab A83.out).mono ?_); (case tab => first | exact HTB.out | (refine TabMax.below HTB.out ?_; repeat (first | (with_reducible first | exact HB.out | apply below_alloc | apply pw_below_drewN | apply below_drew1 | refine below_set ?_ GE1080.out | refine below_set ?_ GE1081.out | refine below_set ?_ GE1088.out | refine below_set ?_ GE1098.out) | exact HB.out)) | (repeat (first | exact HTB.out | apply TabMax.drewN | apply TabMax.drew | apply TabMax.alloc))); rintro e w85 ⟨v1129, rfl, ho0, hb⟩; refine ⟨_, rfl, ?_⟩; have n_ := ac_ (Kd.R_elder' q51_36 (Kd.R_base ho0) hb) <| ac_ (Kd.R_elder' (by (with_reducible repeat (first | apply Kd.R_alloc | apply Kd.R_drewN | apply Kd.R_drew)); exact HO_21.out) (Kd.R_base ho0) hb) <| ac_ (Kd.R_below q51_28 hb) <| ac_ (Kd.R_lower (Kd.R_newB (Kd.R_newB (Kd.R_new' (Kd.R_new' ho0 (Kd.R_lt q51_36)) (Kd.R_lt (by (with_reducible repeat (first | apply Kd.R_alloc | apply Kd.R_drewN | apply Kd.R_drew)); exact HO_21.out))) (g := gb1081) (o := .cells #[.int .i64 t1078, .int .i64 t1079] 48 (0, 0)) q51_25) (g := gb1088) (o := .cells #[.int .i64 t1086, .int .i64 t1087] 48 (0, 0)) q51_26) (below_size q51_10)) <| ac_ (blk_below (g := gb1080) (o := .cells #[.int .i64 t1074, .slice Ao23 t1075.length co23] 29 (0, 0)) q51_24 hb) <| ac_ (blk_below (g := gb1081) (o := .cells #[.int .i64 t1078, .int .i64 t1079] 48 (0, 0)) q51_25 hb) <| ac_ (blk_below (g := gb1088) (o := .cells #[.int .i64 t1086, .int .i64 t1087] 48 (0, 0)) q51_26 hb) <| Aside0.mk (below_step q51_10 hb); clear HO_6 HO_21 HO_1081001 BK1080 BK1081 BK1088 HB; obtain ⟨HO_6, HO_21, HO_1081001, HO1130, BK1080, BK1081, BK1088, HB⟩ := n_; (try clear hb ho0)))
     (try simp only [Act.put, List.setIfInBounds_toArray, List.set_cons_zero, List.set_cons_succ])
     go_cut [158] (fun v158 wc => ∃ (kq : Nat) (x158_83 : Bool), v158 = .bool x158_83 ∧ Aside0 (laws_FnRules.j1 kq t1082 t1083 t1089 x158_83 t1074 t1075 t1078 t1079 t1086 t1087 = some r) ∧ Aside0 (kq ≤ kj16) ∧ Aside0 (Kd.R k48 48 wc w.heap.size (fun k_ => k_ ≠ gb1081 ∧ k_ ≠ gb1088) (.slice Ao31 t1083.length co31) t1083) ∧ Aside0 (Kd.R (Kd.int .i64) 3 wc w.heap.size (fun _ => True) (.slice Ao23 t1075.length co23) t1075) ∧ Aside0 (wc.heap[gb1080]? = some (.cells #[.int .i64 t1074, (.slice Ao23 t1075.length co23)] 29 (0, 0))) ∧ Aside0 (wc.heap[gb1081]? = some (.cells #[.int .i64 t1078, .int .i64 t1079] 48 (0, 0))) ∧ Aside0 (wc.heap[gb1088]? = some (.cells #[.int .i64 t1086, .int .i64 t1087] 48 (0, 0))) ∧ Aside0 (Below w.heap.size w wc))
     case first => as_aux_lemma =>
      have H := HC84.out; clear HC84
      by_cases c86 : t1115.toList = ([] : List UInt8)
      ·
       rw [if_pos c86] at H; have c86b0 : (t1115.toList == ([] : List UInt8)) = true := beq_iff_eq.mpr c86; have c86b1 : (t1115.toList != ([] : List UInt8)) = false := bne_eq_false_iff_eq.mpr c86; clear c86
       (first | rw [c86b0] | (simp only [i64_w, i32_w]; rw [c86b0]) | skip)
       have H' := Aside0.mk H; clear H
       go_wp2
       go_meet
       case rel => exact ⟨_, (false), s3_, H', ⟨by have := HJ16.out; first | omega | exact Nat.le_refl _⟩, ⟨q51_1⟩, ⟨q51_28⟩, ⟨q51_24⟩, ⟨q51_25⟩, ⟨q51_26⟩, ⟨q51_10⟩⟩
      ·
       rw [if_neg c86] at H; have c86b0 : (t1115.toList == ([] : List UInt8)) = false := beq_eq_false_iff_ne.mpr c86; have c86b1 : (t1115.toList != ([] : List UInt8)) = true := bne_iff_ne.mpr c86
       (first | rw [c86b0] | (simp only [i64_w, i32_w]; rw [c86b0]) | skip)
       by_cases c87 : t1128 = true
       ·
        subst c87; rw [if_pos rfl] at H; obtain ⟨t1131, A88, H⟩ := bnd51_ H; have H' := Aside0.mk H; clear H; obtain ⟨Ao89, co89, eo89⟩ := Kd.R_slice HO1130.out; subst eo89
        go_wp2_with (first | (go_at_call 27; (with_reducible refine (laws_sameRules.calls kj16 _ _ t1127 _ _ t1112 t1131 _ ?side1 ?side2 ?side3 ?side4 A88.out).mono ?_); (case side1 => repeat (first | exact (Kd.R_reads' HO1130.out).2.2 | (with_reducible refine Kd.C_alloc ?_ _) | (with_reducible refine Kd.C_drewN ?_ _) | (with_reducible refine Kd.C_drew ?_))); (case side2 => exact (Kd.R_reads' HO1130.out).2.1); (case side3 => repeat (first | exact (Kd.R_reads' HO_21.out).2.2 | (with_reducible refine Kd.C_alloc ?_ _) | (with_reducible refine Kd.C_drewN ?_ _) | (with_reducible refine Kd.C_drew ?_))); (case side4 => exact (Kd.R_reads' HO_21.out).2.1); rintro e w' ⟨rfl, ⟨nd, rfl⟩⟩))
        go_meet
        case rel => exact ⟨_, (!t1131), s3_, H', ⟨by have := HJ16.out; first | omega | exact Nat.le_refl _⟩, ⟨q51_1⟩, ⟨q51_28⟩, ⟨q51_24⟩, ⟨q51_25⟩, ⟨q51_26⟩, ⟨q51_10⟩⟩
       ·
        replace c87 := Bool.eq_false_iff.mpr c87; subst c87
        rw [if_neg (show ¬ (false = true) by decide)] at H
        refine absurd ?_ Bool.false_ne_true; revert H; generalize kj16 = kq_; intro H; cases kq_ with | zero => exact absurd H (by simp only [laws_FnRules.j1]; exact fun h => by cases h) | succ kq_ => simp only [laws_FnRules.j1] at H; (try rw [if_pos rfl] at H); exact (Option.some.inj H).trans HRT.out
     case rest => as_aux_lemma =>
      clear HC84
      try clear c2
      try clear p2
      try clear c5
      try clear c6
      try clear c7
      try clear c8
      try clear c27
      try clear c54
      try clear c54b0
      try clear c54b1
      try clear c63
      try clear c65
      try clear c65b0
      try clear c65b1
      try clear c74
      try clear c80
      try clear c81
      try clear c82
      try clear c83
      try clear c84
      try clear c85
      try clear c86
      try clear c86b0
      try clear c86b1
      try clear c87
      try clear p2
      obtain ⟨kq, x158_83, rfl, HA, HJ83, HO_6, HO_1081001, BK1080, BK1081, BK1088, HB⟩ := hcut
      cases kq with
      | zero => exact absurd HA.out (by simp [laws_FnRules.j1])
      | succ kj83 =>
       have H := HA.out; clear HA
       simp only [laws_FnRules.j1] at H
       by_cases c90 : x158_83 = true
       ·
        subst c90; rw [if_pos rfl] at H
        exact absurd ((Option.some.inj H).trans HRT.out) Bool.false_ne_true
       ·
        replace c90 := Bool.eq_false_iff.mpr c90; subst c90
        rw [if_neg (show ¬ (false = true) by decide)] at H
        have HC91 := Aside0.mk H; clear H
        go_upto_region 21 with (fail)
        go_cut [174] (fun v174 wc => ∃ (kq : Nat) (x174_90 : Bool), v174 = .bool x174_90 ∧ Aside0 (laws_FnRules.j2 kq t1082 t1083 t1089 x174_90 t1074 t1075 t1078 t1079 t1086 t1087 = some r) ∧ Aside0 (kq ≤ kj83) ∧ Aside0 (Kd.R k48 48 wc w.heap.size (fun k_ => k_ ≠ gb1081 ∧ k_ ≠ gb1088) (.slice Ao31 t1083.length co31) t1083) ∧ Aside0 (Kd.R (Kd.int .i64) 3 wc w.heap.size (fun _ => True) (.slice Ao23 t1075.length co23) t1075) ∧ Aside0 (wc.heap[gb1080]? = some (.cells #[.int .i64 t1074, (.slice Ao23 t1075.length co23)] 29 (0, 0))) ∧ Aside0 (wc.heap[gb1081]? = some (.cells #[.int .i64 t1078, .int .i64 t1079] 48 (0, 0))) ∧ Aside0 (wc.heap[gb1088]? = some (.cells #[.int .i64 t1086, .int .i64 t1087] 48 (0, 0))) ∧ Aside0 (Below w.heap.size w wc))
        case first => as_aux_lemma =>
         have H := HC91.out; clear HC91; obtain ⟨t1132, A92, H⟩ := bnd51_ H
         by_cases c93 : t1132 = true
         ·
          subst c93; rw [if_pos rfl] at H; obtain ⟨t1133, A94, H⟩ := bnd51_ H
          by_cases c95 : t1133 = true
          ·
           subst c95; rw [if_pos rfl] at H; obtain ⟨t1134, A96, H⟩ := bnd51_ H; have H' := Aside0.mk H; clear H; have hnb97 := NB1080_1081.out; have hnc97 := NB1081_1080.out; have hnb98 := NB1080_1088.out; have hnc98 := NB1088_1080.out; have hcz99_0 : wc.cell? ⟨gb1080, 0, none⟩ = some (.int .i64 t1074) := (blk_cell BK1080.out 0).trans rfl; have hcz99_1 : wc.cell? ⟨gb1080, 1, none⟩ = some (.slice Ao23 t1075.length co23) := (blk_cell BK1080.out 1).trans rfl; have hfz99_0 := blk_frozen BK1080.out 0; have hfz99_1 := blk_frozen BK1080.out 1
           go_wp2_with (first | ((with_reducible refine gate_callee (f := 61) rfl ?_); refine gL_ 61 160 Tryz.func61 #[.agg #[.int .i64 t1074, .slice Ao23 t1075.length co23]] ?_; (with_reducible refine (spec_IsContext.calls kj83 t1074 _ _ t1075 true _ ?side1 ?side2 A92.out).mono ?_); (case side1 => exact q51_12); (case side2 => exact (Kd.R_reads' HO_1081001.out).2.1); rintro e w100 ⟨rfl, hb⟩; refine ⟨_, rfl, ?_⟩; have n_ := ac_ (Kd.R_below q51_36 hb) <| ac_ (Kd.R_below q51_28 hb) <| ac_ (blk_below (g := gb1080) (o := .cells #[.int .i64 t1074, .slice Ao23 t1075.length co23] 29 (0, 0)) q51_24 hb) <| ac_ (blk_below (g := gb1081) (o := .cells #[.int .i64 t1078, .int .i64 t1079] 48 (0, 0)) q51_25 hb) <| ac_ (blk_below (g := gb1088) (o := .cells #[.int .i64 t1086, .int .i64 t1087] 48 (0, 0)) q51_26 hb) <| Aside0.mk (below_step q51_10 hb); clear HO_6 HO_1081001 BK1080 BK1081 BK1088 HB; obtain ⟨HO_6, HO_1081001, BK1080, BK1081, BK1088, HB⟩ := n_; (try clear hb); have hcz101_0 : w100.cell? ⟨gb1080, 0, none⟩ = some (.int .i64 t1074) := (blk_cell BK1080.out 0).trans rfl; have hcz101_1 : w100.cell? ⟨gb1080, 1, none⟩ = some (.slice Ao23 t1075.length co23) := (blk_cell BK1080.out 1).trans rfl; have hfz101_0 := blk_frozen BK1080.out 0; have hfz101_1 := blk_frozen BK1080.out 1; have hnb102 := NB1081_1088.out; have hnc102 := NB1088_1081.out; have hcz103_0 : w100.cell? ⟨gb1081, 0, none⟩ = some (.int .i64 t1078) := (blk_cell BK1081.out 0).trans rfl; have hcz103_1 : w100.cell? ⟨gb1081, 1, none⟩ = some (.int .i64 t1079) := (blk_cell BK1081.out 1).trans rfl; have hfz103_0 := blk_frozen BK1081.out 0; have hfz103_1 := blk_frozen BK1081.out 1) | (go_at_call 86; (with_reducible refine (spec_IsSet.calls t1074 t1078 true _ A94.out).mono ?_); rintro e w' ⟨rfl, ⟨nd, rfl⟩⟩) | (go_at_call 86; (with_reducible refine (spec_IsSet.calls t1074 t1079 t1134 _ A96.out).mono ?_); rintro e w' ⟨rfl, ⟨nd, rfl⟩⟩))
           go_meet
           case rel => exact ⟨_, (t1134), s3_, H', ⟨by have := HJ16.out; have := HJ83.out; first | omega | exact Nat.le_refl _⟩, ⟨q51_36⟩, ⟨q51_28⟩, ⟨q51_24⟩, ⟨q51_25⟩, ⟨q51_26⟩, ⟨q51_10⟩⟩
          ·
           replace c95 := Bool.eq_false_iff.mpr c95; subst c95
           rw [if_neg (show ¬ (false = true) by decide)] at H
           have H' := Aside0.mk H; clear H; have hnb104 := NB1080_1081.out; have hnc104 := NB1081_1080.out; have hnb105 := NB1080_1088.out; have hnc105 := NB1088_1080.out; have hcz106_0 : wc.cell? ⟨gb1080, 0, none⟩ = some (.int .i64 t1074) := (blk_cell BK1080.out 0).trans rfl; have hcz106_1 : wc.cell? ⟨gb1080, 1, none⟩ = some (.slice Ao23 t1075.length co23) := (blk_cell BK1080.out 1).trans rfl; have hfz106_0 := blk_frozen BK1080.out 0; have hfz106_1 := blk_frozen BK1080.out 1
           go_wp2_with (first | ((with_reducible refine gate_callee (f := 61) rfl ?_); refine gL_ 61 160 Tryz.func61 #[.agg #[.int .i64 t1074, .slice Ao23 t1075.length co23]] ?_; (with_reducible refine (spec_IsContext.calls kj83 t1074 _ _ t1075 true _ ?side1 ?side2 A92.out).mono ?_); (case side1 => exact q51_12); (case side2 => exact (Kd.R_reads' HO_1081001.out).2.1); rintro e w107 ⟨rfl, hb⟩; refine ⟨_, rfl, ?_⟩; have n_ := ac_ (Kd.R_below q51_36 hb) <| ac_ (Kd.R_below q51_28 hb) <| ac_ (blk_below (g := gb1080) (o := .cells #[.int .i64 t1074, .slice Ao23 t1075.length co23] 29 (0, 0)) q51_24 hb) <| ac_ (blk_below (g := gb1081) (o := .cells #[.int .i64 t1078, .int .i64 t1079] 48 (0, 0)) q51_25 hb) <| ac_ (blk_below (g := gb1088) (o := .cells #[.int .i64 t1086, .int .i64 t1087] 48 (0, 0)) q51_26 hb) <| Aside0.mk (below_step q51_10 hb); clear HO_6 HO_1081001 BK1080 BK1081 BK1088 HB; obtain ⟨HO_6, HO_1081001, BK1080, BK1081, BK1088, HB⟩ := n_; (try clear hb); have hcz108_0 : w107.cell? ⟨gb1080, 0, none⟩ = some (.int .i64 t1074) := (blk_cell BK1080.out 0).trans rfl; have hcz108_1 : w107.cell? ⟨gb1080, 1, none⟩ = some (.slice Ao23 t1075.length co23) := (blk_cell BK1080.out 1).trans rfl; have hfz108_0 := blk_frozen BK1080.out 0; have hfz108_1 := blk_frozen BK1080.out 1; have hnb109 := NB1081_1088.out; have hnc109 := NB1088_1081.out; have hcz110_0 : w107.cell? ⟨gb1081, 0, none⟩ = some (.int .i64 t1078) := (blk_cell BK1081.out 0).trans rfl; have hcz110_1 : w107.cell? ⟨gb1081, 1, none⟩ = some (.int .i64 t1079) := (blk_cell BK1081.out 1).trans rfl; have hfz110_0 := blk_frozen BK1081.out 0; have hfz110_1 := blk_frozen BK1081.out 1) | (go_at_call 86; (with_reducible refine (spec_IsSet.calls t1074 t1078 false _ A94.out).mono ?_); rintro e w' ⟨rfl, ⟨nd, rfl⟩⟩))
           go_meet
           case rel => exact ⟨_, (false), s3_, H', ⟨by have := HJ16.out; have := HJ83.out; first | omega | exact Nat.le_refl _⟩, ⟨q51_36⟩, ⟨q51_28⟩, ⟨q51_24⟩, ⟨q51_25⟩, ⟨q51_26⟩, ⟨q51_10⟩⟩
         ·
          replace c93 := Bool.eq_false_iff.mpr c93; subst c93
          rw [if_neg (show ¬ (false = true) by decide)] at H
          have H' := Aside0.mk H; clear H; have hnb111 := NB1080_1081.out; have hnc111 := NB1081_1080.out; have hnb112 := NB1080_1088.out; have hnc112 := NB1088_1080.out; have hcz113_0 : wc.cell? ⟨gb1080, 0, none⟩ = some (.int .i64 t1074) := (blk_cell BK1080.out 0).trans rfl; have hcz113_1 : wc.cell? ⟨gb1080, 1, none⟩ = some (.slice Ao23 t1075.length co23) := (blk_cell BK1080.out 1).trans rfl; have hfz113_0 := blk_frozen BK1080.out 0; have hfz113_1 := blk_frozen BK1080.out 1
          go_wp2_with (first | ((with_reducible refine gate_callee (f := 61) rfl ?_); refine gL_ 61 160 Tryz.func61 #[.agg #[.int .i64 t1074, .slice Ao23 t1075.length co23]] ?_; (with_reducible refine (spec_IsContext.calls kj83 t1074 _ _ t1075 false _ ?side1 ?side2 A92.out).mono ?_); (case side1 => exact q51_12); (case side2 => exact (Kd.R_reads' HO_1081001.out).2.1); rintro e w114 ⟨rfl, hb⟩; refine ⟨_, rfl, ?_⟩; have n_ := ac_ (Kd.R_below q51_36 hb) <| ac_ (Kd.R_below q51_28 hb) <| ac_ (blk_below (g := gb1080) (o := .cells #[.int .i64 t1074, .slice Ao23 t1075.length co23] 29 (0, 0)) q51_24 hb) <| ac_ (blk_below (g := gb1081) (o := .cells #[.int .i64 t1078, .int .i64 t1079] 48 (0, 0)) q51_25 hb) <| ac_ (blk_below (g := gb1088) (o := .cells #[.int .i64 t1086, .int .i64 t1087] 48 (0, 0)) q51_26 hb) <| Aside0.mk (below_step q51_10 hb); clear HO_6 HO_1081001 BK1080 BK1081 BK1088 HB; obtain ⟨HO_6, HO_1081001, BK1080, BK1081, BK1088, HB⟩ := n_; (try clear hb)))
          go_meet
          case rel => exact ⟨_, (false), s3_, H', ⟨by have := HJ16.out; have := HJ83.out; first | omega | exact Nat.le_refl _⟩, ⟨q51_36⟩, ⟨q51_28⟩, ⟨q51_24⟩, ⟨q51_25⟩, ⟨q51_26⟩, ⟨q51_10⟩⟩
        case rest => as_aux_lemma =>
         clear HC91
         try clear c1
         try clear c2
         try clear p2
         try clear c5
         try clear c6
         try clear c7
         try clear c8
         try clear c9
         try clear c10
         try clear c11
         try clear c27
         try clear c54
         try clear c54b0
         try clear c54b1
         try clear c61
         try clear c63
         try clear c65
         try clear c65b0
         try clear c65b1
         try clear c74
         try clear c80
         try clear c81
         try clear c82
         try clear c83
         try clear c84
         try clear c85
         try clear c86
         try clear c86b0
         try clear c86b1
         try clear c87
         try clear c90
         try clear c93
         try clear c95
         try clear c97
         try clear c98
         try clear c102
         try clear c104
         try clear c105
         try clear c109
         try clear c111
         try clear c112
         try clear hcz101_0
         try clear hcz101_1
         try clear hcz103_0
         try clear hcz103_1
         try clear hcz106_0
         try clear hcz106_1
         try clear hcz108_0
         try clear hcz108_1
         try clear hcz110_0
         try clear hcz110_1
         try clear hcz113_0
         try clear hcz113_1
         try clear hcz99_0
         try clear hcz99_1
         try clear hfz101_0
         try clear hfz101_1
         try clear hfz103_0
         try clear hfz103_1
         try clear hfz106_0
         try clear hfz106_1
         try clear hfz108_0
         try clear hfz108_1
         try clear hfz110_0
         try clear hfz110_1
         try clear hfz113_0
         try clear hfz113_1
         try clear hfz99_0
         try clear hfz99_1
         try clear p2
         obtain ⟨kq, x174_90, rfl, HA, HJ90, HO_6, HO_1081001, BK1080, BK1081, BK1088, HB⟩ := hcut
         cases kq with
         | zero => exact absurd HA.out (by simp [laws_FnRules.j2])
         | succ kj90 =>
          have H := HA.out; clear HA
          simp only [laws_FnRules.j2] at H
          have HC115 := Aside0.mk H; clear H
          go_upto_if 174 with (fail)
          go_cut [] (fun wc => ∃ (kq : Nat), Aside0 (laws_FnRules.j4 kq t1083 t1089 t1086 t1087 = some r) ∧ Aside0 (kq ≤ kj90) ∧ Aside0 (Kd.R k48 48 wc w.heap.size (fun k_ => k_ ≠ gb1088) (.slice Ao31 t1083.length co31) t1083) ∧ Aside0 (wc.heap[gb1088]? = some (.cells #[.int .i64 t1086, .int .i64 t1087] 48 (0, 0))) ∧ Aside0 (Below w.heap.size w wc))
          case first => as_aux_lemma =>
           have H := HC115.out; clear HC115
           by_cases c116 : x174_90 = true
           ·
            subst c116; rw [if_pos rfl] at H; have H' := Aside0.mk H; clear H
            go_wp2
            go_loopg [25, 26] kj90 (fun kq v25 v26 w' => ∃ (x25_4 : Bool) (x26_4 : Int), v25 = .bool x25_4 ∧ v26 = .int .i64 x26_4 ∧ Aside0 (laws_FnRules.l0 kq t1082 t1083 t1089 x25_4 x26_4 t1074 t1075 t1078 t1079 t1086 t1087 = some r) ∧ Aside0 (kq ≤ kj90) ∧ Aside0 (Kd.R k48 48 w' w.heap.size (fun k_ => k_ ≠ gb1081 ∧ k_ ≠ gb1088) (.slice Ao31 t1083.length co31) t1083) ∧ Aside0 (Kd.R (Kd.int .i64) 3 w' w.heap.size (fun _ => True) (.slice Ao23 t1075.length co23) t1075) ∧ Aside0 (w'.heap[gb1080]? = some (.cells #[.int .i64 t1074, (.slice Ao23 t1075.length co23)] 29 (0, 0))) ∧ Aside0 (w'.heap[gb1081]? = some (.cells #[.int .i64 t1078, .int .i64 t1079] 48 (0, 0))) ∧ Aside0 (w'.heap[gb1088]? = some (.cells #[.int .i64 t1086, .int .i64 t1087] 48 (0, 0))) ∧ Aside0 (Below w.heap.size w w'))
            case atStart => exact ⟨(true), (0), s3_, s3_, H', ⟨Nat.le_refl _⟩, ⟨q51_36⟩, ⟨q51_28⟩, ⟨q51_24⟩, ⟨q51_25⟩, ⟨q51_26⟩, ⟨q51_10⟩⟩
            case round =>
             clear H'
             try clear c1
             try clear c2
             try clear p2
             try clear c5
             try clear c6
             try clear c7
             try clear c8
             try clear c9
             try clear c10
             try clear c11
             try clear c27
             try clear c54
             try clear c54b0
             try clear c54b1
             try clear c61
             try clear c63
             try clear c65
             try clear c65b0
             try clear c65b1
             try clear c74
             try clear c80
             try clear c81
             try clear c82
             try clear c83
             try clear c84
             try clear c85
             try clear c86
             try clear c86b0
             try clear c86b1
             try clear c87
             try clear c90
             try clear c93
             try clear c95
             try clear c97
             try clear c98
             try clear c102
             try clear c104
             try clear c105
             try clear c109
             try clear c111
             try clear c112
             try clear c116
             try clear hcz101_0
             try clear hcz101_1
             try clear hcz103_0
             try clear hcz103_1
             try clear hcz106_0
             try clear hcz106_1
             try clear hcz108_0
             try clear hcz108_1
             try clear hcz110_0
             try clear hcz110_1
             try clear hcz113_0
             try clear hcz113_1
             try clear hcz99_0
             try clear hcz99_1
             try clear hfz101_0
             try clear hfz101_1
             try clear hfz103_0
             try clear hfz103_1
             try clear hfz106_0
             try clear hfz106_1
             try clear hfz108_0
             try clear hfz108_1
             try clear hfz110_0
             try clear hfz110_1
             try clear hfz113_0
             try clear hfz113_1
             try clear hfz99_0
             try clear hfz99_1
             try clear p2
             obtain ⟨x25_4, x26_4, rfl, rfl, HA, HK4, HO_6, HO_1081001, BK1080, BK1081, BK1088, HB⟩ := hrel
             cases gk with
             | zero => exact absurd HA.out (by simp [laws_FnRules.l0])
             | succ k4 =>
              have H := HA.out; clear HA
              simp only [laws_FnRules.l0] at H
              by_cases c117 : x26_4 < (t1075.length : Int)
              ·
               rw [if_pos c117] at H; have c117b0 : decide (x26_4 < (t1075.length : Int)) = true := decide_eq_true c117; clear c117
               (first | rw [c117b0] | (simp only [i64_w, i32_w]; rw [c117b0]) | skip)
               by_cases c118 : x25_4 = true
               ·
                subst c118; rw [if_pos rfl] at H
                by_cases c119 : 0 ≤ x26_4
                ·
                 rw [if_pos c119] at H; have c119b0 : decide (0 ≤ x26_4) = true := decide_eq_true c119; clear c119; obtain ⟨t1136, A120, H⟩ := bnd51_ H; have H' := Aside0.mk H; clear H; have hnb121 := NB1080_1081.out; have hnc121 := NB1081_1080.out; have hnb122 := NB1080_1088.out; have hnc122 := NB1088_1080.out; have hcz123_0 : wr.cell? ⟨gb1080, 0, none⟩ = some (.int .i64 t1074) := (blk_cell BK1080.out 0).trans rfl; have hcz123_1 : wr.cell? ⟨gb1080, 1, none⟩ = some (.slice Ao23 t1075.length co23) := (blk_cell BK1080.out 1).trans rfl; have hfz123_0 := blk_frozen BK1080.out 0; have hfz123_1 := blk_frozen BK1080.out 1
                 try go_wp2
                 have n0_ := Aside0.mk (Kd.R_drew HO_6.out); have n1_ := Aside0.mk (Kd.R_drew HO_1081001.out); have n2_ := Aside0.mk (blk_drew BK1080.out); have n3_ := Aside0.mk (blk_drew BK1081.out); have n4_ := Aside0.mk (blk_drew BK1088.out); have n5_ := Aside0.mk (below_drew1 HB.out); clear HO_6; clear HO_1081001; clear BK1080; clear BK1081; clear BK1088; clear HB; have HO_6 := n0_; have HO_1081001 := n1_; have BK1080 := n2_; have BK1081 := n3_; have BK1088 := n4_; have HB := n5_; clear n0_ n1_ n2_ n3_ n4_ n5_
                 have p1135 : 0 ≤ (x26_4 : Int) := of_decide_eq_true (by first | (with_reducible assumption) | assumption)
                 have q1135 : x26_4 < (t1075.length : Int) := of_decide_eq_true (by first | (with_reducible assumption) | assumption)
                 (try (obtain ⟨Ap1135, cp1135, ep1135⟩ := Kd.R_slice HO_1081001.out; subst ep1135))
                 obtain ⟨ad1135, e1135, hx1135_0⟩ := Kd.at_int (Kd.R_reads' HO_1081001.out).2.2 x26_4 p1135 q1135
                 cases e1135
                 replace p1135 := eq_true p1135; replace q1135 := eq_true q1135
                 refine start_ (n := 11) (S := fun w' => w'.cell? ⟨gb1081, 0, none⟩ = some (.int .i64 t1078) ∧ w'.cell? ⟨gb1081, 1, none⟩ = some (.int .i64 t1079) ∧ w'.cell? ⟨gb1080, 0, none⟩ = some (.int .i64 t1074) ∧ w'.cell? ⟨gb1080, 1, none⟩ = some (.slice (some ad1135) t1075.length co23) ∧ w'.cell? (ad1135.add (x26_4).toNat) = some (.int .i64 (rd t1075 x26_4))) (ds := []) (tb_ 11 0) s10_ rfl rfl ⟨(blk_cell BK1081.out 0).trans rfl, (blk_cell BK1081.out 1).trans rfl, (blk_cell BK1080.out 0).trans rfl, (blk_cell BK1080.out 1).trans rfl, hx1135_0⟩ (fun hHeld => ?_); refine with_tabW laws_FnRules.tab26 laws_FnRules.bits26 (fun HT_ HW_ => ?_)
                 generalize wr.drew = w124 at HO_6 HO_1081001 BK1080 BK1081 BK1088 HB hx1135_0 hHeld ⊢
                 refine pl_ 0 182 (tb_ 11 1) ?_; refine pl_ 1 183 (tb_ 11 3) ?_; refine pl_ 3 185 (tb_ 11 11) ?_; refine pl_ 5 187 (tb_ 11 43) ?_; refine tk_ 2 184 (tb_ 11 47) hHeld ?_; refine tk_ 4 186 (tb_ 11 63) hHeld ?_; refine pl_ 6 188 (tb_ 11 127) ?_; refine tk_ 7 189 (tb_ 11 255) hHeld ?_
                 refine on_ 8 190 (tb_ 11 511) (fun K hK => ?_)
                 refine goes_ Tryz.func79 s10_ rfl #[.agg #[.int .i64 t1078, .int .i64 t1079], .int .i64 (rd t1075 x26_4)] (by rfl) rfl rfl s0_ ?_
                 with_reducible refine (impl_Respects.calls t1078 t1079 (rd t1075 x26_4) t1136 _ A120.out).mono ?_
                 rintro e w125 ⟨rfl, hb⟩
                 have HS4_ := (hb.cell (World.block_lt_of_cell? _ _ (hHeld.2.2.2.2))).trans (hHeld.2.2.2.2)
                 refine ⟨_, rfl, ?_⟩
                 have n0_ := Aside0.mk (Kd.R_below q51_36 hb); have n1_ := Aside0.mk (Kd.R_below q51_28 hb); have n2_ := Aside0.mk (blk_below (g := gb1080) (o := .cells #[.int .i64 t1074, .slice (some ad1135) t1075.length co23] 29 (0, 0)) q51_24 hb); have n3_ := Aside0.mk (blk_below (g := gb1081) (o := .cells #[.int .i64 t1078, .int .i64 t1079] 48 (0, 0)) q51_25 hb); have n4_ := Aside0.mk (blk_below (g := gb1088) (o := .cells #[.int .i64 t1086, .int .i64 t1087] 48 (0, 0)) q51_26 hb); have n5_ := Aside0.mk (below_step q51_10 hb); clear HO_6; clear HO_1081001; clear BK1080; clear BK1081; clear BK1088; clear HB; have HO_6 := n0_; have HO_1081001 := n1_; have BK1080 := n2_; have BK1081 := n3_; have BK1088 := n4_; have HB := n5_; clear n0_ n1_ n2_ n3_ n4_ n5_
                 (try clear hb)
                 (try clear hb2)
                 (try clear hk)
                 (try clear hi)
                 refine hK.out _ _ ⟨(blk_cell BK1081.out 0).trans rfl, (blk_cell BK1081.out 1).trans rfl, (blk_cell BK1080.out 0).trans rfl, (blk_cell BK1080.out 1).trans rfl, HS4_⟩ (fun hHeld => ?_)
                 clear hK K
                 refine norm_ (a' := ?_) ?_ ?_
                 rotate_left
                 ·
                  show Act.put _ (some 190) _ = _
                  exact s9_
                 refine pl_ 9 191 (tb_ 11 1023) ?_; refine pl_ 10 25 (tb_ 11 2047) ?_
                 refine done_ (done_of HT_.out s10_) ?_
                 try go_wp2
                 go_roundg k4
                 case measure => have := HJ16.out; have := HJ83.out; have := HJ90.out; have := HK4.out; omega
                 case rel => exact ⟨(t1136), (wrap64 (x26_4 + 1)), s3_, s3_, H', ⟨by have := HJ16.out; have := HJ83.out; have := HJ90.out; have := HK4.out; omega⟩, ⟨q51_36⟩, ⟨q51_28⟩, ⟨q51_24⟩, ⟨q51_25⟩, ⟨q51_26⟩, ⟨q51_10⟩⟩
                ·
                 rw [if_neg c119] at H
                 exact absurd H (by simp)
               ·
                replace c118 := Bool.eq_false_iff.mpr c118; subst c118
                rw [if_neg (show ¬ (false = true) by decide)] at H
                have H' := Aside0.mk H; clear H; have hnb126 := NB1080_1081.out; have hnc126 := NB1081_1080.out; have hnb127 := NB1080_1088.out; have hnc127 := NB1088_1080.out; have hcz128_0 : wr.cell? ⟨gb1080, 0, none⟩ = some (.int .i64 t1074) := (blk_cell BK1080.out 0).trans rfl; have hcz128_1 : wr.cell? ⟨gb1080, 1, none⟩ = some (.slice Ao23 t1075.length co23) := (blk_cell BK1080.out 1).trans rfl; have hfz128_0 := blk_frozen BK1080.out 0; have hfz128_1 := blk_frozen BK1080.out 1
                try go_wp2
                have n0_ := Aside0.mk (Kd.R_drew HO_6.out); have n1_ := Aside0.mk (Kd.R_drew HO_1081001.out); have n2_ := Aside0.mk (blk_drew BK1080.out); have n3_ := Aside0.mk (blk_drew BK1081.out); have n4_ := Aside0.mk (blk_drew BK1088.out); have n5_ := Aside0.mk (below_drew1 HB.out); clear HO_6; clear HO_1081001; clear BK1080; clear BK1081; clear BK1088; clear HB; have HO_6 := n0_; have HO_1081001 := n1_; have BK1080 := n2_; have BK1081 := n3_; have BK1088 := n4_; have HB := n5_; clear n0_ n1_ n2_ n3_ n4_ n5_
                refine start_ (n := 11) (S := fun w' => True) (ds := []) (tb_ 11 0) s10_ rfl rfl trivial (fun hHeld => ?_); refine with_tabW laws_FnRules.tab26 laws_FnRules.bits26 (fun HT_ HW_ => ?_)
                generalize wr.drew = w129 at HO_6 HO_1081001 BK1080 BK1081 BK1088 HB hHeld ⊢
                refine pl_ 0 182 (tb_ 11 1) ?_; refine pl_ 1 183 (tb_ 11 3) ?_; refine pr_ 2 184 (tb_ 11 7) ?_; refine pr_ 3 185 (tb_ 11 15) ?_; refine pr_ 4 186 (tb_ 11 31) ?_; refine pr_ 5 187 (tb_ 11 63) ?_; refine pr_ 6 188 (tb_ 11 127) ?_; refine pr_ 7 189 (tb_ 11 255) ?_; refine pr_ 8 190 (tb_ 11 511) ?_; refine pl_ 9 191 (tb_ 11 1023) ?_; refine pl_ 10 25 (tb_ 11 2047) ?_
                refine done_ (done_of HT_.out s10_) ?_
                try go_wp2
                go_roundg k4
                case measure => have := HJ16.out; have := HJ83.out; have := HJ90.out; have := HK4.out; omega
                case rel => exact ⟨(false), (wrap64 (x26_4 + 1)), s3_, s3_, H', ⟨by have := HJ16.out; have := HJ83.out; have := HJ90.out; have := HK4.out; omega⟩, ⟨q51_36⟩, ⟨q51_28⟩, ⟨q51_24⟩, ⟨q51_25⟩, ⟨q51_26⟩, ⟨q51_10⟩⟩
              ·
               rw [if_neg c117] at H; have c117b0 : decide (x26_4 < (t1075.length : Int)) = false := decide_eq_false c117; clear c117
               (first | rw [c117b0] | (simp only [i64_w, i32_w]; rw [c117b0]) | skip)
               by_cases c130 : (x25_4 != t1082) = true
               ·
                rw [if_pos c130] at H
                exact absurd ((Option.some.inj H).trans HRT.out) Bool.false_ne_true
               ·
                rw [if_neg c130] at H
                have c130b0 : (x25_4 != t1082) = false := by simpa using c130
                (try (have c130b1 : decide (x25_4 = t1082) = true := by simpa using c130))
                (try (have c130b2 : (x25_4 == t1082) = true := by simpa using c130))
                clear c130; have H' := Aside0.mk H; clear H; have hnb131 := NB1080_1081.out; have hnc131 := NB1081_1080.out; have hnb132 := NB1080_1088.out; have hnc132 := NB1088_1080.out; have hcz133_0 : wr.cell? ⟨gb1080, 0, none⟩ = some (.int .i64 t1074) := (blk_cell BK1080.out 0).trans rfl; have hcz133_1 : wr.cell? ⟨gb1080, 1, none⟩ = some (.slice Ao23 t1075.length co23) := (blk_cell BK1080.out 1).trans rfl; have hfz133_0 := blk_frozen BK1080.out 0; have hfz133_1 := blk_frozen BK1080.out 1
                go_wp2
                go_meet
                case rel => exact ⟨_, H', ⟨by have := HJ16.out; have := HJ83.out; have := HJ90.out; have := HK4.out; first | omega | exact Nat.le_refl _⟩, ⟨q51_22⟩, ⟨q51_26⟩, ⟨q51_10⟩⟩
           ·
            replace c116 := Bool.eq_false_iff.mpr c116; subst c116
            rw [if_neg (show ¬ (false = true) by decide)] at H
            have H' := Aside0.mk H; clear H
            go_wp2
            go_meet
            case rel => exact ⟨_, H', ⟨by have := HJ16.out; have := HJ83.out; have := HJ90.out; first | omega | exact Nat.le_refl _⟩, ⟨q51_22⟩, ⟨q51_26⟩, ⟨q51_10⟩⟩
          case rest => as_aux_lemma =>
           clear HC115
           try clear c1
           try clear p1
           try clear q1
           try clear hx1
           try clear c2
           try clear p2
           try clear c5
           try clear c6
           try clear p6
           try clear c7
           try clear c8
           try clear c9
           try clear c10
           try clear c11
           try clear p11
           try clear q11
           try clear hx11
           try clear c12
           try clear c13
           try clear c27
           try clear c54
           try clear c54b0
           try clear c54b1
           try clear c61
           try clear c63
           try clear p64
           try clear c65
           try clear c65b0
           try clear c65b1
           try clear c74
           try clear c79
           try clear c80
           try clear c81
           try clear c82
           try clear c83
           try clear c84
           try clear c85
           try clear c86
           try clear c86b0
           try clear c86b1
           try clear c87
           try clear c90
           try clear c93
           try clear c95
           try clear c97
           try clear c98
           try clear c102
           try clear c104
           try clear c105
           try clear c109
           try clear c111
           try clear c112
           try clear p113
           try clear q113
           try clear hx113
           try clear c116
           try clear c117
           try clear c117b0
           try clear c118
           try clear c119
           try clear c119b0
           try clear c121
           try clear c122
           try clear c126
           try clear c127
           try clear c130
           try clear c130b0
           try clear c130b1
           try clear c130b2
           try clear c131
           try clear c132
           try clear hcz101_0
           try clear hcz101_1
           try clear hcz103_0
           try clear hcz103_1
           try clear hcz106_0
           try clear hcz106_1
           try clear hcz108_0
           try clear hcz108_1
           try clear hcz110_0
           try clear hcz110_1
           try clear hcz113_0
           try clear hcz113_1
           try clear hcz123_0
           try clear hcz123_1
           try clear hcz128_0
           try clear hcz128_1
           try clear hcz133_0
           try clear hcz133_1
           try clear hcz99_0
           try clear hcz99_1
           try clear hfz101_0
           try clear hfz101_1
           try clear hfz103_0
           try clear hfz103_1
           try clear hfz106_0
           try clear hfz106_1
           try clear hfz108_0
           try clear hfz108_1
           try clear hfz110_0
           try clear hfz110_1
           try clear hfz113_0
           try clear hfz113_1
           try clear hfz123_0
           try clear hfz123_1
           try clear hfz128_0
           try clear hfz128_1
           try clear hfz133_0
           try clear hfz133_1
           try clear hfz99_0
           try clear hfz99_1
           try clear hx1135_0
           try clear p1135
           try clear p2
           try clear q1135
           obtain ⟨kq, HA, HJ114, HO_6, BK1088, HB⟩ := hcut
           cases kq with
           | zero => exact absurd HA.out (by simp [laws_FnRules.j4])
           | succ kj114 =>
            have H := HA.out; clear HA
            simp only [laws_FnRules.j4] at H
            have HC134 := Aside0.mk H; clear H
            go_upto_region 29 with (fail)
            go_cut [203] (fun v203 wc => ∃ (kq : Nat) (x203_133 : Bool), v203 = .bool x203_133 ∧ Aside0 (laws_FnRules.j5 kq t1083 t1089 x203_133 t1086 t1087 = some r) ∧ Aside0 (kq ≤ kj114) ∧ Aside0 (Kd.R k48 48 wc w.heap.size (fun k_ => k_ ≠ gb1088) (.slice Ao31 t1083.length co31) t1083) ∧ Aside0 (wc.heap[gb1088]? = some (.cells #[.int .i64 t1086, .int .i64 t1087] 48 (0, 0))) ∧ Aside0 (Below w.heap.size w wc))
            case first => as_aux_lemma =>
             have H := HC134.out; clear HC134; obtain ⟨t1137, A135, H⟩ := bnd51_ H
             by_cases c136 : t1137 = true
             ·
              subst c136; rw [if_pos rfl] at H; obtain ⟨y1138, hy_⟩ : ∃ y_ : List (S48), y_ = (([(⟨t1086, t1087⟩ : S48)] : List (S48))) := ⟨_, rfl⟩
              replace H : ((spec_AreRules.f kj114 6 y1138).bind fun t1141 => (laws_FnRules.j5 kj114 t1083 t1089 (!t1141) t1086 t1087)) = some r := rH_
              have Ny1138 := Aside0.mk hy_; clear hy_; obtain ⟨t1141, A137, H⟩ := bnd51_ H; have H' := Aside0.mk H; clear H
              go_wp2_with (first | ((with_reducible refine gate_callee (f := 82) rfl ?_); refine gL_ 82 196 Tryz.func82 #[.int .i64 6, .slice Ao31 t1083.length co31] ?_; (with_reducible refine (spec_AreRules.calls kj114 6 _ _ t1083 true _ ?side1 ?side2 A135.out).mono ?_); (case side1 => exact q51_17); (case side2 => exact (Kd.R_reads' HO_6.out).2.1); rintro e w138 ⟨rfl, hb⟩; refine ⟨_, rfl, ?_⟩; have n_ := ac_ (Kd.R_below q51_36 hb) <| ac_ (blk_below (g := gb1088) (o := .cells #[.int .i64 t1086, .int .i64 t1087] 48 (0, 0)) q51_26 hb) <| Aside0.mk (below_step q51_19 hb); clear HO_6 BK1088 HB; obtain ⟨HO_6, BK1088, HB⟩ := n_; (try clear hb); have hcz139_0 : w138.cell? ⟨gb1088, 0, none⟩ = some (.int .i64 t1086) := (blk_cell BK1088.out 0).trans rfl; have hcz139_1 : w138.cell? ⟨gb1088, 1, none⟩ = some (.int .i64 t1087) := (blk_cell BK1088.out 1).trans rfl; have hfz139_0 := blk_frozen BK1088.out 0; have hfz139_1 := blk_frozen BK1088.out 1) | ((with_reducible refine gate_dst (N := 200) rfl ?_); (try (refine gate_guard (by rfl) ?_; dsimp only)); refine Kd.R_lit k48 _ 48 ?hg (N := 200) ?hd (xs := ([(⟨t1086, t1087⟩ : S48)] : List (S48))) (inner := [.int .i64 t1086, .int .i64 t1087]) (ok := fun _ => True) (okp := fun _ => True) ?hr ?hp (fun _ hk => hk) trivial (Below.refl _ _) (Nat.le_refl _) (by simp) ?_; (case hd => rfl); (case hg => rfl); (case hr => first | (go_simp; done) | (go_simp; rfl)); (case hp => exact (Reps.c2 (show Kd.M k48 _ _ _ (⟨t1086, t1087⟩ : S48) [.int .i64 t1086, .int .i64 t1087] from (k48_mkM _ _ _ (⟨t1086, t1087⟩ : S48) )) (Reps.none _ _))); intro v1139 w140 ho141 hb hg_ hnew_; clear hg_ hnew_; (first | rw [← Ny1138.out] at ho141 | (simp only [Int.reduceToNat] at ho141; rw [← Ny1138.out] at ho141)); have n_ := ac_ (Kd.R_elder' q51_36 (Kd.R_base ho141) hb) <| ac_ (Kd.R_lower (Kd.R_newB (Kd.R_new' ho141 (Kd.R_lt q51_36)) (g := gb1088) (o := .cells #[.int .i64 t1086, .int .i64 t1087] 48 (0, 0)) q51_26) (below_size q51_19)) <| ac_ (blk_below (g := gb1088) (o := .cells #[.int .i64 t1086, .int .i64 t1087] 48 (0, 0)) q51_26 hb) <| Aside0.mk (below_step q51_19 hb); clear HO_6 BK1088 HB; obtain ⟨HO_6, HO1140, BK1088, HB⟩ := n_; clear hb ho141; obtain ⟨Ao142, co142, eo142⟩ := Kd.R_slice HO1140.out; subst eo142) | (go_at_call 82; (with_reducible refine (spec_AreRules.calls kj114 6 _ _ y1138 t1141 _ ?side1 ?side2 A137.out).mono ?_); (case side1 => repeat (first | exact (Kd.R_reads' HO1140.out).2.2 | (with_reducible refine Kd.C_alloc ?_ _) | (with_reducible refine Kd.C_drewN ?_ _) | (with_reducible refine Kd.C_drew ?_))); (case side2 => exact (Kd.R_reads' HO1140.out).2.1); rintro e w143 ⟨rfl, hb⟩; have n_ := ac_ (Kd.R_below q51_36 hb) <| ac_ (Kd.R_below (by (with_reducible repeat (first | apply Kd.R_alloc | apply Kd.R_drewN | apply Kd.R_drew)); exact HO1140.out) hb) <| ac_ (blk_below (g := gb1088) (o := .cells #[.int .i64 t1086, .int .i64 t1087] 48 (0, 0)) q51_26 hb) <| Aside0.mk (below_step q51_19 hb); clear HO_6 HO1140 BK1088 HB; obtain ⟨HO_6, HO1140, BK1088, HB⟩ := n_; (try clear hb)))
              go_meet
              case rel => exact ⟨_, (!t1141), s3_, H', ⟨by have := HJ16.out; have := HJ83.out; have := HJ90.out; have := HJ114.out; first | omega | exact Nat.le_refl _⟩, ⟨(by (with_reducible repeat (first | apply Kd.R_alloc | apply Kd.R_drewN | apply Kd.R_drew)); exact Kd.R_mono HO_6.out (fun _ hk => hk.1))⟩, ⟨q51_26⟩, ⟨q51_19⟩⟩
             ·
              replace c136 := Bool.eq_false_iff.mpr c136; subst c136
              rw [if_neg (show ¬ (false = true) by decide)] at H
              have H' := Aside0.mk H; clear H
              go_wp2_with (first | ((with_reducible refine gate_callee (f := 82) rfl ?_); refine gL_ 82 196 Tryz.func82 #[.int .i64 6, .slice Ao31 t1083.length co31] ?_; (with_reducible refine (spec_AreRules.calls kj114 6 _ _ t1083 false _ ?side1 ?side2 A135.out).mono ?_); (case side1 => exact q51_17); (case side2 => exact (Kd.R_reads' HO_6.out).2.1); rintro e w144 ⟨rfl, hb⟩; refine ⟨_, rfl, ?_⟩; have n_ := ac_ (Kd.R_below q51_36 hb) <| ac_ (blk_below (g := gb1088) (o := .cells #[.int .i64 t1086, .int .i64 t1087] 48 (0, 0)) q51_26 hb) <| Aside0.mk (below_step q51_19 hb); clear HO_6 BK1088 HB; obtain ⟨HO_6, BK1088, HB⟩ := n_; (try clear hb)))
              go_meet
              case rel => exact ⟨_, (true), s3_, H', ⟨by have := HJ16.out; have := HJ83.out; have := HJ90.out; have := HJ114.out; first | omega | exact Nat.le_refl _⟩, ⟨q51_36⟩, ⟨q51_26⟩, ⟨q51_19⟩⟩
            case rest => as_aux_lemma =>
             clear HC134
             try clear c1
             try clear p1
             try clear q1
             try clear hx1
             try clear c2
             try clear p2
             try clear c5
             try clear c6
             try clear p6
             try clear c7
             try clear c8
             try clear c9
             try clear c10
             try clear c11
             try clear p11
             try clear q11
             try clear hx11
             try clear c12
             try clear c13
             try clear c27
             try clear c54
             try clear c54b0
             try clear c54b1
             try clear c61
             try clear c63
             try clear p64
             try clear c65
             try clear c65b0
             try clear c65b1
             try clear c74
             try clear c79
             try clear c80
             try clear c81
             try clear c82
             try clear c83
             try clear c84
             try clear c85
             try clear c86
             try clear c86b0
             try clear c86b1
             try clear c87
             try clear c90
             try clear c93
             try clear c95
             try clear c97
             try clear c98
             try clear c102
             try clear c104
             try clear c105
             try clear c109
             try clear c111
             try clear c112
             try clear p113
             try clear q113
             try clear hx113
             try clear c116
             try clear c117
             try clear c117b0
             try clear c118
             try clear c119
             try clear c119b0
             try clear c121
             try clear c122
             try clear c126
             try clear c127
             try clear c130
             try clear c130b0
             try clear c130b1
             try clear c130b2
             try clear c131
             try clear c132
             try clear c136
             try clear hcz101_0
             try clear hcz101_1
             try clear hcz103_0
             try clear hcz103_1
             try clear hcz106_0
             try clear hcz106_1
             try clear hcz108_0
             try clear hcz108_1
             try clear hcz110_0
             try clear hcz110_1
             try clear hcz113_0
             try clear hcz113_1
             try clear hcz123_0
             try clear hcz123_1
             try clear hcz128_0
             try clear hcz128_1
             try clear hcz133_0
             try clear hcz133_1
             try clear hcz139_0
             try clear hcz139_1
             try clear hcz99_0
             try clear hcz99_1
             try clear hfz101_0
             try clear hfz101_1
             try clear hfz103_0
             try clear hfz103_1
             try clear hfz106_0
             try clear hfz106_1
             try clear hfz108_0
             try clear hfz108_1
             try clear hfz110_0
             try clear hfz110_1
             try clear hfz113_0
             try clear hfz113_1
             try clear hfz123_0
             try clear hfz123_1
             try clear hfz128_0
             try clear hfz128_1
             try clear hfz133_0
             try clear hfz133_1
             try clear hfz139_0
             try clear hfz139_1
             try clear hfz99_0
             try clear hfz99_1
             try clear hx1135_0
             try clear p1
             try clear p11
             try clear p113
             try clear p1135
             try clear p2
             try clear p6
             try clear p64
             try clear q1
             try clear q11
             try clear q113
             try clear q1135
             obtain ⟨kq, x203_133, rfl, HA, HJ133, HO_6, BK1088, HB⟩ := hcut
             cases kq with
             | zero => exact absurd HA.out (by simp [laws_FnRules.j5])
             | succ kj133 =>
              have H := HA.out; clear HA
              simp only [laws_FnRules.j5] at H
              by_cases c145 : x203_133 = true
              ·
               subst c145; rw [if_pos rfl] at H; obtain rfl := Option.some.inj H
               go_wp2
               go_ret
               exact ⟨s2_, q51_19⟩
              ·
               replace c145 := Bool.eq_false_iff.mpr c145; subst c145
               rw [if_neg (show ¬ (false = true) by decide)] at H
               have H' := Aside0.mk H; clear H
               go_wp2
               go_loopg [27, 28] kj133 (fun kq v27 v28 w' => ∃ (x27_6 : Bool) (x28_6 : Int), v27 = .bool x27_6 ∧ v28 = .int .i64 x28_6 ∧ Aside0 (laws_FnRules.l1 kq t1083 t1089 x27_6 x28_6 t1086 t1087 = some r) ∧ Aside0 (kq ≤ kj133) ∧ Aside0 (Kd.R k48 48 w' w.heap.size (fun k_ => k_ ≠ gb1088) (.slice Ao31 t1083.length co31) t1083) ∧ Aside0 (w'.heap[gb1088]? = some (.cells #[.int .i64 t1086, .int .i64 t1087] 48 (0, 0))) ∧ Aside0 (Below w.heap.size w w'))
               case atStart => exact ⟨(true), (0), s3_, s3_, H', ⟨Nat.le_refl _⟩, ⟨q51_36⟩, ⟨q51_26⟩, ⟨q51_19⟩⟩
               case round =>
                clear H'
                try clear c1
                try clear p1
                try clear q1
                try clear hx1
                try clear c2
                try clear p2
                try clear c5
                try clear c6
                try clear p6
                try clear c7
                try clear c8
                try clear c9
                try clear c10
                try clear c11
                try clear p11
                try clear q11
                try clear hx11
                try clear c12
                try clear c13
                try clear c14
                try clear c27
                try clear c54
                try clear c54b0
                try clear c54b1
                try clear c61
                try clear c63
                try clear p64
                try clear c65
                try clear c65b0
                try clear c65b1
                try clear c74
                try clear c79
                try clear c80
                try clear c81
                try clear c82
                try clear c83
                try clear c84
                try clear c85
                try clear c86
                try clear c86b0
                try clear c86b1
                try clear c87
                try clear c90
                try clear c93
                try clear c95
                try clear c97
                try clear c98
                try clear c102
                try clear c104
                try clear c105
                try clear c109
                try clear c111
                try clear c112
                try clear p113
                try clear q113
                try clear hx113
                try clear c116
                try clear c117
                try clear c117b0
                try clear c118
                try clear c119
                try clear c119b0
                try clear c121
                try clear c122
                try clear c126
                try clear c127
                try clear c130
                try clear c130b0
                try clear c130b1
                try clear c130b2
                try clear c131
                try clear c132
                try clear c136
                try clear c145
                try clear hcz101_0
                try clear hcz101_1
                try clear hcz103_0
                try clear hcz103_1
                try clear hcz106_0
                try clear hcz106_1
                try clear hcz108_0
                try clear hcz108_1
                try clear hcz110_0
                try clear hcz110_1
                try clear hcz113_0
                try clear hcz113_1
                try clear hcz123_0
                try clear hcz123_1
                try clear hcz128_0
                try clear hcz128_1
                try clear hcz133_0
                try clear hcz133_1
                try clear hcz139_0
                try clear hcz139_1
                try clear hcz99_0
                try clear hcz99_1
                try clear hfz101_0
                try clear hfz101_1
                try clear hfz103_0
                try clear hfz103_1
                try clear hfz106_0
                try clear hfz106_1
                try clear hfz108_0
                try clear hfz108_1
                try clear hfz110_0
                try clear hfz110_1
                try clear hfz113_0
                try clear hfz113_1
                try clear hfz123_0
                try clear hfz123_1
                try clear hfz128_0
                try clear hfz128_1
                try clear hfz133_0
                try clear hfz133_1
                try clear hfz139_0
                try clear hfz139_1
                try clear hfz99_0
                try clear hfz99_1
                try clear hx1135_0
                try clear p1
                try clear p11
                try clear p113
                try clear p1135
                try clear p2
                try clear p6
                try clear p64
                try clear q1
                try clear q11
                try clear q113
                try clear q1135
                obtain ⟨x27_6, x28_6, rfl, rfl, HA, HK6, HO_6, BK1088, HB⟩ := hrel
                cases gk with
                | zero => exact absurd HA.out (by simp [laws_FnRules.l1])
                | succ k6 =>
                 have H := HA.out; clear HA
                 simp only [laws_FnRules.l1] at H
                 by_cases c146 : x28_6 < 64
                 ·
                  rw [if_pos c146] at H; have c146b0 : decide (x28_6 < 64) = true := decide_eq_true c146; clear c146; obtain ⟨t1142, A147, H⟩ := bnd51_ H
                  by_cases c148 : t1142 = x28_6
                  ·
                   rw [if_pos c148] at H; have c148b0 : (t1142 == x28_6) = true := beq_iff_eq.mpr c148; have c148b1 : (t1142 != x28_6) = false := bne_eq_false_iff_eq.mpr c148; clear c148
                   by_cases c149 : x27_6 = true
                   ·
                    subst c149; rw [if_pos rfl] at H; obtain ⟨t1143, A150, H⟩ := bnd51_ H; have H' := Aside0.mk H; clear H
                    go_wp2_with (first | ((with_reducible refine gate_callee (f := 70) rfl ?_); refine gL_ 70 210 Tryz.func70 #[.slice Ao31 t1083.length co31, .int .i64 x28_6] ?_; (with_reducible refine (impl_ClosedBy.calls k6 _ _ t1083 x28_6 t1142 _ ?side1 ?side2 A147.out).mono ?_); (case side1 => exact q51_17); (case side2 => exact (Kd.R_reads' HO_6.out).2.1); rintro e w151 ⟨rfl, hb⟩; refine ⟨_, rfl, ?_⟩; have n_ := ac_ (Kd.R_below q51_36 hb) <| ac_ (blk_below (g := gb1088) (o := .cells #[.int .i64 t1086, .int .i64 t1087] 48 (0, 0)) q51_26 hb) <| Aside0.mk (below_step q51_19 hb); clear HO_6 BK1088 HB; obtain ⟨HO_6, BK1088, HB⟩ := n_; (try clear hb); have hcz152_0 : w151.cell? ⟨gb1088, 0, none⟩ = some (.int .i64 t1086) := (blk_cell BK1088.out 0).trans rfl; have hcz152_1 : w151.cell? ⟨gb1088, 1, none⟩ = some (.int .i64 t1087) := (blk_cell BK1088.out 1).trans rfl; have hfz152_0 := blk_frozen BK1088.out 0; have hfz152_1 := blk_frozen BK1088.out 1) | (go_at_call 79; (with_reducible refine (impl_Respects.calls t1086 t1087 x28_6 t1143 _ A150.out).mono ?_); rintro e w153 ⟨rfl, hb⟩; have n_ := ac_ (Kd.R_below q51_36 hb) <| ac_ (blk_below (g := gb1088) (o := .cells #[.int .i64 t1086, .int .i64 t1087] 48 (0, 0)) q51_26 hb) <| Aside0.mk (below_step q51_19 hb); clear HO_6 BK1088 HB; obtain ⟨HO_6, BK1088, HB⟩ := n_; (try clear hb)))
                    go_roundg k6
                    case measure => have := HJ16.out; have := HJ83.out; have := HJ90.out; have := HJ114.out; have := HJ133.out; have := HK6.out; omega
                    case rel => exact ⟨(t1143), (wrap64 (x28_6 + 1)), s3_, s3_, H', ⟨by have := HJ16.out; have := HJ83.out; have := HJ90.out; have := HJ114.out; have := HJ133.out; have := HK6.out; omega⟩, ⟨q51_36⟩, ⟨q51_26⟩, ⟨q51_19⟩⟩
                   ·
                    replace c149 := Bool.eq_false_iff.mpr c149; subst c149
                    rw [if_neg (show ¬ (false = true) by decide)] at H
                    have H' := Aside0.mk H; clear H
                    go_wp2_with (first | ((with_reducible refine gate_callee (f := 70) rfl ?_); refine gL_ 70 210 Tryz.func70 #[.slice Ao31 t1083.length co31, .int .i64 x28_6] ?_; (with_reducible refine (impl_ClosedBy.calls k6 _ _ t1083 x28_6 t1142 _ ?side1 ?side2 A147.out).mono ?_); (case side1 => exact q51_17); (case side2 => exact (Kd.R_reads' HO_6.out).2.1); rintro e w154 ⟨rfl, hb⟩; refine ⟨_, rfl, ?_⟩; have n_ := ac_ (Kd.R_below q51_36 hb) <| ac_ (blk_below (g := gb1088) (o := .cells #[.int .i64 t1086, .int .i64 t1087] 48 (0, 0)) q51_26 hb) <| Aside0.mk (below_step q51_19 hb); clear HO_6 BK1088 HB; obtain ⟨HO_6, BK1088, HB⟩ := n_; (try clear hb)))
                    go_roundg k6
                    case measure => have := HJ16.out; have := HJ83.out; have := HJ90.out; have := HJ114.out; have := HJ133.out; have := HK6.out; omega
                    case rel => exact ⟨(false), (wrap64 (x28_6 + 1)), s3_, s3_, H', ⟨by have := HJ16.out; have := HJ83.out; have := HJ90.out; have := HJ114.out; have := HJ133.out; have := HK6.out; omega⟩, ⟨q51_36⟩, ⟨q51_26⟩, ⟨q51_19⟩⟩
                  ·
                   rw [if_neg c148] at H; have c148b0 : (t1142 == x28_6) = false := beq_eq_false_iff_ne.mpr c148; have c148b1 : (t1142 != x28_6) = true := bne_iff_ne.mpr c148; have H' := Aside0.mk H; clear H
                   go_wp2_with (first | ((with_reducible refine gate_callee (f := 70) rfl ?_); refine gL_ 70 210 Tryz.func70 #[.slice Ao31 t1083.length co31, .int .i64 x28_6] ?_; (with_reducible refine (impl_ClosedBy.calls k6 _ _ t1083 x28_6 t1142 _ ?side1 ?side2 A147.out).mono ?_); (case side1 => exact q51_17); (case side2 => exact (Kd.R_reads' HO_6.out).2.1); rintro e w155 ⟨rfl, hb⟩; refine ⟨_, rfl, ?_⟩; have n_ := ac_ (Kd.R_below q51_36 hb) <| ac_ (blk_below (g := gb1088) (o := .cells #[.int .i64 t1086, .int .i64 t1087] 48 (0, 0)) q51_26 hb) <| Aside0.mk (below_step q51_19 hb); clear HO_6 BK1088 HB; obtain ⟨HO_6, BK1088, HB⟩ := n_; (try clear hb)))
                   go_roundg k6
                   case measure => have := HJ16.out; have := HJ83.out; have := HJ90.out; have := HJ114.out; have := HJ133.out; have := HK6.out; omega
                   case rel => exact ⟨(x27_6), (wrap64 (x28_6 + 1)), s3_, s3_, H', ⟨by have := HJ16.out; have := HJ83.out; have := HJ90.out; have := HJ114.out; have := HJ133.out; have := HK6.out; omega⟩, ⟨q51_36⟩, ⟨q51_26⟩, ⟨q51_19⟩⟩
                 ·
                  rw [if_neg c146] at H; have c146b0 : decide (x28_6 < 64) = false := decide_eq_false c146; clear c146; obtain rfl := Option.some.inj H
                  go_wp2
                  go_ret
                  exact ⟨s2_, q51_19⟩
end Go.Proofs.YtafnamchckehmaaGreatDoor.Pr
