/- Functions of the program as plain functions, proofs that their calls answer so, and plain laws: what the law needs. No condition beyond what each statement says. -/
import Derived.Test.YtafnamchckehmaaGreatDoorZFnInference16
namespace Go.Proofs.YtafnamchckehmaaGreatDoor.Pr
open Go.RowKit Go.Proofs.YtafnamchckehmaaGreatDoorW.PrintWords Go.Proofs.YtafnamchckehmaaGreatDoorW.PrintLast Go.Proofs.YtafnamchckehmaaGreatDoorW.PrintMore
attribute [local go_sem] max2_int min2_int max_two min_two max_three min_three max_four min_four
set_option linter.unusedVariables false
set_option linter.unusedSimpArgs false
theorem bnd53_ {α β : Type} {o : Option α} {f : α → Option β} {r : β} (h : o.bind f = some r) : ∃ a, Aside0 (o = some a) ∧ f a = some r := by
 obtain ⟨a, h1, h2⟩ := Option.bind_eq_some_iff.mp h
 exact ⟨a, ⟨h1⟩, h2⟩
theorem q53_1 {P : Prop} (h : P := by (with_reducible repeat (first | refine blk_drewN ?_ _ | refine blk_drew ?_ | refine blk_alloc ?_ _)); refine blk_put (cs := #[.int .i64 t642, .int .i64 0]) ?_ 1 _ rfl; (with_reducible repeat (first | refine blk_drewN ?_ _ | refine blk_drew ?_ | refine blk_alloc ?_ _)); refine blk_put (cs := #[.int .i64 0, .int .i64 0]) ?_ 0 _ rfl; (with_reducible repeat (first | refine blk_drewN ?_ _ | refine blk_drew ?_ | refine blk_alloc ?_ _)); exact BK647.out) : P := h
theorem q53_2 {P : Prop} (h : P := by (with_reducible repeat (first | refine blk_drewN ?_ _ | refine blk_drew ?_ | refine blk_alloc ?_ _)); refine blk_far ?_ NB630_647.out _; (with_reducible repeat (first | refine blk_drewN ?_ _ | refine blk_drew ?_ | refine blk_alloc ?_ _)); refine blk_far ?_ NB630_647.out _; (with_reducible repeat (first | refine blk_drewN ?_ _ | refine blk_drew ?_ | refine blk_alloc ?_ _)); exact BK630.out) : P := h
theorem q53_3 {P : Prop} (h : P := by (with_reducible repeat (first | apply Kd.R_alloc | apply Kd.R_drewN | apply Kd.R_drew)); exact (Kd.R_mono (Kd.R_far (p := ⟨gb630, 1, none⟩) (Kd.R_far (p := ⟨gb630, 0, none⟩) (Kd.R_mono HO627.out (fun k_ hk => (⟨hk, hk.2⟩ : _ ∧ k_ ≠ gb630))) (fun _ hk => hk.2) (.int .i64 t628)) (fun _ hk => hk.2) (.int .i64 t629)) (fun _ h_ => h_.1))) : P := h
theorem q53_4 {P : Prop} (h : P := by (with_reducible repeat (first | apply Kd.R_alloc | apply Kd.R_drewN | apply Kd.R_drew)); exact (Kd.R_mono (Kd.R_far (p := ⟨gb647, 1, none⟩) (Kd.R_far (p := ⟨gb647, 0, none⟩) (Kd.R_mono HO627.out (fun k_ hk => (⟨hk, hk.2⟩ : _ ∧ k_ ≠ gb647))) (fun _ hk => hk.2) (.int .i64 t642)) (fun _ hk => hk.2) (.int .i64 t643)) (fun _ h_ => h_.1))) : P := h
theorem q53_5 {P : Prop} (h : P := by (with_reducible repeat (first | apply Kd.R_alloc | apply Kd.R_drewN | apply Kd.R_drew)); exact (Kd.R_mono (Kd.R_far (p := ⟨gb647, 1, none⟩) (Kd.R_far (p := ⟨gb647, 0, none⟩) (Kd.R_mono HO641.out (fun k_ hk => (⟨hk, hk.2⟩ : _ ∧ k_ ≠ gb647))) (fun _ hk => hk.2) (.int .i64 t642)) (fun _ hk => hk.2) (.int .i64 t643)) (fun _ h_ => h_.1))) : P := h
theorem q53_6 {P : Prop} (h : P := by repeat (first | (with_reducible first | exact HB.out | apply below_alloc | apply pw_below_drewN | apply below_drew1 | refine below_set ?_ GE630.out | refine below_set ?_ GE647.out) | exact HB.out)) : P := h
theorem q53_7 {P : Prop} (h : P := by (with_reducible repeat (first | apply Kd.R_alloc | apply Kd.R_drewN | apply Kd.R_drew)); exact Kd.R_mono HO_12.out (fun _ hk => ⟨hk.2.2.1, ⟨hk.2.2.2.1, ⟨hk.2.2.2.2.1, hk.2.2.2.2.2.1⟩⟩⟩)) : P := h
theorem q53_8 {P : Prop} (h : P := by (with_reducible repeat (first | apply Kd.R_alloc | apply Kd.R_drewN | apply Kd.R_drew)); exact Kd.R_mono HO_13.out (fun _ hk => ⟨hk.2.2.1, ⟨hk.2.2.2.1, ⟨hk.2.2.2.2.1, hk.2.2.2.2.2.1⟩⟩⟩)) : P := h
theorem q53_9 {P : Prop} (h : P := by (with_reducible repeat (first | apply Kd.R_alloc | apply Kd.R_drewN | apply Kd.R_drew)); exact Kd.R_mono HO_15.out (fun _ hk => ⟨hk.2.2.1, ⟨hk.2.2.2.1, ⟨hk.2.2.2.2.1, hk.2.2.2.2.2.1⟩⟩⟩)) : P := h
theorem q53_10 {P : Prop} (h : P := by (with_reducible repeat (first | apply Kd.R_alloc | apply Kd.R_drewN | apply Kd.R_drew)); exact Kd.R_mono HO_16.out (fun _ hk => ⟨hk.2.2.1, ⟨hk.2.2.2.1, ⟨hk.2.2.2.2.1, hk.2.2.2.2.2.1⟩⟩⟩)) : P := h
theorem q53_11 {P : Prop} (h : P := by (with_reducible repeat (first | apply Kd.R_alloc | apply Kd.R_drewN | apply Kd.R_drew)); exact Kd.R_mono HO_20.out (fun _ hk => ⟨hk.2.2.1, ⟨hk.2.2.2.1, ⟨hk.2.2.2.2.1, hk.2.2.2.2.2.1⟩⟩⟩)) : P := h
theorem q53_13 {P : Prop} (h : P := by repeat (first | exact (Kd.R_reads' HO641.out).2.2 | (with_reducible refine Kd.C_alloc ?_ _) | (with_reducible refine Kd.C_drewN ?_ _) | (with_reducible refine Kd.C_drew ?_))) : P := h
theorem q53_14 {P : Prop} (h : P := by repeat (first | exact (Kd.R_reads' HO646.out).2.2 | (with_reducible refine Kd.C_alloc ?_ _) | (with_reducible refine Kd.C_drewN ?_ _) | (with_reducible refine Kd.C_drew ?_))) : P := h
theorem q53_15 {P : Prop} (h : P := by repeat (first | exact (Kd.R_reads' HO650.out).2.2 | (with_reducible refine Kd.C_alloc ?_ _) | (with_reducible refine Kd.C_drewN ?_ _) | (with_reducible refine Kd.C_drew ?_))) : P := h
theorem q53_16 {P : Prop} (h : P := by repeat (first | exact (Kd.R_reads' HO657.out).2.2 | (with_reducible refine Kd.C_alloc ?_ _) | (with_reducible refine Kd.C_drewN ?_ _) | (with_reducible refine Kd.C_drew ?_))) : P := h
theorem q53_17 {P : Prop} (h : P := by repeat (first | exact (Kd.R_reads' HO677.out).2.2 | (with_reducible refine Kd.C_alloc ?_ _) | (with_reducible refine Kd.C_drewN ?_ _) | (with_reducible refine Kd.C_drew ?_))) : P := h
theorem q53_18 {P : Prop} (h : P := by repeat (first | exact (Kd.R_reads' HO679.out).2.2 | (with_reducible refine Kd.C_alloc ?_ _) | (with_reducible refine Kd.C_drewN ?_ _) | (with_reducible refine Kd.C_drew ?_))) : P := h
theorem q53_19 {P : Prop} (h : P := by repeat (first | exact (Kd.R_reads' HO683.out).2.2 | (with_reducible refine Kd.C_alloc ?_ _) | (with_reducible refine Kd.C_drewN ?_ _) | (with_reducible refine Kd.C_drew ?_))) : P := h
theorem q53_20 {P : Prop} (h : P := by repeat (first | exact (Kd.R_reads' HO_11.out).2.2 | (with_reducible refine Kd.C_alloc ?_ _) | (with_reducible refine Kd.C_drewN ?_ _) | (with_reducible refine Kd.C_drew ?_))) : P := h
theorem q53_21 {P : Prop} (h : P := by repeat (first | exact (Kd.R_reads' HO_13.out).2.2 | (with_reducible refine Kd.C_alloc ?_ _) | (with_reducible refine Kd.C_drewN ?_ _) | (with_reducible refine Kd.C_drew ?_))) : P := h
theorem q53_22 {P : Prop} (h : P := by repeat (first | exact (Kd.R_reads' HO_15.out).2.2 | (with_reducible refine Kd.C_alloc ?_ _) | (with_reducible refine Kd.C_drewN ?_ _) | (with_reducible refine Kd.C_drew ?_))) : P := h
theorem q53_24 {P : Prop} (h : P := by repeat (first | exact (Kd.R_reads' HO_5.out).2.2 | (with_reducible refine Kd.C_alloc ?_ _) | (with_reducible refine Kd.C_drewN ?_ _) | (with_reducible refine Kd.C_drew ?_))) : P := h
theorem q53_25 {P : Prop} (h : P := by repeat (first | exact (Kd.R_reads' HO_9.out).2.2 | (with_reducible refine Kd.C_alloc ?_ _) | (with_reducible refine Kd.C_drewN ?_ _) | (with_reducible refine Kd.C_drew ?_))) : P := h
theorem q53_26 {P : Prop} (h : P := by repeat (first | (with_reducible first | exact HB.out | apply below_alloc | apply pw_below_drewN | apply below_drew1 | refine below_set ?_ GE630.out) | exact HB.out)) : P := h
theorem q53_27 {P : Prop} (h : P := by (with_reducible repeat (first | apply Kd.R_alloc | apply Kd.R_drewN | apply Kd.R_drew)); exact Kd.R_mono HO_13.out (fun _ hk => ⟨hk.2.1, ⟨hk.2.2.1, hk.2.2.2⟩⟩)) : P := h
theorem q53_28 {P : Prop} (h : P := by (with_reducible repeat (first | apply Kd.R_alloc | apply Kd.R_drewN | apply Kd.R_drew)); exact Kd.R_mono HO_15.out (fun _ hk => ⟨hk.2.1, ⟨hk.2.2.1, hk.2.2.2⟩⟩)) : P := h
theorem q53_29 {P : Prop} (h : P := by (with_reducible repeat (first | apply Kd.R_alloc | apply Kd.R_drewN | apply Kd.R_drew)); exact Kd.R_mono HO_16.out (fun _ hk => ⟨hk.2.1, ⟨hk.2.2.1, hk.2.2.2⟩⟩)) : P := h
theorem q53_30 {P : Prop} (h : P := by (with_reducible repeat (first | apply Kd.R_alloc | apply Kd.R_drewN | apply Kd.R_drew)); exact Kd.R_mono HO_20.out (fun _ hk => ⟨hk.2.1, ⟨hk.2.2.1, hk.2.2.2⟩⟩)) : P := h
theorem q53_34 {P : Prop} (h : P := by (with_reducible repeat (first | refine blk_drewN ?_ _ | refine blk_drew ?_ | refine blk_alloc ?_ _)); exact BK630.out) : P := h
theorem q53_35 {P : Prop} (h : P := by (with_reducible repeat (first | refine blk_drewN ?_ _ | refine blk_drew ?_ | refine blk_alloc ?_ _)); exact BK647.out) : P := h
theorem q53_36 {P : Prop} (h : P := by (with_reducible repeat (first | apply Kd.R_alloc | apply Kd.R_drewN | apply Kd.R_drew)); exact HO627.out) : P := h
theorem q53_37 {P : Prop} (h : P := by (with_reducible repeat (first | apply Kd.R_alloc | apply Kd.R_drewN | apply Kd.R_drew)); exact HO633.out) : P := h
theorem q53_38 {P : Prop} (h : P := by (with_reducible repeat (first | apply Kd.R_alloc | apply Kd.R_drewN | apply Kd.R_drew)); exact HO637.out) : P := h
theorem q53_39 {P : Prop} (h : P := by (with_reducible repeat (first | apply Kd.R_alloc | apply Kd.R_drewN | apply Kd.R_drew)); exact HO641.out) : P := h
theorem q53_40 {P : Prop} (h : P := by (with_reducible repeat (first | apply Kd.R_alloc | apply Kd.R_drewN | apply Kd.R_drew)); exact HO646.out) : P := h
theorem q53_41 {P : Prop} (h : P := by (with_reducible repeat (first | apply Kd.R_alloc | apply Kd.R_drewN | apply Kd.R_drew)); exact HO650.out) : P := h
theorem q53_42 {P : Prop} (h : P := by (with_reducible repeat (first | apply Kd.R_alloc | apply Kd.R_drewN | apply Kd.R_drew)); exact HO653.out) : P := h
theorem q53_43 {P : Prop} (h : P := by (with_reducible repeat (first | apply Kd.R_alloc | apply Kd.R_drewN | apply Kd.R_drew)); exact HO657.out) : P := h
theorem q53_44 {P : Prop} (h : P := by (with_reducible repeat (first | apply Kd.R_alloc | apply Kd.R_drewN | apply Kd.R_drew)); exact HO661.out) : P := h
theorem q53_45 {P : Prop} (h : P := by (with_reducible repeat (first | apply Kd.R_alloc | apply Kd.R_drewN | apply Kd.R_drew)); exact HO665.out) : P := h
theorem q53_46 {P : Prop} (h : P := by (with_reducible repeat (first | apply Kd.R_alloc | apply Kd.R_drewN | apply Kd.R_drew)); exact HO669.out) : P := h
theorem q53_47 {P : Prop} (h : P := by (with_reducible repeat (first | apply Kd.R_alloc | apply Kd.R_drewN | apply Kd.R_drew)); exact HO673.out) : P := h
theorem q53_48 {P : Prop} (h : P := by (with_reducible repeat (first | apply Kd.R_alloc | apply Kd.R_drewN | apply Kd.R_drew)); exact HO677.out) : P := h
theorem q53_49 {P : Prop} (h : P := by (with_reducible repeat (first | apply Kd.R_alloc | apply Kd.R_drewN | apply Kd.R_drew)); exact HO679.out) : P := h
theorem q53_50 {P : Prop} (h : P := by (with_reducible repeat (first | apply Kd.R_alloc | apply Kd.R_drewN | apply Kd.R_drew)); exact HO683.out) : P := h
theorem q53_51 {P : Prop} (h : P := by (with_reducible repeat (first | apply Kd.R_alloc | apply Kd.R_drewN | apply Kd.R_drew)); exact HO689.out) : P := h
theorem q53_52 {P : Prop} (h : P := by (with_reducible repeat (first | apply Kd.R_alloc | apply Kd.R_drewN | apply Kd.R_drew)); exact HO_11.out) : P := h
theorem q53_53 {P : Prop} (h : P := by (with_reducible repeat (first | apply Kd.R_alloc | apply Kd.R_drewN | apply Kd.R_drew)); exact HO_12.out) : P := h
theorem q53_54 {P : Prop} (h : P := by (with_reducible repeat (first | apply Kd.R_alloc | apply Kd.R_drewN | apply Kd.R_drew)); exact HO_13.out) : P := h
theorem q53_55 {P : Prop} (h : P := by (with_reducible repeat (first | apply Kd.R_alloc | apply Kd.R_drewN | apply Kd.R_drew)); exact HO_15.out) : P := h
theorem q53_56 {P : Prop} (h : P := by (with_reducible repeat (first | apply Kd.R_alloc | apply Kd.R_drewN | apply Kd.R_drew)); exact HO_16.out) : P := h
theorem q53_57 {P : Prop} (h : P := by (with_reducible repeat (first | apply Kd.R_alloc | apply Kd.R_drewN | apply Kd.R_drew)); exact HO_20.out) : P := h
theorem q53_60 {P : Prop} (h : P := by (with_reducible repeat (first | apply Kd.R_alloc | apply Kd.R_drewN | apply Kd.R_drew)); exact HO_9.out) : P := h
theorem q53_63 {P : Prop} (h : P := by simp only [laws_FnInference.j0]; exact fun h => by cases h) : P := h
mutual
def laws_FnInference.j0 : Nat → List (S48) → List (S110) → Bool → List (S48) → List (S110) → List (S48) → List (S48) → List (S48) → List (S48) → Bool → List (S48) → Bool → Bool → Int → Int → Int → Int → Option (Bool)
 | 0, _, _, _, _, _, _, _, _, _, _, _, _, _, _, _, _, _ => none
 | k + 1, x3, x5, x6, x9, x11, x12, x13, x15, x16, x17, x20, x21, x163, x631000, x631001, x648000, x648001 => if x163 = true then (some false) else (if x6 = true then ((impl_CheckProof.f k x3 x631000 x631001 x5).bind fun t697 => (if t697 = true then ((spec_CheckProof.f k x9 x648000 x648001 x11).bind fun t698 => (if t698 = true then ((spec_Follows.f k x9 x648000 x648001).bind fun t699 => (laws_FnInference.j1 k x12 x13 x15 x16 x17 x20 x21 (!t699))) else (laws_FnInference.j1 k x12 x13 x15 x16 x17 x20 x21 false))) else (laws_FnInference.j1 k x12 x13 x15 x16 x17 x20 x21 true))) else ((spec_CheckProof.f k x9 x648000 x648001 x11).bind fun t700 => (if t700 = true then ((spec_Follows.f k x9 x648000 x648001).bind fun t701 => (laws_FnInference.j1 k x12 x13 x15 x16 x17 x20 x21 (!t701))) else (laws_FnInference.j1 k x12 x13 x15 x16 x17 x20 x21 false))))
def laws_FnInference.j1 : Nat → List (S48) → List (S48) → List (S48) → List (S48) → Bool → List (S48) → Bool → Bool → Option (Bool)
 | 0, _, _, _, _, _, _, _, _ => none
 | k + 1, x12, x13, x15, x16, x17, x20, x21, x183 => if x183 = true then (some false) else (if (x13.length : Int) > 0 then ((impl_AreEquivalent.f x12 x13).bind fun t702 => (laws_FnInference.j2 k x13 x15 x16 x17 x20 x21 (!t702))) else (laws_FnInference.j2 k x13 x15 x16 x17 x20 x21 false))
def laws_FnInference.j2 : Nat → List (S48) → List (S48) → List (S48) → Bool → List (S48) → Bool → Bool → Option (Bool)
 | 0, _, _, _, _, _, _, _ => none
 | k + 1, x13, x15, x16, x17, x20, x21, x192 => if x192 = true then (some false) else (laws_FnInference.l0 k x13 x15 x16 x17 x20 x21 0)
def laws_FnInference.l0 : Nat → List (S48) → List (S48) → List (S48) → Bool → List (S48) → Bool → Int → Option (Bool)
 | 0, _, _, _, _, _, _, _ => none
 | k + 1, x13, x15, x16, x17, x20, x21, x28 => if x28 < (x13.length : Int) then ((impl_IsRedundant.f k x13 x28).bind fun t703 => (if t703 = true then (some false) else (laws_FnInference.l0 k x13 x15 x16 x17 x20 x21 (wrap64 (x28 + 1))))) else (if x17 = true then ((impl_AreEquivalent.f x15 x16).bind fun t704 => (if t704 = true then (if x21 = true then ((impl_AreEquivalent.f x15 x20).bind fun t705 => (if t705 = true then (some (decide ((x16.length : Int) ≤ (x15.length : Int)))) else (some false))) else (some false)) else (some false))) else (some true))
end
def laws_FnInference.f (k : Nat) (l0 : List Int) : Option (Bool) := (laws_big.f l0).bind fun t624 => (if t624 = true then (some true) else ((spec_DrawProofOf.f k l0).bind fun bt625 => ((impl_ProofOf.f k bt625.1 bt625.2.1 bt625.2.2).bind fun bt631 => ((spec_ProofOf.f k bt625.1 bt625.2.1 bt625.2.2).bind fun bt635 => ((spec_DrawCheckProof.f k l0).bind fun bt639 => ((spec_DrawMinimalRules.f k l0).bind fun t648 => ((impl_MinimalRules.f k t648).bind fun t651 => ((spec_DrawShortRules.f k l0).bind fun bt654 => ((impl_ShortRules.f bt654.1 bt654.2).bind fun bt658 => ((spec_ShortRules.f k bt654.1 bt654.2).bind fun bt662 => ((impl_LeftReduced.f k bt654.1 bt654.2).bind fun bt666 => ((spec_LeftReduced.f k bt654.1 bt654.2).bind fun bt670 => ((spec_DrawAreEquivalent.f k l0).bind fun bt674 => ((spec_DrawIsRedundant.f k l0).bind fun bt680 => (if (bt631.2 != bt635.2) = true then (laws_FnInference.j0 k bt625.1 bt631.1 bt631.2 bt639.1 bt639.2.2.2 t648 t651 bt654.2 bt658.1 bt658.2 bt666.1 bt666.2 true bt625.2.1 bt625.2.2 bt639.2.1 bt639.2.2.1) else ((laws_sameSteps.f k bt631.1 bt635.1).bind fun t684 => (if t684 = true then ((impl_CheckProof.f k bt639.1 bt639.2.1 bt639.2.2.1 bt639.2.2.2).bind fun t685 => ((spec_CheckProof.f k bt639.1 bt639.2.1 bt639.2.2.1 bt639.2.2.2).bind fun t686 => (if (t685 != t686) = true then (laws_FnInference.j0 k bt625.1 bt631.1 bt631.2 bt639.1 bt639.2.2.2 t648 t651 bt654.2 bt658.1 bt658.2 bt666.1 bt666.2 true bt625.2.1 bt625.2.2 bt639.2.1 bt639.2.2.1) else ((spec_MinimalRules.f k t648).bind fun t687 => ((laws_sameRules.f k t651 t687).bind fun t690 => (if t690 = true then (if (bt658.2 != bt662.2) = true then (laws_FnInference.j0 k bt625.1 bt631.1 bt631.2 bt639.1 bt639.2.2.2 t648 t651 bt654.2 bt658.1 bt658.2 bt666.1 bt666.2 true bt625.2.1 bt625.2.2 bt639.2.1 bt639.2.2.1) else ((laws_sameRules.f k bt658.1 bt662.1).bind fun t691 => (if t691 = true then (if (bt666.2 != bt670.2) = true then (laws_FnInference.j0 k bt625.1 bt631.1 bt631.2 bt639.1 bt639.2.2.2 t648 t651 bt654.2 bt658.1 bt658.2 bt666.1 bt666.2 true bt625.2.1 bt625.2.2 bt639.2.1 bt639.2.2.1) else ((laws_sameRules.f k bt666.1 bt670.1).bind fun t692 => (if t692 = true then ((impl_AreEquivalent.f bt674.1 bt674.2).bind fun t693 => ((spec_AreEquivalent.f k bt674.1 bt674.2).bind fun t694 => (if (t693 != t694) = true then (laws_FnInference.j0 k bt625.1 bt631.1 bt631.2 bt639.1 bt639.2.2.2 t648 t651 bt654.2 bt658.1 bt658.2 bt666.1 bt666.2 true bt625.2.1 bt625.2.2 bt639.2.1 bt639.2.2.1) else ((impl_IsRedundant.f k bt680.1 bt680.2).bind fun t695 => ((spec_IsRedundant.f k bt680.1 bt680.2).bind fun t696 => (laws_FnInference.j0 k bt625.1 bt631.1 bt631.2 bt639.1 bt639.2.2.2 t648 t651 bt654.2 bt658.1 bt658.2 bt666.1 bt666.2 (t695 != t696) bt625.2.1 bt625.2.2 bt639.2.1 bt639.2.2.1)))))) else (laws_FnInference.j0 k bt625.1 bt631.1 bt631.2 bt639.1 bt639.2.2.2 t648 t651 bt654.2 bt658.1 bt658.2 bt666.1 bt666.2 true bt625.2.1 bt625.2.2 bt639.2.1 bt639.2.2.1)))) else (laws_FnInference.j0 k bt625.1 bt631.1 bt631.2 bt639.1 bt639.2.2.2 t648 t651 bt654.2 bt658.1 bt658.2 bt666.1 bt666.2 true bt625.2.1 bt625.2.2 bt639.2.1 bt639.2.2.1)))) else (laws_FnInference.j0 k bt625.1 bt631.1 bt631.2 bt639.1 bt639.2.2.2 t648 t651 bt654.2 bt658.1 bt658.2 bt666.1 bt666.2 true bt625.2.1 bt625.2.2 bt639.2.1 bt639.2.2.1))))))) else (laws_FnInference.j0 k bt625.1 bt631.1 bt631.2 bt639.1 bt639.2.2.2 t648 t651 bt654.2 bt658.1 bt658.2 bt666.1 bt666.2 true bt625.2.1 bt625.2.2 bt639.2.1 bt639.2.2.1))))))))))))))))))
def laws_FnInference.T16 : Bool × List (List Nat × List Nat) := (true, [([], []), ([], []), ([0, 1], [0, 1]), ([2], [2]), ([3], [3]), ([3], [3]), ([4, 5, 3, 3], [3, 4, 5]), ([6, 3], [3, 6]), ([3, 7], [3, 7]), ([8, 6], [8]), ([9], [9]), ([9], [9]), ([9], [9]), ([10, 11, 12, 9, 9], [9, 10, 11, 12]), ([9], [9]), ([9], [9]), ([9], [9]), ([14, 15, 16, 13, 9], [9, 14, 15, 16]), ([13, 17, 9], [9, 13, 17]), ([9, 18], [9, 18]), ([19, 17], [19]), ([20], [20]), ([20], [20]), ([22, 20, 20], [20, 22]), ([21, 23, 23, 20], [20, 21, 23]), ([24, 20], [20, 24]), ([20, 25], [20, 25]), ([26, 24], [26]), ([27], [27]), ([27], [27]), ([28, 29, 27], [27, 28, 29]), ([27, 30], [27, 30]), ([31, 27], [31]), ([32], [32]), ([32], [32]), ([33, 34, 32, 32], [32, 33, 34]), ([35, 32], [32, 35]), ([32, 36], [32, 36]), ([37, 35], [37]), ([38], [38]), ([38], [38]), ([39, 40, 38], [38, 39, 40]), ([38, 41], [38, 41]), ([42, 38], [42]), ([43], [43]), ([43], [43]), ([44, 45, 43, 43], [43, 44, 45]), ([46, 43], [43, 46]), ([43, 47], [43, 47]), ([48, 46], [48]), ([49], [49]), ([49], [49]), ([50, 51, 49, 49], [49, 50, 51]), ([49], [49]), ([49], [49]), ([53, 54, 52, 49], [49, 53, 54]), ([52, 55, 49], [49, 52, 55]), ([49, 56], [49, 56]), ([57, 55], [57]), ([58], [58]), ([58], [58]), ([59, 60, 58, 58], [58, 59, 60]), ([58], [58]), ([58], [58]), ([62, 63, 61, 58], [58, 62, 63]), ([61, 64, 58], [58, 61, 64]), ([58, 65], [58, 65])])
def laws_FnInference.B16 : List Nat := [0, 0, 3, 7, 15, 15, 63, 127, 255, 511, 1023, 1023, 1023, 8191, 1023, 1023, 1023, 131071, 262143, 524287, 1048575, 2097151, 2097151, 6291455, 16777215, 33554431, 67108863, 134217727, 268435455, 268435455, 1073741823, 2147483647, 4294967295, 8589934591, 8589934591, 34359738367, 68719476735, 137438953471, 274877906943, 549755813887, 549755813887, 2199023255551, 4398046511103, 8796093022207, 17592186044415, 17592186044415, 70368744177663, 140737488355327, 281474976710655, 562949953421311, 1125899906842623, 1125899906842623, 4503599627370495, 1125899906842623, 1125899906842623, 36028797018963967, 72057594037927935, 144115188075855871, 288230376151711743, 576460752303423487, 576460752303423487, 2305843009213693951, 576460752303423487, 576460752303423487, 18446744073709551615, 36893488147419103231, 73786976294838206463]
theorem laws_FnInference.tab16 : rtab .any (opsOf Tryz.f4 16) = laws_FnInference.T16 := s10_
theorem laws_FnInference.bits16 : waitsOk laws_FnInference.T16.2 laws_FnInference.B16 = true := s10_
set_option maxHeartbeats 40000000 in
set_option maxRecDepth 100000 in
theorem laws_FnInference.calls (k : Nat) (A0 : Option Addr) (c0 : Nat) (l0 : List Int) (r : Bool) (w : World) (hr0 : Kd.C (Kd.int .u8) w A0 l0.length l0) (hc0 : l0.length ≤ c0) (hrt : r = true) (htab : Tab64 w) (h : laws_FnInference.f k l0 = some r) :
  Calls Tryz.prog 4 #[.slice A0 l0.length c0] w fun e w' => e = .returned (.bool r) ∧ Below w.heap.size w w' := by
 have HTB := Aside0.mk htab; clear htab; have hu48 := Tryz.underlying48; have HR0 := Aside0.mk hr0; have HC0 := Aside0.mk hc0; clear hr0 hc0; have HB := Aside0.mk (Below.refl w.heap.size w); have HRT := Aside0.mk hrt; clear hrt; have H := h; clear h; unfold laws_FnInference.f at H; obtain ⟨t624, A2, H⟩ := bnd53_ H
 by_cases c3 : t624 = true
 ·
  subst c3; rw [if_pos rfl] at H; obtain rfl := Option.some.inj H
  go_enter Tryz.func4, Tryz.ntmps4
  go_wp2_with (first | ((with_reducible refine gate_callee (f := 9) rfl ?_); refine gL_ 9 30 Tryz.func9 #[.slice A0 l0.length c0] ?_; (with_reducible refine (laws_big.calls _ _ l0 true _ ?side1 ?side2 A2.out).mono ?_); (case side1 => exact s13_); (case side2 => exact HC0.out); rintro e w' ⟨rfl, ⟨nd, rfl⟩⟩; refine ⟨_, rfl, ?_⟩))
  go_ret
  exact ⟨s4_, s1_⟩
 ·
  replace c3 := Bool.eq_false_iff.mpr c3; subst c3
  rw [if_neg (show ¬ (false = true) by decide)] at H
  obtain ⟨⟨t625, t628, t629⟩, A4, H⟩ := bnd53_ H; dsimp only at H; obtain ⟨⟨t631, t634⟩, A5, H⟩ := bnd53_ H; dsimp only at H; obtain ⟨⟨t635, t638⟩, A6, H⟩ := bnd53_ H; dsimp only at H; obtain ⟨⟨t639, t642, t643, t644⟩, A7, H⟩ := bnd53_ H; dsimp only at H; obtain ⟨t648, A8, H⟩ := bnd53_ H; obtain ⟨t651, A9, H⟩ := bnd53_ H; obtain ⟨⟨t654, t655⟩, A10, H⟩ := bnd53_ H; dsimp only at H; obtain ⟨⟨t658, t659⟩, A11, H⟩ := bnd53_ H; dsimp only at H; obtain ⟨⟨t662, t663⟩, A12, H⟩ := bnd53_ H; dsimp only at H; obtain ⟨⟨t666, t667⟩, A13, H⟩ := bnd53_ H; dsimp only at H; obtain ⟨⟨t670, t671⟩, A14, H⟩ := bnd53_ H; dsimp only at H; obtain ⟨⟨t674, t675⟩, A15, H⟩ := bnd53_ H; dsimp only at H; obtain ⟨⟨t680, t681⟩, A16, H⟩ := bnd53_ H; dsimp only at H; have HC17 := Aside0.mk H; clear H
  go_enter Tryz.func4, Tryz.ntmps4
  go_upto_region 16 with (first | ((with_reducible refine gate_callee (f := 9) rfl ?_); refine gL_ 9 30 Tryz.func9 #[.slice A0 l0.length c0] ?_; (with_reducible refine (laws_big.calls _ _ l0 false _ ?side1 ?side2 A2.out).mono ?_); (case side1 => exact s13_); (case side2 => exact HC0.out); rintro e w' ⟨rfl, ⟨nd, rfl⟩⟩; refine ⟨_, rfl, ?_⟩) | ((with_reducible refine gate_callee (f := 29) rfl ?_); refine gL_ 29 33 Tryz.func29 #[.slice A0 l0.length c0] ?_; (with_reducible refine (spec_DrawProofOf.calls k _ _ l0 t625 t628 t629 _ ?side1 ?side2 A4.out).mono ?_); (case side1 => exact s13_); (case side2 => exact HC0.out); rintro e w18 ⟨v626, rfl, ho0, hb⟩; refine ⟨_, rfl, ?_⟩; have n_ := ac_ (Kd.R_lower ho0 (below_size s1_)) <| Aside0.mk (below_step s1_ hb); clear HB; obtain ⟨HO627, HB⟩ := n_; (try clear hb ho0)) | ((with_reducible refine gate_dst (N := 4) rfl ?_); (try (refine gate_guard (by rfl) ?_; dsimp only)); refine box_event ?hg (N := 4) ?hd (cs := #[.int .i64 0, .int .i64 0]) (t := 48) ?hr ?_; (case hd => rfl); (case hg => rfl); (case hr => first | (go_simp; done) | (go_simp; rfl)); intro gb630 hg w19 hbox hb; have n_ := ac_ (Kd.R_below (Kd.R_elderB q53_36 gb630 (Nat.le_of_eq hg.symm)) hb) <| ac_ (below_step s1_ hb) <| ac_ (hbox) <| ac_ ((gz_ w hg s1_)) <| Aside0.mk ((gz_ w hg s1_)); clear HO627 HB; obtain ⟨HO627, HB, BK630, GW630, GE630⟩ := n_; clear hb hbox hg; have hcz20_0 : w19.cell? ⟨gb630, 0, none⟩ = some (.int .i64 0) := (blk_cell BK630.out 0).trans rfl; have hcz20_1 : w19.cell? ⟨gb630, 1, none⟩ = some (.int .i64 0) := (blk_cell BK630.out 1).trans rfl; have hfz20_0 := blk_frozen BK630.out 0; have hfz20_1 := blk_frozen BK630.out 1; obtain ⟨Ao21, co21, eo21⟩ := Kd.R_slice HO627.out; subst eo21) | ((with_reducible refine gate_callee (f := 30) rfl ?_); refine gL_ 30 39 Tryz.func30 #[.slice Ao21 t625.length co21, .agg #[.int .i64 t628, .int .i64 t629]] ?_; (with_reducible refine (impl_ProofOf.calls k _ _ t625 t628 t629 t631 t634 _ ?side1 ?side2 A5.out).mono ?_); (case side1 => refine (Kd.R_reads' (e := 48) (base := w.heap.size) (ok := fun k_ => (True ∧ k_ ≠ gb630)) (n := t625.length) (c := co21) ?_).2.2; exact q53_3); (case side2 => exact (Kd.R_reads' HO627.out).2.1); rintro e w22 ⟨v632, rfl, ho0, hb⟩; refine ⟨_, rfl, ?_⟩; have n_ := ac_ (Kd.R_below q53_3 hb) <| ac_ (Kd.R_lower ho0 (below_size q53_26)) <| ac_ (blk_below (g := gb630) (o := .cells #[.int .i64 t628, .int .i64 t629] 48 (0, 0)) (by (with_reducible repeat (first | refine blk_drewN ?_ _ | refine blk_drew ?_ | refine blk_alloc ?_ _)); refine blk_put (cs := #[.int .i64 t628, .int .i64 0]) ?_ 1 _ rfl; (with_reducible repeat (first | refine blk_drewN ?_ _ | refine blk_drew ?_ | refine blk_alloc ?_ _)); refine blk_put (cs := #[.int .i64 0, .int .i64 0]) ?_ 0 _ rfl; (with_reducible repeat (first | refine blk_drewN ?_ _ | refine blk_drew ?_ | refine blk_alloc ?_ _)); exact BK630.out) hb) <| Aside0.mk (below_step q53_26 hb); clear HO627 BK630 HB; obtain ⟨HO627, HO633, BK630, HB⟩ := n_; (try clear hb ho0); have hcz23_0 : w22.cell? ⟨gb630, 0, none⟩ = some (.int .i64 t628) := (blk_cell BK630.out 0).trans rfl; have hcz23_1 : w22.cell? ⟨gb630, 1, none⟩ = some (.int .i64 t629) := (blk_cell BK630.out 1).trans rfl; have hfz23_0 := blk_frozen BK630.out 0; have hfz23_1 := blk_frozen BK630.out 1) | ((with_reducible refine gate_callee (f := 31) rfl ?_); refine gL_ 31 45 Tryz.func31 #[.slice Ao21 t625.length co21, .agg #[.int .i64 t628, .int .i64 t629]] ?_; (with_reducible refine (spec_ProofOf.calls k _ _ t625 t628 t629 t635 t638 _ ?side1 ?side2 A6.out).mono ?_); (case side1 => repeat (first | exact (Kd.R_reads' HO627.out).2.2 | (with_reducible refine Kd.C_alloc ?_ _) | (with_reducible refine Kd.C_drewN ?_ _) | (with_reducible refine Kd.C_drew ?_))); (case side2 => exact (Kd.R_reads' HO627.out).2.1); rintro e w24 ⟨v636, rfl, ho0, hb⟩; refine ⟨_, rfl, ?_⟩; have n_ := ac_ (Kd.R_below q53_36 hb) <| ac_ (Kd.R_elder' q53_37 (Kd.R_base ho0) hb) <| ac_ (Kd.R_lower (Kd.R_new' ho0 (Kd.R_lt q53_37)) (below_size q53_26)) <| ac_ (blk_below (g := gb630) (o := .cells #[.int .i64 t628, .int .i64 t629] 48 (0, 0)) q53_34 hb) <| Aside0.mk (below_step q53_26 hb); clear HO627 HO633 BK630 HB; obtain ⟨HO627, HO633, HO637, BK630, HB⟩ := n_; (try clear hb ho0)) | ((with_reducible refine gate_callee (f := 32) rfl ?_); refine gL_ 32 50 Tryz.func32 #[.slice A0 l0.length c0] ?_; (with_reducible refine (spec_DrawCheckProof.calls k _ _ l0 t639 t642 t643 t644 _ ?side1 ?side2 A7.out).mono ?_); (case side1 => exact s5_); (case side2 => exact HC0.out); rintro e w25 ⟨v640, v645, rfl, ho0, ho1, hb⟩; refine ⟨_, rfl, ?_⟩; have n_ := ac_ (Kd.R_elder' q53_36 (Kd.R_base ho0) hb) <| ac_ (Kd.R_elder' q53_37 (Kd.R_base ho1) hb) <| ac_ (Kd.R_elder' q53_38 (Kd.R_base ho1) hb) <| ac_ (Kd.R_lower (Kd.R_newB (Kd.R_new' ho0 (Kd.R_lt q53_36)) (g := gb630) (o := .cells #[.int .i64 t628, .int .i64 t629] 48 (0, 0)) q53_34) (below_size q53_26)) <| ac_ (Kd.R_lower (Kd.R_new' (Kd.R_new' ho1 (Kd.R_lt q53_37)) (Kd.R_lt q53_38)) (below_size q53_26)) <| ac_ (blk_below (g := gb630) (o := .cells #[.int .i64 t628, .int .i64 t629] 48 (0, 0)) q53_34 hb) <| Aside0.mk (below_step q53_26 hb); clear HO627 HO633 HO637 BK630 HB; obtain ⟨HO627, HO633, HO637, HO641, HO646, BK630, HB⟩ := n_; (try clear hb ho0 ho1)) | ((with_reducible refine gate_dst (N := 10) rfl ?_); (try (refine gate_guard (by rfl) ?_; dsimp only)); refine box_event ?hg (N := 10) ?hd (cs := #[.int .i64 0, .int .i64 0]) (t := 48) ?hr ?_; (case hd => rfl); (case hg => rfl); (case hr => first | (go_simp; done) | (go_simp; rfl)); intro gb647 hg w26 hbox hb; have n_ := ac_ (Kd.R_below (Kd.R_elderB q53_36 gb647 (Nat.le_of_eq hg.symm)) hb) <| ac_ (Kd.R_below q53_37 hb) <| ac_ (Kd.R_below q53_38 hb) <| ac_ (Kd.R_below (Kd.R_elderB q53_39 gb647 (Nat.le_of_eq hg.symm)) hb) <| ac_ (Kd.R_below q53_40 hb) <| ac_ (blk_below (g := gb630) (o := .cells #[.int .i64 t628, .int .i64 t629] 48 (0, 0)) q53_34 hb) <| ac_ (below_step q53_26 hb) <| ac_ (hbox) <| ac_ ((gz_ w hg q53_26)) <| ac_ ((gz_ w hg q53_26)) <| ac_ ((nl_ hg (blk_lt (g := gb630) (o := .cells #[.int .i64 t628, .int .i64 t629] 48 (0, 0)) q53_34))) <| Aside0.mk ((ng_ hg (blk_lt (g := gb630) (o := .cells #[.int .i64 t628, .int .i64 t629] 48 (0, 0)) q53_34))); clear HO627 HO633 HO637 HO641 HO646 BK630 HB; obtain ⟨HO627, HO633, HO637, HO641, HO646, BK630, HB, BK647, GW647, GE647, NB630_647, NB647_630⟩ := n_; clear hb hbox hg; have hnb27 := NB647_630.out; have hnc27 := NB630_647.out; have hcz28_0 : w26.cell? ⟨gb647, 0, none⟩ = some (.int .i64 0) := (blk_cell BK647.out 0).trans rfl; have hcz28_1 : w26.cell? ⟨gb647, 1, none⟩ = some (.int .i64 0) := (blk_cell BK647.out 1).trans rfl; have hfz28_0 := blk_frozen BK647.out 0; have hfz28_1 := blk_frozen BK647.out 1) | ((with_reducible refine gate_callee (f := 33) rfl ?_); refine gL_ 33 55 Tryz.func33 #[.slice A0 l0.length c0] ?_; (with_reducible refine (spec_DrawMinimalRules.calls k _ _ l0 t648 _ ?side1 ?side2 A8.out).mono ?_); (case side1 => exact Kd.C_below HR0.out q53_6); (case side2 => exact HC0.out); rintro e w29 ⟨v649, rfl, ho0, hb⟩; refine ⟨_, rfl, ?_⟩; have n_ := ac_ (Kd.R_elder' q53_4 (Kd.R_base ho0) hb) <| ac_ (Kd.R_below (by (with_reducible repeat (first | apply Kd.R_alloc | apply Kd.R_drewN | apply Kd.R_drew)); exact (Kd.R_mono (Kd.R_far (p := ⟨gb647, 1, none⟩) (Kd.R_far (p := ⟨gb647, 0, none⟩) (Kd.R_types HO633.out BK647.out (by decide)) (fun _ hk => hk.2) (.int .i64 t642)) (fun _ hk => hk.2) (.int .i64 t643)) (fun _ h_ => h_.1))) hb) <| ac_ (Kd.R_below (by (with_reducible repeat (first | apply Kd.R_alloc | apply Kd.R_drewN | apply Kd.R_drew)); exact (Kd.R_mono (Kd.R_far (p := ⟨gb647, 1, none⟩) (Kd.R_far (p := ⟨gb647, 0, none⟩) (Kd.R_types HO637.out BK647.out (by decide)) (fun _ hk => hk.2) (.int .i64 t642)) (fun _ hk => hk.2) (.int .i64 t643)) (fun _ h_ => h_.1))) hb) <| ac_ (Kd.R_elder' q53_5 (Kd.R_base ho0) hb) <| ac_ (Kd.R_below (by (with_reducible repeat (first | apply Kd.R_alloc | apply Kd.R_drewN | apply Kd.R_drew)); exact (Kd.R_mono (Kd.R_far (p := ⟨gb647, 1, none⟩) (Kd.R_far (p := ⟨gb647, 0, none⟩) (Kd.R_types HO646.out BK647.out (by decide)) (fun _ hk => hk.2) (.int .i64 t642)) (fun _ hk => hk.2) (.int .i64 t643)) (fun _ h_ => h_.1))) hb) <| ac_ (Kd.R_lower (Kd.R_newB (Kd.R_newB (Kd.R_new' (Kd.R_new' ho0 (Kd.R_lt q53_4)) (Kd.R_lt q53_5)) (g := gb630) (o := .cells #[.int .i64 t628, .int .i64 t629] 48 (0, 0)) q53_2) (g := gb647) (o := .cells #[.int .i64 t642, .int .i64 t643] 48 (0, 0)) q53_1) (below_size q53_6)) <| ac_ (blk_below (g := gb630) (o := .cells #[.int .i64 t628, .int .i64 t629] 48 (0, 0)) q53_2 hb) <| ac_ (blk_below (g := gb647) (o := .cells #[.int .i64 t642, .int .i64 t643] 48 (0, 0)) q53_1 hb) <| Aside0.mk (below_step q53_6 hb); clear HO627 HO633 HO637 HO641 HO646 BK630 BK647 HB; obtain ⟨HO627, HO633, HO637, HO641, HO646, HO650, BK630, BK647, HB⟩ := n_; (try clear hb ho0); obtain ⟨Ao30, co30, eo30⟩ := Kd.R_slice HO650.out; subst eo30) | ((with_reducible refine gate_callee (f := 34) rfl ?_); refine gL_ 34 57 Tryz.func34 #[.slice Ao30 t648.length co30] ?_; (with_reducible refine (impl_MinimalRules.calls k _ _ t648 t651 _ ?side1 ?side2 A9.out).mono ?_); (case side1 => exact q53_15); (case side2 => exact (Kd.R_reads' HO650.out).2.1); rintro e w31 ⟨v652, rfl, ho0, hb⟩; refine ⟨_, rfl, ?_⟩; have n_ := ac_ (Kd.R_elder' q53_36 (Kd.R_base ho0) hb) <| ac_ (Kd.R_below q53_37 hb) <| ac_ (Kd.R_below q53_38 hb) <| ac_ (Kd.R_elder' q53_39 (Kd.R_base ho0) hb) <| ac_ (Kd.R_below q53_40 hb) <| ac_ (Kd.R_elder' q53_41 (Kd.R_base ho0) hb) <| ac_ (Kd.R_lower (Kd.R_newB (Kd.R_newB (Kd.R_new' (Kd.R_new' (Kd.R_new' ho0 (Kd.R_lt q53_36)) (Kd.R_lt q53_39)) (Kd.R_lt q53_41)) (g := gb630) (o := .cells #[.int .i64 t628, .int .i64 t629] 48 (0, 0)) q53_34) (g := gb647) (o := .cells #[.int .i64 t642, .int .i64 t643] 48 (0, 0)) q53_35) (below_size q53_6)) <| ac_ (blk_below (g := gb630) (o := .cells #[.int .i64 t628, .int .i64 t629] 48 (0, 0)) q53_34 hb) <| ac_ (blk_below (g := gb647) (o := .cells #[.int .i64 t642, .int .i64 t643] 48 (0, 0)) q53_35 hb) <| Aside0.mk (below_step q53_6 hb); clear HO627 HO633 HO637 HO641 HO646 HO650 BK630 BK647 HB; obtain ⟨HO627, HO633, HO637, HO641, HO646, HO650, HO653, BK630, BK647, HB⟩ := n_; (try clear hb ho0)) | ((with_reducible refine gate_callee (f := 35) rfl ?_); refine gL_ 35 60 Tryz.func35 #[.slice A0 l0.length c0] ?_; (with_reducible refine (spec_DrawShortRules.calls k _ _ l0 t654 t655 _ ?side1 ?side2 A10.out).mono ?_); (case side1 => exact s5_); (case side2 => exact HC0.out); rintro e w32 ⟨v656, rfl, ho0, hb⟩; refine ⟨_, rfl, ?_⟩; have n_ := ac_ (Kd.R_elder' q53_36 (Kd.R_base ho0) hb) <| ac_ (Kd.R_below q53_37 hb) <| ac_ (Kd.R_below q53_38 hb) <| ac_ (Kd.R_elder' q53_39 (Kd.R_base ho0) hb) <| ac_ (Kd.R_below q53_40 hb) <| ac_ (Kd.R_elder' q53_41 (Kd.R_base ho0) hb) <| ac_ (Kd.R_elder' q53_42 (Kd.R_base ho0) hb) <| ac_ (Kd.R_lower (Kd.R_newB (Kd.R_newB (Kd.R_new' (Kd.R_new' (Kd.R_new' (Kd.R_new' ho0 (Kd.R_lt q53_36)) (Kd.R_lt q53_39)) (Kd.R_lt q53_41)) (Kd.R_lt q53_42)) (g := gb630) (o := .cells #[.int .i64 t628, .int .i64 t629] 48 (0, 0)) q53_34) (g := gb647) (o := .cells #[.int .i64 t642, .int .i64 t643] 48 (0, 0)) q53_35) (below_size q53_6)) <| ac_ (blk_below (g := gb630) (o := .cells #[.int .i64 t628, .int .i64 t629] 48 (0, 0)) q53_34 hb) <| ac_ (blk_below (g := gb647) (o := .cells #[.int .i64 t642, .int .i64 t643] 48 (0, 0)) q53_35 hb) <| Aside0.mk (below_step q53_6 hb); clear HO627 HO633 HO637 HO641 HO646 HO650 HO653 BK630 BK647 HB; obtain ⟨HO627, HO633, HO637, HO641, HO646, HO650, HO653, HO657, BK630, BK647, HB⟩ := n_; (try clear hb ho0); obtain ⟨Ao33, co33, eo33⟩ := Kd.R_slice HO657.out; subst eo33) | ((with_reducible refine gate_callee (f := 36) rfl ?_); refine gL_ 36 66 Tryz.func36 #[.int .i64 t654, .slice Ao33 t655.length co33] ?_; (with_reducible refine (impl_ShortRules.calls t654 _ _ t655 t658 t659 _ ?side1 ?side2 ?tab A11.out).mono ?_); (case tab => first | exact HTB.out | (refine Tab64.below HTB.out ?_; repeat (first | (with_reducible first | exact HB.out | apply below_alloc | apply pw_below_drewN | apply below_drew1 | refine below_set ?_ GE630.out | refine below_set ?_ GE647.out) | exact HB.out)) | (repeat (first | exact HTB.out | apply Tab64.drewN | apply Tab64.drew | apply Tab64.alloc))); (case side1 => exact q53_16); (case side2 => exact (Kd.R_reads' HO657.out).2.1); rintro e w34 ⟨v660, rfl, ho0, hb⟩; refine ⟨_, rfl, ?_⟩; have n_ := ac_ (Kd.R_elder' q53_36 (Kd.R_base ho0) hb) <| ac_ (Kd.R_below q53_37 hb) <| ac_ (Kd.R_below q53_38 hb) <| ac_ (Kd.R_elder' q53_39 (Kd.R_base ho0) hb) <| ac_ (Kd.R_below q53_40 hb) <| ac_ (Kd.R_elder' q53_41 (Kd.R_base ho0) hb) <| ac_ (Kd.R_elder' q53_42 (Kd.R_base ho0) hb) <| ac_ (Kd.R_elder' q53_43 (Kd.R_base ho0) hb) <| ac_ (Kd.R_lower (Kd.R_newB (Kd.R_newB (Kd.R_new' (Kd.R_new' (Kd.R_new' (Kd.R_new' (Kd.R_new' ho0 (Kd.R_lt q53_36)) (Kd.R_lt q53_39)) (Kd.R_lt q53_41)) (Kd.R_lt q53_42)) (Kd.R_lt q53_43)) (g := gb630) (o := .cells #[.int .i64 t628, .int .i64 t629] 48 (0, 0)) q53_34) (g := gb647) (o := .cells #[.int .i64 t642, .int .i64 t643] 48 (0, 0)) q53_35) (below_size q53_6)) <| ac_ (blk_below (g := gb630) (o := .cells #[.int .i64 t628, .int .i64 t629] 48 (0, 0)) q53_34 hb) <| ac_ (blk_below (g := gb647) (o := .cells #[.int .i64 t642, .int .i64 t643] 48 (0, 0)) q53_35 hb) <| Aside0.mk (below_step q53_6 hb); clear HO627 HO633 HO637 HO641 HO646 HO650 HO653 HO657 BK630 BK647 HB; obtain ⟨HO627, HO633, HO637, HO641, HO646, HO650, HO653, HO657, HO661, BK630, BK647, HB⟩ := n_; (try clear hb ho0)) | ((with_reducible refine gate_callee (f := 26) rfl ?_); refine gL_ 26 72 Tryz.func26 #[.int .i64 t654, .slice Ao33 t655.length co33] ?_; (with_reducible refine (spec_ShortRules.calls k t654 _ _ t655 t662 t663 _ ?side1 ?side2 A12.out).mono ?_); (case side1 => exact q53_16); (case side2 => exact (Kd.R_reads' HO657.out).2.1); rintro e w35 ⟨v664, rfl, ho0, hb⟩; refine ⟨_, rfl, ?_⟩; have n_ := ac_ (Kd.R_elder' q53_36 (Kd.R_base ho0) hb) <| ac_ (Kd.R_below q53_37 hb) <| ac_ (Kd.R_below q53_38 hb) <| ac_ (Kd.R_elder' q53_39 (Kd.R_base ho0) hb) <| ac_ (Kd.R_below q53_40 hb) <| ac_ (Kd.R_elder' q53_41 (Kd.R_base ho0) hb) <| ac_ (Kd.R_elder' q53_42 (Kd.R_base ho0) hb) <| ac_ (Kd.R_elder' q53_43 (Kd.R_base ho0) hb) <| ac_ (Kd.R_elder' q53_44 (Kd.R_base ho0) hb) <| ac_ (Kd.R_lower (Kd.R_newB (Kd.R_newB (Kd.R_new' (Kd.R_new' (Kd.R_new' (Kd.R_new' (Kd.R_new' (Kd.R_new' ho0 (Kd.R_lt q53_36)) (Kd.R_lt q53_39)) (Kd.R_lt q53_41)) (Kd.R_lt q53_42)) (Kd.R_lt q53_43)) (Kd.R_lt q53_44)) (g := gb630) (o := .cells #[.int .i64 t628, .int .i64 t629] 48 (0, 0)) q53_34) (g := gb647) (o := .cells #[.int .i64 t642, .int .i64 t643] 48 (0, 0)) q53_35) (below_size q53_6)) <| ac_ (blk_below (g := gb630) (o := .cells #[.int .i64 t628, .int .i64 t629] 48 (0, 0)) q53_34 hb) <| ac_ (blk_below (g := gb647) (o := .cells #[.int .i64 t642, .int .i64 t643] 48 (0, 0)) q53_35 hb) <| Aside0.mk (below_step q53_6 hb); clear HO627 HO633 HO637 HO641 HO646 HO650 HO653 HO657 HO661 BK630 BK647 HB; obtain ⟨HO627, HO633, HO637, HO641, HO646, HO650, HO653, HO657, HO661, HO665, BK630, BK647, HB⟩ := n_; (try clear hb ho0)) | ((with_reducible refine gate_callee (f := 37) rfl ?_); refine gL_ 37 78 Tryz.func37 #[.int .i64 t654, .slice Ao33 t655.length co33] ?_; (with_reducible refine (impl_LeftReduced.calls k t654 _ _ t655 t666 t667 _ ?side1 ?side2 A13.out).mono ?_); (case side1 => exact q53_16); (case side2 => exact (Kd.R_reads' HO657.out).2.1); rintro e w36 ⟨v668, rfl, ho0, hb⟩; refine ⟨_, rfl, ?_⟩; have n_ := ac_ (Kd.R_elder' q53_36 (Kd.R_base ho0) hb) <| ac_ (Kd.R_below q53_37 hb) <| ac_ (Kd.R_below q53_38 hb) <| ac_ (Kd.R_elder' q53_39 (Kd.R_base ho0) hb) <| ac_ (Kd.R_below q53_40 hb) <| ac_ (Kd.R_elder' q53_41 (Kd.R_base ho0) hb) <| ac_ (Kd.R_elder' q53_42 (Kd.R_base ho0) hb) <| ac_ (Kd.R_elder' q53_43 (Kd.R_base ho0) hb) <| ac_ (Kd.R_elder' q53_44 (Kd.R_base ho0) hb) <| ac_ (Kd.R_elder' q53_45 (Kd.R_base ho0) hb) <| ac_ (Kd.R_lower (Kd.R_newB (Kd.R_newB (Kd.R_new' (Kd.R_new' (Kd.R_new' (Kd.R_new' (Kd.R_new' (Kd.R_new' (Kd.R_new' ho0 (Kd.R_lt q53_36)) (Kd.R_lt q53_39)) (Kd.R_lt q53_41)) (Kd.R_lt q53_42)) (Kd.R_lt q53_43)) (Kd.R_lt q53_44)) (Kd.R_lt q53_45)) (g := gb630) (o := .cells #[.int .i64 t628, .int .i64 t629] 48 (0, 0)) q53_34) (g := gb647) (o := .cells #[.int .i64 t642, .int .i64 t643] 48 (0, 0)) q53_35) (below_size q53_6)) <| ac_ (blk_below (g := gb630) (o := .cells #[.int .i64 t628, .int .i64 t629] 48 (0, 0)) q53_34 hb) <| ac_ (blk_below (g := gb647) (o := .cells #[.int .i64 t642, .int .i64 t643] 48 (0, 0)) q53_35 hb) <| Aside0.mk (below_step q53_6 hb); clear HO627 HO633 HO637 HO641 HO646 HO650 HO653 HO657 HO661 HO665 BK630 BK647 HB; obtain ⟨HO627, HO633, HO637, HO641, HO646, HO650, HO653, HO657, HO661, HO665, HO669, BK630, BK647, HB⟩ := n_; (try clear hb ho0)) | ((with_reducible refine gate_callee (f := 38) rfl ?_); refine gL_ 38 84 Tryz.func38 #[.int .i64 t654, .slice Ao33 t655.length co33] ?_; (with_reducible refine (spec_LeftReduced.calls k t654 _ _ t655 t670 t671 _ ?side1 ?side2 A14.out).mono ?_); (case side1 => exact q53_16); (case side2 => exact (Kd.R_reads' HO657.out).2.1); rintro e w37 ⟨v672, rfl, ho0, hb⟩; refine ⟨_, rfl, ?_⟩; have n_ := ac_ (Kd.R_elder' q53_36 (Kd.R_base ho0) hb) <| ac_ (Kd.R_below q53_37 hb) <| ac_ (Kd.R_below q53_38 hb) <| ac_ (Kd.R_elder' q53_39 (Kd.R_base ho0) hb) <| ac_ (Kd.R_below q53_40 hb) <| ac_ (Kd.R_elder' q53_41 (Kd.R_base ho0) hb) <| ac_ (Kd.R_elder' q53_42 (Kd.R_base ho0) hb) <| ac_ (Kd.R_elder' q53_43 (Kd.R_base ho0) hb) <| ac_ (Kd.R_elder' q53_44 (Kd.R_base ho0) hb) <| ac_ (Kd.R_elder' q53_45 (Kd.R_base ho0) hb) <| ac_ (Kd.R_elder' q53_46 (Kd.R_base ho0) hb) <| ac_ (Kd.R_lower (Kd.R_newB (Kd.R_newB (Kd.R_new' (Kd.R_new' (Kd.R_new' (Kd.R_new' (Kd.R_new' (Kd.R_new' (Kd.R_new' (Kd.R_new' ho0 (Kd.R_lt q53_36)) (Kd.R_lt q53_39)) (Kd.R_lt q53_41)) (Kd.R_lt q53_42)) (Kd.R_lt q53_43)) (Kd.R_lt q53_44)) (Kd.R_lt q53_45)) (Kd.R_lt q53_46)) (g := gb630) (o := .cells #[.int .i64 t628, .int .i64 t629] 48 (0, 0)) q53_34) (g := gb647) (o := .cells #[.int .i64 t642, .int .i64 t643] 48 (0, 0)) q53_35) (below_size q53_6)) <| ac_ (blk_below (g := gb630) (o := .cells #[.int .i64 t628, .int .i64 t629] 48 (0, 0)) q53_34 hb) <| ac_ (blk_below (g := gb647) (o := .cells #[.int .i64 t642, .int .i64 t643] 48 (0, 0)) q53_35 hb) <| Aside0.mk (below_step q53_6 hb); clear HO627 HO633 HO637 HO641 HO646 HO650 HO653 HO657 HO661 HO665 HO669 BK630 BK647 HB; obtain ⟨HO627, HO633, HO637, HO641, HO646, HO650, HO653, HO657, HO661, HO665, HO669, HO673, BK630, BK647, HB⟩ := n_; (try clear hb ho0)) | ((with_reducible refine gate_callee (f := 39) rfl ?_); refine gL_ 39 89 Tryz.func39 #[.slice A0 l0.length c0] ?_; (with_reducible refine (spec_DrawAreEquivalent.calls k _ _ l0 t674 t675 _ ?side1 ?side2 A15.out).mono ?_); (case side1 => exact s5_); (case side2 => exact HC0.out); rintro e w38 ⟨v676, v678, rfl, ho0, ho1, hb⟩; refine ⟨_, rfl, ?_⟩; have n_ := ac_ (Kd.R_mono (Kd.R_told (Kd.R_told (Kd.R_old q53_36 hb) (Kd.R_base ho0)) (Kd.R_base ho1)) (fun _ h_ => h_.1)) <| ac_ (Kd.R_below q53_37 hb) <| ac_ (Kd.R_below q53_38 hb) <| ac_ (Kd.R_mono (Kd.R_told (Kd.R_told (Kd.R_old q53_39 hb) (Kd.R_base ho0)) (Kd.R_base ho1)) (fun _ h_ => h_.1)) <| ac_ (Kd.R_below q53_40 hb) <| ac_ (Kd.R_mono (Kd.R_told (Kd.R_told (Kd.R_old q53_41 hb) (Kd.R_base ho0)) (Kd.R_base ho1)) (fun _ h_ => h_.1)) <| ac_ (Kd.R_mono (Kd.R_told (Kd.R_told (Kd.R_old q53_42 hb) (Kd.R_base ho0)) (Kd.R_base ho1)) (fun _ h_ => h_.1)) <| ac_ (Kd.R_mono (Kd.R_told (Kd.R_told (Kd.R_old q53_43 hb) (Kd.R_base ho0)) (Kd.R_base ho1)) (fun _ h_ => h_.1)) <| ac_ (Kd.R_mono (Kd.R_told (Kd.R_told (Kd.R_old q53_44 hb) (Kd.R_base ho0)) (Kd.R_base ho1)) (fun _ h_ => h_.1)) <| ac_ (Kd.R_mono (Kd.R_told (Kd.R_told (Kd.R_old q53_45 hb) (Kd.R_base ho0)) (Kd.R_base ho1)) (fun _ h_ => h_.1)) <| ac_ (Kd.R_mono (Kd.R_told (Kd.R_told (Kd.R_old q53_46 hb) (Kd.R_base ho0)) (Kd.R_base ho1)) (fun _ h_ => h_.1)) <| ac_ (Kd.R_mono (Kd.R_told (Kd.R_told (Kd.R_old q53_47 hb) (Kd.R_base ho0)) (Kd.R_base ho1)) (fun _ h_ => h_.1)) <| ac_ (Kd.R_lower (Kd.R_newB (Kd.R_newB (Kd.R_new' (Kd.R_new' (Kd.R_new' (Kd.R_new' (Kd.R_new' (Kd.R_new' (Kd.R_new' (Kd.R_new' (Kd.R_new' ho0 (Kd.R_lt q53_36)) (Kd.R_lt q53_39)) (Kd.R_lt q53_41)) (Kd.R_lt q53_42)) (Kd.R_lt q53_43)) (Kd.R_lt q53_44)) (Kd.R_lt q53_45)) (Kd.R_lt q53_46)) (Kd.R_lt q53_47)) (g := gb630) (o := .cells #[.int .i64 t628, .int .i64 t629] 48 (0, 0)) q53_34) (g := gb647) (o := .cells #[.int .i64 t642, .int .i64 t643] 48 (0, 0)) q53_35) (below_size q53_6)) <| ac_ (Kd.R_lower (Kd.R_newB (Kd.R_newB (Kd.R_new' (Kd.R_new' (Kd.R_new' (Kd.R_new' (Kd.R_new' (Kd.R_new' (Kd.R_new' (Kd.R_new' (Kd.R_new' ho1 (Kd.R_lt q53_36)) (Kd.R_lt q53_39)) (Kd.R_lt q53_41)) (Kd.R_lt q53_42)) (Kd.R_lt q53_43)) (Kd.R_lt q53_44)) (Kd.R_lt q53_45)) (Kd.R_lt q53_46)) (Kd.R_lt q53_47)) (g := gb630) (o := .cells #[.int .i64 t628, .int .i64 t629] 48 (0, 0)) q53_34) (g := gb647) (o := .cells #[.int .i64 t642, .int .i64 t643] 48 (0, 0)) q53_35) (below_size q53_6)) <| ac_ (blk_below (g := gb630) (o := .cells #[.int .i64 t628, .int .i64 t629] 48 (0, 0)) q53_34 hb) <| ac_ (blk_below (g := gb647) (o := .cells #[.int .i64 t642, .int .i64 t643] 48 (0, 0)) q53_35 hb) <| Aside0.mk (below_step q53_6 hb); clear HO627 HO633 HO637 HO641 HO646 HO650 HO653 HO657 HO661 HO665 HO669 HO673 BK630 BK647 HB; obtain ⟨HO627, HO633, HO637, HO641, HO646, HO650, HO653, HO657, HO661, HO665, HO669, HO673, HO677, HO679, BK630, BK647, HB⟩ := n_; (try clear hb ho0 ho1)) | ((with_reducible refine gate_callee (f := 40) rfl ?_); refine gL_ 40 94 Tryz.func40 #[.slice A0 l0.length c0] ?_; (with_reducible refine (spec_DrawIsRedundant.calls k _ _ l0 t680 t681 _ ?side1 ?side2 A16.out).mono ?_); (case side1 => exact s5_); (case side2 => exact HC0.out); rintro e w39 ⟨v682, rfl, ho0, hb⟩; refine ⟨_, rfl, ?_⟩; have n_ := ac_ (Kd.R_elder' q53_36 (Kd.R_base ho0) hb) <| ac_ (Kd.R_below q53_37 hb) <| ac_ (Kd.R_below q53_38 hb) <| ac_ (Kd.R_elder' q53_39 (Kd.R_base ho0) hb) <| ac_ (Kd.R_below q53_40 hb) <| ac_ (Kd.R_elder' q53_41 (Kd.R_base ho0) hb) <| ac_ (Kd.R_elder' q53_42 (Kd.R_base ho0) hb) <| ac_ (Kd.R_elder' q53_43 (Kd.R_base ho0) hb) <| ac_ (Kd.R_elder' q53_44 (Kd.R_base ho0) hb) <| ac_ (Kd.R_elder' q53_45 (Kd.R_base ho0) hb) <| ac_ (Kd.R_elder' q53_46 (Kd.R_base ho0) hb) <| ac_ (Kd.R_elder' q53_47 (Kd.R_base ho0) hb) <| ac_ (Kd.R_elder' q53_48 (Kd.R_base ho0) hb) <| ac_ (Kd.R_elder' q53_49 (Kd.R_base ho0) hb) <| ac_ (Kd.R_lower (Kd.R_newB (Kd.R_newB (Kd.R_new' (Kd.R_new' (Kd.R_new' (Kd.R_new' (Kd.R_new' (Kd.R_new' (Kd.R_new' (Kd.R_new' (Kd.R_new' (Kd.R_new' (Kd.R_new' ho0 (Kd.R_lt q53_36)) (Kd.R_lt q53_39)) (Kd.R_lt q53_41)) (Kd.R_lt q53_42)) (Kd.R_lt q53_43)) (Kd.R_lt q53_44)) (Kd.R_lt q53_45)) (Kd.R_lt q53_46)) (Kd.R_lt q53_47)) (Kd.R_lt q53_48)) (Kd.R_lt q53_49)) (g := gb630) (o := .cells #[.int .i64 t628, .int .i64 t629] 48 (0, 0)) q53_34) (g := gb647) (o := .cells #[.int .i64 t642, .int .i64 t643] 48 (0, 0)) q53_35) (below_size q53_6)) <| ac_ (blk_below (g := gb630) (o := .cells #[.int .i64 t628, .int .i64 t629] 48 (0, 0)) q53_34 hb) <| ac_ (blk_below (g := gb647) (o := .cells #[.int .i64 t642, .int .i64 t643] 48 (0, 0)) q53_35 hb) <| Aside0.mk (below_step q53_6 hb); clear HO627 HO633 HO637 HO641 HO646 HO650 HO653 HO657 HO661 HO665 HO669 HO673 HO677 HO679 BK630 BK647 HB; obtain ⟨HO627, HO633, HO637, HO641, HO646, HO650, HO653, HO657, HO661, HO665, HO669, HO673, HO677, HO679, HO683, BK630, BK647, HB⟩ := n_; (try clear hb ho0)))
  (try simp only [Act.put, List.setIfInBounds_toArray, List.set_cons_zero, List.set_cons_succ])
  go_cut [163] (fun v163 wc => ∃ (kq : Nat) (x163_16 : Bool), v163 = .bool x163_16 ∧ Aside0 (laws_FnInference.j0 kq t625 t631 t634 t639 t644 t648 t651 t655 t658 t659 t666 t667 x163_16 t628 t629 t642 t643 = some r) ∧ Aside0 (kq ≤ k) ∧ Aside0 (Kd.R k48 48 wc w.heap.size (fun k_ => some k_ ≠ (v640 : Value).ownBlock ∧ some k_ ≠ ((.slice Ao30 t648.length co30) : Value).ownBlock ∧ some k_ ≠ (v652 : Value).ownBlock ∧ some k_ ≠ ((.slice Ao33 t655.length co33) : Value).ownBlock ∧ some k_ ≠ (v660 : Value).ownBlock ∧ some k_ ≠ (v668 : Value).ownBlock ∧ k_ ≠ gb630 ∧ k_ ≠ gb647) (.slice Ao21 t625.length co21) t625) ∧ Aside0 (Kd.R k110 110 wc w.heap.size (fun k_ => some k_ ≠ (v645 : Value).ownBlock) v632 t631) ∧ Aside0 (Kd.R k48 48 wc w.heap.size (fun k_ => some k_ ≠ ((.slice Ao21 t625.length co21) : Value).ownBlock ∧ some k_ ≠ ((.slice Ao30 t648.length co30) : Value).ownBlock ∧ some k_ ≠ (v652 : Value).ownBlock ∧ some k_ ≠ ((.slice Ao33 t655.length co33) : Value).ownBlock ∧ some k_ ≠ (v660 : Value).ownBlock ∧ some k_ ≠ (v668 : Value).ownBlock ∧ k_ ≠ gb630 ∧ k_ ≠ gb647) v640 t639) ∧ Aside0 (Kd.R k110 110 wc w.heap.size (fun k_ => some k_ ≠ (v632 : Value).ownBlock) v645 t644) ∧ Aside0 (Kd.R k48 48 wc w.heap.size (fun k_ => some k_ ≠ ((.slice Ao21 t625.length co21) : Value).ownBlock ∧ some k_ ≠ (v640 : Value).ownBlock ∧ some k_ ≠ (v652 : Value).ownBlock ∧ some k_ ≠ ((.slice Ao33 t655.length co33) : Value).ownBlock ∧ some k_ ≠ (v660 : Value).ownBlock ∧ some k_ ≠ (v668 : Value).ownBlock ∧ k_ ≠ gb630 ∧ k_ ≠ gb647) (.slice Ao30 t648.length co30) t648) ∧ Aside0 (Kd.R k48 48 wc w.heap.size (fun k_ => some k_ ≠ ((.slice Ao21 t625.length co21) : Value).ownBlock ∧ some k_ ≠ (v640 : Value).ownBlock ∧ some k_ ≠ ((.slice Ao30 t648.length co30) : Value).ownBlock ∧ some k_ ≠ ((.slice Ao33 t655.length co33) : Value).ownBlock ∧ some k_ ≠ (v660 : Value).ownBlock ∧ some k_ ≠ (v668 : Value).ownBlock ∧ k_ ≠ gb630 ∧ k_ ≠ gb647) v652 t651) ∧ Aside0 (Kd.R k48 48 wc w.heap.size (fun k_ => some k_ ≠ ((.slice Ao21 t625.length co21) : Value).ownBlock ∧ some k_ ≠ (v640 : Value).ownBlock ∧ some k_ ≠ ((.slice Ao30 t648.length co30) : Value).ownBlock ∧ some k_ ≠ (v652 : Value).ownBlock ∧ some k_ ≠ (v660 : Value).ownBlock ∧ some k_ ≠ (v668 : Value).ownBlock ∧ k_ ≠ gb630 ∧ k_ ≠ gb647) (.slice Ao33 t655.length co33) t655) ∧ Aside0 (Kd.R k48 48 wc w.heap.size (fun k_ => some k_ ≠ ((.slice Ao21 t625.length co21) : Value).ownBlock ∧ some k_ ≠ (v640 : Value).ownBlock ∧ some k_ ≠ ((.slice Ao30 t648.length co30) : Value).ownBlock ∧ some k_ ≠ (v652 : Value).ownBlock ∧ some k_ ≠ ((.slice Ao33 t655.length co33) : Value).ownBlock ∧ some k_ ≠ (v668 : Value).ownBlock ∧ k_ ≠ gb630 ∧ k_ ≠ gb647) v660 t658) ∧ Aside0 (Kd.R k48 48 wc w.heap.size (fun k_ => some k_ ≠ ((.slice Ao21 t625.length co21) : Value).ownBlock ∧ some k_ ≠ (v640 : Value).ownBlock ∧ some k_ ≠ ((.slice Ao30 t648.length co30) : Value).ownBlock ∧ some k_ ≠ (v652 : Value).ownBlock ∧ some k_ ≠ ((.slice Ao33 t655.length co33) : Value).ownBlock ∧ some k_ ≠ (v660 : Value).ownBlock ∧ k_ ≠ gb630 ∧ k_ ≠ gb647) v668 t666) ∧ Aside0 (wc.heap[gb630]? = some (.cells #[.int .i64 t628, .int .i64 t629] 48 (0, 0))) ∧ Aside0 (wc.heap[gb647]? = some (.cells #[.int .i64 t642, .int .i64 t643] 48 (0, 0))) ∧ Aside0 (Below w.heap.size w wc))
  case first => as_aux_lemma =>
   have H := HC17.out; clear HC17
   by_cases c40 : (t634 != t638) = true
   ·
    rw [if_pos c40] at H; have c40b0 : (t634 != t638) = true := c40
    (try (have c40b1 : decide (t634 = t638) = false := by simpa using c40))
    (try (have c40b2 : (t634 == t638) = false := by simpa using c40))
    (try (have c40b3 : ¬ (t634 = t638) := by simpa using c40))
    clear c40
    (first | rw [c40b0] | (simp only [i64_w, i32_w]; rw [c40b0]) | skip)
    refine absurd ?_ Bool.false_ne_true; revert H; generalize k = kq_; intro H; cases kq_ with | zero => exact absurd H q53_63 | succ kq_ => simp only [laws_FnInference.j0] at H; (try rw [if_pos rfl] at H); exact (Option.some.inj H).trans HRT.out
   ·
    rw [if_neg c40] at H
    have c40b0 : (t634 != t638) = false := by simpa using c40
    (try (have c40b1 : decide (t634 = t638) = true := by simpa using c40))
    (try (have c40b2 : (t634 == t638) = true := by simpa using c40))
    clear c40
    (first | rw [c40b0] | (simp only [i64_w, i32_w]; rw [c40b0]) | skip)
    obtain ⟨t684, A41, H⟩ := bnd53_ H
    by_cases c42 : t684 = true
    ·
     subst c42; rw [if_pos rfl] at H; obtain ⟨t685, A43, H⟩ := bnd53_ H; obtain ⟨t686, A44, H⟩ := bnd53_ H
     by_cases c45 : (t685 != t686) = true
     ·
      rw [if_pos c45] at H; have c45b0 : (t685 != t686) = true := c45
      (try (have c45b1 : decide (t685 = t686) = false := by simpa using c45))
      (try (have c45b2 : (t685 == t686) = false := by simpa using c45))
      (try (have c45b3 : ¬ (t685 = t686) := by simpa using c45))
      clear c45
      refine absurd ?_ Bool.false_ne_true; revert H; generalize k = kq_; intro H; cases kq_ with | zero => exact absurd H q53_63 | succ kq_ => simp only [laws_FnInference.j0] at H; (try rw [if_pos rfl] at H); exact (Option.some.inj H).trans HRT.out
     ·
      rw [if_neg c45] at H
      have c45b0 : (t685 != t686) = false := by simpa using c45
      (try (have c45b1 : decide (t685 = t686) = true := by simpa using c45))
      (try (have c45b2 : (t685 == t686) = true := by simpa using c45))
      clear c45; obtain ⟨t687, A46, H⟩ := bnd53_ H; obtain ⟨t690, A47, H⟩ := bnd53_ H
      by_cases c48 : t690 = true
      ·
       subst c48; rw [if_pos rfl] at H
       by_cases c49 : (t659 != t663) = true
       ·
        rw [if_pos c49] at H; have c49b0 : (t659 != t663) = true := c49
        (try (have c49b1 : decide (t659 = t663) = false := by simpa using c49))
        (try (have c49b2 : (t659 == t663) = false := by simpa using c49))
        (try (have c49b3 : ¬ (t659 = t663) := by simpa using c49))
        clear c49
        refine absurd ?_ Bool.false_ne_true; revert H; generalize k = kq_; intro H; cases kq_ with | zero => exact absurd H q53_63 | succ kq_ => simp only [laws_FnInference.j0] at H; (try rw [if_pos rfl] at H); exact (Option.some.inj H).trans HRT.out
       ·
        rw [if_neg c49] at H
        have c49b0 : (t659 != t663) = false := by simpa using c49
        (try (have c49b1 : decide (t659 = t663) = true := by simpa using c49))
        (try (have c49b2 : (t659 == t663) = true := by simpa using c49))
        clear c49; obtain ⟨t691, A50, H⟩ := bnd53_ H
        by_cases c51 : t691 = true
        ·
         subst c51; rw [if_pos rfl] at H
         by_cases c52 : (t667 != t671) = true
         ·
          rw [if_pos c52] at H; have c52b0 : (t667 != t671) = true := c52
          (try (have c52b1 : decide (t667 = t671) = false := by simpa using c52))
          (try (have c52b2 : (t667 == t671) = false := by simpa using c52))
          (try (have c52b3 : ¬ (t667 = t671) := by simpa using c52))
          clear c52
          refine absurd ?_ Bool.false_ne_true; revert H; generalize k = kq_; intro H; cases kq_ with | zero => exact absurd H q53_63 | succ kq_ => simp only [laws_FnInference.j0] at H; (try rw [if_pos rfl] at H); exact (Option.some.inj H).trans HRT.out
         ·
          rw [if_neg c52] at H
          have c52b0 : (t667 != t671) = false := by simpa using c52
          (try (have c52b1 : decide (t667 = t671) = true := by simpa using c52))
          (try (have c52b2 : (t667 == t671) = true := by simpa using c52))
          clear c52; obtain ⟨t692, A53, H⟩ := bnd53_ H
          by_cases c54 : t692 = true
          ·
           subst c54; rw [if_pos rfl] at H; obtain ⟨t693, A55, H⟩ := bnd53_ H; obtain ⟨t694, A56, H⟩ := bnd53_ H
           by_cases c57 : (t693 != t694) = true
           ·
            rw [if_pos c57] at H; have c57b0 : (t693 != t694) = true := c57
            (try (have c57b1 : decide (t693 = t694) = false := by simpa using c57))
            (try (have c57b2 : (t693 == t694) = false := by simpa using c57))
            (try (have c57b3 : ¬ (t693 = t694) := by simpa using c57))
            clear c57
            refine absurd ?_ Bool.false_ne_true; revert H; generalize k = kq_; intro H; cases kq_ with | zero => exact absurd H q53_63 | succ kq_ => simp only [laws_FnInference.j0] at H; (try rw [if_pos rfl] at H); exact (Option.some.inj H).trans HRT.out
           ·
            rw [if_neg c57] at H
            have c57b0 : (t693 != t694) = false := by simpa using c57
            (try (have c57b1 : decide (t693 = t694) = true := by simpa using c57))
            (try (have c57b2 : (t693 == t694) = true := by simpa using c57))
            clear c57; obtain ⟨t695, A58, H⟩ := bnd53_ H; obtain ⟨t696, A59, H⟩ := bnd53_ H; have H' := Aside0.mk H; clear H
            try go_wp2
            have n0_ := Aside0.mk (Kd.R_drew HO627.out); have n1_ := Aside0.mk (Kd.R_drew HO633.out); have n2_ := Aside0.mk (Kd.R_drew HO637.out); have n3_ := Aside0.mk (Kd.R_drew HO641.out); have n4_ := Aside0.mk (Kd.R_drew HO646.out); have n5_ := Aside0.mk (Kd.R_drew HO650.out); have n6_ := Aside0.mk (Kd.R_drew HO653.out); have n7_ := Aside0.mk (Kd.R_drew HO657.out); have n8_ := Aside0.mk (Kd.R_drew HO661.out); have n9_ := Aside0.mk (Kd.R_drew HO665.out); have n10_ := Aside0.mk (Kd.R_drew HO669.out); have n11_ := Aside0.mk (Kd.R_drew HO673.out); have n12_ := Aside0.mk (Kd.R_drew HO677.out); have n13_ := Aside0.mk (Kd.R_drew HO679.out); have n14_ := Aside0.mk (Kd.R_drew HO683.out); have n15_ := Aside0.mk (blk_drew BK630.out); have n16_ := Aside0.mk (blk_drew BK647.out); have n17_ := Aside0.mk (below_drew1 HB.out); clear HO627; clear HO633; clear HO637; clear HO641; clear HO646; clear HO650; clear HO653; clear HO657; clear HO661; clear HO665; clear HO669; clear HO673; clear HO677
            clear HO679; clear HO683; clear BK630; clear BK647; clear HB; have HO627 := n0_; have HO633 := n1_; have HO637 := n2_; have HO641 := n3_; have HO646 := n4_; have HO650 := n5_; have HO653 := n6_; have HO657 := n7_; have HO661 := n8_; have HO665 := n9_; have HO669 := n10_; have HO673 := n11_; have HO677 := n12_; have HO679 := n13_; have HO683 := n14_; have BK630 := n15_; have BK647 := n16_; have HB := n17_; clear n0_ n1_ n2_ n3_ n4_ n5_ n6_ n7_ n8_ n9_ n10_ n11_ n12_ n13_ n14_ n15_ n16_ n17_; obtain ⟨Ao61, co61, eo61⟩ := Kd.R_slice HO633.out
            (first | subst eo61 | (injection eo61 with f1_ f2_ f3_; have f4_ := f1_.symm; have f5_ := f3_.symm; clear f1_ f2_ f3_; subst f4_; subst f5_))
            obtain ⟨Ao62, co62, eo62⟩ := Kd.R_slice HO637.out
            (first | subst eo62 | (injection eo62 with f1_ f2_ f3_; have f4_ := f1_.symm; have f5_ := f3_.symm; clear f1_ f2_ f3_; subst f4_; subst f5_))
            refine start_ (n := 67) (S := fun w' => w'.cell? ⟨gb647, 0, none⟩ = some (.int .i64 t642) ∧ w'.cell? ⟨gb647, 1, none⟩ = some (.int .i64 t643)) (ds := []) (tb_ 67 0) s10_ rfl rfl ⟨(blk_cell BK647.out 0).trans rfl, (blk_cell BK647.out 1).trans rfl⟩ (fun hHeld => ?_); refine with_tabW laws_FnInference.tab16 laws_FnInference.bits16 (fun HT_ HW_ => ?_)
            generalize w39.drew = w60 at HO627 HO633 HO637 HO641 HO646 HO650 HO653 HO657 HO661 HO665 HO669 HO673 HO677 HO679 HO683 BK630 BK647 HB hHeld ⊢
            refine pl_ 0 97 (tb_ 67 1) ?_; refine pl_ 1 98 (tb_ 67 3) ?_; refine pl_ 2 99 (tb_ 67 7) ?_; refine pl_ 3 100 (tb_ 67 15) ?_; refine pl_ 4 101 (tb_ 67 31) ?_; refine pl_ 5 102 (tb_ 67 63) ?_
            refine on_ 6 103 (tb_ 67 127) (fun K hK => ?_)
            refine goes_ Tryz.func41 s10_ rfl #[.slice Ao61 t631.length co61, .slice Ao62 t635.length co62] (by rfl) rfl rfl s0_ ?_
            with_reducible refine (laws_sameSteps.calls k _ _ t631 _ _ t635 true _ ?side1 ?side2 ?side3 ?side4 A41.out).mono ?_
            (case side1 => repeat (first | exact (Kd.R_reads' HO633.out).2.2 | (with_reducible refine Kd.C_alloc ?_ _) | (with_reducible refine Kd.C_drewN ?_ _) | (with_reducible refine Kd.C_drew ?_)))
            (case side2 => exact (Kd.R_reads' HO633.out).2.1)
            (case side3 => repeat (first | exact (Kd.R_reads' HO637.out).2.2 | (with_reducible refine Kd.C_alloc ?_ _) | (with_reducible refine Kd.C_drewN ?_ _) | (with_reducible refine Kd.C_drew ?_)))
            (case side4 => exact (Kd.R_reads' HO637.out).2.1)
            rintro e w' ⟨rfl, ⟨nd, rfl⟩⟩
            refine ⟨_, rfl, ?_⟩
            obtain ⟨Ao63, co63, eo63⟩ := Kd.R_slice HO641.out
            (first | subst eo63 | (injection eo63 with f1_ f2_ f3_; have f4_ := f1_.symm; have f5_ := f3_.symm; clear f1_ f2_ f3_; subst f4_; subst f5_))
            obtain ⟨Ao64, co64, eo64⟩ := Kd.R_slice HO646.out
            (first | subst eo64 | (injection eo64 with f1_ f2_ f3_; have f4_ := f1_.symm; have f5_ := f3_.symm; clear f1_ f2_ f3_; subst f4_; subst f5_))
            refine hK.out _ _ ⟨(blk_cell BK647.out 0).trans rfl, (blk_cell BK647.out 1).trans rfl⟩ (fun hHeld => ?_)
            clear hK K
            refine norm_ (a' := ?_) ?_ ?_
            rotate_left
            ·
             show Act.put _ (some 103) _ = _
             exact s6_
            refine pl_ 7 104 (tb_ 67 255) ?_; refine pl_ 8 105 (tb_ 67 511) ?_; refine pl_ 9 106 (tb_ 67 1023) ?_; refine pl_ 10 107 (tb_ 67 2047) ?_; refine pl_ 12 109 (tb_ 67 6143) ?_; refine pl_ 14 111 (tb_ 67 22527) ?_; refine pl_ 16 113 (tb_ 67 88063) ?_; refine tk_ 11 108 (tb_ 67 90111) hHeld ?_; refine tk_ 15 112 (tb_ 67 122879) hHeld ?_
            refine on_ 13 110 (tb_ 67 131071) (fun K hK => ?_)
            refine goes_ Tryz.func42 s10_ rfl #[.slice Ao63 t639.length co63, .agg #[.int .i64 t642, .int .i64 t643], .slice Ao64 t644.length co64] (by rfl) rfl rfl s0_ ?_
            with_reducible refine (impl_CheckProof.calls k _ _ t639 t642 t643 _ _ t644 t685 _ ?side1 ?side2 ?side3 ?side4 A43.out).mono ?_
            (case side1 => exact q53_13)
            (case side2 => exact (Kd.R_reads' HO641.out).2.1)
            (case side3 => exact q53_14)
            (case side4 => exact (Kd.R_reads' HO646.out).2.1)
            rintro e w65 ⟨rfl, hb⟩
            refine ⟨_, rfl, ?_⟩
            have n0_ := Aside0.mk (Kd.R_below q53_36 hb); have n1_ := Aside0.mk (Kd.R_below q53_37 hb); have n2_ := Aside0.mk (Kd.R_below q53_38 hb); have n3_ := Aside0.mk (Kd.R_below q53_39 hb); have n4_ := Aside0.mk (Kd.R_below q53_40 hb); have n5_ := Aside0.mk (Kd.R_below q53_41 hb); have n6_ := Aside0.mk (Kd.R_below q53_42 hb); have n7_ := Aside0.mk (Kd.R_below q53_43 hb); have n8_ := Aside0.mk (Kd.R_below q53_44 hb); have n9_ := Aside0.mk (Kd.R_below q53_45 hb); have n10_ := Aside0.mk (Kd.R_below q53_46 hb); have n11_ := Aside0.mk (Kd.R_below q53_47 hb); have n12_ := Aside0.mk (Kd.R_below q53_48 hb); have n13_ := Aside0.mk (Kd.R_below q53_49 hb); have n14_ := Aside0.mk (Kd.R_below q53_50 hb); have n15_ := Aside0.mk (blk_below (g := gb630) (o := .cells #[.int .i64 t628, .int .i64 t629] 48 (0, 0)) q53_34 hb); have n16_ := Aside0.mk (blk_below (g := gb647) (o := .cells #[.int .i64 t642, .int .i64 t643] 48 (0, 0)) q53_35 hb); have n17_ := Aside0.mk (below_step q53_6 hb); clear HO627
            clear HO633; clear HO637; clear HO641; clear HO646; clear HO650; clear HO653; clear HO657; clear HO661; clear HO665; clear HO669; clear HO673; clear HO677; clear HO679; clear HO683; clear BK630; clear BK647; clear HB; have HO627 := n0_; have HO633 := n1_; have HO637 := n2_; have HO641 := n3_; have HO646 := n4_; have HO650 := n5_; have HO653 := n6_; have HO657 := n7_; have HO661 := n8_; have HO665 := n9_; have HO669 := n10_; have HO673 := n11_; have HO677 := n12_; have HO679 := n13_; have HO683 := n14_; have BK630 := n15_; have BK647 := n16_; have HB := n17_; clear n0_ n1_ n2_ n3_ n4_ n5_ n6_ n7_ n8_ n9_ n10_ n11_ n12_ n13_ n14_ n15_ n16_ n17_
            (try clear hb)
            (try clear hb2)
            (try clear hk)
            (try clear hi)
            refine hK.out _ _ ⟨(blk_cell BK647.out 0).trans rfl, (blk_cell BK647.out 1).trans rfl⟩ (fun hHeld => ?_)
            clear hK K
            refine norm_ (a' := ?_) ?_ ?_
            rotate_left
            ·
             show Act.put _ (some 110) _ = _
             exact s6_
            refine on_ 17 114 (tb_ 67 262143) (fun K hK => ?_)
            refine goes_ Tryz.func43 s10_ rfl #[.slice Ao63 t639.length co63, .agg #[.int .i64 t642, .int .i64 t643], .slice Ao64 t644.length co64] (by rfl) rfl rfl s0_ ?_
            with_reducible refine (spec_CheckProof.calls k _ _ t639 t642 t643 _ _ t644 t686 _ ?side1 ?side2 ?side3 ?side4 A44.out).mono ?_
            (case side1 => exact q53_13)
            (case side2 => exact (Kd.R_reads' HO641.out).2.1)
            (case side3 => exact q53_14)
            (case side4 => exact (Kd.R_reads' HO646.out).2.1)
            rintro e w66 ⟨rfl, hb⟩
            refine ⟨_, rfl, ?_⟩
            have n0_ := Aside0.mk (Kd.R_below q53_36 hb); have n1_ := Aside0.mk (Kd.R_below q53_37 hb); have n2_ := Aside0.mk (Kd.R_below q53_38 hb); have n3_ := Aside0.mk (Kd.R_below q53_39 hb); have n4_ := Aside0.mk (Kd.R_below q53_40 hb); have n5_ := Aside0.mk (Kd.R_below q53_41 hb); have n6_ := Aside0.mk (Kd.R_below q53_42 hb); have n7_ := Aside0.mk (Kd.R_below q53_43 hb); have n8_ := Aside0.mk (Kd.R_below q53_44 hb); have n9_ := Aside0.mk (Kd.R_below q53_45 hb); have n10_ := Aside0.mk (Kd.R_below q53_46 hb); have n11_ := Aside0.mk (Kd.R_below q53_47 hb); have n12_ := Aside0.mk (Kd.R_below q53_48 hb); have n13_ := Aside0.mk (Kd.R_below q53_49 hb); have n14_ := Aside0.mk (Kd.R_below q53_50 hb); have n15_ := Aside0.mk (blk_below (g := gb630) (o := .cells #[.int .i64 t628, .int .i64 t629] 48 (0, 0)) q53_34 hb); have n16_ := Aside0.mk (blk_below (g := gb647) (o := .cells #[.int .i64 t642, .int .i64 t643] 48 (0, 0)) q53_35 hb); have n17_ := Aside0.mk (below_step q53_6 hb); clear HO627
            clear HO633; clear HO637; clear HO641; clear HO646; clear HO650; clear HO653; clear HO657; clear HO661; clear HO665; clear HO669; clear HO673; clear HO677; clear HO679; clear HO683; clear BK630; clear BK647; clear HB; have HO627 := n0_; have HO633 := n1_; have HO637 := n2_; have HO641 := n3_; have HO646 := n4_; have HO650 := n5_; have HO653 := n6_; have HO657 := n7_; have HO661 := n8_; have HO665 := n9_; have HO669 := n10_; have HO673 := n11_; have HO677 := n12_; have HO679 := n13_; have HO683 := n14_; have BK630 := n15_; have BK647 := n16_; have HB := n17_; clear n0_ n1_ n2_ n3_ n4_ n5_ n6_ n7_ n8_ n9_ n10_ n11_ n12_ n13_ n14_ n15_ n16_ n17_
            (try clear hb)
            (try clear hb2)
            (try clear hk)
            (try clear hi)
            refine hK.out _ _ ⟨(blk_cell BK647.out 0).trans rfl, (blk_cell BK647.out 1).trans rfl⟩ (fun hHeld => ?_)
            clear hK K
            refine norm_ (a' := ?_) ?_ ?_
            rotate_left
            ·
             show Act.put _ (some 114) _ = _
             exact s6_
            refine pl_ 18 115 (tb_ 67 524287) ?_; refine pl_ 19 116 (tb_ 67 1048575) ?_; refine pl_ 20 117 (tb_ 67 2097151) ?_; refine pl_ 21 118 (tb_ 67 4194303) ?_; refine pl_ 22 119 (tb_ 67 8388607) ?_
            refine on_ 23 120 (tb_ 67 16777215) (fun K hK => ?_)
            refine goes_ Tryz.func44 s10_ rfl #[.slice Ao30 t648.length co30] (by rfl) rfl rfl s0_ ?_
            with_reducible refine (spec_MinimalRules.calls k _ _ t648 t687 _ ?side1 ?side2 A46.out).mono ?_
            (case side1 => exact q53_15)
            (case side2 => exact (Kd.R_reads' HO650.out).2.1)
            rintro e w67 ⟨v688, rfl, ho0, hb⟩
            refine ⟨_, rfl, ?_⟩
            have n0_ := Aside0.mk (Kd.R_elder' q53_36 (Kd.R_base ho0) hb); have n1_ := Aside0.mk (Kd.R_below q53_37 hb); have n2_ := Aside0.mk (Kd.R_below q53_38 hb); have n3_ := Aside0.mk (Kd.R_elder' q53_39 (Kd.R_base ho0) hb); have n4_ := Aside0.mk (Kd.R_below q53_40 hb); have n5_ := Aside0.mk (Kd.R_elder' q53_41 (Kd.R_base ho0) hb); have n6_ := Aside0.mk (Kd.R_elder' q53_42 (Kd.R_base ho0) hb); have n7_ := Aside0.mk (Kd.R_elder' q53_43 (Kd.R_base ho0) hb); have n8_ := Aside0.mk (Kd.R_elder' q53_44 (Kd.R_base ho0) hb); have n9_ := Aside0.mk (Kd.R_elder' q53_45 (Kd.R_base ho0) hb); have n10_ := Aside0.mk (Kd.R_elder' q53_46 (Kd.R_base ho0) hb); have n11_ := Aside0.mk (Kd.R_elder' q53_47 (Kd.R_base ho0) hb); have n12_ := Aside0.mk (Kd.R_elder' q53_48 (Kd.R_base ho0) hb); have n13_ := Aside0.mk (Kd.R_elder' q53_49 (Kd.R_base ho0) hb); have n14_ := Aside0.mk (Kd.R_elder' q53_50 (Kd.R_base ho0) hb)
            have n15_ := Aside0.mk (Kd.R_lower (Kd.R_newB (Kd.R_newB (Kd.R_new' (Kd.R_new' (Kd.R_new' (Kd.R_new' (Kd.R_new' (Kd.R_new' (Kd.R_new' (Kd.R_new' (Kd.R_new' (Kd.R_new' (Kd.R_new' (Kd.R_new' ho0 (Kd.R_lt q53_36)) (Kd.R_lt q53_39)) (Kd.R_lt q53_41)) (Kd.R_lt q53_42)) (Kd.R_lt q53_43)) (Kd.R_lt q53_44)) (Kd.R_lt q53_45)) (Kd.R_lt q53_46)) (Kd.R_lt q53_47)) (Kd.R_lt q53_48)) (Kd.R_lt q53_49)) (Kd.R_lt q53_50)) (g := gb630) (o := .cells #[.int .i64 t628, .int .i64 t629] 48 (0, 0)) q53_34) (g := gb647) (o := .cells #[.int .i64 t642, .int .i64 t643] 48 (0, 0)) q53_35) (below_size q53_6))
            have n16_ := Aside0.mk (blk_below (g := gb630) (o := .cells #[.int .i64 t628, .int .i64 t629] 48 (0, 0)) q53_34 hb); have n17_ := Aside0.mk (blk_below (g := gb647) (o := .cells #[.int .i64 t642, .int .i64 t643] 48 (0, 0)) q53_35 hb); have n18_ := Aside0.mk (below_step q53_6 hb); clear HO627; clear HO633; clear HO637; clear HO641; clear HO646; clear HO650; clear HO653; clear HO657; clear HO661; clear HO665; clear HO669; clear HO673; clear HO677; clear HO679; clear HO683; clear BK630; clear BK647; clear HB; have HO627 := n0_; have HO633 := n1_; have HO637 := n2_; have HO641 := n3_; have HO646 := n4_; have HO650 := n5_; have HO653 := n6_; have HO657 := n7_; have HO661 := n8_; have HO665 := n9_; have HO669 := n10_; have HO673 := n11_; have HO677 := n12_; have HO679 := n13_; have HO683 := n14_; have HO689 := n15_; have BK630 := n16_; have BK647 := n17_; have HB := n18_; clear n0_ n1_ n2_ n3_ n4_ n5_ n6_ n7_ n8_ n9_ n10_ n11_ n12_ n13_ n14_ n15_ n16_ n17_ n18_
            (try clear hb)
            (try clear hb2)
            (try clear hk)
            (try clear hi)
            (try clear ho0)
            obtain ⟨Ao68, co68, eo68⟩ := Kd.R_slice HO653.out
            (first | subst eo68 | (injection eo68 with f1_ f2_ f3_; have f4_ := f1_.symm; have f5_ := f3_.symm; clear f1_ f2_ f3_; subst f4_; subst f5_))
            obtain ⟨Ao69, co69, eo69⟩ := Kd.R_slice HO689.out
            (first | subst eo69 | (injection eo69 with f1_ f2_ f3_; have f4_ := f1_.symm; have f5_ := f3_.symm; clear f1_ f2_ f3_; subst f4_; subst f5_))
            refine hK.out _ _ ⟨(blk_cell BK647.out 0).trans rfl, (blk_cell BK647.out 1).trans rfl⟩ (fun hHeld => ?_)
            clear hK K
            refine norm_ (a' := ?_) ?_ ?_
            rotate_left
            ·
             show Act.put _ (some 120) _ = _
             exact s6_
            refine on_ 24 121 (tb_ 67 33554431) (fun K hK => ?_)
            refine goes_ Tryz.func27 s10_ rfl #[.slice Ao68 t651.length co68, .slice Ao69 t687.length co69] (by rfl) rfl rfl s0_ ?_
            with_reducible refine (laws_sameRules.calls k _ _ t651 _ _ t687 true _ ?side1 ?side2 ?side3 ?side4 A47.out).mono ?_
            (case side1 => repeat (first | exact (Kd.R_reads' HO653.out).2.2 | (with_reducible refine Kd.C_alloc ?_ _) | (with_reducible refine Kd.C_drewN ?_ _) | (with_reducible refine Kd.C_drew ?_)))
            (case side2 => exact (Kd.R_reads' HO653.out).2.1)
            (case side3 => repeat (first | exact (Kd.R_reads' HO689.out).2.2 | (with_reducible refine Kd.C_alloc ?_ _) | (with_reducible refine Kd.C_drewN ?_ _) | (with_reducible refine Kd.C_drew ?_)))
            (case side4 => exact (Kd.R_reads' HO689.out).2.1)
            rintro e w' ⟨rfl, ⟨nd, rfl⟩⟩
            refine ⟨_, rfl, ?_⟩
            obtain ⟨Ao70, co70, eo70⟩ := Kd.R_slice HO661.out
            (first | subst eo70 | (injection eo70 with f1_ f2_ f3_; have f4_ := f1_.symm; have f5_ := f3_.symm; clear f1_ f2_ f3_; subst f4_; subst f5_))
            obtain ⟨Ao71, co71, eo71⟩ := Kd.R_slice HO665.out
            (first | subst eo71 | (injection eo71 with f1_ f2_ f3_; have f4_ := f1_.symm; have f5_ := f3_.symm; clear f1_ f2_ f3_; subst f4_; subst f5_))
            refine hK.out _ _ ⟨(blk_cell BK647.out 0).trans rfl, (blk_cell BK647.out 1).trans rfl⟩ (fun hHeld => ?_)
            clear hK K
            refine norm_ (a' := ?_) ?_ ?_
            rotate_left
            ·
             show Act.put _ (some 121) _ = _
             exact s6_
            refine pl_ 25 122 (tb_ 67 67108863) ?_; refine pl_ 26 123 (tb_ 67 134217727) ?_; refine pl_ 27 124 (tb_ 67 268435455) ?_; refine pl_ 28 125 (tb_ 67 536870911) ?_; refine pl_ 29 126 (tb_ 67 1073741823) ?_; refine pl_ 30 127 (tb_ 67 2147483647) ?_; refine pl_ 31 128 (tb_ 67 4294967295) ?_; refine pl_ 32 129 (tb_ 67 8589934591) ?_; refine pl_ 33 130 (tb_ 67 17179869183) ?_; refine pl_ 34 131 (tb_ 67 34359738367) ?_
            refine on_ 35 132 (tb_ 67 68719476735) (fun K hK => ?_)
            refine goes_ Tryz.func27 s10_ rfl #[.slice Ao70 t658.length co70, .slice Ao71 t662.length co71] (by rfl) rfl rfl s0_ ?_
            with_reducible refine (laws_sameRules.calls k _ _ t658 _ _ t662 true _ ?side1 ?side2 ?side3 ?side4 A50.out).mono ?_
            (case side1 => repeat (first | exact (Kd.R_reads' HO661.out).2.2 | (with_reducible refine Kd.C_alloc ?_ _) | (with_reducible refine Kd.C_drewN ?_ _) | (with_reducible refine Kd.C_drew ?_)))
            (case side2 => exact (Kd.R_reads' HO661.out).2.1)
            (case side3 => repeat (first | exact (Kd.R_reads' HO665.out).2.2 | (with_reducible refine Kd.C_alloc ?_ _) | (with_reducible refine Kd.C_drewN ?_ _) | (with_reducible refine Kd.C_drew ?_)))
            (case side4 => exact (Kd.R_reads' HO665.out).2.1)
            rintro e w' ⟨rfl, ⟨nd, rfl⟩⟩
            refine ⟨_, rfl, ?_⟩
            obtain ⟨Ao72, co72, eo72⟩ := Kd.R_slice HO669.out
            (first | subst eo72 | (injection eo72 with f1_ f2_ f3_; have f4_ := f1_.symm; have f5_ := f3_.symm; clear f1_ f2_ f3_; subst f4_; subst f5_))
            obtain ⟨Ao73, co73, eo73⟩ := Kd.R_slice HO673.out
            (first | subst eo73 | (injection eo73 with f1_ f2_ f3_; have f4_ := f1_.symm; have f5_ := f3_.symm; clear f1_ f2_ f3_; subst f4_; subst f5_))
            refine hK.out _ _ ⟨(blk_cell BK647.out 0).trans rfl, (blk_cell BK647.out 1).trans rfl⟩ (fun hHeld => ?_)
            clear hK K
            refine norm_ (a' := ?_) ?_ ?_
            rotate_left
            ·
             show Act.put _ (some 132) _ = _
             exact s6_
            refine pl_ 36 133 (tb_ 67 137438953471) ?_; refine pl_ 37 134 (tb_ 67 274877906943) ?_; refine pl_ 38 135 (tb_ 67 549755813887) ?_; refine pl_ 39 136 (tb_ 67 1099511627775) ?_; refine pl_ 40 137 (tb_ 67 2199023255551) ?_; refine pl_ 41 138 (tb_ 67 4398046511103) ?_; refine pl_ 42 139 (tb_ 67 8796093022207) ?_; refine pl_ 43 140 (tb_ 67 17592186044415) ?_; refine pl_ 44 141 (tb_ 67 35184372088831) ?_; refine pl_ 45 142 (tb_ 67 70368744177663) ?_
            refine on_ 46 143 (tb_ 67 140737488355327) (fun K hK => ?_)
            refine goes_ Tryz.func27 s10_ rfl #[.slice Ao72 t666.length co72, .slice Ao73 t670.length co73] (by rfl) rfl rfl s0_ ?_
            with_reducible refine (laws_sameRules.calls k _ _ t666 _ _ t670 true _ ?side1 ?side2 ?side3 ?side4 A53.out).mono ?_
            (case side1 => repeat (first | exact (Kd.R_reads' HO669.out).2.2 | (with_reducible refine Kd.C_alloc ?_ _) | (with_reducible refine Kd.C_drewN ?_ _) | (with_reducible refine Kd.C_drew ?_)))
            (case side2 => exact (Kd.R_reads' HO669.out).2.1)
            (case side3 => repeat (first | exact (Kd.R_reads' HO673.out).2.2 | (with_reducible refine Kd.C_alloc ?_ _) | (with_reducible refine Kd.C_drewN ?_ _) | (with_reducible refine Kd.C_drew ?_)))
            (case side4 => exact (Kd.R_reads' HO673.out).2.1)
            rintro e w' ⟨rfl, ⟨nd, rfl⟩⟩
            refine ⟨_, rfl, ?_⟩
            obtain ⟨Ao74, co74, eo74⟩ := Kd.R_slice HO677.out
            (first | subst eo74 | (injection eo74 with f1_ f2_ f3_; have f4_ := f1_.symm; have f5_ := f3_.symm; clear f1_ f2_ f3_; subst f4_; subst f5_))
            obtain ⟨Ao75, co75, eo75⟩ := Kd.R_slice HO679.out
            (first | subst eo75 | (injection eo75 with f1_ f2_ f3_; have f4_ := f1_.symm; have f5_ := f3_.symm; clear f1_ f2_ f3_; subst f4_; subst f5_))
            refine hK.out _ _ ⟨(blk_cell BK647.out 0).trans rfl, (blk_cell BK647.out 1).trans rfl⟩ (fun hHeld => ?_)
            clear hK K
            refine norm_ (a' := ?_) ?_ ?_
            rotate_left
            ·
             show Act.put _ (some 143) _ = _
             exact s6_
            refine pl_ 47 144 (tb_ 67 281474976710655) ?_; refine pl_ 48 145 (tb_ 67 562949953421311) ?_; refine pl_ 49 146 (tb_ 67 1125899906842623) ?_; refine pl_ 50 147 (tb_ 67 2251799813685247) ?_; refine pl_ 51 148 (tb_ 67 4503599627370495) ?_; refine pl_ 53 150 (tb_ 67 13510798882111487) ?_; refine pl_ 54 151 (tb_ 67 31525197391593471) ?_
            refine on_ 52 149 (tb_ 67 36028797018963967) (fun K hK => ?_)
            refine goes_ Tryz.func45 s10_ rfl #[.slice Ao74 t674.length co74, .slice Ao75 t675.length co75] (by rfl) rfl rfl s0_ ?_
            with_reducible refine (impl_AreEquivalent.calls _ _ t674 _ _ t675 t693 _ ?side1 ?side2 ?side3 ?side4 A55.out).mono ?_
            (case side1 => exact q53_17)
            (case side2 => exact (Kd.R_reads' HO677.out).2.1)
            (case side3 => exact q53_18)
            (case side4 => exact (Kd.R_reads' HO679.out).2.1)
            rintro e w76 ⟨rfl, hb⟩
            refine ⟨_, rfl, ?_⟩
            have n0_ := Aside0.mk (Kd.R_below q53_36 hb); have n1_ := Aside0.mk (Kd.R_below q53_37 hb); have n2_ := Aside0.mk (Kd.R_below q53_38 hb); have n3_ := Aside0.mk (Kd.R_below q53_39 hb); have n4_ := Aside0.mk (Kd.R_below q53_40 hb); have n5_ := Aside0.mk (Kd.R_below q53_41 hb); have n6_ := Aside0.mk (Kd.R_below q53_42 hb); have n7_ := Aside0.mk (Kd.R_below q53_43 hb); have n8_ := Aside0.mk (Kd.R_below q53_44 hb); have n9_ := Aside0.mk (Kd.R_below q53_45 hb); have n10_ := Aside0.mk (Kd.R_below q53_46 hb); have n11_ := Aside0.mk (Kd.R_below q53_47 hb); have n12_ := Aside0.mk (Kd.R_below q53_48 hb); have n13_ := Aside0.mk (Kd.R_below q53_49 hb); have n14_ := Aside0.mk (Kd.R_below q53_50 hb); have n15_ := Aside0.mk (Kd.R_below q53_51 hb); have n16_ := Aside0.mk (blk_below (g := gb630) (o := .cells #[.int .i64 t628, .int .i64 t629] 48 (0, 0)) q53_34 hb); have n17_ := Aside0.mk (blk_below (g := gb647) (o := .cells #[.int .i64 t642, .int .i64 t643] 48 (0, 0)) q53_35 hb)
            have n18_ := Aside0.mk (below_step q53_6 hb); clear HO627; clear HO633; clear HO637; clear HO641; clear HO646; clear HO650; clear HO653; clear HO657; clear HO661; clear HO665; clear HO669; clear HO673; clear HO677; clear HO679; clear HO683; clear HO689; clear BK630; clear BK647; clear HB; have HO627 := n0_; have HO633 := n1_; have HO637 := n2_; have HO641 := n3_; have HO646 := n4_; have HO650 := n5_; have HO653 := n6_; have HO657 := n7_; have HO661 := n8_; have HO665 := n9_; have HO669 := n10_; have HO673 := n11_; have HO677 := n12_; have HO679 := n13_; have HO683 := n14_; have HO689 := n15_; have BK630 := n16_; have BK647 := n17_; have HB := n18_; clear n0_ n1_ n2_ n3_ n4_ n5_ n6_ n7_ n8_ n9_ n10_ n11_ n12_ n13_ n14_ n15_ n16_ n17_ n18_
            (try clear hb)
            (try clear hb2)
            (try clear hk)
            (try clear hi)
            refine hK.out _ _ ⟨(blk_cell BK647.out 0).trans rfl, (blk_cell BK647.out 1).trans rfl⟩ (fun hHeld => ?_)
            clear hK K
            refine norm_ (a' := ?_) ?_ ?_
            rotate_left
            ·
             show Act.put _ (some 149) _ = _
             exact s6_
            refine on_ 55 152 (tb_ 67 72057594037927935) (fun K hK => ?_)
            refine goes_ Tryz.func46 s10_ rfl #[.slice Ao74 t674.length co74, .slice Ao75 t675.length co75] (by rfl) rfl rfl s0_ ?_
            with_reducible refine (spec_AreEquivalent.calls k _ _ t674 _ _ t675 t694 _ ?side1 ?side2 ?side3 ?side4 A56.out).mono ?_
            (case side1 => exact q53_17)
            (case side2 => exact (Kd.R_reads' HO677.out).2.1)
            (case side3 => exact q53_18)
            (case side4 => exact (Kd.R_reads' HO679.out).2.1)
            rintro e w77 ⟨rfl, hb⟩
            refine ⟨_, rfl, ?_⟩
            have n0_ := Aside0.mk (Kd.R_below q53_36 hb); have n1_ := Aside0.mk (Kd.R_below q53_37 hb); have n2_ := Aside0.mk (Kd.R_below q53_38 hb); have n3_ := Aside0.mk (Kd.R_below q53_39 hb); have n4_ := Aside0.mk (Kd.R_below q53_40 hb); have n5_ := Aside0.mk (Kd.R_below q53_41 hb); have n6_ := Aside0.mk (Kd.R_below q53_42 hb); have n7_ := Aside0.mk (Kd.R_below q53_43 hb); have n8_ := Aside0.mk (Kd.R_below q53_44 hb); have n9_ := Aside0.mk (Kd.R_below q53_45 hb); have n10_ := Aside0.mk (Kd.R_below q53_46 hb); have n11_ := Aside0.mk (Kd.R_below q53_47 hb); have n12_ := Aside0.mk (Kd.R_below q53_48 hb); have n13_ := Aside0.mk (Kd.R_below q53_49 hb); have n14_ := Aside0.mk (Kd.R_below q53_50 hb); have n15_ := Aside0.mk (Kd.R_below q53_51 hb); have n16_ := Aside0.mk (blk_below (g := gb630) (o := .cells #[.int .i64 t628, .int .i64 t629] 48 (0, 0)) q53_34 hb); have n17_ := Aside0.mk (blk_below (g := gb647) (o := .cells #[.int .i64 t642, .int .i64 t643] 48 (0, 0)) q53_35 hb)
            have n18_ := Aside0.mk (below_step q53_6 hb); clear HO627; clear HO633; clear HO637; clear HO641; clear HO646; clear HO650; clear HO653; clear HO657; clear HO661; clear HO665; clear HO669; clear HO673; clear HO677; clear HO679; clear HO683; clear HO689; clear BK630; clear BK647; clear HB; have HO627 := n0_; have HO633 := n1_; have HO637 := n2_; have HO641 := n3_; have HO646 := n4_; have HO650 := n5_; have HO653 := n6_; have HO657 := n7_; have HO661 := n8_; have HO665 := n9_; have HO669 := n10_; have HO673 := n11_; have HO677 := n12_; have HO679 := n13_; have HO683 := n14_; have HO689 := n15_; have BK630 := n16_; have BK647 := n17_; have HB := n18_; clear n0_ n1_ n2_ n3_ n4_ n5_ n6_ n7_ n8_ n9_ n10_ n11_ n12_ n13_ n14_ n15_ n16_ n17_ n18_
            (try clear hb)
            (try clear hb2)
            (try clear hk)
            (try clear hi)
            obtain ⟨Ao78, co78, eo78⟩ := Kd.R_slice HO683.out
            (first | subst eo78 | (injection eo78 with f1_ f2_ f3_; have f4_ := f1_.symm; have f5_ := f3_.symm; clear f1_ f2_ f3_; subst f4_; subst f5_))
            refine hK.out _ _ ⟨(blk_cell BK647.out 0).trans rfl, (blk_cell BK647.out 1).trans rfl⟩ (fun hHeld => ?_)
            clear hK K
            refine norm_ (a' := ?_) ?_ ?_
            rotate_left
            ·
             show Act.put _ (some 152) _ = _
             exact s6_
            refine pl_ 56 153 (tb_ 67 144115188075855871) ?_; refine pl_ 57 154 (tb_ 67 288230376151711743) ?_; refine pl_ 58 155 (tb_ 67 576460752303423487) ?_; refine pl_ 59 156 (tb_ 67 1152921504606846975) ?_; refine pl_ 60 157 (tb_ 67 2305843009213693951) ?_; refine pl_ 62 159 (tb_ 67 6917529027641081855) ?_; refine pl_ 63 160 (tb_ 67 16140901064495857663) ?_
            refine on_ 61 158 (tb_ 67 18446744073709551615) (fun K hK => ?_)
            refine goes_ Tryz.func47 s10_ rfl #[.slice Ao78 t680.length co78, .int .i64 t681] (by rfl) rfl rfl s0_ ?_
            with_reducible refine (impl_IsRedundant.calls k _ _ t680 t681 t695 _ ?side1 ?side2 A58.out).mono ?_
            (case side1 => exact q53_19)
            (case side2 => exact (Kd.R_reads' HO683.out).2.1)
            rintro e w79 ⟨rfl, hb⟩
            refine ⟨_, rfl, ?_⟩
            have n0_ := Aside0.mk (Kd.R_below q53_36 hb); have n1_ := Aside0.mk (Kd.R_below q53_37 hb); have n2_ := Aside0.mk (Kd.R_below q53_38 hb); have n3_ := Aside0.mk (Kd.R_below q53_39 hb); have n4_ := Aside0.mk (Kd.R_below q53_40 hb); have n5_ := Aside0.mk (Kd.R_below q53_41 hb); have n6_ := Aside0.mk (Kd.R_below q53_42 hb); have n7_ := Aside0.mk (Kd.R_below q53_43 hb); have n8_ := Aside0.mk (Kd.R_below q53_44 hb); have n9_ := Aside0.mk (Kd.R_below q53_45 hb); have n10_ := Aside0.mk (Kd.R_below q53_46 hb); have n11_ := Aside0.mk (Kd.R_below q53_47 hb); have n12_ := Aside0.mk (Kd.R_below q53_48 hb); have n13_ := Aside0.mk (Kd.R_below q53_49 hb); have n14_ := Aside0.mk (Kd.R_below q53_50 hb); have n15_ := Aside0.mk (Kd.R_below q53_51 hb); have n16_ := Aside0.mk (blk_below (g := gb630) (o := .cells #[.int .i64 t628, .int .i64 t629] 48 (0, 0)) q53_34 hb); have n17_ := Aside0.mk (blk_below (g := gb647) (o := .cells #[.int .i64 t642, .int .i64 t643] 48 (0, 0)) q53_35 hb)
            have n18_ := Aside0.mk (below_step q53_6 hb); clear HO627; clear HO633; clear HO637; clear HO641; clear HO646; clear HO650; clear HO653; clear HO657; clear HO661; clear HO665; clear HO669; clear HO673; clear HO677; clear HO679; clear HO683; clear HO689; clear BK630; clear BK647; clear HB; have HO627 := n0_; have HO633 := n1_; have HO637 := n2_; have HO641 := n3_; have HO646 := n4_; have HO650 := n5_; have HO653 := n6_; have HO657 := n7_; have HO661 := n8_; have HO665 := n9_; have HO669 := n10_; have HO673 := n11_; have HO677 := n12_; have HO679 := n13_; have HO683 := n14_; have HO689 := n15_; have BK630 := n16_; have BK647 := n17_; have HB := n18_; clear n0_ n1_ n2_ n3_ n4_ n5_ n6_ n7_ n8_ n9_ n10_ n11_ n12_ n13_ n14_ n15_ n16_ n17_ n18_
            (try clear hb)
            (try clear hb2)
            (try clear hk)
            (try clear hi)
            refine hK.out _ _ ⟨(blk_cell BK647.out 0).trans rfl, (blk_cell BK647.out 1).trans rfl⟩ (fun hHeld => ?_)
            clear hK K
            refine norm_ (a' := ?_) ?_ ?_
            rotate_left
            ·
             show Act.put _ (some 158) _ = _
             exact s6_
            refine on_ 64 161 (tb_ 67 36893488147419103231) (fun K hK => ?_)
            refine goes_ Tryz.func48 s10_ rfl #[.slice Ao78 t680.length co78, .int .i64 t681] (by rfl) rfl rfl s0_ ?_
            with_reducible refine (spec_IsRedundant.calls k _ _ t680 t681 t696 _ ?side1 ?side2 A59.out).mono ?_
            (case side1 => exact q53_19)
            (case side2 => exact (Kd.R_reads' HO683.out).2.1)
            rintro e w80 ⟨rfl, hb⟩
            refine ⟨_, rfl, ?_⟩
            have n0_ := Aside0.mk (Kd.R_below q53_36 hb); have n1_ := Aside0.mk (Kd.R_below q53_37 hb); have n2_ := Aside0.mk (Kd.R_below q53_38 hb); have n3_ := Aside0.mk (Kd.R_below q53_39 hb); have n4_ := Aside0.mk (Kd.R_below q53_40 hb); have n5_ := Aside0.mk (Kd.R_below q53_41 hb); have n6_ := Aside0.mk (Kd.R_below q53_42 hb); have n7_ := Aside0.mk (Kd.R_below q53_43 hb); have n8_ := Aside0.mk (Kd.R_below q53_44 hb); have n9_ := Aside0.mk (Kd.R_below q53_45 hb); have n10_ := Aside0.mk (Kd.R_below q53_46 hb); have n11_ := Aside0.mk (Kd.R_below q53_47 hb); have n12_ := Aside0.mk (Kd.R_below q53_48 hb); have n13_ := Aside0.mk (Kd.R_below q53_49 hb); have n14_ := Aside0.mk (Kd.R_below q53_50 hb); have n15_ := Aside0.mk (Kd.R_below q53_51 hb); have n16_ := Aside0.mk (blk_below (g := gb630) (o := .cells #[.int .i64 t628, .int .i64 t629] 48 (0, 0)) q53_34 hb); have n17_ := Aside0.mk (blk_below (g := gb647) (o := .cells #[.int .i64 t642, .int .i64 t643] 48 (0, 0)) q53_35 hb)
            have n18_ := Aside0.mk (below_step q53_6 hb); clear HO627; clear HO633; clear HO637; clear HO641; clear HO646; clear HO650; clear HO653; clear HO657; clear HO661; clear HO665; clear HO669; clear HO673; clear HO677; clear HO679; clear HO683; clear HO689; clear BK630; clear BK647; clear HB; have HO627 := n0_; have HO633 := n1_; have HO637 := n2_; have HO641 := n3_; have HO646 := n4_; have HO650 := n5_; have HO653 := n6_; have HO657 := n7_; have HO661 := n8_; have HO665 := n9_; have HO669 := n10_; have HO673 := n11_; have HO677 := n12_; have HO679 := n13_; have HO683 := n14_; have HO689 := n15_; have BK630 := n16_; have BK647 := n17_; have HB := n18_; clear n0_ n1_ n2_ n3_ n4_ n5_ n6_ n7_ n8_ n9_ n10_ n11_ n12_ n13_ n14_ n15_ n16_ n17_ n18_
            (try clear hb)
            (try clear hb2)
            (try clear hk)
            (try clear hi)
            refine hK.out _ _ ⟨(blk_cell BK647.out 0).trans rfl, (blk_cell BK647.out 1).trans rfl⟩ (fun hHeld => ?_)
            clear hK K
            refine norm_ (a' := ?_) ?_ ?_
            rotate_left
            ·
             show Act.put _ (some 161) _ = _
             exact s6_
            refine pl_ 65 162 (tb_ 67 73786976294838206463) ?_; refine pl_ 66 163 (tb_ 67 147573952589676412927) ?_
            refine done_ (done_of HT_.out s10_) ?_
            try go_wp2
            go_meet
            case rel => exact ⟨_, ((t695 != t696)), s2_, H', ⟨(by first | omega | exact Nat.le_refl _)⟩, ⟨(by (with_reducible repeat (first | apply Kd.R_alloc | apply Kd.R_drewN | apply Kd.R_drew)); exact Kd.R_mono HO627.out (fun _ hk => ⟨hk.1.1.1.1.1.1.1.1.1.1.1.1.2, ⟨hk.1.1.1.1.1.1.1.1.1.1.2, ⟨hk.1.1.1.1.1.1.1.1.1.2, ⟨hk.1.1.1.1.1.1.1.1.2, ⟨hk.1.1.1.1.1.1.1.2, ⟨hk.1.1.1.1.1.2, ⟨hk.1.1.1.1.1.1.1.1.1.1.1.1.1.2, hk.1.1.1.1.1.1.1.1.1.1.1.2⟩⟩⟩⟩⟩⟩⟩))⟩, ⟨(by (with_reducible repeat (first | apply Kd.R_alloc | apply Kd.R_drewN | apply Kd.R_drew)); exact Kd.R_mono HO633.out (fun _ hk => hk.2))⟩, ⟨(by (with_reducible repeat (first | apply Kd.R_alloc | apply Kd.R_drewN | apply Kd.R_drew)); exact Kd.R_mono HO641.out (fun _ hk => ⟨hk.1.1.1.1.1.1.1.1.1.1.1.1.1.2, ⟨hk.1.1.1.1.1.1.1.1.1.1.2, ⟨hk.1.1.1.1.1.1.1.1.1.2, ⟨hk.1.1.1.1.1.1.1.1.2, ⟨hk.1.1.1.1.1.1.1.2, ⟨hk.1.1.1.1.1.2, ⟨hk.1.1.1.1.1.1.1.1.1.1.1.1.2, hk.1.1.1.1.1.1.1.1.1.1.1.2⟩⟩⟩⟩⟩⟩⟩))⟩, ⟨(by (with_reducible repeat (first | apply Kd.R_alloc | apply Kd.R_drewN | apply Kd.R_drew)); exact Kd.R_mono HO646.out (fun _ hk => hk.1.2))⟩, ⟨(by (with_reducible repeat (first | apply Kd.R_alloc | apply Kd.R_drewN | apply Kd.R_drew)); exact Kd.R_mono HO650.out (fun _ hk => ⟨hk.1.1.1.1.1.1.1.1.1.1.1.1.1.2, ⟨hk.1.1.1.1.1.1.1.1.1.1.1.1.2, ⟨hk.1.1.1.1.1.1.1.1.1.2, ⟨hk.1.1.1.1.1.1.1.1.2, ⟨hk.1.1.1.1.1.1.1.2, ⟨hk.1.1.1.1.1.2, ⟨hk.1.1.1.1.1.1.1.1.1.1.1.2, hk.1.1.1.1.1.1.1.1.1.1.2⟩⟩⟩⟩⟩⟩⟩))⟩, ⟨(by (with_reducible repeat (first | apply Kd.R_alloc | apply Kd.R_drewN | apply Kd.R_drew)); exact Kd.R_mono HO653.out (fun _ hk => ⟨hk.1.1.1.1.1.1.1.1.1.1.1.1.1.2, ⟨hk.1.1.1.1.1.1.1.1.1.1.1.1.2, ⟨hk.1.1.1.1.1.1.1.1.1.1.1.2, ⟨hk.1.1.1.1.1.1.1.1.2, ⟨hk.1.1.1.1.1.1.1.2, ⟨hk.1.1.1.1.1.2, ⟨hk.1.1.1.1.1.1.1.1.1.1.2, hk.1.1.1.1.1.1.1.1.1.2⟩⟩⟩⟩⟩⟩⟩))⟩, ⟨(by (with_reducible repeat (first | apply Kd.R_alloc | apply Kd.R_drewN | apply Kd.R_drew)); exact Kd.R_mono HO657.out (fun _ hk => ⟨hk.1.1.1.1.1.1.1.1.1.1.1.1.1.2, ⟨hk.1.1.1.1.1.1.1.1.1.1.1.1.2, ⟨hk.1.1.1.1.1.1.1.1.1.1.1.2, ⟨hk.1.1.1.1.1.1.1.1.1.1.2, ⟨hk.1.1.1.1.1.1.1.2, ⟨hk.1.1.1.1.1.2, ⟨hk.1.1.1.1.1.1.1.1.1.2, hk.1.1.1.1.1.1.1.1.2⟩⟩⟩⟩⟩⟩⟩))⟩, ⟨(by (with_reducible repeat (first | apply Kd.R_alloc | apply Kd.R_drewN | apply Kd.R_drew)); exact Kd.R_mono HO661.out (fun _ hk => ⟨hk.1.1.1.1.1.1.1.1.1.1.1.1.1.2, ⟨hk.1.1.1.1.1.1.1.1.1.1.1.1.2, ⟨hk.1.1.1.1.1.1.1.1.1.1.1.2, ⟨hk.1.1.1.1.1.1.1.1.1.1.2, ⟨hk.1.1.1.1.1.1.1.1.1.2, ⟨hk.1.1.1.1.1.2, ⟨hk.1.1.1.1.1.1.1.1.2, hk.1.1.1.1.1.1.1.2⟩⟩⟩⟩⟩⟩⟩))⟩, ⟨(by (with_reducible repeat (first | apply Kd.R_alloc | apply Kd.R_drewN | apply Kd.R_drew)); exact Kd.R_mono HO669.out (fun _ hk => ⟨hk.1.1.1.1.1.1.1.1.1.1.1.1.1.2, ⟨hk.1.1.1.1.1.1.1.1.1.1.1.1.2, ⟨hk.1.1.1.1.1.1.1.1.1.1.1.2, ⟨hk.1.1.1.1.1.1.1.1.1.1.2, ⟨hk.1.1.1.1.1.1.1.1.1.2, ⟨hk.1.1.1.1.1.1.1.1.2, ⟨hk.1.1.1.1.1.1.2, hk.1.1.1.1.1.2⟩⟩⟩⟩⟩⟩⟩))⟩, ⟨q53_34⟩, ⟨q53_35⟩, ⟨q53_6⟩⟩
          ·
           replace c54 := Bool.eq_false_iff.mpr c54; subst c54
           rw [if_neg (show ¬ (false = true) by decide)] at H
           refine absurd ?_ Bool.false_ne_true; revert H; generalize k = kq_; intro H; cases kq_ with | zero => exact absurd H q53_63 | succ kq_ => simp only [laws_FnInference.j0] at H; (try rw [if_pos rfl] at H); exact (Option.some.inj H).trans HRT.out
        ·
         replace c51 := Bool.eq_false_iff.mpr c51; subst c51
         rw [if_neg (show ¬ (false = true) by decide)] at H
         refine absurd ?_ Bool.false_ne_true; revert H; generalize k = kq_; intro H; cases kq_ with | zero => exact absurd H q53_63 | succ kq_ => simp only [laws_FnInference.j0] at H; (try rw [if_pos rfl] at H); exact (Option.some.inj H).trans HRT.out
      ·
       replace c48 := Bool.eq_false_iff.mpr c48; subst c48
       rw [if_neg (show ¬ (false = true) by decide)] at H
       refine absurd ?_ Bool.false_ne_true; revert H; generalize k = kq_; intro H; cases kq_ with | zero => exact absurd H q53_63 | succ kq_ => simp only [laws_FnInference.j0] at H; (try rw [if_pos rfl] at H); exact (Option.some.inj H).trans HRT.out
    ·
     replace c42 := Bool.eq_false_iff.mpr c42; subst c42
     rw [if_neg (show ¬ (false = true) by decide)] at H
     refine absurd ?_ Bool.false_ne_true; revert H; generalize k = kq_; intro H; cases kq_ with | zero => exact absurd H q53_63 | succ kq_ => simp only [laws_FnInference.j0] at H; (try rw [if_pos rfl] at H); exact (Option.some.inj H).trans HRT.out
  case rest => as_aux_lemma =>
   clear HC17
   try clear c2
   try clear p2
   try clear c4
   try clear c5
   try clear c27
   try clear c42
   try clear c45
   try clear c46
   try clear c47
   try clear c48
   try clear c51
   try clear c54
   obtain ⟨kq, x163_16, rfl, HA, HJ16, HO_3, HO_5, HO_9, HO_11, HO_12, HO_13, HO_15, HO_16, HO_20, BK630, BK647, HB⟩ := hcut
   cases kq with
   | zero => exact absurd HA.out (by simp [laws_FnInference.j0])
   | succ kj16 =>
    have H := HA.out; clear HA
    simp only [laws_FnInference.j0] at H
    by_cases c81 : x163_16 = true
    ·
     subst c81; rw [if_pos rfl] at H
     exact absurd ((Option.some.inj H).trans HRT.out) Bool.false_ne_true
    ·
     replace c81 := Bool.eq_false_iff.mpr c81; subst c81
     rw [if_neg (show ¬ (false = true) by decide)] at H
     have HC82 := Aside0.mk H; clear H
     go_upto_region 18 with (fail)
     go_cut [183] (fun v183 wc => ∃ (kq : Nat) (x183_81 : Bool), v183 = .bool x183_81 ∧ Aside0 (laws_FnInference.j1 kq t648 t651 t655 t658 t659 t666 t667 x183_81 = some r) ∧ Aside0 (kq ≤ kj16) ∧ Aside0 (Kd.R k48 48 wc w.heap.size (fun k_ => some k_ ≠ (v652 : Value).ownBlock ∧ some k_ ≠ ((.slice Ao33 t655.length co33) : Value).ownBlock ∧ some k_ ≠ (v660 : Value).ownBlock ∧ some k_ ≠ (v668 : Value).ownBlock) (.slice Ao30 t648.length co30) t648) ∧ Aside0 (Kd.R k48 48 wc w.heap.size (fun k_ => some k_ ≠ ((.slice Ao30 t648.length co30) : Value).ownBlock ∧ some k_ ≠ ((.slice Ao33 t655.length co33) : Value).ownBlock ∧ some k_ ≠ (v660 : Value).ownBlock ∧ some k_ ≠ (v668 : Value).ownBlock) v652 t651) ∧ Aside0 (Kd.R k48 48 wc w.heap.size (fun k_ => some k_ ≠ ((.slice Ao30 t648.length co30) : Value).ownBlock ∧ some k_ ≠ (v652 : Value).ownBlock ∧ some k_ ≠ (v660 : Value).ownBlock ∧ some k_ ≠ (v668 : Value).ownBlock) (.slice Ao33 t655.length co33) t655) ∧ Aside0 (Kd.R k48 48 wc w.heap.size (fun k_ => some k_ ≠ ((.slice Ao30 t648.length co30) : Value).ownBlock ∧ some k_ ≠ (v652 : Value).ownBlock ∧ some k_ ≠ ((.slice Ao33 t655.length co33) : Value).ownBlock ∧ some k_ ≠ (v668 : Value).ownBlock) v660 t658) ∧ Aside0 (Kd.R k48 48 wc w.heap.size (fun k_ => some k_ ≠ ((.slice Ao30 t648.length co30) : Value).ownBlock ∧ some k_ ≠ (v652 : Value).ownBlock ∧ some k_ ≠ ((.slice Ao33 t655.length co33) : Value).ownBlock ∧ some k_ ≠ (v660 : Value).ownBlock) v668 t666) ∧ Aside0 (Below w.heap.size w wc))
     case first => as_aux_lemma =>
      have H := HC82.out; clear HC82
      by_cases c83 : t634 = true
      ·
       subst c83; rw [if_pos rfl] at H; obtain ⟨t697, A84, H⟩ := bnd53_ H
       by_cases c85 : t697 = true
       ·
        subst c85; rw [if_pos rfl] at H; obtain ⟨t698, A86, H⟩ := bnd53_ H
        by_cases c87 : t698 = true
        ·
         subst c87; rw [if_pos rfl] at H; obtain ⟨t699, A88, H⟩ := bnd53_ H; have H' := Aside0.mk H; clear H; have hnb89 := NB630_647.out; have hnc89 := NB647_630.out; have hcz90_0 : wc.cell? ⟨gb630, 0, none⟩ = some (.int .i64 t628) := (blk_cell BK630.out 0).trans rfl; have hcz90_1 : wc.cell? ⟨gb630, 1, none⟩ = some (.int .i64 t629) := (blk_cell BK630.out 1).trans rfl; have hfz90_0 := blk_frozen BK630.out 0; have hfz90_1 := blk_frozen BK630.out 1; obtain ⟨Ao91, co91, eo91⟩ := Kd.R_slice HO_5.out; subst eo91
         go_wp2_with (first | (go_at_call 42; (with_reducible refine (impl_CheckProof.calls kj16 _ _ t625 t628 t629 _ _ t631 true _ ?side1 ?side2 ?side3 ?side4 A84.out).mono ?_); (case side1 => exact s16_); (case side2 => exact (Kd.R_reads' HO_3.out).2.1); (case side3 => exact q53_24); (case side4 => exact (Kd.R_reads' HO_5.out).2.1); rintro e w92 ⟨rfl, hb⟩; have n_ := ac_ (Kd.R_below s12_ hb) <| ac_ (Kd.R_below s17_ hb) <| ac_ (Kd.R_below q53_60 hb) <| ac_ (Kd.R_below q53_52 hb) <| ac_ (Kd.R_below q53_53 hb) <| ac_ (Kd.R_below q53_54 hb) <| ac_ (Kd.R_below q53_55 hb) <| ac_ (Kd.R_below q53_56 hb) <| ac_ (Kd.R_below q53_57 hb) <| ac_ (blk_below (g := gb630) (o := .cells #[.int .i64 t628, .int .i64 t629] 48 (0, 0)) q53_34 hb) <| ac_ (blk_below (g := gb647) (o := .cells #[.int .i64 t642, .int .i64 t643] 48 (0, 0)) q53_35 hb) <| Aside0.mk (below_step q53_6 hb); clear HO_3 HO_5 HO_9 HO_11 HO_12 HO_13 HO_15 HO_16 HO_20 BK630 BK647 HB; obtain ⟨HO_3, HO_5, HO_9, HO_11, HO_12, HO_13, HO_15, HO_16, HO_20, BK630, BK647, HB⟩ := n_; (try clear hb); have hcz93_0 : w92.cell? ⟨gb647, 0, none⟩ = some (.int .i64 t642) := (blk_cell BK647.out 0).trans rfl; have hcz93_1 : w92.cell? ⟨gb647, 1, none⟩ = some (.int .i64 t643) := (blk_cell BK647.out 1).trans rfl; have hfz93_0 := blk_frozen BK647.out 0; have hfz93_1 := blk_frozen BK647.out 1; obtain ⟨Ao94, co94, eo94⟩ := Kd.R_slice HO_9.out; subst eo94; obtain ⟨Ao95, co95, eo95⟩ := Kd.R_slice HO_11.out; subst eo95) | (go_at_call 43; (with_reducible refine (spec_CheckProof.calls kj16 _ _ t639 t642 t643 _ _ t644 true _ ?side1 ?side2 ?side3 ?side4 A86.out).mono ?_); (case side1 => exact q53_25); (case side2 => exact (Kd.R_reads' HO_9.out).2.1); (case side3 => exact q53_20); (case side4 => exact (Kd.R_reads' HO_11.out).2.1); rintro e w96 ⟨rfl, hb⟩; have n_ := ac_ (Kd.R_below s12_ hb) <| ac_ (Kd.R_below s17_ hb) <| ac_ (Kd.R_below q53_60 hb) <| ac_ (Kd.R_below q53_52 hb) <| ac_ (Kd.R_below q53_53 hb) <| ac_ (Kd.R_below q53_54 hb) <| ac_ (Kd.R_below q53_55 hb) <| ac_ (Kd.R_below q53_56 hb) <| ac_ (Kd.R_below q53_57 hb) <| ac_ (blk_below (g := gb630) (o := .cells #[.int .i64 t628, .int .i64 t629] 48 (0, 0)) q53_34 hb) <| ac_ (blk_below (g := gb647) (o := .cells #[.int .i64 t642, .int .i64 t643] 48 (0, 0)) q53_35 hb) <| Aside0.mk (below_step q53_6 hb); clear HO_3 HO_5 HO_9 HO_11 HO_12 HO_13 HO_15 HO_16 HO_20 BK630 BK647 HB; obtain ⟨HO_3, HO_5, HO_9, HO_11, HO_12, HO_13, HO_15, HO_16, HO_20, BK630, BK647, HB⟩ := n_; (try clear hb); have hcz97_0 : w96.cell? ⟨gb647, 0, none⟩ = some (.int .i64 t642) := (blk_cell BK647.out 0).trans rfl; have hcz97_1 : w96.cell? ⟨gb647, 1, none⟩ = some (.int .i64 t643) := (blk_cell BK647.out 1).trans rfl; have hfz97_0 := blk_frozen BK647.out 0; have hfz97_1 := blk_frozen BK647.out 1) | (go_at_call 49; (with_reducible refine (spec_Follows.calls kj16 _ _ t639 t642 t643 t699 _ ?side1 ?side2 A88.out).mono ?_); (case side1 => exact q53_25); (case side2 => exact (Kd.R_reads' HO_9.out).2.1); rintro e w98 ⟨rfl, hb⟩; have n_ := ac_ (Kd.R_below s12_ hb) <| ac_ (Kd.R_below s17_ hb) <| ac_ (Kd.R_below q53_60 hb) <| ac_ (Kd.R_below q53_52 hb) <| ac_ (Kd.R_below q53_53 hb) <| ac_ (Kd.R_below q53_54 hb) <| ac_ (Kd.R_below q53_55 hb) <| ac_ (Kd.R_below q53_56 hb) <| ac_ (Kd.R_below q53_57 hb) <| ac_ (blk_below (g := gb630) (o := .cells #[.int .i64 t628, .int .i64 t629] 48 (0, 0)) q53_34 hb) <| ac_ (blk_below (g := gb647) (o := .cells #[.int .i64 t642, .int .i64 t643] 48 (0, 0)) q53_35 hb) <| Aside0.mk (below_step q53_6 hb); clear HO_3 HO_5 HO_9 HO_11 HO_12 HO_13 HO_15 HO_16 HO_20 BK630 BK647 HB; obtain ⟨HO_3, HO_5, HO_9, HO_11, HO_12, HO_13, HO_15, HO_16, HO_20, BK630, BK647, HB⟩ := n_; (try clear hb)))
         go_meet
         case rel => exact ⟨_, (!t699), s2_, H', ⟨by have := HJ16.out; first | omega | exact Nat.le_refl _⟩, ⟨q53_7⟩, ⟨q53_8⟩, ⟨q53_9⟩, ⟨q53_10⟩, ⟨q53_11⟩, ⟨q53_6⟩⟩
        ·
         replace c87 := Bool.eq_false_iff.mpr c87; subst c87
         rw [if_neg (show ¬ (false = true) by decide)] at H
         have H' := Aside0.mk H; clear H; have hnb99 := NB630_647.out; have hnc99 := NB647_630.out; have hcz100_0 : wc.cell? ⟨gb630, 0, none⟩ = some (.int .i64 t628) := (blk_cell BK630.out 0).trans rfl; have hcz100_1 : wc.cell? ⟨gb630, 1, none⟩ = some (.int .i64 t629) := (blk_cell BK630.out 1).trans rfl; have hfz100_0 := blk_frozen BK630.out 0; have hfz100_1 := blk_frozen BK630.out 1; obtain ⟨Ao101, co101, eo101⟩ := Kd.R_slice HO_5.out; subst eo101
         go_wp2_with (first | (go_at_call 42; (with_reducible refine (impl_CheckProof.calls kj16 _ _ t625 t628 t629 _ _ t631 true _ ?side1 ?side2 ?side3 ?side4 A84.out).mono ?_); (case side1 => exact s16_); (case side2 => exact (Kd.R_reads' HO_3.out).2.1); (case side3 => exact q53_24); (case side4 => exact (Kd.R_reads' HO_5.out).2.1); rintro e w102 ⟨rfl, hb⟩; have n_ := ac_ (Kd.R_below s12_ hb) <| ac_ (Kd.R_below s17_ hb) <| ac_ (Kd.R_below q53_60 hb) <| ac_ (Kd.R_below q53_52 hb) <| ac_ (Kd.R_below q53_53 hb) <| ac_ (Kd.R_below q53_54 hb) <| ac_ (Kd.R_below q53_55 hb) <| ac_ (Kd.R_below q53_56 hb) <| ac_ (Kd.R_below q53_57 hb) <| ac_ (blk_below (g := gb630) (o := .cells #[.int .i64 t628, .int .i64 t629] 48 (0, 0)) q53_34 hb) <| ac_ (blk_below (g := gb647) (o := .cells #[.int .i64 t642, .int .i64 t643] 48 (0, 0)) q53_35 hb) <| Aside0.mk (below_step q53_6 hb); clear HO_3 HO_5 HO_9 HO_11 HO_12 HO_13 HO_15 HO_16 HO_20 BK630 BK647 HB; obtain ⟨HO_3, HO_5, HO_9, HO_11, HO_12, HO_13, HO_15, HO_16, HO_20, BK630, BK647, HB⟩ := n_; (try clear hb); have hcz103_0 : w102.cell? ⟨gb647, 0, none⟩ = some (.int .i64 t642) := (blk_cell BK647.out 0).trans rfl; have hcz103_1 : w102.cell? ⟨gb647, 1, none⟩ = some (.int .i64 t643) := (blk_cell BK647.out 1).trans rfl; have hfz103_0 := blk_frozen BK647.out 0; have hfz103_1 := blk_frozen BK647.out 1; obtain ⟨Ao104, co104, eo104⟩ := Kd.R_slice HO_9.out; subst eo104; obtain ⟨Ao105, co105, eo105⟩ := Kd.R_slice HO_11.out; subst eo105) | (go_at_call 43; (with_reducible refine (spec_CheckProof.calls kj16 _ _ t639 t642 t643 _ _ t644 false _ ?side1 ?side2 ?side3 ?side4 A86.out).mono ?_); (case side1 => exact q53_25); (case side2 => exact (Kd.R_reads' HO_9.out).2.1); (case side3 => exact q53_20); (case side4 => exact (Kd.R_reads' HO_11.out).2.1); rintro e w106 ⟨rfl, hb⟩; have n_ := ac_ (Kd.R_below s12_ hb) <| ac_ (Kd.R_below s17_ hb) <| ac_ (Kd.R_below q53_60 hb) <| ac_ (Kd.R_below q53_52 hb) <| ac_ (Kd.R_below q53_53 hb) <| ac_ (Kd.R_below q53_54 hb) <| ac_ (Kd.R_below q53_55 hb) <| ac_ (Kd.R_below q53_56 hb) <| ac_ (Kd.R_below q53_57 hb) <| ac_ (blk_below (g := gb630) (o := .cells #[.int .i64 t628, .int .i64 t629] 48 (0, 0)) q53_34 hb) <| ac_ (blk_below (g := gb647) (o := .cells #[.int .i64 t642, .int .i64 t643] 48 (0, 0)) q53_35 hb) <| Aside0.mk (below_step q53_6 hb); clear HO_3 HO_5 HO_9 HO_11 HO_12 HO_13 HO_15 HO_16 HO_20 BK630 BK647 HB; obtain ⟨HO_3, HO_5, HO_9, HO_11, HO_12, HO_13, HO_15, HO_16, HO_20, BK630, BK647, HB⟩ := n_; (try clear hb)))
         go_meet
         case rel => exact ⟨_, (false), s2_, H', ⟨by have := HJ16.out; first | omega | exact Nat.le_refl _⟩, ⟨q53_7⟩, ⟨q53_8⟩, ⟨q53_9⟩, ⟨q53_10⟩, ⟨q53_11⟩, ⟨q53_6⟩⟩
       ·
        replace c85 := Bool.eq_false_iff.mpr c85; subst c85
        rw [if_neg (show ¬ (false = true) by decide)] at H
        refine absurd ?_ Bool.false_ne_true; revert H; generalize kj16 = kq_; intro H; cases kq_ with | zero => exact absurd H (by simp only [laws_FnInference.j1]; exact fun h => by cases h) | succ kq_ => simp only [laws_FnInference.j1] at H; (try rw [if_pos rfl] at H); exact (Option.some.inj H).trans HRT.out
      ·
       replace c83 := Bool.eq_false_iff.mpr c83; subst c83
       rw [if_neg (show ¬ (false = true) by decide)] at H
       obtain ⟨t700, A107, H⟩ := bnd53_ H
       by_cases c108 : t700 = true
       ·
        subst c108; rw [if_pos rfl] at H; obtain ⟨t701, A109, H⟩ := bnd53_ H; have H' := Aside0.mk H; clear H; have hnb110 := NB647_630.out; have hnc110 := NB630_647.out; have hcz111_0 : wc.cell? ⟨gb647, 0, none⟩ = some (.int .i64 t642) := (blk_cell BK647.out 0).trans rfl; have hcz111_1 : wc.cell? ⟨gb647, 1, none⟩ = some (.int .i64 t643) := (blk_cell BK647.out 1).trans rfl; have hfz111_0 := blk_frozen BK647.out 0; have hfz111_1 := blk_frozen BK647.out 1; obtain ⟨Ao112, co112, eo112⟩ := Kd.R_slice HO_9.out; subst eo112; obtain ⟨Ao113, co113, eo113⟩ := Kd.R_slice HO_11.out; subst eo113
        go_wp2_with (first | (go_at_call 43; (with_reducible refine (spec_CheckProof.calls kj16 _ _ t639 t642 t643 _ _ t644 true _ ?side1 ?side2 ?side3 ?side4 A107.out).mono ?_); (case side1 => exact q53_25); (case side2 => exact (Kd.R_reads' HO_9.out).2.1); (case side3 => exact q53_20); (case side4 => exact (Kd.R_reads' HO_11.out).2.1); rintro e w114 ⟨rfl, hb⟩; have n_ := ac_ (Kd.R_below s12_ hb) <| ac_ (Kd.R_below s17_ hb) <| ac_ (Kd.R_below q53_60 hb) <| ac_ (Kd.R_below q53_52 hb) <| ac_ (Kd.R_below q53_53 hb) <| ac_ (Kd.R_below q53_54 hb) <| ac_ (Kd.R_below q53_55 hb) <| ac_ (Kd.R_below q53_56 hb) <| ac_ (Kd.R_below q53_57 hb) <| ac_ (blk_below (g := gb630) (o := .cells #[.int .i64 t628, .int .i64 t629] 48 (0, 0)) q53_34 hb) <| ac_ (blk_below (g := gb647) (o := .cells #[.int .i64 t642, .int .i64 t643] 48 (0, 0)) q53_35 hb) <| Aside0.mk (below_step q53_6 hb); clear HO_3 HO_5 HO_9 HO_11 HO_12 HO_13 HO_15 HO_16 HO_20 BK630 BK647 HB; obtain ⟨HO_3, HO_5, HO_9, HO_11, HO_12, HO_13, HO_15, HO_16, HO_20, BK630, BK647, HB⟩ := n_; (try clear hb); have hcz115_0 : w114.cell? ⟨gb647, 0, none⟩ = some (.int .i64 t642) := (blk_cell BK647.out 0).trans rfl; have hcz115_1 : w114.cell? ⟨gb647, 1, none⟩ = some (.int .i64 t643) := (blk_cell BK647.out 1).trans rfl; have hfz115_0 := blk_frozen BK647.out 0; have hfz115_1 := blk_frozen BK647.out 1) | (go_at_call 49; (with_reducible refine (spec_Follows.calls kj16 _ _ t639 t642 t643 t701 _ ?side1 ?side2 A109.out).mono ?_); (case side1 => exact q53_25); (case side2 => exact (Kd.R_reads' HO_9.out).2.1); rintro e w116 ⟨rfl, hb⟩; have n_ := ac_ (Kd.R_below s12_ hb) <| ac_ (Kd.R_below s17_ hb) <| ac_ (Kd.R_below q53_60 hb) <| ac_ (Kd.R_below q53_52 hb) <| ac_ (Kd.R_below q53_53 hb) <| ac_ (Kd.R_below q53_54 hb) <| ac_ (Kd.R_below q53_55 hb) <| ac_ (Kd.R_below q53_56 hb) <| ac_ (Kd.R_below q53_57 hb) <| ac_ (blk_below (g := gb630) (o := .cells #[.int .i64 t628, .int .i64 t629] 48 (0, 0)) q53_34 hb) <| ac_ (blk_below (g := gb647) (o := .cells #[.int .i64 t642, .int .i64 t643] 48 (0, 0)) q53_35 hb) <| Aside0.mk (below_step q53_6 hb); clear HO_3 HO_5 HO_9 HO_11 HO_12 HO_13 HO_15 HO_16 HO_20 BK630 BK647 HB; obtain ⟨HO_3, HO_5, HO_9, HO_11, HO_12, HO_13, HO_15, HO_16, HO_20, BK630, BK647, HB⟩ := n_; (try clear hb)))
        go_meet
        case rel => exact ⟨_, (!t701), s2_, H', ⟨by have := HJ16.out; first | omega | exact Nat.le_refl _⟩, ⟨q53_7⟩, ⟨q53_8⟩, ⟨q53_9⟩, ⟨q53_10⟩, ⟨q53_11⟩, ⟨q53_6⟩⟩
       ·
        replace c108 := Bool.eq_false_iff.mpr c108; subst c108
        rw [if_neg (show ¬ (false = true) by decide)] at H
        have H' := Aside0.mk H; clear H; have hnb117 := NB647_630.out; have hnc117 := NB630_647.out; have hcz118_0 : wc.cell? ⟨gb647, 0, none⟩ = some (.int .i64 t642) := (blk_cell BK647.out 0).trans rfl; have hcz118_1 : wc.cell? ⟨gb647, 1, none⟩ = some (.int .i64 t643) := (blk_cell BK647.out 1).trans rfl; have hfz118_0 := blk_frozen BK647.out 0; have hfz118_1 := blk_frozen BK647.out 1; obtain ⟨Ao119, co119, eo119⟩ := Kd.R_slice HO_9.out; subst eo119; obtain ⟨Ao120, co120, eo120⟩ := Kd.R_slice HO_11.out; subst eo120
        go_wp2_with (first | (go_at_call 43; (with_reducible refine (spec_CheckProof.calls kj16 _ _ t639 t642 t643 _ _ t644 false _ ?side1 ?side2 ?side3 ?side4 A107.out).mono ?_); (case side1 => exact q53_25); (case side2 => exact (Kd.R_reads' HO_9.out).2.1); (case side3 => exact q53_20); (case side4 => exact (Kd.R_reads' HO_11.out).2.1); rintro e w121 ⟨rfl, hb⟩; have n_ := ac_ (Kd.R_below s12_ hb) <| ac_ (Kd.R_below s17_ hb) <| ac_ (Kd.R_below q53_60 hb) <| ac_ (Kd.R_below q53_52 hb) <| ac_ (Kd.R_below q53_53 hb) <| ac_ (Kd.R_below q53_54 hb) <| ac_ (Kd.R_below q53_55 hb) <| ac_ (Kd.R_below q53_56 hb) <| ac_ (Kd.R_below q53_57 hb) <| ac_ (blk_below (g := gb630) (o := .cells #[.int .i64 t628, .int .i64 t629] 48 (0, 0)) q53_34 hb) <| ac_ (blk_below (g := gb647) (o := .cells #[.int .i64 t642, .int .i64 t643] 48 (0, 0)) q53_35 hb) <| Aside0.mk (below_step q53_6 hb); clear HO_3 HO_5 HO_9 HO_11 HO_12 HO_13 HO_15 HO_16 HO_20 BK630 BK647 HB; obtain ⟨HO_3, HO_5, HO_9, HO_11, HO_12, HO_13, HO_15, HO_16, HO_20, BK630, BK647, HB⟩ := n_; (try clear hb)))
        go_meet
        case rel => exact ⟨_, (false), s2_, H', ⟨by have := HJ16.out; first | omega | exact Nat.le_refl _⟩, ⟨q53_7⟩, ⟨q53_8⟩, ⟨q53_9⟩, ⟨q53_10⟩, ⟨q53_11⟩, ⟨q53_6⟩⟩
     case rest => as_aux_lemma =>
      clear HC82
      try clear c1
      try clear c2
      try clear p2
      try clear c4
      try clear c5
      try clear c8
      try clear c9
      try clear c10
      try clear c11
      try clear c27
      try clear c42
      try clear c45
      try clear c46
      try clear c47
      try clear c48
      try clear c51
      try clear c54
      try clear c81
      try clear c83
      try clear c85
      try clear c87
      try clear c89
      try clear c99
      try clear c108
      try clear c110
      try clear c117
      try clear hcz100_0
      try clear hcz100_1
      try clear hcz103_0
      try clear hcz103_1
      try clear hcz111_0
      try clear hcz111_1
      try clear hcz115_0
      try clear hcz115_1
      try clear hcz118_0
      try clear hcz118_1
      try clear hcz90_0
      try clear hcz90_1
      try clear hcz93_0
      try clear hcz93_1
      try clear hcz97_0
      try clear hcz97_1
      try clear hfz100_0
      try clear hfz100_1
      try clear hfz103_0
      try clear hfz103_1
      try clear hfz111_0
      try clear hfz111_1
      try clear hfz115_0
      try clear hfz115_1
      try clear hfz118_0
      try clear hfz118_1
      try clear hfz90_0
      try clear hfz90_1
      try clear hfz93_0
      try clear hfz93_1
      try clear hfz97_0
      try clear hfz97_1
      try clear p2
      obtain ⟨kq, x183_81, rfl, HA, HJ81, HO_12, HO_13, HO_15, HO_16, HO_20, HB⟩ := hcut
      cases kq with
      | zero => exact absurd HA.out (by simp [laws_FnInference.j1])
      | succ kj81 =>
       have H := HA.out; clear HA
       simp only [laws_FnInference.j1] at H
       by_cases c122 : x183_81 = true
       ·
        subst c122; rw [if_pos rfl] at H
        exact absurd ((Option.some.inj H).trans HRT.out) Bool.false_ne_true
       ·
        replace c122 := Bool.eq_false_iff.mpr c122; subst c122
        rw [if_neg (show ¬ (false = true) by decide)] at H
        have HC123 := Aside0.mk H; clear H
        go_upto_region 20 with (fail)
        go_cut [192] (fun v192 wc => ∃ (kq : Nat) (x192_122 : Bool), v192 = .bool x192_122 ∧ Aside0 (laws_FnInference.j2 kq t651 t655 t658 t659 t666 t667 x192_122 = some r) ∧ Aside0 (kq ≤ kj81) ∧ Aside0 (Kd.R k48 48 wc w.heap.size (fun k_ => some k_ ≠ ((.slice Ao33 t655.length co33) : Value).ownBlock ∧ some k_ ≠ (v660 : Value).ownBlock ∧ some k_ ≠ (v668 : Value).ownBlock) v652 t651) ∧ Aside0 (Kd.R k48 48 wc w.heap.size (fun k_ => some k_ ≠ (v652 : Value).ownBlock ∧ some k_ ≠ (v660 : Value).ownBlock ∧ some k_ ≠ (v668 : Value).ownBlock) (.slice Ao33 t655.length co33) t655) ∧ Aside0 (Kd.R k48 48 wc w.heap.size (fun k_ => some k_ ≠ (v652 : Value).ownBlock ∧ some k_ ≠ ((.slice Ao33 t655.length co33) : Value).ownBlock ∧ some k_ ≠ (v668 : Value).ownBlock) v660 t658) ∧ Aside0 (Kd.R k48 48 wc w.heap.size (fun k_ => some k_ ≠ (v652 : Value).ownBlock ∧ some k_ ≠ ((.slice Ao33 t655.length co33) : Value).ownBlock ∧ some k_ ≠ (v660 : Value).ownBlock) v668 t666) ∧ Aside0 (Below w.heap.size w wc))
        case first => as_aux_lemma =>
         have H := HC123.out; clear HC123
         by_cases c124 : (t651.length : Int) > 0
         ·
          rw [if_pos c124] at H; have c124b0 : decide (0 < (t651.length : Int)) = true := decide_eq_true c124
          have c124b1 : decide (0 < t651.length) = true := decide_eq_true (by omega)
          clear c124
          (first | rw [c124b0] | (simp only [i64_w, i32_w]; rw [c124b0]) | skip)
          obtain ⟨t702, A125, H⟩ := bnd53_ H; have H' := Aside0.mk H; clear H; obtain ⟨Ao126, co126, eo126⟩ := Kd.R_slice HO_13.out; subst eo126
          go_wp2_with (first | (go_at_call 45; (with_reducible refine (impl_AreEquivalent.calls _ _ t648 _ _ t651 t702 _ ?side1 ?side2 ?side3 ?side4 A125.out).mono ?_); (case side1 => repeat (first | exact (Kd.R_reads' HO_12.out).2.2 | (with_reducible refine Kd.C_alloc ?_ _) | (with_reducible refine Kd.C_drewN ?_ _) | (with_reducible refine Kd.C_drew ?_))); (case side2 => exact (Kd.R_reads' HO_12.out).2.1); (case side3 => exact q53_21); (case side4 => exact (Kd.R_reads' HO_13.out).2.1); rintro e w127 ⟨rfl, hb⟩; have n_ := ac_ (Kd.R_below q53_53 hb) <| ac_ (Kd.R_below q53_54 hb) <| ac_ (Kd.R_below q53_55 hb) <| ac_ (Kd.R_below q53_56 hb) <| ac_ (Kd.R_below q53_57 hb) <| Aside0.mk (below_step s1_ hb); clear HO_12 HO_13 HO_15 HO_16 HO_20 HB; obtain ⟨HO_12, HO_13, HO_15, HO_16, HO_20, HB⟩ := n_; (try clear hb)))
          go_meet
          case rel => exact ⟨_, (!t702), s2_, H', ⟨by have := HJ16.out; have := HJ81.out; first | omega | exact Nat.le_refl _⟩, ⟨q53_27⟩, ⟨q53_28⟩, ⟨q53_29⟩, ⟨q53_30⟩, ⟨s1_⟩⟩
         ·
          rw [if_neg c124] at H; have c124b0 : decide (0 < (t651.length : Int)) = false := decide_eq_false c124
          have c124b1 : decide (0 < t651.length) = false := decide_eq_false (by omega)
          clear c124
          (first | rw [c124b0] | (simp only [i64_w, i32_w]; rw [c124b0]) | skip)
          have H' := Aside0.mk H; clear H; obtain ⟨Ao128, co128, eo128⟩ := Kd.R_slice HO_13.out; subst eo128
          go_wp2
          go_meet
          case rel => exact ⟨_, (false), s2_, H', ⟨by have := HJ16.out; have := HJ81.out; first | omega | exact Nat.le_refl _⟩, ⟨q53_27⟩, ⟨q53_28⟩, ⟨q53_29⟩, ⟨q53_30⟩, ⟨s1_⟩⟩
        case rest => as_aux_lemma =>
         clear HC123
         try clear c1
         try clear c2
         try clear p2
         try clear c4
         try clear c5
         try clear c8
         try clear c9
         try clear c10
         try clear c11
         try clear c12
         try clear c27
         try clear c42
         try clear c45
         try clear c46
         try clear c47
         try clear c48
         try clear c51
         try clear c54
         try clear c81
         try clear c83
         try clear c85
         try clear c87
         try clear c89
         try clear c99
         try clear c108
         try clear c110
         try clear c117
         try clear c122
         try clear c124
         try clear c124b0
         try clear c124b1
         try clear hcz100_0
         try clear hcz100_1
         try clear hcz103_0
         try clear hcz103_1
         try clear hcz111_0
         try clear hcz111_1
         try clear hcz115_0
         try clear hcz115_1
         try clear hcz118_0
         try clear hcz118_1
         try clear hcz90_0
         try clear hcz90_1
         try clear hcz93_0
         try clear hcz93_1
         try clear hcz97_0
         try clear hcz97_1
         try clear hfz100_0
         try clear hfz100_1
         try clear hfz103_0
         try clear hfz103_1
         try clear hfz111_0
         try clear hfz111_1
         try clear hfz115_0
         try clear hfz115_1
         try clear hfz118_0
         try clear hfz118_1
         try clear hfz90_0
         try clear hfz90_1
         try clear hfz93_0
         try clear hfz93_1
         try clear hfz97_0
         try clear hfz97_1
         try clear p2
         obtain ⟨kq, x192_122, rfl, HA, HJ122, HO_13, HO_15, HO_16, HO_20, HB⟩ := hcut
         cases kq with
         | zero => exact absurd HA.out (by simp [laws_FnInference.j2])
         | succ kj122 =>
          have H := HA.out; clear HA
          simp only [laws_FnInference.j2] at H
          by_cases c129 : x192_122 = true
          ·
           subst c129; rw [if_pos rfl] at H
           exact absurd ((Option.some.inj H).trans HRT.out) Bool.false_ne_true
          ·
           replace c129 := Bool.eq_false_iff.mpr c129; subst c129
           rw [if_neg (show ¬ (false = true) by decide)] at H
           have H' := Aside0.mk H; clear H
           go_wp2
           go_loopg [28] kj122 (fun kq v28 w' => ∃ (x28_4 : Int), v28 = .int .i64 x28_4 ∧ Aside0 (laws_FnInference.l0 kq t651 t655 t658 t659 t666 t667 x28_4 = some r) ∧ Aside0 (kq ≤ kj122) ∧ Aside0 (Kd.R k48 48 w' w.heap.size (fun k_ => some k_ ≠ ((.slice Ao33 t655.length co33) : Value).ownBlock ∧ some k_ ≠ (v660 : Value).ownBlock ∧ some k_ ≠ (v668 : Value).ownBlock) v652 t651) ∧ Aside0 (Kd.R k48 48 w' w.heap.size (fun k_ => some k_ ≠ (v652 : Value).ownBlock ∧ some k_ ≠ (v660 : Value).ownBlock ∧ some k_ ≠ (v668 : Value).ownBlock) (.slice Ao33 t655.length co33) t655) ∧ Aside0 (Kd.R k48 48 w' w.heap.size (fun k_ => some k_ ≠ (v652 : Value).ownBlock ∧ some k_ ≠ ((.slice Ao33 t655.length co33) : Value).ownBlock ∧ some k_ ≠ (v668 : Value).ownBlock) v660 t658) ∧ Aside0 (Kd.R k48 48 w' w.heap.size (fun k_ => some k_ ≠ (v652 : Value).ownBlock ∧ some k_ ≠ ((.slice Ao33 t655.length co33) : Value).ownBlock ∧ some k_ ≠ (v660 : Value).ownBlock) v668 t666) ∧ Aside0 (Below w.heap.size w w'))
           case atStart => exact ⟨(0), s2_, H', ⟨Nat.le_refl _⟩, ⟨q53_54⟩, ⟨q53_55⟩, ⟨q53_56⟩, ⟨q53_57⟩, ⟨s1_⟩⟩
           case round =>
            clear H'
            try clear c1
            try clear c2
            try clear p2
            try clear c4
            try clear c5
            try clear c8
            try clear c9
            try clear c10
            try clear c11
            try clear c12
            try clear c27
            try clear c42
            try clear c45
            try clear c46
            try clear c47
            try clear c48
            try clear c51
            try clear c54
            try clear c81
            try clear c83
            try clear c85
            try clear c87
            try clear c89
            try clear c99
            try clear c108
            try clear c110
            try clear c117
            try clear c122
            try clear c124
            try clear c124b0
            try clear c124b1
            try clear c129
            try clear hcz100_0
            try clear hcz100_1
            try clear hcz103_0
            try clear hcz103_1
            try clear hcz111_0
            try clear hcz111_1
            try clear hcz115_0
            try clear hcz115_1
            try clear hcz118_0
            try clear hcz118_1
            try clear hcz90_0
            try clear hcz90_1
            try clear hcz93_0
            try clear hcz93_1
            try clear hcz97_0
            try clear hcz97_1
            try clear hfz100_0
            try clear hfz100_1
            try clear hfz103_0
            try clear hfz103_1
            try clear hfz111_0
            try clear hfz111_1
            try clear hfz115_0
            try clear hfz115_1
            try clear hfz118_0
            try clear hfz118_1
            try clear hfz90_0
            try clear hfz90_1
            try clear hfz93_0
            try clear hfz93_1
            try clear hfz97_0
            try clear hfz97_1
            try clear p2
            obtain ⟨x28_4, rfl, HA, HK4, HO_13, HO_15, HO_16, HO_20, HB⟩ := hrel
            cases gk with
            | zero => exact absurd HA.out (by simp [laws_FnInference.l0])
            | succ k4 =>
             have H := HA.out; clear HA
             simp only [laws_FnInference.l0] at H
             by_cases c130 : x28_4 < (t651.length : Int)
             ·
              rw [if_pos c130] at H; have c130b0 : decide (x28_4 < (t651.length : Int)) = true := decide_eq_true c130; clear c130; obtain ⟨t703, A131, H⟩ := bnd53_ H
              by_cases c132 : t703 = true
              ·
               subst c132; rw [if_pos rfl] at H
               exact absurd ((Option.some.inj H).trans HRT.out) Bool.false_ne_true
              ·
               replace c132 := Bool.eq_false_iff.mpr c132; subst c132
               rw [if_neg (show ¬ (false = true) by decide)] at H
               have H' := Aside0.mk H; clear H; obtain ⟨Ao133, co133, eo133⟩ := Kd.R_slice HO_13.out; subst eo133
               go_wp2_with (first | ((with_reducible refine gate_callee (f := 47) rfl ?_); refine gL_ 47 201 Tryz.func47 #[.slice Ao133 t651.length co133, .int .i64 x28_4] ?_; (with_reducible refine (impl_IsRedundant.calls k4 _ _ t651 x28_4 false _ ?side1 ?side2 A131.out).mono ?_); (case side1 => exact q53_21); (case side2 => exact (Kd.R_reads' HO_13.out).2.1); rintro e w134 ⟨rfl, hb⟩; refine ⟨_, rfl, ?_⟩; have n_ := ac_ (Kd.R_below q53_54 hb) <| ac_ (Kd.R_below q53_55 hb) <| ac_ (Kd.R_below q53_56 hb) <| ac_ (Kd.R_below q53_57 hb) <| Aside0.mk (below_step s1_ hb); clear HO_13 HO_15 HO_16 HO_20 HB; obtain ⟨HO_13, HO_15, HO_16, HO_20, HB⟩ := n_; (try clear hb)))
               go_roundg k4
               case measure => have := HJ16.out; have := HJ81.out; have := HJ122.out; have := HK4.out; omega
               case rel => exact ⟨(wrap64 (x28_4 + 1)), s2_, H', ⟨by have := HJ16.out; have := HJ81.out; have := HJ122.out; have := HK4.out; omega⟩, ⟨q53_54⟩, ⟨q53_55⟩, ⟨q53_56⟩, ⟨q53_57⟩, ⟨s1_⟩⟩
             ·
              rw [if_neg c130] at H; have c130b0 : decide (x28_4 < (t651.length : Int)) = false := decide_eq_false c130; clear c130
              by_cases c135 : t659 = true
              ·
               subst c135; rw [if_pos rfl] at H; obtain ⟨t704, A136, H⟩ := bnd53_ H
               by_cases c137 : t704 = true
               ·
                subst c137; rw [if_pos rfl] at H
                by_cases c138 : t667 = true
                ·
                 subst c138; rw [if_pos rfl] at H; obtain ⟨t705, A139, H⟩ := bnd53_ H
                 by_cases c140 : t705 = true
                 ·
                  subst c140; rw [if_pos rfl] at H; obtain rfl := Option.some.inj H; obtain ⟨Ao141, co141, eo141⟩ := Kd.R_slice HO_13.out; subst eo141; obtain ⟨Ao142, co142, eo142⟩ := Kd.R_slice HO_16.out; subst eo142
                  go_wp2_with (first | (go_at_call 45; (with_reducible refine (impl_AreEquivalent.calls _ _ t655 _ _ t658 true _ ?side1 ?side2 ?side3 ?side4 A136.out).mono ?_); (case side1 => exact q53_22); (case side2 => exact (Kd.R_reads' HO_15.out).2.1); (case side3 => repeat (first | exact (Kd.R_reads' HO_16.out).2.2 | (with_reducible refine Kd.C_alloc ?_ _) | (with_reducible refine Kd.C_drewN ?_ _) | (with_reducible refine Kd.C_drew ?_))); (case side4 => exact (Kd.R_reads' HO_16.out).2.1); rintro e w143 ⟨rfl, hb⟩; have n_ := ac_ (Kd.R_below q53_54 hb) <| ac_ (Kd.R_below q53_55 hb) <| ac_ (Kd.R_below q53_56 hb) <| ac_ (Kd.R_below q53_57 hb) <| Aside0.mk (below_step s1_ hb); clear HO_13 HO_15 HO_16 HO_20 HB; obtain ⟨HO_13, HO_15, HO_16, HO_20, HB⟩ := n_; (try clear hb); obtain ⟨Ao144, co144, eo144⟩ := Kd.R_slice HO_20.out; subst eo144) | (go_at_call 45; (with_reducible refine (impl_AreEquivalent.calls _ _ t655 _ _ t666 true _ ?side1 ?side2 ?side3 ?side4 A139.out).mono ?_); (case side1 => exact q53_22); (case side2 => exact (Kd.R_reads' HO_15.out).2.1); (case side3 => repeat (first | exact (Kd.R_reads' HO_20.out).2.2 | (with_reducible refine Kd.C_alloc ?_ _) | (with_reducible refine Kd.C_drewN ?_ _) | (with_reducible refine Kd.C_drew ?_))); (case side4 => exact (Kd.R_reads' HO_20.out).2.1); rintro e w145 ⟨rfl, hb⟩; have n_ := ac_ (Kd.R_below q53_54 hb) <| ac_ (Kd.R_below q53_55 hb) <| ac_ (Kd.R_below q53_56 hb) <| ac_ (Kd.R_below q53_57 hb) <| Aside0.mk (below_step s1_ hb); clear HO_13 HO_15 HO_16 HO_20 HB; obtain ⟨HO_13, HO_15, HO_16, HO_20, HB⟩ := n_; (try clear hb)))
                  go_ret
                  exact ⟨s4_, s1_⟩
                 ·
                  replace c140 := Bool.eq_false_iff.mpr c140; subst c140
                  rw [if_neg (show ¬ (false = true) by decide)] at H
                  exact absurd ((Option.some.inj H).trans HRT.out) Bool.false_ne_true
                ·
                 replace c138 := Bool.eq_false_iff.mpr c138; subst c138
                 rw [if_neg (show ¬ (false = true) by decide)] at H
                 exact absurd ((Option.some.inj H).trans HRT.out) Bool.false_ne_true
               ·
                replace c137 := Bool.eq_false_iff.mpr c137; subst c137
                rw [if_neg (show ¬ (false = true) by decide)] at H
                exact absurd ((Option.some.inj H).trans HRT.out) Bool.false_ne_true
              ·
               replace c135 := Bool.eq_false_iff.mpr c135; subst c135
               rw [if_neg (show ¬ (false = true) by decide)] at H
               obtain rfl := Option.some.inj H; obtain ⟨Ao146, co146, eo146⟩ := Kd.R_slice HO_13.out; subst eo146
               go_wp2
               go_ret
               exact ⟨s4_, s1_⟩
end Go.Proofs.YtafnamchckehmaaGreatDoor.Pr
