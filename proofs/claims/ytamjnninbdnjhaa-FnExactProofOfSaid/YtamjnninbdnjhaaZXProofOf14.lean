/- What the law needs of the program's functions as plain functions, of the proofs that their calls answer so, and of plain laws: gathered by a program of this place (pack.py) out of its printed texts. No condition beyond what each statement says. -/
import Derived.Test.YtamjnninbdnjhaaZXProofOf2
import Derived.Test.YtamjnninbdnjhaaZXProofOf4
import Derived.Test.YtamjnninbdnjhaaZXProofOf6
import Derived.Test.YtamjnninbdnjhaaZXProofOf7
import Derived.Test.YtamjnninbdnjhaaZXProofOf13
namespace Go.Proofs.Ytamjnninbdnjhaa.Pr
open Go.RowKit Go.Proofs.YtamjnninbdnjhaaW.PrintWords Go.Proofs.YtamjnninbdnjhaaW.PrintLast Go.Proofs.YtamjnninbdnjhaaW.PrintMore
attribute [local go_sem] max2_int min2_int max_two min_two max_three min_three max_four min_four   -- for this text's walks alone
set_option linter.unusedVariables false
set_option linter.unusedSimpArgs false
theorem put22_ {P : Prop} (h : P := by simp only [Act.put, List.setIfInBounds_toArray, List.set_cons_zero, List.set_cons_succ, i64_w, i32_w]; rfl) : P := h
theorem q22_1 {P : Prop} (h : P := by repeat (first | exact (Kd.C_below HR0.out HB.out) | (with_reducible refine Kd.C_alloc ?_ _) | (with_reducible refine Kd.C_drewN ?_ _) | (with_reducible refine Kd.C_drew ?_))) : P := h
theorem q22_2 {P : Prop} (h : P := by repeat (first | exact (Kd.R_reads' HO311.out).2.2 | (with_reducible refine Kd.C_alloc ?_ _) | (with_reducible refine Kd.C_drewN ?_ _) | (with_reducible refine Kd.C_drew ?_))) : P := h
theorem q22_3 {P : Prop} (h : P := by repeat (first | exact (Kd.R_reads' HO320.out).2.2 | (with_reducible refine Kd.C_alloc ?_ _) | (with_reducible refine Kd.C_drewN ?_ _) | (with_reducible refine Kd.C_drew ?_))) : P := h
theorem q22_4 {P : Prop} (h : P := by repeat (first | exact (Kd.R_reads' HO340.out).2.2 | (with_reducible refine Kd.C_alloc ?_ _) | (with_reducible refine Kd.C_drewN ?_ _) | (with_reducible refine Kd.C_drew ?_))) : P := h
theorem q22_5 {P : Prop} (h : P := by repeat (first | exact (Kd.R_reads' HO_6.out).2.2 | (with_reducible refine Kd.C_alloc ?_ _) | (with_reducible refine Kd.C_drewN ?_ _) | (with_reducible refine Kd.C_drew ?_))) : P := h
theorem q22_6 {P : Prop} (h : P := by repeat (first | exact (Kd.R_reads' HO_9.out).2.2 | (with_reducible refine Kd.C_alloc ?_ _) | (with_reducible refine Kd.C_drewN ?_ _) | (with_reducible refine Kd.C_drew ?_))) : P := h
theorem q22_7 {P : Prop} (h : P := by repeat (first | (with_reducible first | exact HB.out | apply below_alloc | apply pw_below_drewN | apply below_drew1 | refine below_set ?_ GE302.out) | exact HB.out)) : P := h
theorem q22_8 {P : Prop} (h : P := by (try simp only [List.map_toArray, List.map_cons, List.map_nil]); first | done | rfl | (simp only [List.length_drop, List.length_take]; rfl)) : P := h
theorem q22_9 {P : Prop} (h : P := by repeat (first | (with_reducible first | exact HB.out | apply below_alloc | apply pw_below_drewN | apply below_drew1) | exact HB.out)) : P := h
theorem q22_10 {P : Prop} (h : P := by (with_reducible repeat (first | refine blk_drewN ?_ _ | refine blk_drew ?_ | refine blk_alloc ?_ _)); exact BK302.out) : P := h
theorem q22_11 {P : Prop} (h : P := by (with_reducible repeat (first | apply Kd.R_alloc | apply Kd.R_drewN | apply Kd.R_drew)); exact HO306.out) : P := h
theorem q22_12 {P : Prop} (h : P := by (with_reducible repeat (first | apply Kd.R_alloc | apply Kd.R_drewN | apply Kd.R_drew)); exact HO311.out) : P := h
theorem q22_13 {P : Prop} (h : P := by (with_reducible repeat (first | apply Kd.R_alloc | apply Kd.R_drewN | apply Kd.R_drew)); exact HO315.out) : P := h
theorem q22_14 {P : Prop} (h : P := by (with_reducible repeat (first | apply Kd.R_alloc | apply Kd.R_drewN | apply Kd.R_drew)); exact HO325.out) : P := h
theorem q22_15 {P : Prop} (h : P := by (with_reducible repeat (first | apply Kd.R_alloc | apply Kd.R_drewN | apply Kd.R_drew)); exact HO335.out) : P := h
theorem q22_16 {P : Prop} (h : P := by (with_reducible repeat (first | apply Kd.R_alloc | apply Kd.R_drewN | apply Kd.R_drew)); exact HO_6.out) : P := h
theorem q22_17 {P : Prop} (h : P := by (with_reducible repeat (first | apply Kd.R_alloc | apply Kd.R_drewN | apply Kd.R_drew)); exact HO_8.out) : P := h
theorem q22_18 {P : Prop} (h : P := by (with_reducible repeat (first | apply Kd.R_alloc | apply Kd.R_drewN | apply Kd.R_drew)); exact HO_9.out) : P := h
theorem q22_19 {P : Prop} (h : P := by first | rfl | (simp; done) | (simp [*]; done) | (simp [i64_w, i32_w]; done)) : P := h
theorem q22_20 {P : Prop} (h : P := by rw [if_neg (show ¬ (false = true) by decide)] at H; exact H) : P := h
theorem q22_21 {P : Prop} (h : P := by rw [if_pos rfl] at H; exact H) : P := h
theorem q22_22 {P : Prop} (h : P := by kernel_rfl) : P := h
mutual
def laws_FnExactProofOf.j0 : Nat → List (S40) → List (S77) → Bool → List (S46) → List (S77) → Bool → Bool → Int → Int → Option (Bool)
 | 0, _, _, _, _, _, _, _, _, _ => none
 | k + 1, x0, x6, x7, x8, x9, x10, x46, x303000, x303001 => if x46 = true then (some false) else ((laws_toRuleS.f k x0).bind fun t323 => ((laws_eqRuleS.f k x8 t323).bind fun t326 => (if t326 = true then ((laws_markRuleS.f k x8 1).bind fun bt327 => (if bt327.1 < 0 then (laws_FnExactProofOf.j1 k x0 x6 x7 x9 true x303000 x303001) else ((laws_eqStepS.f k x9 x6).bind fun t329 => (if t329 = true then (laws_FnExactProofOf.j1 k x0 x6 x7 x9 (x10 != x7) x303000 x303001) else (laws_FnExactProofOf.j1 k x0 x6 x7 x9 true x303000 x303001))))) else (some false))))
def laws_FnExactProofOf.j1 : Nat → List (S40) → List (S77) → Bool → List (S77) → Bool → Int → Int → Option (Bool)
 | 0, _, _, _, _, _, _, _ => none
 | k + 1, x0, x6, x7, x9, x67, x303000, x303001 => if x67 = true then (some false) else ((laws_markStepS.f k x9 1).bind fun bt330 => ((laws_heldStepS.f k bt330.2 1).bind fun t332 => (if t332 < 0 then (some false) else (if t332 = bt330.1 then ((laws_toRuleS.f k x0).bind fun t333 => ((laws_toRule.f x303000 x303001).bind fun bt336 => ((impl_ProofOf.f k t333 bt336.1 bt336.2).bind fun bt338 => ((laws_eqStepS.f k bt338.1 x6).bind fun t342 => (if t342 = true then (laws_FnExactProofOf.j2 k bt330.2 bt330.1 (bt338.2 != x7)) else (laws_FnExactProofOf.j2 k bt330.2 bt330.1 true)))))) else (some false)))))
def laws_FnExactProofOf.j2 : Nat → List (S77) → Int → Bool → Option (Bool)
 | 0, _, _, _ => none
 | k + 1, x9, x12, x95 => if x95 = true then (some false) else ((laws_heldStepS.f k x9 1).bind fun t343 => (if t343 < 0 then (some false) else (if t343 = x12 then (some true) else (some false))))
end
def laws_FnExactProofOf.f (k : Nat) (l0 : List (S40)) (a1_0 : Int) (a1_1 : Int) : Option (Bool) := (laws_szRuleS.f l0 1048576).bind fun t303 => (if t303 < 0 then (some true) else ((laws_toRuleS.f k l0).bind fun t304 => ((laws_toRule.f a1_0 a1_1).bind fun bt307 => ((spec_ProofOf.f k t304 bt307.1 bt307.2).bind fun bt309 => ((laws_toRuleS.f k l0).bind fun t313 => ((laws_toRule.f a1_0 a1_1).bind fun bt316 => ((impl_ProofOf.f k t313 bt316.1 bt316.2).bind fun bt318 => ((laws_eqStepS.f k bt318.1 bt309.1).bind fun t322 => (if t322 = true then (laws_FnExactProofOf.j0 k l0 bt309.1 bt309.2 t313 bt318.1 bt318.2 (bt318.2 != bt309.2) a1_0 a1_1) else (laws_FnExactProofOf.j0 k l0 bt309.1 bt309.2 t313 bt318.1 bt318.2 true a1_0 a1_1))))))))))
def laws_FnExactProofOf.T5 : Bool × List (List Nat × List Nat) := (true, [([], []), ([0], [0]), ([], []), ([2, 1], [2]), ([1, 3, 3], [1, 3]), ([4], [4]), ([5], [5]), ([5], [5]), ([6, 4, 0, 1, 2, 3, 4, 5, 6], [6]), ([7, 8, 0, 1, 2, 3, 4, 5, 6, 7, 8], [7])])
def laws_FnExactProofOf.B5 : List Nat := [0, 1, 0, 7, 15, 31, 63, 63, 127, 511]
theorem laws_FnExactProofOf.tab5 : rtab .any (opsOf Try.f4 5) = laws_FnExactProofOf.T5 := q22_22
theorem laws_FnExactProofOf.bits5 : waitsOk laws_FnExactProofOf.T5.2 laws_FnExactProofOf.B5 = true := q22_22
def laws_FnExactProofOf.T24 : Bool × List (List Nat × List Nat) := (true, [([], []), ([0], [0]), ([], []), ([2, 1], [2]), ([1, 3, 3], [1, 3]), ([4], [4]), ([5], [5]), ([5], [5]), ([6, 4, 0, 1, 2, 3, 4, 5, 6], [6]), ([7, 8, 0, 1, 2, 3, 4, 5, 6, 7, 8], [7])])
def laws_FnExactProofOf.B24 : List Nat := [0, 1, 0, 7, 15, 31, 63, 63, 127, 511]
theorem laws_FnExactProofOf.tab24 : rtab .any (opsOf Try.f4 24) = laws_FnExactProofOf.T24 := q22_22
theorem laws_FnExactProofOf.bits24 : waitsOk laws_FnExactProofOf.T24.2 laws_FnExactProofOf.B24 = true := q22_22
set_option maxHeartbeats 8000000 in
set_option maxRecDepth 100000 in
theorem laws_FnExactProofOf.calls (k : Nat) (A0 : Option Addr) (c0 : Nat) (l0 : List (S40)) (a1_0 : Int) (a1_1 : Int) (r : Bool) (w : World) (hr0 : Kd.C k40 w A0 l0.length l0) (hc0 : l0.length ≤ c0) (hrt : r = true) (h : laws_FnExactProofOf.f k l0 a1_0 a1_1 = some r) :
  Calls Try.prog 4 #[.slice A0 l0.length c0, .agg #[.int .i64 a1_0, .int .i64 a1_1]] w fun e w' => e = .returned (.bool r) ∧ Below w.heap.size w w' := by
 have hu40 := Try.underlying40
 have HR0 := Aside0.mk hr0
 have HC0 := Aside0.mk hc0
 clear hr0 hc0
 have HB := Aside0.mk (Below.refl w.heap.size w)
 have HRT := Aside0.mk hrt
 clear hrt
 have H : ((laws_szRuleS.f l0 1048576).bind fun t303 => (if t303 < 0 then (some true) else ((laws_toRuleS.f k l0).bind fun t304 => ((laws_toRule.f a1_0 a1_1).bind fun bt307 => ((spec_ProofOf.f k t304 bt307.1 bt307.2).bind fun bt309 => ((laws_toRuleS.f k l0).bind fun t313 => ((laws_toRule.f a1_0 a1_1).bind fun bt316 => ((impl_ProofOf.f k t313 bt316.1 bt316.2).bind fun bt318 => ((laws_eqStepS.f k bt318.1 bt309.1).bind fun t322 => (if t322 = true then (laws_FnExactProofOf.j0 k l0 bt309.1 bt309.2 t313 bt318.1 bt318.2 (bt318.2 != bt309.2) a1_0 a1_1) else (laws_FnExactProofOf.j0 k l0 bt309.1 bt309.2 t313 bt318.1 bt318.2 true a1_0 a1_1))))))))))) = some r := h
 clear h
 replace H := Option.bind_eq_some_iff.mp H
 obtain ⟨t303, A30, H⟩ := H
 replace H : (if t303 < 0 then (some true) else ((laws_toRuleS.f k l0).bind fun t304 => ((laws_toRule.f a1_0 a1_1).bind fun bt307 => ((spec_ProofOf.f k t304 bt307.1 bt307.2).bind fun bt309 => ((laws_toRuleS.f k l0).bind fun t313 => ((laws_toRule.f a1_0 a1_1).bind fun bt316 => ((impl_ProofOf.f k t313 bt316.1 bt316.2).bind fun bt318 => ((laws_eqStepS.f k bt318.1 bt309.1).bind fun t322 => (if t322 = true then (laws_FnExactProofOf.j0 k l0 bt309.1 bt309.2 t313 bt318.1 bt318.2 (bt318.2 != bt309.2) a1_0 a1_1) else (laws_FnExactProofOf.j0 k l0 bt309.1 bt309.2 t313 bt318.1 bt318.2 true a1_0 a1_1)))))))))) = some r := H
 have A3 := Aside0.mk A30
 clear A30
 by_cases c4 : t303 < 0
 ·
  rw [if_pos c4] at H
  have c4b0 : decide (t303 < 0) = true := decide_eq_true c4
  clear c4
  obtain rfl := Option.some.inj H
  go_enter Try.func4, Try.ntmps4
  go_wp2_with (first | ((with_reducible refine gate_dst (N := 3) rfl ?_); refine box_event ?hg (N := 3) ?hd (cs := #[.int .i64 a1_0, .int .i64 a1_1]) (t := 40) ?hr ?_; (case hd => rfl); (case hg => rfl); (case hr => first | (go_simp; done) | (go_simp; rfl)); intro gb302 hg w5 hbox hb; have n0_ := Aside0.mk (below_step q22_9 hb); have n1_ := Aside0.mk (hbox); have n2_ := Aside0.mk ((by rw [hg]; exact (below_size q22_9) : w.heap.size ≤ gb302)); have n3_ := Aside0.mk ((by rw [hg]; exact (below_size q22_9) : w.heap.size ≤ gb302)); clear HB; have HB := n0_; have BK302 := n1_; have GW302 := n2_; have GE302 := n3_; clear n0_ n1_ n2_ n3_; clear hb hbox hg) | ((with_reducible refine gate_callee (f := 13) rfl ?_); refine goesL_ (some 18) rfl rfl Try.func13 q22_22 rfl #[.slice A0 l0.length c0, .int .i64 1048576] rfl q22_8 ?_; (with_reducible refine (laws_szRuleS.calls _ _ l0 1048576 t303 _ ?side1 ?side2 A3.out).mono ?_); (case side1 => exact q22_1); (case side2 => exact HC0.out); rintro e w' ⟨rfl, ⟨nd, rfl⟩⟩; refine ⟨_, rfl, ?_⟩))
  go_ret
  exact ⟨by first | rfl | (simp [errW_none, errW_some] <;> rfl) | (simp [*, errW_none, errW_some] <;> rfl), by repeat (first | (with_reducible first | exact HB.out | apply below_alloc | apply pw_below_drewN | apply below_drew1 | refine below_set ?_ GE302.out) | exact HB.out)⟩
 ·
  rw [if_neg c4] at H
  have c4b0 : decide (t303 < 0) = false := decide_eq_false c4
  clear c4
  replace H := Option.bind_eq_some_iff.mp H
  obtain ⟨t304, A60, H⟩ := H
  replace H : ((laws_toRule.f a1_0 a1_1).bind fun bt307 => ((spec_ProofOf.f k t304 bt307.1 bt307.2).bind fun bt309 => ((laws_toRuleS.f k l0).bind fun t313 => ((laws_toRule.f a1_0 a1_1).bind fun bt316 => ((impl_ProofOf.f k t313 bt316.1 bt316.2).bind fun bt318 => ((laws_eqStepS.f k bt318.1 bt309.1).bind fun t322 => (if t322 = true then (laws_FnExactProofOf.j0 k l0 bt309.1 bt309.2 t313 bt318.1 bt318.2 (bt318.2 != bt309.2) a1_0 a1_1) else (laws_FnExactProofOf.j0 k l0 bt309.1 bt309.2 t313 bt318.1 bt318.2 true a1_0 a1_1)))))))) = some r := H
  have A6 := Aside0.mk A60
  clear A60
  replace H := Option.bind_eq_some_iff.mp H
  obtain ⟨⟨t307, t308⟩, A70, H⟩ := H
  replace H : ((spec_ProofOf.f k t304 t307 t308).bind fun bt309 => ((laws_toRuleS.f k l0).bind fun t313 => ((laws_toRule.f a1_0 a1_1).bind fun bt316 => ((impl_ProofOf.f k t313 bt316.1 bt316.2).bind fun bt318 => ((laws_eqStepS.f k bt318.1 bt309.1).bind fun t322 => (if t322 = true then (laws_FnExactProofOf.j0 k l0 bt309.1 bt309.2 t313 bt318.1 bt318.2 (bt318.2 != bt309.2) a1_0 a1_1) else (laws_FnExactProofOf.j0 k l0 bt309.1 bt309.2 t313 bt318.1 bt318.2 true a1_0 a1_1))))))) = some r := H
  have A7 := Aside0.mk A70
  clear A70
  replace H := Option.bind_eq_some_iff.mp H
  obtain ⟨⟨t309, t312⟩, A80, H⟩ := H
  replace H : ((laws_toRuleS.f k l0).bind fun t313 => ((laws_toRule.f a1_0 a1_1).bind fun bt316 => ((impl_ProofOf.f k t313 bt316.1 bt316.2).bind fun bt318 => ((laws_eqStepS.f k bt318.1 t309).bind fun t322 => (if t322 = true then (laws_FnExactProofOf.j0 k l0 t309 t312 t313 bt318.1 bt318.2 (bt318.2 != t312) a1_0 a1_1) else (laws_FnExactProofOf.j0 k l0 t309 t312 t313 bt318.1 bt318.2 true a1_0 a1_1)))))) = some r := H
  have A8 := Aside0.mk A80
  clear A80
  replace H := Option.bind_eq_some_iff.mp H
  obtain ⟨t313, A90, H⟩ := H
  replace H : ((laws_toRule.f a1_0 a1_1).bind fun bt316 => ((impl_ProofOf.f k t313 bt316.1 bt316.2).bind fun bt318 => ((laws_eqStepS.f k bt318.1 t309).bind fun t322 => (if t322 = true then (laws_FnExactProofOf.j0 k l0 t309 t312 t313 bt318.1 bt318.2 (bt318.2 != t312) a1_0 a1_1) else (laws_FnExactProofOf.j0 k l0 t309 t312 t313 bt318.1 bt318.2 true a1_0 a1_1))))) = some r := H
  have A9 := Aside0.mk A90
  clear A90
  replace H := Option.bind_eq_some_iff.mp H
  obtain ⟨⟨t316, t317⟩, A100, H⟩ := H
  replace H : ((impl_ProofOf.f k t313 t316 t317).bind fun bt318 => ((laws_eqStepS.f k bt318.1 t309).bind fun t322 => (if t322 = true then (laws_FnExactProofOf.j0 k l0 t309 t312 t313 bt318.1 bt318.2 (bt318.2 != t312) a1_0 a1_1) else (laws_FnExactProofOf.j0 k l0 t309 t312 t313 bt318.1 bt318.2 true a1_0 a1_1)))) = some r := H
  have A10 := Aside0.mk A100
  clear A100
  replace H := Option.bind_eq_some_iff.mp H
  obtain ⟨⟨t318, t321⟩, A110, H⟩ := H
  replace H : ((laws_eqStepS.f k t318 t309).bind fun t322 => (if t322 = true then (laws_FnExactProofOf.j0 k l0 t309 t312 t313 t318 t321 (t321 != t312) a1_0 a1_1) else (laws_FnExactProofOf.j0 k l0 t309 t312 t313 t318 t321 true a1_0 a1_1))) = some r := H
  have A11 := Aside0.mk A110
  clear A110
  have HC12 := Aside0.mk H
  clear H
  go_enter Try.func4, Try.ntmps4
  try go_wp2_with (first | ((with_reducible refine gate_dst (N := 3) rfl ?_); refine box_event ?hg (N := 3) ?hd (cs := #[.int .i64 a1_0, .int .i64 a1_1]) (t := 40) ?hr ?_; (case hd => rfl); (case hg => rfl); (case hr => first | (go_simp; done) | (go_simp; rfl)); intro gb302 hg w13 hbox hb; have n0_ := Aside0.mk (below_step q22_9 hb); have n1_ := Aside0.mk (hbox); have n2_ := Aside0.mk ((by rw [hg]; exact (below_size q22_9) : w.heap.size ≤ gb302)); have n3_ := Aside0.mk ((by rw [hg]; exact (below_size q22_9) : w.heap.size ≤ gb302)); clear HB; have HB := n0_; have BK302 := n1_; have GW302 := n2_; have GE302 := n3_; clear n0_ n1_ n2_ n3_; clear hb hbox hg) | ((with_reducible refine gate_callee (f := 13) rfl ?_); refine goesL_ (some 18) rfl rfl Try.func13 q22_22 rfl #[.slice A0 l0.length c0, .int .i64 1048576] rfl q22_8 ?_; (with_reducible refine (laws_szRuleS.calls _ _ l0 1048576 t303 _ ?side1 ?side2 A3.out).mono ?_); (case side1 => exact q22_1); (case side2 => exact HC0.out); rintro e w' ⟨rfl, ⟨nd, rfl⟩⟩; refine ⟨_, rfl, ?_⟩))
  (try (rw [drewN_self w13]; generalize hq_ : World.drewN w13 _ = w13; have n0_ : Aside0 (w13.heap[gb302]? = some (.cells #[.int .i64 a1_0, .int .i64 a1_1] 40 (0, 0))) := ⟨by rw [← hq_]; exact q22_10⟩; have n1_ : Aside0 (Below w.heap.size w w13) := ⟨by rw [← hq_]; exact q22_7⟩; clear BK302 HB hq_; have BK302 := n0_; have HB := n1_; clear n0_ n1_))
  have n0_ := Aside0.mk (blk_drew BK302.out)
  have n1_ := Aside0.mk (below_drew1 HB.out)
  clear BK302
  clear HB
  have BK302 := n0_
  have HB := n1_
  clear n0_ n1_
  refine start_ (n := 10) (S := fun w' => w'.cell? ⟨gb302, 0, none⟩ = some (.int .i64 a1_0) ∧ w'.cell? ⟨gb302, 1, none⟩ = some (.int .i64 a1_1)) (ds := []) #[false, false, false, false, false, false, false, false, false, false] q22_22 rfl rfl ⟨(blk_cell BK302.out 0).trans rfl, (blk_cell BK302.out 1).trans rfl⟩ (fun hHeld => ?_); refine with_tabW laws_FnExactProofOf.tab5 laws_FnExactProofOf.bits5 (fun HT_ HW_ => ?_)
  generalize w13.drew = w14 at BK302 HB hHeld ⊢
  refine pure_ (i := 0) (N := some 22) (v := ?_) (a' := ?_) #[true, false, false, false, false, false, false, false, false, false] rfl rfl (any_of HT_.out q22_22) (fun _ _ _ h => h) (Or.inl ⟨by rfl, ?_⟩) ?_ ?_
  rotate_left
  ·
   intro w'
   go_simp
   with_reducible rfl
  rotate_left
  ·
   exact put22_
  refine take_ (i := 2) (N := some 24) (v := ?_) (a' := ?_) #[true, false, true, false, false, false, false, false, false, false] rfl rfl (take_ofW HT_.out HW_.out q22_22) (fun _ _ _ h => h) (Or.inl ⟨by rfl, ?_⟩) hHeld ?_ ?_
  rotate_left
  ·
   rintro w' ⟨s0, s1⟩
   go_simp
   with_reducible rfl
  rotate_left
  ·
   exact put22_
  refine one_ (i := 1) (N := some 23) #[true, true, true, false, false, false, false, false, false, false] rfl rfl (one_of HT_.out q22_22) (by decide) (fun K hK => ?_)
  refine goes_ Try.func15 q22_22 rfl #[.slice A0 l0.length c0] (by rfl) rfl rfl q22_8 ?_
  with_reducible refine (laws_toRuleS.calls k _ _ l0 t304 _ ?side1 ?side2 A6.out).mono ?_
  (case side1 => exact q22_1)
  (case side2 => exact HC0.out)
  rintro e w15 ⟨v305, rfl, ho0, hb⟩
  refine ⟨_, rfl, ?_⟩
  have n0_ := Aside0.mk (Kd.R_lower ho0 (below_size q22_7))
  have n1_ := Aside0.mk (blk_below (g := gb302) (o := .cells #[.int .i64 a1_0, .int .i64 a1_1] 40 (0, 0)) q22_10 hb)
  have n2_ := Aside0.mk (below_step q22_7 hb)
  clear BK302
  clear HB
  have HO306 := n0_
  have BK302 := n1_
  have HB := n2_
  clear n0_ n1_ n2_
  (try clear hb)
  (try clear hb2)
  (try clear hk)
  (try clear hi)
  (try clear ho0)
  refine hK.out _ _ ⟨(blk_cell BK302.out 0).trans rfl, (blk_cell BK302.out 1).trans rfl⟩ (fun hHeld => ?_)
  clear hK K
  refine norm_ (a' := ?_) ?_ ?_
  rotate_left
  ·
   show Act.put _ (some 23) _ = _
   exact put22_
  refine one_ (i := 3) (N := some 25) #[true, true, true, true, false, false, false, false, false, false] rfl rfl (one_of HT_.out q22_22) (by decide) (fun K hK => ?_)
  refine goes_ Try.func16 q22_22 rfl #[.agg #[.int .i64 a1_0, .int .i64 a1_1]] (by rfl) rfl rfl q22_8 ?_
  with_reducible refine (laws_toRule.calls a1_0 a1_1 t307 t308 _ A7.out).mono ?_
  rintro e w16 ⟨rfl, hb⟩
  refine ⟨_, rfl, ?_⟩
  have n0_ := Aside0.mk (Kd.R_below q22_11 hb)
  have n1_ := Aside0.mk (blk_below (g := gb302) (o := .cells #[.int .i64 a1_0, .int .i64 a1_1] 40 (0, 0)) q22_10 hb)
  have n2_ := Aside0.mk (below_step q22_7 hb)
  clear HO306
  clear BK302
  clear HB
  have HO306 := n0_
  have BK302 := n1_
  have HB := n2_
  clear n0_ n1_ n2_
  (try clear hb)
  (try clear hb2)
  (try clear hk)
  (try clear hi)
  obtain ⟨Ao17, co17, eo17⟩ := Kd.R_slice HO306.out
  (first | subst eo17 | (injection eo17 with f1_ f2_ f3_; have f4_ := f1_.symm; have f5_ := f3_.symm; clear f1_ f2_ f3_; subst f4_; subst f5_))
  refine hK.out _ _ ⟨(blk_cell BK302.out 0).trans rfl, (blk_cell BK302.out 1).trans rfl⟩ (fun hHeld => ?_)
  clear hK K
  refine norm_ (a' := ?_) ?_ ?_
  rotate_left
  ·
   show Act.put _ (some 25) _ = _
   exact put22_
  refine one_ (i := 4) (N := some 26) #[true, true, true, true, true, false, false, false, false, false] rfl rfl (one_of HT_.out q22_22) (by decide) (fun K hK => ?_)
  refine goes_ Try.func14 q22_22 rfl #[.slice Ao17 t304.length co17, .agg #[.int .i64 t307, .int .i64 t308]] (by rfl) rfl rfl q22_8 ?_
  with_reducible refine (spec_ProofOf.calls k _ _ t304 t307 t308 t309 t312 _ ?side1 ?side2 A8.out).mono ?_
  (case side1 => repeat (first | exact (Kd.R_reads' HO306.out).2.2 | (with_reducible refine Kd.C_alloc ?_ _) | (with_reducible refine Kd.C_drewN ?_ _) | (with_reducible refine Kd.C_drew ?_)))
  (case side2 => exact (Kd.R_reads' HO306.out).2.1)
  rintro e w18 ⟨v310, rfl, ho0, hb⟩
  refine ⟨_, rfl, ?_⟩
  have n0_ := Aside0.mk (Kd.R_below q22_11 hb)
  have n1_ := Aside0.mk (Kd.R_lower ho0 (below_size q22_7))
  have n2_ := Aside0.mk (blk_below (g := gb302) (o := .cells #[.int .i64 a1_0, .int .i64 a1_1] 40 (0, 0)) q22_10 hb)
  have n3_ := Aside0.mk (below_step q22_7 hb)
  clear HO306
  clear BK302
  clear HB
  have HO306 := n0_
  have HO311 := n1_
  have BK302 := n2_
  have HB := n3_
  clear n0_ n1_ n2_ n3_
  (try clear hb)
  (try clear hb2)
  (try clear hk)
  (try clear hi)
  (try clear ho0)
  refine hK.out _ _ ⟨(blk_cell BK302.out 0).trans rfl, (blk_cell BK302.out 1).trans rfl⟩ (fun hHeld => ?_)
  clear hK K
  refine norm_ (a' := ?_) ?_ ?_
  rotate_left
  ·
   show Act.put _ (some 26) _ = _
   exact put22_
  refine pure_ (i := 5) (N := some 21) (v := ?_) (a' := ?_) #[true, true, true, true, true, true, false, false, false, false] rfl rfl (any_of HT_.out q22_22) (fun _ _ _ h => h) (Or.inl ⟨by rfl, ?_⟩) ?_ ?_
  rotate_left
  ·
   intro w'
   go_simp
   with_reducible rfl
  rotate_left
  ·
   exact put22_
  refine pure_ (i := 6) (N := some 27) (v := ?_) (a' := ?_) #[true, true, true, true, true, true, true, false, false, false] rfl rfl (any_of HT_.out q22_22) (fun _ _ _ h => h) (Or.inl ⟨by rfl, ?_⟩) ?_ ?_
  rotate_left
  ·
   intro w'
   go_simp
   with_reducible rfl
  rotate_left
  ·
   exact put22_
  refine pure_ (i := 7) (N := some 28) (v := ?_) (a' := ?_) #[true, true, true, true, true, true, true, true, false, false] rfl rfl (any_of HT_.out q22_22) (fun _ _ _ h => h) (Or.inl ⟨by rfl, ?_⟩) ?_ ?_
  rotate_left
  ·
   intro w'
   go_simp
   with_reducible rfl
  rotate_left
  ·
   exact put22_
  refine pure_ (i := 8) (N := some 6) (v := ?_) (a' := ?_) #[true, true, true, true, true, true, true, true, true, false] rfl rfl (any_of HT_.out q22_22) (fun _ _ _ h => h) (Or.inl ⟨by rfl, ?_⟩) ?_ ?_
  rotate_left
  ·
   intro w'
   go_simp
   with_reducible rfl
  rotate_left
  ·
   exact put22_
  refine pure_ (i := 9) (N := some 7) (v := ?_) (a' := ?_) #[true, true, true, true, true, true, true, true, true, true] rfl rfl (any_of HT_.out q22_22) (fun _ _ _ h => h) (Or.inl ⟨by rfl, ?_⟩) ?_ ?_
  rotate_left
  ·
   intro w'
   go_simp
   with_reducible rfl
  rotate_left
  ·
   exact put22_
  refine done_ (done_of HT_.out q22_22) ?_
  go_upto_region 8 with (first | ((with_reducible refine gate_callee (f := 15) rfl ?_); refine goesL_ (some 30) rfl rfl Try.func15 q22_22 rfl #[.slice A0 l0.length c0] rfl q22_8 ?_; (with_reducible refine (laws_toRuleS.calls k _ _ l0 t313 _ ?side1 ?side2 A9.out).mono ?_); (case side1 => exact q22_1); (case side2 => exact HC0.out); rintro e w19 ⟨v314, rfl, ho0, hb⟩; refine ⟨_, rfl, ?_⟩; have n0_ := Aside0.mk (Kd.R_elder' q22_11 (Kd.R_base ho0) hb); have n1_ := Aside0.mk (Kd.R_below q22_12 hb); have n2_ := Aside0.mk (Kd.R_lower (Kd.R_new' ho0 (Kd.R_lt q22_11)) (below_size q22_7)); have n3_ := Aside0.mk (blk_below (g := gb302) (o := .cells #[.int .i64 a1_0, .int .i64 a1_1] 40 (0, 0)) q22_10 hb); have n4_ := Aside0.mk (below_step q22_7 hb); clear HO306; clear HO311; clear BK302; clear HB; have HO306 := n0_; have HO311 := n1_; have HO315 := n2_; have BK302 := n3_; have HB := n4_; clear n0_ n1_ n2_ n3_ n4_; (try clear hb); (try clear hb2); (try clear hk); (try clear hi); (try clear ho0); have hcz20_0 : w19.cell? ⟨gb302, 0, none⟩ = some (.int .i64 a1_0) := (blk_cell BK302.out 0).trans rfl; have hcz20_1 : w19.cell? ⟨gb302, 1, none⟩ = some (.int .i64 a1_1) := (blk_cell BK302.out 1).trans rfl; have hfz20_0 := blk_frozen BK302.out 0; have hfz20_1 := blk_frozen BK302.out 1) | ((with_reducible refine gate_callee (f := 16) rfl ?_); refine goesL_ (some 34) rfl rfl Try.func16 q22_22 rfl #[.agg #[.int .i64 a1_0, .int .i64 a1_1]] rfl q22_8 ?_; (with_reducible refine (laws_toRule.calls a1_0 a1_1 t316 t317 _ A10.out).mono ?_); rintro e w21 ⟨rfl, hb⟩; refine ⟨_, rfl, ?_⟩; have n0_ := Aside0.mk (Kd.R_below q22_11 hb); have n1_ := Aside0.mk (Kd.R_below q22_12 hb); have n2_ := Aside0.mk (Kd.R_below q22_13 hb); have n3_ := Aside0.mk (blk_below (g := gb302) (o := .cells #[.int .i64 a1_0, .int .i64 a1_1] 40 (0, 0)) q22_10 hb); have n4_ := Aside0.mk (below_step q22_7 hb); clear HO306; clear HO311; clear HO315; clear BK302; clear HB; have HO306 := n0_; have HO311 := n1_; have HO315 := n2_; have BK302 := n3_; have HB := n4_; clear n0_ n1_ n2_ n3_ n4_; (try clear hb); (try clear hb2); (try clear hk); (try clear hi); obtain ⟨Ao22, co22, eo22⟩ := Kd.R_slice HO315.out; subst eo22) | ((with_reducible refine gate_callee (f := 17) rfl ?_); refine goesL_ (some 35) rfl rfl Try.func17 q22_22 rfl #[.slice Ao22 t313.length co22, .agg #[.int .i64 t316, .int .i64 t317]] rfl q22_8 ?_; (with_reducible refine (impl_ProofOf.calls k _ _ t313 t316 t317 t318 t321 _ ?side1 ?side2 A11.out).mono ?_); (case side1 => repeat (first | exact (Kd.R_reads' HO315.out).2.2 | (with_reducible refine Kd.C_alloc ?_ _) | (with_reducible refine Kd.C_drewN ?_ _) | (with_reducible refine Kd.C_drew ?_))); (case side2 => exact (Kd.R_reads' HO315.out).2.1); rintro e w23 ⟨v319, rfl, ho0, hb⟩; refine ⟨_, rfl, ?_⟩; have n0_ := Aside0.mk (Kd.R_below q22_11 hb); have n1_ := Aside0.mk (Kd.R_elder' q22_12 (Kd.R_base ho0) hb); have n2_ := Aside0.mk (Kd.R_below q22_13 hb); have n3_ := Aside0.mk (Kd.R_lower (Kd.R_new' ho0 (Kd.R_lt q22_12)) (below_size q22_7)); have n4_ := Aside0.mk (blk_below (g := gb302) (o := .cells #[.int .i64 a1_0, .int .i64 a1_1] 40 (0, 0)) q22_10 hb); have n5_ := Aside0.mk (below_step q22_7 hb); clear HO306; clear HO311; clear HO315; clear BK302; clear HB; have HO306 := n0_; have HO311 := n1_; have HO315 := n2_; have HO320 := n3_; have BK302 := n4_; have HB := n5_; clear n0_ n1_ n2_ n3_ n4_ n5_; (try clear hb); (try clear hb2); (try clear hk); (try clear hi); (try clear ho0)))
  (try simp only [Act.put, List.setIfInBounds_toArray, List.set_cons_zero, List.set_cons_succ])
  go_cut [46] (fun v46 wc => ∃ (kq : Nat) (x46_11 : Bool), v46 = .bool x46_11 ∧ Aside0 (laws_FnExactProofOf.j0 kq l0 t309 t312 t313 t318 t321 x46_11 a1_0 a1_1 = some r) ∧ Aside0 (kq ≤ k) ∧ Aside0 (Kd.R k77 77 wc w.heap.size (fun k_ => some k_ ≠ (v319 : Value).ownBlock) v310 t309) ∧ Aside0 (Kd.R k46 46 wc w.heap.size (fun _ => True) (.slice Ao22 t313.length co22) t313) ∧ Aside0 (Kd.R k77 77 wc w.heap.size (fun k_ => some k_ ≠ (v310 : Value).ownBlock) v319 t318) ∧ Aside0 (wc.heap[gb302]? = some (.cells #[.int .i64 a1_0, .int .i64 a1_1] 40 (0, 0))) ∧ Aside0 (Below w.heap.size w wc))
  case first =>
   have H := HC12.out
   clear HC12
   replace H := Option.bind_eq_some_iff.mp H
   obtain ⟨t322, A240, H⟩ := H
   replace H : (if t322 = true then (laws_FnExactProofOf.j0 k l0 t309 t312 t313 t318 t321 (t321 != t312) a1_0 a1_1) else (laws_FnExactProofOf.j0 k l0 t309 t312 t313 t318 t321 true a1_0 a1_1)) = some r := H
   have A24 := Aside0.mk A240
   clear A240
   by_cases c25 : t322 = true
   ·
    subst c25
    have H1 : (laws_FnExactProofOf.j0 k l0 t309 t312 t313 t318 t321 (t321 != t312) a1_0 a1_1) = some r := q22_21
    clear H
    have H := H1
    clear H1
    have H' := Aside0.mk H
    clear H
    obtain ⟨Ao26, co26, eo26⟩ := Kd.R_slice HO320.out
    subst eo26
    obtain ⟨Ao27, co27, eo27⟩ := Kd.R_slice HO311.out
    subst eo27
    go_wp2_with (first | ((with_reducible refine gate_callee (f := 18) rfl ?_); refine goesL_ (some 40) rfl rfl Try.func18 q22_22 rfl #[.slice Ao26 t318.length co26, .slice Ao27 t309.length co27] rfl q22_8 ?_; (with_reducible refine (laws_eqStepS.calls k _ _ t318 _ _ t309 true _ ?side1 ?side2 ?side3 ?side4 A24.out).mono ?_); (case side1 => exact q22_3); (case side2 => exact (Kd.R_reads' HO320.out).2.1); (case side3 => exact q22_2); (case side4 => exact (Kd.R_reads' HO311.out).2.1); rintro e w28 ⟨rfl, hb⟩; refine ⟨_, rfl, ?_⟩; have n0_ := Aside0.mk (Kd.R_below q22_11 hb); have n1_ := Aside0.mk (Kd.R_below q22_12 hb); have n2_ := Aside0.mk (Kd.R_below q22_13 hb); have n3_ := Aside0.mk (Kd.R_below (by (with_reducible repeat (first | apply Kd.R_alloc | apply Kd.R_drewN | apply Kd.R_drew)); exact HO320.out) hb); have n4_ := Aside0.mk (blk_below (g := gb302) (o := .cells #[.int .i64 a1_0, .int .i64 a1_1] 40 (0, 0)) q22_10 hb); have n5_ := Aside0.mk (below_step q22_7 hb); clear HO306; clear HO311; clear HO315; clear HO320; clear BK302; clear HB; have HO306 := n0_; have HO311 := n1_; have HO315 := n2_; have HO320 := n3_; have BK302 := n4_; have HB := n5_; clear n0_ n1_ n2_ n3_ n4_ n5_; (try clear hb); (try clear hb2); (try clear hk); (try clear hi)))
    go_meet
    case rel => exact ⟨_, ((t321 != t312)), q22_19, H', ⟨by first | omega | exact Nat.le_refl _⟩, ⟨by (with_reducible repeat (first | apply Kd.R_alloc | apply Kd.R_drewN | apply Kd.R_drew)); exact Kd.R_mono HO311.out (fun _ hk => hk.2)⟩, ⟨by (with_reducible repeat (first | apply Kd.R_alloc | apply Kd.R_drewN | apply Kd.R_drew)); exact Kd.R_mono HO315.out (fun _ hk => trivial)⟩, ⟨by (with_reducible repeat (first | apply Kd.R_alloc | apply Kd.R_drewN | apply Kd.R_drew)); exact Kd.R_mono HO320.out (fun _ hk => hk.2)⟩, ⟨by (with_reducible repeat (first | refine blk_drewN ?_ _ | refine blk_drew ?_ | refine blk_alloc ?_ _)); exact BK302.out⟩, ⟨by repeat (first | (with_reducible first | exact HB.out | apply below_alloc | apply pw_below_drewN | apply below_drew1 | refine below_set ?_ GE302.out) | exact HB.out)⟩⟩
   ·
    replace c25 := Bool.eq_false_iff.mpr c25
    subst c25
    have H1 : (laws_FnExactProofOf.j0 k l0 t309 t312 t313 t318 t321 true a1_0 a1_1) = some r := q22_20
    clear H
    have H := H1
    clear H1
    have H' := Aside0.mk H
    clear H
    obtain ⟨Ao29, co29, eo29⟩ := Kd.R_slice HO320.out
    subst eo29
    obtain ⟨Ao30, co30, eo30⟩ := Kd.R_slice HO311.out
    subst eo30
    go_wp2_with (first | ((with_reducible refine gate_callee (f := 18) rfl ?_); refine goesL_ (some 40) rfl rfl Try.func18 q22_22 rfl #[.slice Ao29 t318.length co29, .slice Ao30 t309.length co30] rfl q22_8 ?_; (with_reducible refine (laws_eqStepS.calls k _ _ t318 _ _ t309 false _ ?side1 ?side2 ?side3 ?side4 A24.out).mono ?_); (case side1 => exact q22_3); (case side2 => exact (Kd.R_reads' HO320.out).2.1); (case side3 => exact q22_2); (case side4 => exact (Kd.R_reads' HO311.out).2.1); rintro e w31 ⟨rfl, hb⟩; refine ⟨_, rfl, ?_⟩; have n0_ := Aside0.mk (Kd.R_below q22_11 hb); have n1_ := Aside0.mk (Kd.R_below q22_12 hb); have n2_ := Aside0.mk (Kd.R_below q22_13 hb); have n3_ := Aside0.mk (Kd.R_below (by (with_reducible repeat (first | apply Kd.R_alloc | apply Kd.R_drewN | apply Kd.R_drew)); exact HO320.out) hb); have n4_ := Aside0.mk (blk_below (g := gb302) (o := .cells #[.int .i64 a1_0, .int .i64 a1_1] 40 (0, 0)) q22_10 hb); have n5_ := Aside0.mk (below_step q22_7 hb); clear HO306; clear HO311; clear HO315; clear HO320; clear BK302; clear HB; have HO306 := n0_; have HO311 := n1_; have HO315 := n2_; have HO320 := n3_; have BK302 := n4_; have HB := n5_; clear n0_ n1_ n2_ n3_ n4_ n5_; (try clear hb); (try clear hb2); (try clear hk); (try clear hi)))
    go_meet
    case rel => exact ⟨_, (true), q22_19, H', ⟨by first | omega | exact Nat.le_refl _⟩, ⟨by (with_reducible repeat (first | apply Kd.R_alloc | apply Kd.R_drewN | apply Kd.R_drew)); exact Kd.R_mono HO311.out (fun _ hk => hk.2)⟩, ⟨by (with_reducible repeat (first | apply Kd.R_alloc | apply Kd.R_drewN | apply Kd.R_drew)); exact Kd.R_mono HO315.out (fun _ hk => trivial)⟩, ⟨by (with_reducible repeat (first | apply Kd.R_alloc | apply Kd.R_drewN | apply Kd.R_drew)); exact Kd.R_mono HO320.out (fun _ hk => hk.2)⟩, ⟨by (with_reducible repeat (first | refine blk_drewN ?_ _ | refine blk_drew ?_ | refine blk_alloc ?_ _)); exact BK302.out⟩, ⟨by repeat (first | (with_reducible first | exact HB.out | apply below_alloc | apply pw_below_drewN | apply below_drew1 | refine below_set ?_ GE302.out) | exact HB.out)⟩⟩
  case rest =>
   clear HC12
   try clear c1
   try clear c2
   try clear p2
   try clear c4
   try clear c4b0
   try clear c13
   try clear c14
   try clear c15
   try clear c16
   try clear c17
   try clear c18
   try clear c25
   try clear hcz20_0
   try clear hcz20_1
   try clear hfz20_0
   try clear hfz20_1
   obtain ⟨kq, x46_11, rfl, HA, HJ11, HO_6, HO_8, HO_9, BK302, HB⟩ := hcut
   cases kq with
   | zero => exact absurd HA.out (by simp [laws_FnExactProofOf.j0])
   | succ kj11 =>
    have H := HA.out
    clear HA
    simp only [laws_FnExactProofOf.j0] at H
    by_cases c32 : x46_11 = true
    ·
     subst c32
     have H1 : (some false) = some r := q22_21
     clear H
     have H := H1
     clear H1
     exact absurd ((Option.some.inj H).trans HRT.out) Bool.false_ne_true
    ·
     replace c32 := Bool.eq_false_iff.mpr c32
     subst c32
     have H1 : ((laws_toRuleS.f kj11 l0).bind fun t323 => ((laws_eqRuleS.f kj11 t313 t323).bind fun t326 => (if t326 = true then ((laws_markRuleS.f kj11 t313 1).bind fun bt327 => (if bt327.1 < 0 then (laws_FnExactProofOf.j1 kj11 l0 t309 t312 t318 true a1_0 a1_1) else ((laws_eqStepS.f kj11 t318 t309).bind fun t329 => (if t329 = true then (laws_FnExactProofOf.j1 kj11 l0 t309 t312 t318 (t321 != t312) a1_0 a1_1) else (laws_FnExactProofOf.j1 kj11 l0 t309 t312 t318 true a1_0 a1_1))))) else (some false)))) = some r := q22_20
     clear H
     have H := H1
     clear H1
     replace H := Option.bind_eq_some_iff.mp H
     obtain ⟨t323, A330, H⟩ := H
     replace H : ((laws_eqRuleS.f kj11 t313 t323).bind fun t326 => (if t326 = true then ((laws_markRuleS.f kj11 t313 1).bind fun bt327 => (if bt327.1 < 0 then (laws_FnExactProofOf.j1 kj11 l0 t309 t312 t318 true a1_0 a1_1) else ((laws_eqStepS.f kj11 t318 t309).bind fun t329 => (if t329 = true then (laws_FnExactProofOf.j1 kj11 l0 t309 t312 t318 (t321 != t312) a1_0 a1_1) else (laws_FnExactProofOf.j1 kj11 l0 t309 t312 t318 true a1_0 a1_1))))) else (some false))) = some r := H
     have A33 := Aside0.mk A330
     clear A330
     replace H := Option.bind_eq_some_iff.mp H
     obtain ⟨t326, A340, H⟩ := H
     replace H : (if t326 = true then ((laws_markRuleS.f kj11 t313 1).bind fun bt327 => (if bt327.1 < 0 then (laws_FnExactProofOf.j1 kj11 l0 t309 t312 t318 true a1_0 a1_1) else ((laws_eqStepS.f kj11 t318 t309).bind fun t329 => (if t329 = true then (laws_FnExactProofOf.j1 kj11 l0 t309 t312 t318 (t321 != t312) a1_0 a1_1) else (laws_FnExactProofOf.j1 kj11 l0 t309 t312 t318 true a1_0 a1_1))))) else (some false)) = some r := H
     have A34 := Aside0.mk A340
     clear A340
     by_cases c35 : t326 = true
     ·
      subst c35
      have H1 : ((laws_markRuleS.f kj11 t313 1).bind fun bt327 => (if bt327.1 < 0 then (laws_FnExactProofOf.j1 kj11 l0 t309 t312 t318 true a1_0 a1_1) else ((laws_eqStepS.f kj11 t318 t309).bind fun t329 => (if t329 = true then (laws_FnExactProofOf.j1 kj11 l0 t309 t312 t318 (t321 != t312) a1_0 a1_1) else (laws_FnExactProofOf.j1 kj11 l0 t309 t312 t318 true a1_0 a1_1))))) = some r := q22_21
      clear H
      have H := H1
      clear H1
      replace H := Option.bind_eq_some_iff.mp H
      obtain ⟨⟨t327, t328⟩, A360, H⟩ := H
      replace H : (if t327 < 0 then (laws_FnExactProofOf.j1 kj11 l0 t309 t312 t318 true a1_0 a1_1) else ((laws_eqStepS.f kj11 t318 t309).bind fun t329 => (if t329 = true then (laws_FnExactProofOf.j1 kj11 l0 t309 t312 t318 (t321 != t312) a1_0 a1_1) else (laws_FnExactProofOf.j1 kj11 l0 t309 t312 t318 true a1_0 a1_1)))) = some r := H
      have A36 := Aside0.mk A360
      clear A360
      have HC37 := Aside0.mk H
      clear H
      go_upto_region 14 with (first | ((with_reducible refine gate_callee (f := 15) rfl ?_); refine goesL_ (some 49) rfl rfl Try.func15 q22_22 rfl #[.slice A0 l0.length c0] rfl q22_8 ?_; (with_reducible refine (laws_toRuleS.calls kj11 _ _ l0 t323 _ ?side1 ?side2 A33.out).mono ?_); (case side1 => exact q22_1); (case side2 => exact HC0.out); rintro e w38 ⟨v324, rfl, ho0, hb⟩; refine ⟨_, rfl, ?_⟩; have n0_ := Aside0.mk (Kd.R_below q22_16 hb); have n1_ := Aside0.mk (Kd.R_elder' q22_17 (Kd.R_base ho0) hb); have n2_ := Aside0.mk (Kd.R_below q22_18 hb); have n3_ := Aside0.mk (Kd.R_lower (Kd.R_new' ho0 (Kd.R_lt q22_17)) (below_size q22_7)); have n4_ := Aside0.mk (blk_below (g := gb302) (o := .cells #[.int .i64 a1_0, .int .i64 a1_1] 40 (0, 0)) q22_10 hb); have n5_ := Aside0.mk (below_step q22_7 hb); clear HO_6; clear HO_8; clear HO_9; clear BK302; clear HB; have HO_6 := n0_; have HO_8 := n1_; have HO_9 := n2_; have HO325 := n3_; have BK302 := n4_; have HB := n5_; clear n0_ n1_ n2_ n3_ n4_ n5_; (try clear hb); (try clear hb2); (try clear hk); (try clear hi); (try clear ho0); obtain ⟨Ao39, co39, eo39⟩ := Kd.R_slice HO325.out; subst eo39) | ((with_reducible refine gate_callee (f := 19) rfl ?_); refine goesL_ (some 50) rfl rfl Try.func19 q22_22 rfl #[.slice Ao22 t313.length co22, .slice Ao39 t323.length co39] rfl q22_8 ?_; (with_reducible refine (laws_eqRuleS.calls kj11 _ _ t313 _ _ t323 true _ ?side1 ?side2 ?side3 ?side4 A34.out).mono ?_); (case side1 => repeat (first | exact (Kd.R_reads' HO_8.out).2.2 | (with_reducible refine Kd.C_alloc ?_ _) | (with_reducible refine Kd.C_drewN ?_ _) | (with_reducible refine Kd.C_drew ?_))); (case side2 => exact (Kd.R_reads' HO_8.out).2.1); (case side3 => repeat (first | exact (Kd.R_reads' HO325.out).2.2 | (with_reducible refine Kd.C_alloc ?_ _) | (with_reducible refine Kd.C_drewN ?_ _) | (with_reducible refine Kd.C_drew ?_))); (case side4 => exact (Kd.R_reads' HO325.out).2.1); rintro e w40 ⟨rfl, hb⟩; refine ⟨_, rfl, ?_⟩; have n0_ := Aside0.mk (Kd.R_below q22_16 hb); have n1_ := Aside0.mk (Kd.R_below q22_17 hb); have n2_ := Aside0.mk (Kd.R_below q22_18 hb); have n3_ := Aside0.mk (Kd.R_below q22_14 hb); have n4_ := Aside0.mk (blk_below (g := gb302) (o := .cells #[.int .i64 a1_0, .int .i64 a1_1] 40 (0, 0)) q22_10 hb); have n5_ := Aside0.mk (below_step q22_7 hb); clear HO_6; clear HO_8; clear HO_9; clear HO325; clear BK302; clear HB; have HO_6 := n0_; have HO_8 := n1_; have HO_9 := n2_; have HO325 := n3_; have BK302 := n4_; have HB := n5_; clear n0_ n1_ n2_ n3_ n4_ n5_; (try clear hb); (try clear hb2); (try clear hk); (try clear hi)) | ((with_reducible refine gate_callee (f := 20) rfl ?_); refine goesL_ (some 54) rfl rfl Try.func20 q22_22 rfl #[.slice Ao22 t313.length co22, .int .i64 1] rfl q22_8 ?_; (with_reducible refine (laws_markRuleS.calls kj11 (fun k_ => some k_ = (.slice Ao22 t313.length co22 : Value).ownBlock) (.slice Ao22 t313.length co22) t313 1 t327 t328 w _ ?side1 ?side2 A36.out).mono ?_); (case side1 => exact q22_7); (case side2 => exact Kd.R_tight rfl HO_8.out); rintro e w41 ⟨rfl, hy0, hb, hkp⟩; refine ⟨_, rfl, ?_⟩; have n0_ := Aside0.mk (Kd.R_mono (ok' := fun k_ => some k_ ≠ (v319 : Value).ownBlock) (Kd.R_keptB ((Kd.R_apart' HO_6.out (Kd.R_typed HO_8.out) (by decide))) hkp (fun k_ hk_ hs_ => (hk_.2) hs_)) (fun k_ hk_ => hk_.1.1)); have n1_ := Aside0.mk (Kd.R_reok rfl hy0 (fun k_ e_ => HO_8.out.1 k_ e_)); have n2_ := Aside0.mk (Kd.R_mono (ok' := fun k_ => some k_ ≠ (v310 : Value).ownBlock) (Kd.R_keptB ((Kd.R_apart' HO_9.out (Kd.R_typed HO_8.out) (by decide))) hkp (fun k_ hk_ hs_ => (hk_.2) hs_)) (fun k_ hk_ => hk_.1.1)); have n3_ := Aside0.mk (blk_kept q22_10 hkp (fun hs_ => (fun e_ => (Kd.R_ne HO_8.out BK302.out (by decide)) e_) hs_)); have n4_ := Aside0.mk (Kd.R_mono (ok' := fun k_ => some k_ ≠ (.slice Ao22 t313.length co22 : Value).ownBlock) (Kd.R_keptB (HO325.out) hkp (fun k_ hk_ hs_ => (hk_.2) hs_)) (fun k_ hk_ => hk_.1.2)); have n5_ := Aside0.mk (hb); clear HO_6; clear HO_8; clear HO_9; clear BK302; clear HO325; clear HB; have HO_6 := n0_; have HO_8 := n1_; have HO_9 := n2_; have BK302 := n3_; have HO325 := n4_; have HB := n5_; clear n0_ n1_ n2_ n3_ n4_ n5_; (try clear hb); (try clear hkp); (try clear hy0)))
      (try simp only [Act.put, List.setIfInBounds_toArray, List.set_cons_zero, List.set_cons_succ])
      go_cut [67] (fun v67 wc => ∃ (kq : Nat) (x67_36 : Bool), v67 = .bool x67_36 ∧ Aside0 (laws_FnExactProofOf.j1 kq l0 t309 t312 t318 x67_36 a1_0 a1_1 = some r) ∧ Aside0 (kq ≤ kj11) ∧ Aside0 (Kd.R k77 77 wc w.heap.size (fun k_ => some k_ ≠ (v319 : Value).ownBlock) v310 t309) ∧ Aside0 (Kd.R k77 77 wc w.heap.size (fun k_ => some k_ ≠ (v310 : Value).ownBlock) v319 t318) ∧ Aside0 (wc.heap[gb302]? = some (.cells #[.int .i64 a1_0, .int .i64 a1_1] 40 (0, 0))) ∧ Aside0 (Below w.heap.size w wc))
      case first =>
       have H := HC37.out
       clear HC37
       by_cases c42 : t327 < 0
       ·
        rw [if_pos c42] at H
        have c42b0 : decide (t327 < 0) = true := decide_eq_true c42
        clear c42
        (first | rw [c42b0] | (simp only [i64_w, i32_w]; rw [c42b0]) | skip)
        have H' := Aside0.mk H
        clear H
        go_wp2
        go_meet
        case rel => exact ⟨_, (true), q22_19, H', ⟨by have := HJ11.out; first | omega | exact Nat.le_refl _⟩, ⟨by (with_reducible repeat (first | apply Kd.R_alloc | apply Kd.R_drewN | apply Kd.R_drew)); exact HO_6.out⟩, ⟨by (with_reducible repeat (first | apply Kd.R_alloc | apply Kd.R_drewN | apply Kd.R_drew)); exact HO_9.out⟩, ⟨by (with_reducible repeat (first | refine blk_drewN ?_ _ | refine blk_drew ?_ | refine blk_alloc ?_ _)); exact BK302.out⟩, ⟨by repeat (first | (with_reducible first | exact HB.out | apply below_alloc | apply pw_below_drewN | apply below_drew1 | refine below_set ?_ GE302.out) | exact HB.out)⟩⟩
       ·
        rw [if_neg c42] at H
        have c42b0 : decide (t327 < 0) = false := decide_eq_false c42
        clear c42
        (first | rw [c42b0] | (simp only [i64_w, i32_w]; rw [c42b0]) | skip)
        replace H := Option.bind_eq_some_iff.mp H
        obtain ⟨t329, A430, H⟩ := H
        replace H : (if t329 = true then (laws_FnExactProofOf.j1 kj11 l0 t309 t312 t318 (t321 != t312) a1_0 a1_1) else (laws_FnExactProofOf.j1 kj11 l0 t309 t312 t318 true a1_0 a1_1)) = some r := H
        have A43 := Aside0.mk A430
        clear A430
        by_cases c44 : t329 = true
        ·
         subst c44
         have H1 : (laws_FnExactProofOf.j1 kj11 l0 t309 t312 t318 (t321 != t312) a1_0 a1_1) = some r := q22_21
         clear H
         have H := H1
         clear H1
         have H' := Aside0.mk H
         clear H
         obtain ⟨Ao45, co45, eo45⟩ := Kd.R_slice HO_9.out
         subst eo45
         obtain ⟨Ao46, co46, eo46⟩ := Kd.R_slice HO_6.out
         subst eo46
         go_wp2_with (first | (go_at_call 18; (with_reducible refine (laws_eqStepS.calls kj11 _ _ t318 _ _ t309 true _ ?side1 ?side2 ?side3 ?side4 A43.out).mono ?_); (case side1 => exact q22_6); (case side2 => exact (Kd.R_reads' HO_9.out).2.1); (case side3 => exact q22_5); (case side4 => exact (Kd.R_reads' HO_6.out).2.1); rintro e w47 ⟨rfl, hb⟩; have n0_ := Aside0.mk (Kd.R_below q22_16 hb); have n1_ := Aside0.mk (Kd.R_below q22_17 hb); have n2_ := Aside0.mk (Kd.R_below q22_18 hb); have n3_ := Aside0.mk (Kd.R_below q22_14 hb); have n4_ := Aside0.mk (blk_below (g := gb302) (o := .cells #[.int .i64 a1_0, .int .i64 a1_1] 40 (0, 0)) q22_10 hb); have n5_ := Aside0.mk (below_step q22_7 hb); clear HO_6; clear HO_8; clear HO_9; clear HO325; clear BK302; clear HB; have HO_6 := n0_; have HO_8 := n1_; have HO_9 := n2_; have HO325 := n3_; have BK302 := n4_; have HB := n5_; clear n0_ n1_ n2_ n3_ n4_ n5_; (try clear hb); (try clear hb2); (try clear hk); (try clear hi)))
         go_meet
         case rel => exact ⟨_, ((t321 != t312)), q22_19, H', ⟨by have := HJ11.out; first | omega | exact Nat.le_refl _⟩, ⟨by (with_reducible repeat (first | apply Kd.R_alloc | apply Kd.R_drewN | apply Kd.R_drew)); exact HO_6.out⟩, ⟨by (with_reducible repeat (first | apply Kd.R_alloc | apply Kd.R_drewN | apply Kd.R_drew)); exact HO_9.out⟩, ⟨by (with_reducible repeat (first | refine blk_drewN ?_ _ | refine blk_drew ?_ | refine blk_alloc ?_ _)); exact BK302.out⟩, ⟨by repeat (first | (with_reducible first | exact HB.out | apply below_alloc | apply pw_below_drewN | apply below_drew1 | refine below_set ?_ GE302.out) | exact HB.out)⟩⟩
        ·
         replace c44 := Bool.eq_false_iff.mpr c44
         subst c44
         have H1 : (laws_FnExactProofOf.j1 kj11 l0 t309 t312 t318 true a1_0 a1_1) = some r := q22_20
         clear H
         have H := H1
         clear H1
         have H' := Aside0.mk H
         clear H
         obtain ⟨Ao48, co48, eo48⟩ := Kd.R_slice HO_9.out
         subst eo48
         obtain ⟨Ao49, co49, eo49⟩ := Kd.R_slice HO_6.out
         subst eo49
         go_wp2_with (first | (go_at_call 18; (with_reducible refine (laws_eqStepS.calls kj11 _ _ t318 _ _ t309 false _ ?side1 ?side2 ?side3 ?side4 A43.out).mono ?_); (case side1 => exact q22_6); (case side2 => exact (Kd.R_reads' HO_9.out).2.1); (case side3 => exact q22_5); (case side4 => exact (Kd.R_reads' HO_6.out).2.1); rintro e w50 ⟨rfl, hb⟩; have n0_ := Aside0.mk (Kd.R_below q22_16 hb); have n1_ := Aside0.mk (Kd.R_below q22_17 hb); have n2_ := Aside0.mk (Kd.R_below q22_18 hb); have n3_ := Aside0.mk (Kd.R_below q22_14 hb); have n4_ := Aside0.mk (blk_below (g := gb302) (o := .cells #[.int .i64 a1_0, .int .i64 a1_1] 40 (0, 0)) q22_10 hb); have n5_ := Aside0.mk (below_step q22_7 hb); clear HO_6; clear HO_8; clear HO_9; clear HO325; clear BK302; clear HB; have HO_6 := n0_; have HO_8 := n1_; have HO_9 := n2_; have HO325 := n3_; have BK302 := n4_; have HB := n5_; clear n0_ n1_ n2_ n3_ n4_ n5_; (try clear hb); (try clear hb2); (try clear hk); (try clear hi)))
         go_meet
         case rel => exact ⟨_, (true), q22_19, H', ⟨by have := HJ11.out; first | omega | exact Nat.le_refl _⟩, ⟨by (with_reducible repeat (first | apply Kd.R_alloc | apply Kd.R_drewN | apply Kd.R_drew)); exact HO_6.out⟩, ⟨by (with_reducible repeat (first | apply Kd.R_alloc | apply Kd.R_drewN | apply Kd.R_drew)); exact HO_9.out⟩, ⟨by (with_reducible repeat (first | refine blk_drewN ?_ _ | refine blk_drew ?_ | refine blk_alloc ?_ _)); exact BK302.out⟩, ⟨by repeat (first | (with_reducible first | exact HB.out | apply below_alloc | apply pw_below_drewN | apply below_drew1 | refine below_set ?_ GE302.out) | exact HB.out)⟩⟩
      case rest =>
       clear HC37
       try clear c1
       try clear c2
       try clear p2
       try clear c3
       try clear c4
       try clear c4b0
       try clear c13
       try clear c14
       try clear c15
       try clear c16
       try clear c17
       try clear c18
       try clear c19
       try clear c20
       try clear c25
       try clear c32
       try clear c35
       try clear c42
       try clear c42b0
       try clear c44
       try clear hcz20_0
       try clear hcz20_1
       try clear hfz20_0
       try clear hfz20_1
       try clear p2
       obtain ⟨kq, x67_36, rfl, HA, HJ36, HO_6, HO_9, BK302, HB⟩ := hcut
       cases kq with
       | zero => exact absurd HA.out (by simp [laws_FnExactProofOf.j1])
       | succ kj36 =>
        have H := HA.out
        clear HA
        simp only [laws_FnExactProofOf.j1] at H
        by_cases c51 : x67_36 = true
        ·
         subst c51
         have H1 : (some false) = some r := q22_21
         clear H
         have H := H1
         clear H1
         exact absurd ((Option.some.inj H).trans HRT.out) Bool.false_ne_true
        ·
         replace c51 := Bool.eq_false_iff.mpr c51
         subst c51
         have H1 : ((laws_markStepS.f kj36 t318 1).bind fun bt330 => ((laws_heldStepS.f kj36 bt330.2 1).bind fun t332 => (if t332 < 0 then (some false) else (if t332 = bt330.1 then ((laws_toRuleS.f kj36 l0).bind fun t333 => ((laws_toRule.f a1_0 a1_1).bind fun bt336 => ((impl_ProofOf.f kj36 t333 bt336.1 bt336.2).bind fun bt338 => ((laws_eqStepS.f kj36 bt338.1 t309).bind fun t342 => (if t342 = true then (laws_FnExactProofOf.j2 kj36 bt330.2 bt330.1 (bt338.2 != t312)) else (laws_FnExactProofOf.j2 kj36 bt330.2 bt330.1 true)))))) else (some false))))) = some r := q22_20
         clear H
         have H := H1
         clear H1
         replace H := Option.bind_eq_some_iff.mp H
         obtain ⟨⟨t330, t331⟩, A520, H⟩ := H
         replace H : ((laws_heldStepS.f kj36 t331 1).bind fun t332 => (if t332 < 0 then (some false) else (if t332 = t330 then ((laws_toRuleS.f kj36 l0).bind fun t333 => ((laws_toRule.f a1_0 a1_1).bind fun bt336 => ((impl_ProofOf.f kj36 t333 bt336.1 bt336.2).bind fun bt338 => ((laws_eqStepS.f kj36 bt338.1 t309).bind fun t342 => (if t342 = true then (laws_FnExactProofOf.j2 kj36 t331 t330 (bt338.2 != t312)) else (laws_FnExactProofOf.j2 kj36 t331 t330 true)))))) else (some false)))) = some r := H
         have A52 := Aside0.mk A520
         clear A520
         replace H := Option.bind_eq_some_iff.mp H
         obtain ⟨t332, A530, H⟩ := H
         replace H : (if t332 < 0 then (some false) else (if t332 = t330 then ((laws_toRuleS.f kj36 l0).bind fun t333 => ((laws_toRule.f a1_0 a1_1).bind fun bt336 => ((impl_ProofOf.f kj36 t333 bt336.1 bt336.2).bind fun bt338 => ((laws_eqStepS.f kj36 bt338.1 t309).bind fun t342 => (if t342 = true then (laws_FnExactProofOf.j2 kj36 t331 t330 (bt338.2 != t312)) else (laws_FnExactProofOf.j2 kj36 t331 t330 true)))))) else (some false))) = some r := H
         have A53 := Aside0.mk A530
         clear A530
         by_cases c54 : t332 < 0
         ·
          rw [if_pos c54] at H
          exact absurd ((Option.some.inj H).trans HRT.out) Bool.false_ne_true
         ·
          rw [if_neg c54] at H
          have c54b0 : decide (t332 < 0) = false := decide_eq_false c54
          clear c54
          by_cases c55 : t332 = t330
          ·
           rw [if_pos c55] at H
           have c55b0 : (t332 == t330) = true := beq_iff_eq.mpr c55
           have c55b1 : (t332 != t330) = false := bne_eq_false_iff_eq.mpr c55
           clear c55
           replace H := Option.bind_eq_some_iff.mp H
           obtain ⟨t333, A560, H⟩ := H
           replace H : ((laws_toRule.f a1_0 a1_1).bind fun bt336 => ((impl_ProofOf.f kj36 t333 bt336.1 bt336.2).bind fun bt338 => ((laws_eqStepS.f kj36 bt338.1 t309).bind fun t342 => (if t342 = true then (laws_FnExactProofOf.j2 kj36 t331 t330 (bt338.2 != t312)) else (laws_FnExactProofOf.j2 kj36 t331 t330 true))))) = some r := H
           have A56 := Aside0.mk A560
           clear A560
           replace H := Option.bind_eq_some_iff.mp H
           obtain ⟨⟨t336, t337⟩, A570, H⟩ := H
           replace H : ((impl_ProofOf.f kj36 t333 t336 t337).bind fun bt338 => ((laws_eqStepS.f kj36 bt338.1 t309).bind fun t342 => (if t342 = true then (laws_FnExactProofOf.j2 kj36 t331 t330 (bt338.2 != t312)) else (laws_FnExactProofOf.j2 kj36 t331 t330 true)))) = some r := H
           have A57 := Aside0.mk A570
           clear A570
           replace H := Option.bind_eq_some_iff.mp H
           obtain ⟨⟨t338, t341⟩, A580, H⟩ := H
           replace H : ((laws_eqStepS.f kj36 t338 t309).bind fun t342 => (if t342 = true then (laws_FnExactProofOf.j2 kj36 t331 t330 (t341 != t312)) else (laws_FnExactProofOf.j2 kj36 t331 t330 true))) = some r := H
           have A58 := Aside0.mk A580
           clear A580
           have HC59 := Aside0.mk H
           clear H
           obtain ⟨Ao60, co60, eo60⟩ := Kd.R_slice HO_9.out
           subst eo60
           try go_wp2_with (first | ((with_reducible refine gate_callee (f := 21) rfl ?_); refine goesL_ (some 70) rfl rfl Try.func21 q22_22 rfl #[.slice Ao60 t318.length co60, .int .i64 1] rfl q22_8 ?_; (with_reducible refine (laws_markStepS.calls kj36 (fun k_ => some k_ = (.slice Ao60 t318.length co60 : Value).ownBlock) (.slice Ao60 t318.length co60) t318 1 t330 t331 w _ ?side1 ?side2 A52.out).mono ?_); (case side1 => exact q22_7); (case side2 => exact Kd.R_tight rfl HO_9.out); rintro e w61 ⟨rfl, hy0, hb, hkp⟩; refine ⟨_, rfl, ?_⟩; have n0_ := Aside0.mk (Kd.R_mono (ok' := fun k_ => some k_ ≠ (.slice Ao60 t318.length co60 : Value).ownBlock) (Kd.R_keptB (HO_6.out) hkp (fun k_ hk_ hs_ => (hk_) hs_)) (fun k_ hk_ => hk_.1)); have n1_ := Aside0.mk (Kd.R_reok rfl hy0 (fun k_ e_ => HO_9.out.1 k_ e_)); have n2_ := Aside0.mk (blk_kept q22_10 hkp (fun hs_ => (fun e_ => (Kd.R_ne HO_9.out BK302.out (by decide)) e_) hs_)); have n3_ := Aside0.mk (hb); clear HO_6; clear HO_9; clear BK302; clear HB; have HO_6 := n0_; have HO_9 := n1_; have BK302 := n2_; have HB := n3_; clear n0_ n1_ n2_ n3_; (try clear hb); (try clear hkp); (try clear hy0)) | ((with_reducible refine gate_callee (f := 22) rfl ?_); refine goesL_ (some 73) rfl rfl Try.func22 q22_22 rfl #[.slice Ao60 t331.length co60, .int .i64 1] rfl (by (try simp only [List.map_toArray, List.map_cons, List.map_nil]); first | done | (rw [show t331.length = t318.length from (Kd.R_reads' HO_9.out).1.symm] <;> rfl) | rfl | (simp only [List.length_drop, List.length_take]; rfl)) ?_; (with_reducible refine (laws_heldStepS.calls kj36 _ _ t331 1 t332 _ ?side1 ?side2 A53.out).mono ?_); (case side1 => exact q22_6); (case side2 => rw [show t331.length = t318.length from (Kd.R_reads' HO_9.out).1.symm]; exact (Kd.R_reads' HO_9.out).2.1); rintro e w' ⟨rfl, ⟨nd, rfl⟩⟩; refine ⟨_, rfl, ?_⟩))
           (try (rw [drewN_self w61]; generalize hq_ : World.drewN w61 _ = w61; have n0_ : Aside0 (Kd.R k77 77 w61 w.heap.size (fun k_ => some k_ ≠ (.slice Ao60 t318.length co60 : Value).ownBlock) v310 t309) := ⟨by rw [← hq_]; exact q22_16⟩; have n1_ : Aside0 (Kd.R k77 77 w61 w.heap.size (fun k_ => some k_ ≠ (v310 : Value).ownBlock) (.slice Ao60 t318.length co60) t331) := ⟨by rw [← hq_]; exact q22_18⟩; have n2_ : Aside0 (w61.heap[gb302]? = some (.cells #[.int .i64 a1_0, .int .i64 a1_1] 40 (0, 0))) := ⟨by rw [← hq_]; exact q22_10⟩; have n3_ : Aside0 (Below w.heap.size w w61) := ⟨by rw [← hq_]; exact q22_7⟩; clear HO_6 HO_9 BK302 HB hq_; have HO_6 := n0_; have HO_9 := n1_; have BK302 := n2_; have HB := n3_; clear n0_ n1_ n2_ n3_))
           have n0_ := Aside0.mk (Kd.R_drew HO_6.out)
           have n1_ := Aside0.mk (Kd.R_drew HO_9.out)
           have n2_ := Aside0.mk (blk_drew BK302.out)
           have n3_ := Aside0.mk (below_drew1 HB.out)
           clear HO_6
           clear HO_9
           clear BK302
           clear HB
           have HO_6 := n0_
           have HO_9 := n1_
           have BK302 := n2_
           have HB := n3_
           clear n0_ n1_ n2_ n3_
           refine start_ (n := 10) (S := fun w' => w'.cell? ⟨gb302, 0, none⟩ = some (.int .i64 a1_0) ∧ w'.cell? ⟨gb302, 1, none⟩ = some (.int .i64 a1_1)) (ds := []) #[false, false, false, false, false, false, false, false, false, false] q22_22 rfl rfl ⟨(blk_cell BK302.out 0).trans rfl, (blk_cell BK302.out 1).trans rfl⟩ (fun hHeld => ?_); refine with_tabW laws_FnExactProofOf.tab24 laws_FnExactProofOf.bits24 (fun HT_ HW_ => ?_)
           generalize w61.drew = w62 at HO_6 HO_9 BK302 HB hHeld ⊢
           refine pure_ (i := 0) (N := some 80) (v := ?_) (a' := ?_) #[true, false, false, false, false, false, false, false, false, false] rfl rfl (any_of HT_.out q22_22) (fun _ _ _ h => h) (Or.inl ⟨by rfl, ?_⟩) ?_ ?_
           rotate_left
           ·
            intro w'
            go_simp
            with_reducible rfl
           rotate_left
           ·
            exact put22_
           refine take_ (i := 2) (N := some 82) (v := ?_) (a' := ?_) #[true, false, true, false, false, false, false, false, false, false] rfl rfl (take_ofW HT_.out HW_.out q22_22) (fun _ _ _ h => h) (Or.inl ⟨by rfl, ?_⟩) hHeld ?_ ?_
           rotate_left
           ·
            rintro w' ⟨s0, s1⟩
            go_simp
            with_reducible rfl
           rotate_left
           ·
            exact put22_
           refine one_ (i := 1) (N := some 81) #[true, true, true, false, false, false, false, false, false, false] rfl rfl (one_of HT_.out q22_22) (by decide) (fun K hK => ?_)
           refine goes_ Try.func15 q22_22 rfl #[.slice A0 l0.length c0] (by rfl) rfl rfl q22_8 ?_
           with_reducible refine (laws_toRuleS.calls kj36 _ _ l0 t333 _ ?side1 ?side2 A56.out).mono ?_
           (case side1 => exact q22_1)
           (case side2 => exact HC0.out)
           rintro e w63 ⟨v334, rfl, ho0, hb⟩
           refine ⟨_, rfl, ?_⟩
           have n0_ := Aside0.mk (Kd.R_below q22_16 hb)
           have n1_ := Aside0.mk (Kd.R_below q22_18 hb)
           have n2_ := Aside0.mk (Kd.R_lower ho0 (below_size q22_7))
           have n3_ := Aside0.mk (blk_below (g := gb302) (o := .cells #[.int .i64 a1_0, .int .i64 a1_1] 40 (0, 0)) q22_10 hb)
           have n4_ := Aside0.mk (below_step q22_7 hb)
           clear HO_6
           clear HO_9
           clear BK302
           clear HB
           have HO_6 := n0_
           have HO_9 := n1_
           have HO335 := n2_
           have BK302 := n3_
           have HB := n4_
           clear n0_ n1_ n2_ n3_ n4_
           (try clear hb)
           (try clear hb2)
           (try clear hk)
           (try clear hi)
           (try clear ho0)
           refine hK.out _ _ ⟨(blk_cell BK302.out 0).trans rfl, (blk_cell BK302.out 1).trans rfl⟩ (fun hHeld => ?_)
           clear hK K
           refine norm_ (a' := ?_) ?_ ?_
           rotate_left
           ·
            show Act.put _ (some 81) _ = _
            exact put22_
           refine one_ (i := 3) (N := some 83) #[true, true, true, true, false, false, false, false, false, false] rfl rfl (one_of HT_.out q22_22) (by decide) (fun K hK => ?_)
           refine goes_ Try.func16 q22_22 rfl #[.agg #[.int .i64 a1_0, .int .i64 a1_1]] (by rfl) rfl rfl q22_8 ?_
           with_reducible refine (laws_toRule.calls a1_0 a1_1 t336 t337 _ A57.out).mono ?_
           rintro e w64 ⟨rfl, hb⟩
           refine ⟨_, rfl, ?_⟩
           have n0_ := Aside0.mk (Kd.R_below q22_16 hb)
           have n1_ := Aside0.mk (Kd.R_below q22_18 hb)
           have n2_ := Aside0.mk (Kd.R_below q22_15 hb)
           have n3_ := Aside0.mk (blk_below (g := gb302) (o := .cells #[.int .i64 a1_0, .int .i64 a1_1] 40 (0, 0)) q22_10 hb)
           have n4_ := Aside0.mk (below_step q22_7 hb)
           clear HO_6
           clear HO_9
           clear HO335
           clear BK302
           clear HB
           have HO_6 := n0_
           have HO_9 := n1_
           have HO335 := n2_
           have BK302 := n3_
           have HB := n4_
           clear n0_ n1_ n2_ n3_ n4_
           (try clear hb)
           (try clear hb2)
           (try clear hk)
           (try clear hi)
           obtain ⟨Ao65, co65, eo65⟩ := Kd.R_slice HO335.out
           (first | subst eo65 | (injection eo65 with f1_ f2_ f3_; have f4_ := f1_.symm; have f5_ := f3_.symm; clear f1_ f2_ f3_; subst f4_; subst f5_))
           refine hK.out _ _ ⟨(blk_cell BK302.out 0).trans rfl, (blk_cell BK302.out 1).trans rfl⟩ (fun hHeld => ?_)
           clear hK K
           refine norm_ (a' := ?_) ?_ ?_
           rotate_left
           ·
            show Act.put _ (some 83) _ = _
            exact put22_
           refine one_ (i := 4) (N := some 84) #[true, true, true, true, true, false, false, false, false, false] rfl rfl (one_of HT_.out q22_22) (by decide) (fun K hK => ?_)
           refine goes_ Try.func17 q22_22 rfl #[.slice Ao65 t333.length co65, .agg #[.int .i64 t336, .int .i64 t337]] (by rfl) rfl rfl q22_8 ?_
           with_reducible refine (impl_ProofOf.calls kj36 _ _ t333 t336 t337 t338 t341 _ ?side1 ?side2 A58.out).mono ?_
           (case side1 => repeat (first | exact (Kd.R_reads' HO335.out).2.2 | (with_reducible refine Kd.C_alloc ?_ _) | (with_reducible refine Kd.C_drewN ?_ _) | (with_reducible refine Kd.C_drew ?_)))
           (case side2 => exact (Kd.R_reads' HO335.out).2.1)
           rintro e w66 ⟨v339, rfl, ho0, hb⟩
           refine ⟨_, rfl, ?_⟩
           have n0_ := Aside0.mk (Kd.R_elder' q22_16 (Kd.R_base ho0) hb)
           have n1_ := Aside0.mk (Kd.R_elder' q22_18 (Kd.R_base ho0) hb)
           have n2_ := Aside0.mk (Kd.R_below q22_15 hb)
           have n3_ := Aside0.mk (Kd.R_lower (Kd.R_new' (Kd.R_new' ho0 (Kd.R_lt q22_16)) (Kd.R_lt q22_18)) (below_size q22_7))
           have n4_ := Aside0.mk (blk_below (g := gb302) (o := .cells #[.int .i64 a1_0, .int .i64 a1_1] 40 (0, 0)) q22_10 hb)
           have n5_ := Aside0.mk (below_step q22_7 hb)
           clear HO_6
           clear HO_9
           clear HO335
           clear BK302
           clear HB
           have HO_6 := n0_
           have HO_9 := n1_
           have HO335 := n2_
           have HO340 := n3_
           have BK302 := n4_
           have HB := n5_
           clear n0_ n1_ n2_ n3_ n4_ n5_
           (try clear hb)
           (try clear hb2)
           (try clear hk)
           (try clear hi)
           (try clear ho0)
           refine hK.out _ _ ⟨(blk_cell BK302.out 0).trans rfl, (blk_cell BK302.out 1).trans rfl⟩ (fun hHeld => ?_)
           clear hK K
           refine norm_ (a' := ?_) ?_ ?_
           rotate_left
           ·
            show Act.put _ (some 84) _ = _
            exact put22_
           refine pure_ (i := 5) (N := some 79) (v := ?_) (a' := ?_) #[true, true, true, true, true, true, false, false, false, false] rfl rfl (any_of HT_.out q22_22) (fun _ _ _ h => h) (Or.inl ⟨by rfl, ?_⟩) ?_ ?_
           rotate_left
           ·
            intro w'
            go_simp
            with_reducible rfl
           rotate_left
           ·
            exact put22_
           refine pure_ (i := 6) (N := some 85) (v := ?_) (a' := ?_) #[true, true, true, true, true, true, true, false, false, false] rfl rfl (any_of HT_.out q22_22) (fun _ _ _ h => h) (Or.inl ⟨by rfl, ?_⟩) ?_ ?_
           rotate_left
           ·
            intro w'
            go_simp
            with_reducible rfl
           rotate_left
           ·
            exact put22_
           refine pure_ (i := 7) (N := some 86) (v := ?_) (a' := ?_) #[true, true, true, true, true, true, true, true, false, false] rfl rfl (any_of HT_.out q22_22) (fun _ _ _ h => h) (Or.inl ⟨by rfl, ?_⟩) ?_ ?_
           rotate_left
           ·
            intro w'
            go_simp
            with_reducible rfl
           rotate_left
           ·
            exact put22_
           refine pure_ (i := 8) (N := some 14) (v := ?_) (a' := ?_) #[true, true, true, true, true, true, true, true, true, false] rfl rfl (any_of HT_.out q22_22) (fun _ _ _ h => h) (Or.inl ⟨by rfl, ?_⟩) ?_ ?_
           rotate_left
           ·
            intro w'
            go_simp
            with_reducible rfl
           rotate_left
           ·
            exact put22_
           refine pure_ (i := 9) (N := some 15) (v := ?_) (a' := ?_) #[true, true, true, true, true, true, true, true, true, true] rfl rfl (any_of HT_.out q22_22) (fun _ _ _ h => h) (Or.inl ⟨by rfl, ?_⟩) ?_ ?_
           rotate_left
           ·
            intro w'
            go_simp
            with_reducible rfl
           rotate_left
           ·
            exact put22_
           refine done_ (done_of HT_.out q22_22) ?_
           go_upto_region 25 with (fail)
           go_cut [95] (fun v95 wc => ∃ (kq : Nat) (x95_58 : Bool), v95 = .bool x95_58 ∧ Aside0 (laws_FnExactProofOf.j2 kq t331 t330 x95_58 = some r) ∧ Aside0 (kq ≤ kj36) ∧ Aside0 (Kd.R k77 77 wc w.heap.size (fun _ => True) (.slice Ao60 t318.length co60) t331) ∧ Aside0 (wc.heap[gb302]? = some (.cells #[.int .i64 a1_0, .int .i64 a1_1] 40 (0, 0))) ∧ Aside0 (Below w.heap.size w wc))
           case first =>
            have H := HC59.out
            clear HC59
            replace H := Option.bind_eq_some_iff.mp H
            obtain ⟨t342, A670, H⟩ := H
            replace H : (if t342 = true then (laws_FnExactProofOf.j2 kj36 t331 t330 (t341 != t312)) else (laws_FnExactProofOf.j2 kj36 t331 t330 true)) = some r := H
            have A67 := Aside0.mk A670
            clear A670
            by_cases c68 : t342 = true
            ·
             subst c68
             have H1 : (laws_FnExactProofOf.j2 kj36 t331 t330 (t341 != t312)) = some r := q22_21
             clear H
             have H := H1
             clear H1
             have H' := Aside0.mk H
             clear H
             obtain ⟨Ao69, co69, eo69⟩ := Kd.R_slice HO340.out
             subst eo69
             obtain ⟨Ao70, co70, eo70⟩ := Kd.R_slice HO_6.out
             subst eo70
             go_wp2_with (first | ((with_reducible refine gate_callee (f := 18) rfl ?_); refine goesL_ (some 89) rfl rfl Try.func18 q22_22 rfl #[.slice Ao69 t338.length co69, .slice Ao70 t309.length co70] rfl q22_8 ?_; (with_reducible refine (laws_eqStepS.calls kj36 _ _ t338 _ _ t309 true _ ?side1 ?side2 ?side3 ?side4 A67.out).mono ?_); (case side1 => exact q22_4); (case side2 => exact (Kd.R_reads' HO340.out).2.1); (case side3 => exact q22_5); (case side4 => exact (Kd.R_reads' HO_6.out).2.1); rintro e w71 ⟨rfl, hb⟩; refine ⟨_, rfl, ?_⟩; have n0_ := Aside0.mk (Kd.R_below q22_16 hb); have n1_ := Aside0.mk (Kd.R_below q22_18 hb); have n2_ := Aside0.mk (Kd.R_below q22_15 hb); have n3_ := Aside0.mk (Kd.R_below (by (with_reducible repeat (first | apply Kd.R_alloc | apply Kd.R_drewN | apply Kd.R_drew)); exact HO340.out) hb); have n4_ := Aside0.mk (blk_below (g := gb302) (o := .cells #[.int .i64 a1_0, .int .i64 a1_1] 40 (0, 0)) q22_10 hb); have n5_ := Aside0.mk (below_step q22_7 hb); clear HO_6; clear HO_9; clear HO335; clear HO340; clear BK302; clear HB; have HO_6 := n0_; have HO_9 := n1_; have HO335 := n2_; have HO340 := n3_; have BK302 := n4_; have HB := n5_; clear n0_ n1_ n2_ n3_ n4_ n5_; (try clear hb); (try clear hb2); (try clear hk); (try clear hi)))
             go_meet
             case rel => exact ⟨_, ((t341 != t312)), q22_19, H', ⟨by have := HJ11.out; have := HJ36.out; first | omega | exact Nat.le_refl _⟩, ⟨by (with_reducible repeat (first | apply Kd.R_alloc | apply Kd.R_drewN | apply Kd.R_drew)); exact Kd.R_mono HO_9.out (fun _ hk => trivial)⟩, ⟨by (with_reducible repeat (first | refine blk_drewN ?_ _ | refine blk_drew ?_ | refine blk_alloc ?_ _)); exact BK302.out⟩, ⟨by repeat (first | (with_reducible first | exact HB.out | apply below_alloc | apply pw_below_drewN | apply below_drew1 | refine below_set ?_ GE302.out) | exact HB.out)⟩⟩
            ·
             replace c68 := Bool.eq_false_iff.mpr c68
             subst c68
             have H1 : (laws_FnExactProofOf.j2 kj36 t331 t330 true) = some r := q22_20
             clear H
             have H := H1
             clear H1
             have H' := Aside0.mk H
             clear H
             obtain ⟨Ao72, co72, eo72⟩ := Kd.R_slice HO340.out
             subst eo72
             obtain ⟨Ao73, co73, eo73⟩ := Kd.R_slice HO_6.out
             subst eo73
             go_wp2_with (first | ((with_reducible refine gate_callee (f := 18) rfl ?_); refine goesL_ (some 89) rfl rfl Try.func18 q22_22 rfl #[.slice Ao72 t338.length co72, .slice Ao73 t309.length co73] rfl q22_8 ?_; (with_reducible refine (laws_eqStepS.calls kj36 _ _ t338 _ _ t309 false _ ?side1 ?side2 ?side3 ?side4 A67.out).mono ?_); (case side1 => exact q22_4); (case side2 => exact (Kd.R_reads' HO340.out).2.1); (case side3 => exact q22_5); (case side4 => exact (Kd.R_reads' HO_6.out).2.1); rintro e w74 ⟨rfl, hb⟩; refine ⟨_, rfl, ?_⟩; have n0_ := Aside0.mk (Kd.R_below q22_16 hb); have n1_ := Aside0.mk (Kd.R_below q22_18 hb); have n2_ := Aside0.mk (Kd.R_below q22_15 hb); have n3_ := Aside0.mk (Kd.R_below (by (with_reducible repeat (first | apply Kd.R_alloc | apply Kd.R_drewN | apply Kd.R_drew)); exact HO340.out) hb); have n4_ := Aside0.mk (blk_below (g := gb302) (o := .cells #[.int .i64 a1_0, .int .i64 a1_1] 40 (0, 0)) q22_10 hb); have n5_ := Aside0.mk (below_step q22_7 hb); clear HO_6; clear HO_9; clear HO335; clear HO340; clear BK302; clear HB; have HO_6 := n0_; have HO_9 := n1_; have HO335 := n2_; have HO340 := n3_; have BK302 := n4_; have HB := n5_; clear n0_ n1_ n2_ n3_ n4_ n5_; (try clear hb); (try clear hb2); (try clear hk); (try clear hi)))
             go_meet
             case rel => exact ⟨_, (true), q22_19, H', ⟨by have := HJ11.out; have := HJ36.out; first | omega | exact Nat.le_refl _⟩, ⟨by (with_reducible repeat (first | apply Kd.R_alloc | apply Kd.R_drewN | apply Kd.R_drew)); exact Kd.R_mono HO_9.out (fun _ hk => trivial)⟩, ⟨by (with_reducible repeat (first | refine blk_drewN ?_ _ | refine blk_drew ?_ | refine blk_alloc ?_ _)); exact BK302.out⟩, ⟨by repeat (first | (with_reducible first | exact HB.out | apply below_alloc | apply pw_below_drewN | apply below_drew1 | refine below_set ?_ GE302.out) | exact HB.out)⟩⟩
           case rest =>
            clear HC59
            try clear c1
            try clear c2
            try clear p2
            try clear c3
            try clear c4
            try clear c4b0
            try clear c5
            try clear c6
            try clear c13
            try clear c14
            try clear c15
            try clear c16
            try clear c17
            try clear c18
            try clear c19
            try clear c20
            try clear c21
            try clear c22
            try clear c25
            try clear c32
            try clear c35
            try clear c42
            try clear c42b0
            try clear c44
            try clear c51
            try clear c54
            try clear c54b0
            try clear c55
            try clear c55b0
            try clear c55b1
            try clear c68
            try clear hcz20_0
            try clear hcz20_1
            try clear hfz20_0
            try clear hfz20_1
            try clear p2
            obtain ⟨kq, x95_58, rfl, HA, HJ58, HO_9, BK302, HB⟩ := hcut
            have hl9_58 := (Kd.R_reads' HO_9.out).1
            rw [hl9_58] at HO_9
            (try simp only [hl9_58])
            (try simp only [hl9_58] at BK302)
            cases kq with
            | zero => exact absurd HA.out (by simp [laws_FnExactProofOf.j2])
            | succ kj58 =>
             have H := HA.out
             clear HA
             simp only [laws_FnExactProofOf.j2] at H
             by_cases c75 : x95_58 = true
             ·
              subst c75
              have H1 : (some false) = some r := q22_21
              clear H
              have H := H1
              clear H1
              exact absurd ((Option.some.inj H).trans HRT.out) Bool.false_ne_true
             ·
              replace c75 := Bool.eq_false_iff.mpr c75
              subst c75
              have H1 : ((laws_heldStepS.f kj58 t331 1).bind fun t343 => (if t343 < 0 then (some false) else (if t343 = t330 then (some true) else (some false)))) = some r := q22_20
              clear H
              have H := H1
              clear H1
              replace H := Option.bind_eq_some_iff.mp H
              obtain ⟨t343, A760, H⟩ := H
              replace H : (if t343 < 0 then (some false) else (if t343 = t330 then (some true) else (some false))) = some r := H
              have A76 := Aside0.mk A760
              clear A760
              by_cases c77 : t343 < 0
              ·
               rw [if_pos c77] at H
               exact absurd ((Option.some.inj H).trans HRT.out) Bool.false_ne_true
              ·
               rw [if_neg c77] at H
               have c77b0 : decide (t343 < 0) = false := decide_eq_false c77
               clear c77
               by_cases c78 : t343 = t330
               ·
                rw [if_pos c78] at H
                have c78b0 : (t343 == t330) = true := beq_iff_eq.mpr c78
                have c78b1 : (t343 != t330) = false := bne_eq_false_iff_eq.mpr c78
                clear c78
                obtain rfl := Option.some.inj H
                go_wp2_with (first | ((with_reducible refine gate_callee (f := 22) rfl ?_); refine goesL_ (some 98) rfl rfl Try.func22 q22_22 rfl #[.slice Ao60 t331.length co60, .int .i64 1] rfl q22_8 ?_; (with_reducible refine (laws_heldStepS.calls kj58 _ _ t331 1 t343 _ ?side1 ?side2 A76.out).mono ?_); (case side1 => exact q22_6); (case side2 => exact (Kd.R_reads' HO_9.out).2.1); rintro e w' ⟨rfl, ⟨nd, rfl⟩⟩; refine ⟨_, rfl, ?_⟩))
                go_ret
                exact ⟨by first | rfl | (simp [errW_none, errW_some] <;> rfl) | (simp [*, errW_none, errW_some] <;> rfl), by repeat (first | (with_reducible first | exact HB.out | apply below_alloc | apply pw_below_drewN | apply below_drew1 | refine below_set ?_ GE302.out) | exact HB.out)⟩
               ·
                rw [if_neg c78] at H
                exact absurd ((Option.some.inj H).trans HRT.out) Bool.false_ne_true
          ·
           rw [if_neg c55] at H
           exact absurd ((Option.some.inj H).trans HRT.out) Bool.false_ne_true
     ·
      replace c35 := Bool.eq_false_iff.mpr c35
      subst c35
      have H1 : (some false) = some r := q22_20
      clear H
      have H := H1
      clear H1
      exact absurd ((Option.some.inj H).trans HRT.out) Bool.false_ne_true
end Go.Proofs.Ytamjnninbdnjhaa.Pr
