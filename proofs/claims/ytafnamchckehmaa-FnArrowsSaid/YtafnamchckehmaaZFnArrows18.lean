/- What the law needs of the program's functions as plain functions, of the proofs that their calls answer so, and of plain laws: gathered by a program of this place (pack.py) out of its printed texts. No condition beyond what each statement says. -/
import Derived.Test.YtafnamchckehmaaZFnArrows2
import Derived.Test.YtafnamchckehmaaZFnArrows3
import Derived.Test.YtafnamchckehmaaZFnArrows6
import Derived.Test.YtafnamchckehmaaZFnArrows7
import Derived.Test.YtafnamchckehmaaZFnArrows8
import Derived.Test.YtafnamchckehmaaZFnArrows9
import Derived.Test.YtafnamchckehmaaZFnArrows12
import Derived.Test.YtafnamchckehmaaZFnArrows13
import Derived.Test.YtafnamchckehmaaZFnArrows17
import Derived.Test.YtafnamchckehmaaZFnArrows16
namespace Go.Proofs.Ytafnamchckehmaa.Pr
open Go.RowKit Go.Proofs.YtafnamchckehmaaW.PrintWords Go.Proofs.YtafnamchckehmaaW.PrintLast Go.Proofs.YtafnamchckehmaaW.PrintMore
attribute [local go_sem] max2_int min2_int max_two min_two max_three min_three max_four min_four   -- for this text's walks alone
set_option linter.unusedVariables false
set_option linter.unusedSimpArgs false
theorem put11_ {P : Prop} (h : P := by simp only [Act.put, List.setIfInBounds_toArray, List.set_cons_zero, List.set_cons_succ, i64_w, i32_w]; rfl) : P := h
theorem q11_1 {P : Prop} (h : P := by (with_reducible repeat (first | apply Kd.R_alloc | apply Kd.R_drewN | apply Kd.R_drew)); exact (Kd.R_mono (Kd.R_far (p := ⟨gb388, 1, none⟩) (Kd.R_far (p := ⟨gb388, 0, none⟩) (Kd.R_types HO386.out BK388.out (by decide)) (fun _ hk => hk.2) (.int .i64 t383)) (fun _ hk => hk.2) (.slice Ao12 t384.length co12)) (fun _ h_ => h_.1))) : P := h
theorem q11_2 {P : Prop} (h : P := by repeat (first | (with_reducible first | exact HB.out | apply below_alloc | apply pw_below_drewN | apply below_drew1 | refine below_set ?_ GE388.out | refine below_set ?_ GE395.out) | exact HB.out)) : P := h
theorem q11_3 {P : Prop} (h : P := by repeat (first | exact (Kd.R_reads' HO_396001.out).2.2 | (with_reducible refine Kd.C_alloc ?_ _) | (with_reducible refine Kd.C_drewN ?_ _) | (with_reducible refine Kd.C_drew ?_))) : P := h
theorem q11_4 {P : Prop} (h : P := by repeat (first | exact (Kd.R_reads' HO386.out).2.2 | (with_reducible refine Kd.C_alloc ?_ _) | (with_reducible refine Kd.C_drewN ?_ _) | (with_reducible refine Kd.C_drew ?_))) : P := h
theorem q11_5 {P : Prop} (h : P := by repeat (first | exact (Kd.R_reads' HO394.out).2.2 | (with_reducible refine Kd.C_alloc ?_ _) | (with_reducible refine Kd.C_drewN ?_ _) | (with_reducible refine Kd.C_drew ?_))) : P := h
theorem q11_6 {P : Prop} (h : P := by repeat (first | (with_reducible first | exact HB.out | apply below_alloc | apply pw_below_drewN | apply below_drew1 | refine below_set ?_ GE388.out) | exact HB.out)) : P := h
theorem q11_7 {P : Prop} (h : P := by repeat (first | exact HR0.out | (with_reducible refine Kd.C_alloc ?_ _) | (with_reducible refine Kd.C_drewN ?_ _) | (with_reducible refine Kd.C_drew ?_))) : P := h
theorem q11_8 {P : Prop} (h : P := by (try simp only [List.map_toArray, List.map_cons, List.map_nil]); first | done | rfl | (simp only [List.length_drop, List.length_take]; rfl)) : P := h
theorem q11_9 {P : Prop} (h : P := by repeat (first | (with_reducible first | exact HB.out | apply below_alloc | apply pw_below_drewN | apply below_drew1) | exact HB.out)) : P := h
theorem q11_10 {P : Prop} (h : P := by (with_reducible repeat (first | refine blk_drewN ?_ _ | refine blk_drew ?_ | refine blk_alloc ?_ _)); exact BK388.out) : P := h
theorem q11_11 {P : Prop} (h : P := by (with_reducible repeat (first | refine blk_drewN ?_ _ | refine blk_drew ?_ | refine blk_alloc ?_ _)); exact BK395.out) : P := h
theorem q11_12 {P : Prop} (h : P := by (with_reducible repeat (first | apply Kd.R_alloc | apply Kd.R_drewN | apply Kd.R_drew)); exact HO_389001.out) : P := h
theorem q11_13 {P : Prop} (h : P := by (with_reducible repeat (first | apply Kd.R_alloc | apply Kd.R_drewN | apply Kd.R_drew)); exact HO_396001.out) : P := h
theorem q11_14 {P : Prop} (h : P := by (with_reducible repeat (first | apply Kd.R_alloc | apply Kd.R_drewN | apply Kd.R_drew)); exact HO386.out) : P := h
theorem q11_15 {P : Prop} (h : P := by (with_reducible repeat (first | apply Kd.R_alloc | apply Kd.R_drewN | apply Kd.R_drew)); exact HO394.out) : P := h
theorem q11_16 {P : Prop} (h : P := by (with_reducible repeat (first | apply Kd.R_alloc | apply Kd.R_drewN | apply Kd.R_drew)); exact HO401.out) : P := h
theorem q11_17 {P : Prop} (h : P := by (with_reducible repeat (first | apply Kd.R_alloc | apply Kd.R_drewN | apply Kd.R_drew)); exact HO404.out) : P := h
theorem q11_18 {P : Prop} (h : P := by first | rfl | (simp; done) | (simp [*]; done) | (simp [i64_w, i32_w]; done)) : P := h
theorem q11_19 {P : Prop} (h : P := by rw [if_neg (show ¬ (false = true) by decide)] at H; exact H) : P := h
theorem q11_20 {P : Prop} (h : P := by simp only [laws_FnArrows.j0]; exact fun h => by cases h) : P := h
theorem q11_21 {P : Prop} (h : P := by rw [if_pos rfl] at H; exact H) : P := h
theorem q11_22 {P : Prop} (h : P := by kernel_rfl) : P := h
mutual
def laws_FnArrows.j0 : Nat → Bool → Int → List Int → Option (Bool)
 | 0, _, _, _ => none
 | k + 1, x72, x396000, x396001 => if x72 = true then (some false) else ((spec_IsContext.f k x396000 x396001).bind fun t410 => (if t410 = true then (laws_FnArrows.l0 k 0 0 x396000 x396001) else (some true)))
def laws_FnArrows.l0 : Nat → Int → Int → Int → List Int → Option (Bool)
 | 0, _, _, _, _ => none
 | k + 1, x8, x9, x396000, x396001 => if x9 < (x396001.length : Int) then ((impl_UpArrows.f x396000 x396001 x9).bind fun t411 => ((impl_IsIrreducibleObject.f k x396000 x396001 x9).bind fun t412 => ((impl_DownArrows.f k x396000 x396001 x9).bind fun t413 => (if (t412 != (t413 != 0)) = true then (some false) else ((impl_IsIrreducibleObject.f k x396000 x396001 x9).bind fun t414 => (if t414 = true then ((impl_DoubleArrows.f k x396000 x396001 x9).bind fun t415 => (if t415 = 0 then (some false) else (laws_FnArrows.l0 k (Go.bits .or .i64 x8 t411) (wrap64 (x9 + 1)) x396000 x396001))) else (laws_FnArrows.l0 k (Go.bits .or .i64 x8 t411) (wrap64 (x9 + 1)) x396000 x396001))))))) else (laws_FnArrows.l1 k x8 0 x396000 x396001)
def laws_FnArrows.l1 : Nat → Int → Int → Int → List Int → Option (Bool)
 | 0, _, _, _, _ => none
 | k + 1, x8, x10, x396000, x396001 => if x10 < x396000 then ((impl_IsIrreducibleAttribute.f k x396000 x396001 x10).bind fun t416 => ((spec_HasElement.f x8 x10).bind fun t417 => (if (t416 != t417) = true then (some false) else (laws_FnArrows.l1 k x8 (wrap64 (x10 + 1)) x396000 x396001)))) else (some true)
end
def laws_FnArrows.f (k : Nat) (l0 : List Int) : Option (Bool) := (laws_big.f l0).bind fun t382 => (if t382 = true then (some true) else ((spec_DrawDownArrows.f k l0).bind fun bt383 => ((impl_DownArrows.f k bt383.1 bt383.2.1 bt383.2.2).bind fun t389 => ((impl_UpArrows.f bt383.1 bt383.2.1 bt383.2.2).bind fun t390 => ((spec_DrawArrowText.f k l0).bind fun bt391 => ((spec_DownArrows.f k bt383.1 bt383.2.1 bt383.2.2).bind fun t396 => (if t389 = t396 then ((spec_UpArrows.f k bt383.1 bt383.2.1 bt383.2.2).bind fun t397 => (if t390 = t397 then ((impl_DoubleArrows.f k bt383.1 bt383.2.1 bt383.2.2).bind fun t398 => (if t398 = (Go.bits .and .i64 t389 t390) then ((impl_ArrowText.f k bt391.1 bt391.2).bind fun t399 => ((spec_ArrowText.f k bt391.1 bt391.2).bind fun t402 => ((laws_sameTexts.f k t399 t402).bind fun t405 => (if t405 = true then ((impl_IsIrreducibleObject.f k bt383.1 bt383.2.1 bt383.2.2).bind fun t406 => ((spec_IsIrreducibleObject.f k bt383.1 bt383.2.1 bt383.2.2).bind fun t407 => (if (t406 != t407) = true then (laws_FnArrows.j0 k true bt391.1 bt391.2) else ((impl_IsIrreducibleAttribute.f k bt383.1 bt383.2.1 bt383.2.2).bind fun t408 => ((spec_IsIrreducibleAttribute.f k bt383.1 bt383.2.1 bt383.2.2).bind fun t409 => (laws_FnArrows.j0 k (t408 != t409) bt391.1 bt391.2)))))) else (laws_FnArrows.j0 k true bt391.1 bt391.2))))) else (laws_FnArrows.j0 k true bt391.1 bt391.2))) else (laws_FnArrows.j0 k true bt391.1 bt391.2))) else (laws_FnArrows.j0 k true bt391.1 bt391.2))))))))
def laws_FnArrows.T7 : Bool × List (List Nat × List Nat) := (true, [([], []), ([], []), ([], []), ([1, 2], [1, 2]), ([0, 3], [0, 3]), ([4, 3], [4]), ([5], [5]), ([5], [5]), ([5], [5]), ([7, 8, 5, 5], [5, 7, 8]), ([6, 9, 5], [5, 6, 9]), ([5, 10], [5, 10]), ([11, 9], [11]), ([12], [12]), ([12], [12]), ([13, 14, 12, 12], [12, 13, 14]), ([12], [12]), ([12], [12]), ([16, 17, 12], [12, 16, 17]), ([15, 18, 12], [12, 15, 18]), ([12, 19], [12, 19]), ([20, 15], [20]), ([21], [21]), ([22, 21, 21], [21, 22]), ([21], [21]), ([24, 23, 21], [21, 24]), ([23, 25, 25, 21], [21, 23, 25]), ([26, 21], [21, 26]), ([21, 27], [21, 27]), ([28, 26], [28]), ([29], [29]), ([29], [29]), ([30, 31, 29, 29], [29, 30, 31]), ([29], [29]), ([29], [29]), ([33, 34, 32, 29], [29, 33, 34]), ([32, 35, 29], [29, 32, 35]), ([29, 36], [29, 36]), ([37, 35], [37]), ([38], [38]), ([38], [38]), ([39, 40, 38, 38], [38, 39, 40]), ([38], [38]), ([38], [38]), ([42, 43, 41, 38], [38, 42, 43]), ([41, 44, 38], [38, 41, 44]), ([38, 45], [38, 45])])
def laws_FnArrows.B7 : List Nat := [0, 0, 0, 6, 15, 31, 63, 63, 63, 447, 1023, 2047, 4095, 8191, 8191, 32767, 8191, 8191, 204799, 524287, 1048575, 2097151, 4194303, 8388607, 4194303, 33554431, 67108863, 134217727, 268435455, 536870911, 1073741823, 1073741823, 4294967295, 1073741823, 1073741823, 34359738367, 68719476735, 137438953471, 274877906943, 549755813887, 549755813887, 2199023255551, 549755813887, 549755813887, 17592186044415, 35184372088831, 70368744177663]
theorem laws_FnArrows.tab7 : rtab .any (opsOf Try.f3 7) = laws_FnArrows.T7 := q11_22
theorem laws_FnArrows.bits7 : waitsOk laws_FnArrows.T7.2 laws_FnArrows.B7 = true := q11_22
def laws_FnArrows.T16 : Bool × List (List Nat × List Nat) := (true, [([], []), ([], []), ([0, 1], [0, 1]), ([], []), ([], []), ([3, 4, 2], [3, 4]), ([5], [5]), ([2, 6], [2, 6]), ([7, 5], [7]), ([8], [8]), ([8], [8]), ([9, 10, 8, 8], [8, 9, 10]), ([11, 11, 8], [8, 11]), ([12], [12]), ([12], [12]), ([13, 14, 12, 12], [12, 13, 14]), ([15, 12], [12, 15]), ([12, 16, 8], [8, 12, 16]), ([8, 17], [8, 17])])
def laws_FnArrows.B16 : List Nat := [0, 0, 3, 0, 0, 31, 63, 127, 255, 511, 511, 2047, 4095, 8191, 8191, 32767, 65535, 131071, 262143]
theorem laws_FnArrows.tab16 : rtab .any (opsOf Try.f3 16) = laws_FnArrows.T16 := q11_22
theorem laws_FnArrows.bits16 : waitsOk laws_FnArrows.T16.2 laws_FnArrows.B16 = true := q11_22
set_option maxHeartbeats 8000000 in
set_option maxRecDepth 100000 in
theorem laws_FnArrows.calls (k : Nat) (A0 : Option Addr) (c0 : Nat) (l0 : List Int) (r : Bool) (w : World) (hr0 : Kd.C (Kd.int .u8) w A0 l0.length l0) (hc0 : l0.length ≤ c0) (hrt : r = true) (h : laws_FnArrows.f k l0 = some r) :
  Calls Try.prog 3 #[.slice A0 l0.length c0] w fun e w' => e = .returned (.bool r) ∧ Below w.heap.size w w' := by
 have hu26 := Try.underlying26
 have HR0 := Aside0.mk hr0
 have HC0 := Aside0.mk hc0
 clear hr0 hc0
 have HB := Aside0.mk (Below.refl w.heap.size w)
 have HRT := Aside0.mk hrt
 clear hrt
 have H : ((laws_big.f l0).bind fun t382 => (if t382 = true then (some true) else ((spec_DrawDownArrows.f k l0).bind fun bt383 => ((impl_DownArrows.f k bt383.1 bt383.2.1 bt383.2.2).bind fun t389 => ((impl_UpArrows.f bt383.1 bt383.2.1 bt383.2.2).bind fun t390 => ((spec_DrawArrowText.f k l0).bind fun bt391 => ((spec_DownArrows.f k bt383.1 bt383.2.1 bt383.2.2).bind fun t396 => (if t389 = t396 then ((spec_UpArrows.f k bt383.1 bt383.2.1 bt383.2.2).bind fun t397 => (if t390 = t397 then ((impl_DoubleArrows.f k bt383.1 bt383.2.1 bt383.2.2).bind fun t398 => (if t398 = (Go.bits .and .i64 t389 t390) then ((impl_ArrowText.f k bt391.1 bt391.2).bind fun t399 => ((spec_ArrowText.f k bt391.1 bt391.2).bind fun t402 => ((laws_sameTexts.f k t399 t402).bind fun t405 => (if t405 = true then ((impl_IsIrreducibleObject.f k bt383.1 bt383.2.1 bt383.2.2).bind fun t406 => ((spec_IsIrreducibleObject.f k bt383.1 bt383.2.1 bt383.2.2).bind fun t407 => (if (t406 != t407) = true then (laws_FnArrows.j0 k true bt391.1 bt391.2) else ((impl_IsIrreducibleAttribute.f k bt383.1 bt383.2.1 bt383.2.2).bind fun t408 => ((spec_IsIrreducibleAttribute.f k bt383.1 bt383.2.1 bt383.2.2).bind fun t409 => (laws_FnArrows.j0 k (t408 != t409) bt391.1 bt391.2)))))) else (laws_FnArrows.j0 k true bt391.1 bt391.2))))) else (laws_FnArrows.j0 k true bt391.1 bt391.2))) else (laws_FnArrows.j0 k true bt391.1 bt391.2))) else (laws_FnArrows.j0 k true bt391.1 bt391.2))))))))) = some r := h
 clear h
 replace H := Option.bind_eq_some_iff.mp H
 obtain ⟨t382, A20, H⟩ := H
 replace H : (if t382 = true then (some true) else ((spec_DrawDownArrows.f k l0).bind fun bt383 => ((impl_DownArrows.f k bt383.1 bt383.2.1 bt383.2.2).bind fun t389 => ((impl_UpArrows.f bt383.1 bt383.2.1 bt383.2.2).bind fun t390 => ((spec_DrawArrowText.f k l0).bind fun bt391 => ((spec_DownArrows.f k bt383.1 bt383.2.1 bt383.2.2).bind fun t396 => (if t389 = t396 then ((spec_UpArrows.f k bt383.1 bt383.2.1 bt383.2.2).bind fun t397 => (if t390 = t397 then ((impl_DoubleArrows.f k bt383.1 bt383.2.1 bt383.2.2).bind fun t398 => (if t398 = (Go.bits .and .i64 t389 t390) then ((impl_ArrowText.f k bt391.1 bt391.2).bind fun t399 => ((spec_ArrowText.f k bt391.1 bt391.2).bind fun t402 => ((laws_sameTexts.f k t399 t402).bind fun t405 => (if t405 = true then ((impl_IsIrreducibleObject.f k bt383.1 bt383.2.1 bt383.2.2).bind fun t406 => ((spec_IsIrreducibleObject.f k bt383.1 bt383.2.1 bt383.2.2).bind fun t407 => (if (t406 != t407) = true then (laws_FnArrows.j0 k true bt391.1 bt391.2) else ((impl_IsIrreducibleAttribute.f k bt383.1 bt383.2.1 bt383.2.2).bind fun t408 => ((spec_IsIrreducibleAttribute.f k bt383.1 bt383.2.1 bt383.2.2).bind fun t409 => (laws_FnArrows.j0 k (t408 != t409) bt391.1 bt391.2)))))) else (laws_FnArrows.j0 k true bt391.1 bt391.2))))) else (laws_FnArrows.j0 k true bt391.1 bt391.2))) else (laws_FnArrows.j0 k true bt391.1 bt391.2))) else (laws_FnArrows.j0 k true bt391.1 bt391.2)))))))) = some r := H
 have A2 := Aside0.mk A20
 clear A20
 by_cases c3 : t382 = true
 ·
  subst c3
  have H1 : (some true) = some r := q11_21
  clear H
  have H := H1
  clear H1
  obtain rfl := Option.some.inj H
  go_enter Try.func3, Try.ntmps3
  go_wp2_with (first | ((with_reducible refine gate_callee (f := 5) rfl ?_); refine goesL_ (some 12) rfl rfl Try.func5 q11_22 rfl #[.slice A0 l0.length c0] rfl q11_8 ?_; (with_reducible refine (laws_big.calls _ _ l0 true _ ?side1 ?side2 A2.out).mono ?_); (case side1 => exact q11_7); (case side2 => exact HC0.out); rintro e w' ⟨rfl, ⟨nd, rfl⟩⟩; refine ⟨_, rfl, ?_⟩))
  go_ret
  exact ⟨by first | rfl | (simp [errW_none, errW_some] <;> rfl) | (simp [*, errW_none, errW_some] <;> rfl), by repeat (first | (with_reducible first | exact HB.out | apply below_alloc | apply pw_below_drewN | apply below_drew1) | exact HB.out)⟩
 ·
  replace c3 := Bool.eq_false_iff.mpr c3
  subst c3
  have H1 : ((spec_DrawDownArrows.f k l0).bind fun bt383 => ((impl_DownArrows.f k bt383.1 bt383.2.1 bt383.2.2).bind fun t389 => ((impl_UpArrows.f bt383.1 bt383.2.1 bt383.2.2).bind fun t390 => ((spec_DrawArrowText.f k l0).bind fun bt391 => ((spec_DownArrows.f k bt383.1 bt383.2.1 bt383.2.2).bind fun t396 => (if t389 = t396 then ((spec_UpArrows.f k bt383.1 bt383.2.1 bt383.2.2).bind fun t397 => (if t390 = t397 then ((impl_DoubleArrows.f k bt383.1 bt383.2.1 bt383.2.2).bind fun t398 => (if t398 = (Go.bits .and .i64 t389 t390) then ((impl_ArrowText.f k bt391.1 bt391.2).bind fun t399 => ((spec_ArrowText.f k bt391.1 bt391.2).bind fun t402 => ((laws_sameTexts.f k t399 t402).bind fun t405 => (if t405 = true then ((impl_IsIrreducibleObject.f k bt383.1 bt383.2.1 bt383.2.2).bind fun t406 => ((spec_IsIrreducibleObject.f k bt383.1 bt383.2.1 bt383.2.2).bind fun t407 => (if (t406 != t407) = true then (laws_FnArrows.j0 k true bt391.1 bt391.2) else ((impl_IsIrreducibleAttribute.f k bt383.1 bt383.2.1 bt383.2.2).bind fun t408 => ((spec_IsIrreducibleAttribute.f k bt383.1 bt383.2.1 bt383.2.2).bind fun t409 => (laws_FnArrows.j0 k (t408 != t409) bt391.1 bt391.2)))))) else (laws_FnArrows.j0 k true bt391.1 bt391.2))))) else (laws_FnArrows.j0 k true bt391.1 bt391.2))) else (laws_FnArrows.j0 k true bt391.1 bt391.2))) else (laws_FnArrows.j0 k true bt391.1 bt391.2))))))) = some r := q11_19
  clear H
  have H := H1
  clear H1
  replace H := Option.bind_eq_some_iff.mp H
  obtain ⟨⟨t383, t384, t387⟩, A40, H⟩ := H
  replace H : ((impl_DownArrows.f k t383 t384 t387).bind fun t389 => ((impl_UpArrows.f t383 t384 t387).bind fun t390 => ((spec_DrawArrowText.f k l0).bind fun bt391 => ((spec_DownArrows.f k t383 t384 t387).bind fun t396 => (if t389 = t396 then ((spec_UpArrows.f k t383 t384 t387).bind fun t397 => (if t390 = t397 then ((impl_DoubleArrows.f k t383 t384 t387).bind fun t398 => (if t398 = (Go.bits .and .i64 t389 t390) then ((impl_ArrowText.f k bt391.1 bt391.2).bind fun t399 => ((spec_ArrowText.f k bt391.1 bt391.2).bind fun t402 => ((laws_sameTexts.f k t399 t402).bind fun t405 => (if t405 = true then ((impl_IsIrreducibleObject.f k t383 t384 t387).bind fun t406 => ((spec_IsIrreducibleObject.f k t383 t384 t387).bind fun t407 => (if (t406 != t407) = true then (laws_FnArrows.j0 k true bt391.1 bt391.2) else ((impl_IsIrreducibleAttribute.f k t383 t384 t387).bind fun t408 => ((spec_IsIrreducibleAttribute.f k t383 t384 t387).bind fun t409 => (laws_FnArrows.j0 k (t408 != t409) bt391.1 bt391.2)))))) else (laws_FnArrows.j0 k true bt391.1 bt391.2))))) else (laws_FnArrows.j0 k true bt391.1 bt391.2))) else (laws_FnArrows.j0 k true bt391.1 bt391.2))) else (laws_FnArrows.j0 k true bt391.1 bt391.2)))))) = some r := H
  have A4 := Aside0.mk A40
  clear A40
  replace H := Option.bind_eq_some_iff.mp H
  obtain ⟨t389, A50, H⟩ := H
  replace H : ((impl_UpArrows.f t383 t384 t387).bind fun t390 => ((spec_DrawArrowText.f k l0).bind fun bt391 => ((spec_DownArrows.f k t383 t384 t387).bind fun t396 => (if t389 = t396 then ((spec_UpArrows.f k t383 t384 t387).bind fun t397 => (if t390 = t397 then ((impl_DoubleArrows.f k t383 t384 t387).bind fun t398 => (if t398 = (Go.bits .and .i64 t389 t390) then ((impl_ArrowText.f k bt391.1 bt391.2).bind fun t399 => ((spec_ArrowText.f k bt391.1 bt391.2).bind fun t402 => ((laws_sameTexts.f k t399 t402).bind fun t405 => (if t405 = true then ((impl_IsIrreducibleObject.f k t383 t384 t387).bind fun t406 => ((spec_IsIrreducibleObject.f k t383 t384 t387).bind fun t407 => (if (t406 != t407) = true then (laws_FnArrows.j0 k true bt391.1 bt391.2) else ((impl_IsIrreducibleAttribute.f k t383 t384 t387).bind fun t408 => ((spec_IsIrreducibleAttribute.f k t383 t384 t387).bind fun t409 => (laws_FnArrows.j0 k (t408 != t409) bt391.1 bt391.2)))))) else (laws_FnArrows.j0 k true bt391.1 bt391.2))))) else (laws_FnArrows.j0 k true bt391.1 bt391.2))) else (laws_FnArrows.j0 k true bt391.1 bt391.2))) else (laws_FnArrows.j0 k true bt391.1 bt391.2))))) = some r := H
  have A5 := Aside0.mk A50
  clear A50
  replace H := Option.bind_eq_some_iff.mp H
  obtain ⟨t390, A60, H⟩ := H
  replace H : ((spec_DrawArrowText.f k l0).bind fun bt391 => ((spec_DownArrows.f k t383 t384 t387).bind fun t396 => (if t389 = t396 then ((spec_UpArrows.f k t383 t384 t387).bind fun t397 => (if t390 = t397 then ((impl_DoubleArrows.f k t383 t384 t387).bind fun t398 => (if t398 = (Go.bits .and .i64 t389 t390) then ((impl_ArrowText.f k bt391.1 bt391.2).bind fun t399 => ((spec_ArrowText.f k bt391.1 bt391.2).bind fun t402 => ((laws_sameTexts.f k t399 t402).bind fun t405 => (if t405 = true then ((impl_IsIrreducibleObject.f k t383 t384 t387).bind fun t406 => ((spec_IsIrreducibleObject.f k t383 t384 t387).bind fun t407 => (if (t406 != t407) = true then (laws_FnArrows.j0 k true bt391.1 bt391.2) else ((impl_IsIrreducibleAttribute.f k t383 t384 t387).bind fun t408 => ((spec_IsIrreducibleAttribute.f k t383 t384 t387).bind fun t409 => (laws_FnArrows.j0 k (t408 != t409) bt391.1 bt391.2)))))) else (laws_FnArrows.j0 k true bt391.1 bt391.2))))) else (laws_FnArrows.j0 k true bt391.1 bt391.2))) else (laws_FnArrows.j0 k true bt391.1 bt391.2))) else (laws_FnArrows.j0 k true bt391.1 bt391.2)))) = some r := H
  have A6 := Aside0.mk A60
  clear A60
  replace H := Option.bind_eq_some_iff.mp H
  obtain ⟨⟨t391, t392⟩, A70, H⟩ := H
  replace H : ((spec_DownArrows.f k t383 t384 t387).bind fun t396 => (if t389 = t396 then ((spec_UpArrows.f k t383 t384 t387).bind fun t397 => (if t390 = t397 then ((impl_DoubleArrows.f k t383 t384 t387).bind fun t398 => (if t398 = (Go.bits .and .i64 t389 t390) then ((impl_ArrowText.f k t391 t392).bind fun t399 => ((spec_ArrowText.f k t391 t392).bind fun t402 => ((laws_sameTexts.f k t399 t402).bind fun t405 => (if t405 = true then ((impl_IsIrreducibleObject.f k t383 t384 t387).bind fun t406 => ((spec_IsIrreducibleObject.f k t383 t384 t387).bind fun t407 => (if (t406 != t407) = true then (laws_FnArrows.j0 k true t391 t392) else ((impl_IsIrreducibleAttribute.f k t383 t384 t387).bind fun t408 => ((spec_IsIrreducibleAttribute.f k t383 t384 t387).bind fun t409 => (laws_FnArrows.j0 k (t408 != t409) t391 t392)))))) else (laws_FnArrows.j0 k true t391 t392))))) else (laws_FnArrows.j0 k true t391 t392))) else (laws_FnArrows.j0 k true t391 t392))) else (laws_FnArrows.j0 k true t391 t392))) = some r := H
  have A7 := Aside0.mk A70
  clear A70
  have HC8 := Aside0.mk H
  clear H
  go_enter Try.func3, Try.ntmps3
  go_upto_region 7 with (first | ((with_reducible refine gate_callee (f := 5) rfl ?_); refine goesL_ (some 12) rfl rfl Try.func5 q11_22 rfl #[.slice A0 l0.length c0] rfl q11_8 ?_; (with_reducible refine (laws_big.calls _ _ l0 false _ ?side1 ?side2 A2.out).mono ?_); (case side1 => exact q11_7); (case side2 => exact HC0.out); rintro e w' ⟨rfl, ⟨nd, rfl⟩⟩; refine ⟨_, rfl, ?_⟩) | ((with_reducible refine gate_callee (f := 6) rfl ?_); refine goesL_ (some 15) rfl rfl Try.func6 q11_22 rfl #[.slice A0 l0.length c0] rfl q11_8 ?_; (with_reducible refine (spec_DrawDownArrows.calls k _ _ l0 t383 t384 t387 _ ?side1 ?side2 A4.out).mono ?_); (case side1 => exact q11_7); (case side2 => exact HC0.out); rintro e w9 ⟨v385, rfl, ho0, hb⟩; refine ⟨_, rfl, ?_⟩; have n0_ := Aside0.mk (Kd.R_lower ho0 (below_size q11_9)); have n1_ := Aside0.mk (below_step q11_9 hb); clear HB; have HO386 := n0_; have HB := n1_; clear n0_ n1_; (try clear hb); (try clear hb2); (try clear hk); (try clear hi); (try clear ho0)) | ((with_reducible refine gate_dst (N := 3) rfl ?_); refine box_event ?hg (N := 3) ?hd (cs := #[.int .i64 0, .slice none 0 0]) (t := 26) ?hr ?_; (case hd => rfl); (case hg => rfl); (case hr => first | (go_simp; done) | (go_simp; rfl)); intro gb388 hg w10 hbox hb; have n0_ := Aside0.mk (Kd.R_below q11_14 hb); have n1_ := Aside0.mk (below_step q11_9 hb); have n2_ := Aside0.mk (hbox); have n3_ := Aside0.mk ((by rw [hg]; exact (below_size q11_9) : w.heap.size ≤ gb388)); have n4_ := Aside0.mk ((by rw [hg]; exact (below_size q11_9) : w.heap.size ≤ gb388)); clear HO386; clear HB; have HO386 := n0_; have HB := n1_; have BK388 := n2_; have GW388 := n3_; have GE388 := n4_; clear n0_ n1_ n2_ n3_ n4_; clear hb hbox hg; have hcz11_0 : w10.cell? ⟨gb388, 0, none⟩ = some (.int .i64 0) := (blk_cell BK388.out 0).trans rfl; have hcz11_1 : w10.cell? ⟨gb388, 1, none⟩ = some (.slice none 0 0) := (blk_cell BK388.out 1).trans rfl; have hfz11_0 := blk_frozen BK388.out 0; have hfz11_1 := blk_frozen BK388.out 1; obtain ⟨Ao12, co12, eo12⟩ := Kd.R_slice HO386.out; subst eo12) | ((with_reducible refine gate_callee (f := 7) rfl ?_); refine goesL_ (some 20) rfl rfl Try.func7 q11_22 rfl #[.agg #[.int .i64 t383, .slice Ao12 t384.length co12], .int .i64 t387] rfl q11_8 ?_; (with_reducible refine (impl_DownArrows.calls k t383 _ _ t384 t387 t389 _ ?side1 ?side2 A5.out).mono ?_); (case side1 => refine (Kd.R_reads' (e := 3) (base := w.heap.size) (ok := fun k_ => True) (n := t384.length) (c := co12) ?_).2.2; exact q11_1); (case side2 => exact (Kd.R_reads' HO386.out).2.1); rintro e w13 ⟨rfl, hb⟩; refine ⟨_, rfl, ?_⟩; have n0_ := Aside0.mk (Kd.R_below q11_1 hb); have n1_ := Aside0.mk (blk_below (g := gb388) (o := .cells #[.int .i64 t383, .slice Ao12 t384.length co12] 26 (0, 0)) (by (with_reducible repeat (first | refine blk_drewN ?_ _ | refine blk_drew ?_ | refine blk_alloc ?_ _)); refine blk_put (cs := #[.int .i64 t383, .slice none 0 0]) ?_ 1 _ rfl; (with_reducible repeat (first | refine blk_drewN ?_ _ | refine blk_drew ?_ | refine blk_alloc ?_ _)); refine blk_put (cs := #[.int .i64 0, .slice none 0 0]) ?_ 0 _ rfl; (with_reducible repeat (first | refine blk_drewN ?_ _ | refine blk_drew ?_ | refine blk_alloc ?_ _)); exact BK388.out) hb); have n2_ := Aside0.mk (below_step q11_6 hb); clear HO386; clear BK388; clear HB; have HO386 := n0_; have BK388 := n1_; have HB := n2_; clear n0_ n1_ n2_; (try clear hb); (try clear hb2); (try clear hk); (try clear hi); have hcz14_0 : w13.cell? ⟨gb388, 0, none⟩ = some (.int .i64 t383) := (blk_cell BK388.out 0).trans rfl; have hcz14_1 : w13.cell? ⟨gb388, 1, none⟩ = some (.slice Ao12 t384.length co12) := (blk_cell BK388.out 1).trans rfl; have hfz14_0 := blk_frozen BK388.out 0; have hfz14_1 := blk_frozen BK388.out 1) | ((with_reducible refine gate_callee (f := 8) rfl ?_); refine goesL_ (some 23) rfl rfl Try.func8 q11_22 rfl #[.agg #[.int .i64 t383, .slice Ao12 t384.length co12], .int .i64 t387] rfl q11_8 ?_; (with_reducible refine (impl_UpArrows.calls t383 _ _ t384 t387 t390 _ ?side1 ?side2 A6.out).mono ?_); (case side1 => exact q11_4); (case side2 => exact (Kd.R_reads' HO386.out).2.1); rintro e w15 ⟨rfl, hb⟩; refine ⟨_, rfl, ?_⟩; have n0_ := Aside0.mk (Kd.R_below q11_14 hb); have n1_ := Aside0.mk (blk_below (g := gb388) (o := .cells #[.int .i64 t383, .slice Ao12 t384.length co12] 26 (0, 0)) q11_10 hb); have n2_ := Aside0.mk (below_step q11_6 hb); clear HO386; clear BK388; clear HB; have HO386 := n0_; have BK388 := n1_; have HB := n2_; clear n0_ n1_ n2_; (try clear hb); (try clear hb2); (try clear hk); (try clear hi)) | ((with_reducible refine gate_callee (f := 9) rfl ?_); refine goesL_ (some 25) rfl rfl Try.func9 q11_22 rfl #[.slice A0 l0.length c0] rfl q11_8 ?_; (with_reducible refine (spec_DrawArrowText.calls k _ _ l0 t391 t392 _ ?side1 ?side2 A7.out).mono ?_); (case side1 => repeat (first | exact (Kd.C_below HR0.out HB.out) | (with_reducible refine Kd.C_alloc ?_ _) | (with_reducible refine Kd.C_drewN ?_ _) | (with_reducible refine Kd.C_drew ?_))); (case side2 => exact HC0.out); rintro e w16 ⟨v393, rfl, ho0, hb⟩; refine ⟨_, rfl, ?_⟩; have n0_ := Aside0.mk (Kd.R_elder' q11_14 (Kd.R_base ho0) hb); have n1_ := Aside0.mk (Kd.R_lower (Kd.R_new' ho0 (Kd.R_lt q11_14)) (below_size q11_6)); have n2_ := Aside0.mk (blk_below (g := gb388) (o := .cells #[.int .i64 t383, .slice Ao12 t384.length co12] 26 (0, 0)) q11_10 hb); have n3_ := Aside0.mk (below_step q11_6 hb); clear HO386; clear BK388; clear HB; have HO386 := n0_; have HO394 := n1_; have BK388 := n2_; have HB := n3_; clear n0_ n1_ n2_ n3_; (try clear hb); (try clear hb2); (try clear hk); (try clear hi); (try clear ho0)) | ((with_reducible refine gate_dst (N := 7) rfl ?_); refine box_event ?hg (N := 7) ?hd (cs := #[.int .i64 0, .slice none 0 0]) (t := 26) ?hr ?_; (case hd => rfl); (case hg => rfl); (case hr => first | (go_simp; done) | (go_simp; rfl)); intro gb395 hg w17 hbox hb; have n0_ := Aside0.mk (Kd.R_below q11_14 hb); have n1_ := Aside0.mk (Kd.R_below q11_15 hb); have n2_ := Aside0.mk (blk_below (g := gb388) (o := .cells #[.int .i64 t383, .slice Ao12 t384.length co12] 26 (0, 0)) q11_10 hb); have n3_ := Aside0.mk (below_step q11_6 hb); have n4_ := Aside0.mk (hbox); have n5_ := Aside0.mk ((by rw [hg]; exact (below_size q11_6) : w.heap.size ≤ gb395)); have n6_ := Aside0.mk ((by rw [hg]; exact (below_size q11_6) : w.heap.size ≤ gb395)); have n7_ := Aside0.mk ((by rw [hg]; exact Nat.ne_of_lt (blk_lt (g := gb388) (o := .cells #[.int .i64 t383, .slice Ao12 t384.length co12] 26 (0, 0)) q11_10) : gb388 ≠ gb395)); have n8_ := Aside0.mk ((by rw [hg]; exact Nat.ne_of_gt (blk_lt (g := gb388) (o := .cells #[.int .i64 t383, .slice Ao12 t384.length co12] 26 (0, 0)) q11_10) : gb395 ≠ gb388)); clear HO386; clear HO394; clear BK388; clear HB; have HO386 := n0_; have HO394 := n1_; have BK388 := n2_; have HB := n3_; have BK395 := n4_; have GW395 := n5_; have GE395 := n6_; have NB388_395 := n7_; have NB395_388 := n8_; clear n0_ n1_ n2_ n3_ n4_ n5_ n6_ n7_ n8_; clear hb hbox hg; have hnb18 := NB395_388.out; have hnc18 := NB388_395.out; have hcz19_0 : w17.cell? ⟨gb395, 0, none⟩ = some (.int .i64 0) := (blk_cell BK395.out 0).trans rfl; have hcz19_1 : w17.cell? ⟨gb395, 1, none⟩ = some (.slice none 0 0) := (blk_cell BK395.out 1).trans rfl; have hfz19_0 := blk_frozen BK395.out 0; have hfz19_1 := blk_frozen BK395.out 1; obtain ⟨Ao20, co20, eo20⟩ := Kd.R_slice HO394.out; subst eo20))
  (try simp only [Act.put, List.setIfInBounds_toArray, List.set_cons_zero, List.set_cons_succ])
  go_cut [72] (fun v72 wc => ∃ (kq : Nat) (x72_7 : Bool), v72 = .bool x72_7 ∧ Aside0 (laws_FnArrows.j0 kq x72_7 t391 t392 = some r) ∧ Aside0 (kq ≤ k) ∧ Aside0 (Kd.R (Kd.int .i64) 3 wc w.heap.size (fun k_ => some k_ ≠ ((.slice Ao20 t392.length co20) : Value).ownBlock) (.slice Ao12 t384.length co12) t384) ∧ Aside0 (Kd.R (Kd.int .i64) 3 wc w.heap.size (fun k_ => some k_ ≠ ((.slice Ao12 t384.length co12) : Value).ownBlock) (.slice Ao20 t392.length co20) t392) ∧ Aside0 (wc.heap[gb388]? = some (.cells #[.int .i64 t383, (.slice Ao12 t384.length co12)] 26 (0, 0))) ∧ Aside0 (wc.heap[gb395]? = some (.cells #[.int .i64 t391, (.slice Ao20 t392.length co20)] 26 (0, 0))) ∧ Aside0 (Below w.heap.size w wc))
  case first =>
   have H := HC8.out
   clear HC8
   replace H := Option.bind_eq_some_iff.mp H
   obtain ⟨t396, A210, H⟩ := H
   replace H : (if t389 = t396 then ((spec_UpArrows.f k t383 t384 t387).bind fun t397 => (if t390 = t397 then ((impl_DoubleArrows.f k t383 t384 t387).bind fun t398 => (if t398 = (Go.bits .and .i64 t389 t390) then ((impl_ArrowText.f k t391 t392).bind fun t399 => ((spec_ArrowText.f k t391 t392).bind fun t402 => ((laws_sameTexts.f k t399 t402).bind fun t405 => (if t405 = true then ((impl_IsIrreducibleObject.f k t383 t384 t387).bind fun t406 => ((spec_IsIrreducibleObject.f k t383 t384 t387).bind fun t407 => (if (t406 != t407) = true then (laws_FnArrows.j0 k true t391 t392) else ((impl_IsIrreducibleAttribute.f k t383 t384 t387).bind fun t408 => ((spec_IsIrreducibleAttribute.f k t383 t384 t387).bind fun t409 => (laws_FnArrows.j0 k (t408 != t409) t391 t392)))))) else (laws_FnArrows.j0 k true t391 t392))))) else (laws_FnArrows.j0 k true t391 t392))) else (laws_FnArrows.j0 k true t391 t392))) else (laws_FnArrows.j0 k true t391 t392)) = some r := H
   have A21 := Aside0.mk A210
   clear A210
   by_cases c22 : t389 = t396
   ·
    rw [if_pos c22] at H
    have c22b0 : (t389 == t396) = true := beq_iff_eq.mpr c22
    have c22b1 : (t389 != t396) = false := bne_eq_false_iff_eq.mpr c22
    clear c22
    (first | rw [c22b0] | (simp only [i64_w, i32_w]; rw [c22b0]) | skip)
    replace H := Option.bind_eq_some_iff.mp H
    obtain ⟨t397, A230, H⟩ := H
    replace H : (if t390 = t397 then ((impl_DoubleArrows.f k t383 t384 t387).bind fun t398 => (if t398 = (Go.bits .and .i64 t389 t390) then ((impl_ArrowText.f k t391 t392).bind fun t399 => ((spec_ArrowText.f k t391 t392).bind fun t402 => ((laws_sameTexts.f k t399 t402).bind fun t405 => (if t405 = true then ((impl_IsIrreducibleObject.f k t383 t384 t387).bind fun t406 => ((spec_IsIrreducibleObject.f k t383 t384 t387).bind fun t407 => (if (t406 != t407) = true then (laws_FnArrows.j0 k true t391 t392) else ((impl_IsIrreducibleAttribute.f k t383 t384 t387).bind fun t408 => ((spec_IsIrreducibleAttribute.f k t383 t384 t387).bind fun t409 => (laws_FnArrows.j0 k (t408 != t409) t391 t392)))))) else (laws_FnArrows.j0 k true t391 t392))))) else (laws_FnArrows.j0 k true t391 t392))) else (laws_FnArrows.j0 k true t391 t392)) = some r := H
    have A23 := Aside0.mk A230
    clear A230
    by_cases c24 : t390 = t397
    ·
     rw [if_pos c24] at H
     have c24b0 : (t390 == t397) = true := beq_iff_eq.mpr c24
     have c24b1 : (t390 != t397) = false := bne_eq_false_iff_eq.mpr c24
     clear c24
     replace H := Option.bind_eq_some_iff.mp H
     obtain ⟨t398, A250, H⟩ := H
     replace H : (if t398 = (Go.bits .and .i64 t389 t390) then ((impl_ArrowText.f k t391 t392).bind fun t399 => ((spec_ArrowText.f k t391 t392).bind fun t402 => ((laws_sameTexts.f k t399 t402).bind fun t405 => (if t405 = true then ((impl_IsIrreducibleObject.f k t383 t384 t387).bind fun t406 => ((spec_IsIrreducibleObject.f k t383 t384 t387).bind fun t407 => (if (t406 != t407) = true then (laws_FnArrows.j0 k true t391 t392) else ((impl_IsIrreducibleAttribute.f k t383 t384 t387).bind fun t408 => ((spec_IsIrreducibleAttribute.f k t383 t384 t387).bind fun t409 => (laws_FnArrows.j0 k (t408 != t409) t391 t392)))))) else (laws_FnArrows.j0 k true t391 t392))))) else (laws_FnArrows.j0 k true t391 t392)) = some r := H
     have A25 := Aside0.mk A250
     clear A250
     by_cases c26 : t398 = (Go.bits .and .i64 t389 t390)
     ·
      rw [if_pos c26] at H
      have c26b0 : (t398 == (Go.bits .and .i64 t389 t390)) = true := beq_iff_eq.mpr c26
      have c26b1 : (t398 != (Go.bits .and .i64 t389 t390)) = false := bne_eq_false_iff_eq.mpr c26
      clear c26
      replace H := Option.bind_eq_some_iff.mp H
      obtain ⟨t399, A270, H⟩ := H
      replace H : ((spec_ArrowText.f k t391 t392).bind fun t402 => ((laws_sameTexts.f k t399 t402).bind fun t405 => (if t405 = true then ((impl_IsIrreducibleObject.f k t383 t384 t387).bind fun t406 => ((spec_IsIrreducibleObject.f k t383 t384 t387).bind fun t407 => (if (t406 != t407) = true then (laws_FnArrows.j0 k true t391 t392) else ((impl_IsIrreducibleAttribute.f k t383 t384 t387).bind fun t408 => ((spec_IsIrreducibleAttribute.f k t383 t384 t387).bind fun t409 => (laws_FnArrows.j0 k (t408 != t409) t391 t392)))))) else (laws_FnArrows.j0 k true t391 t392)))) = some r := H
      have A27 := Aside0.mk A270
      clear A270
      replace H := Option.bind_eq_some_iff.mp H
      obtain ⟨t402, A280, H⟩ := H
      replace H : ((laws_sameTexts.f k t399 t402).bind fun t405 => (if t405 = true then ((impl_IsIrreducibleObject.f k t383 t384 t387).bind fun t406 => ((spec_IsIrreducibleObject.f k t383 t384 t387).bind fun t407 => (if (t406 != t407) = true then (laws_FnArrows.j0 k true t391 t392) else ((impl_IsIrreducibleAttribute.f k t383 t384 t387).bind fun t408 => ((spec_IsIrreducibleAttribute.f k t383 t384 t387).bind fun t409 => (laws_FnArrows.j0 k (t408 != t409) t391 t392)))))) else (laws_FnArrows.j0 k true t391 t392))) = some r := H
      have A28 := Aside0.mk A280
      clear A280
      replace H := Option.bind_eq_some_iff.mp H
      obtain ⟨t405, A290, H⟩ := H
      replace H : (if t405 = true then ((impl_IsIrreducibleObject.f k t383 t384 t387).bind fun t406 => ((spec_IsIrreducibleObject.f k t383 t384 t387).bind fun t407 => (if (t406 != t407) = true then (laws_FnArrows.j0 k true t391 t392) else ((impl_IsIrreducibleAttribute.f k t383 t384 t387).bind fun t408 => ((spec_IsIrreducibleAttribute.f k t383 t384 t387).bind fun t409 => (laws_FnArrows.j0 k (t408 != t409) t391 t392)))))) else (laws_FnArrows.j0 k true t391 t392)) = some r := H
      have A29 := Aside0.mk A290
      clear A290
      by_cases c30 : t405 = true
      ·
       subst c30
       have H1 : ((impl_IsIrreducibleObject.f k t383 t384 t387).bind fun t406 => ((spec_IsIrreducibleObject.f k t383 t384 t387).bind fun t407 => (if (t406 != t407) = true then (laws_FnArrows.j0 k true t391 t392) else ((impl_IsIrreducibleAttribute.f k t383 t384 t387).bind fun t408 => ((spec_IsIrreducibleAttribute.f k t383 t384 t387).bind fun t409 => (laws_FnArrows.j0 k (t408 != t409) t391 t392)))))) = some r := q11_21
       clear H
       have H := H1
       clear H1
       replace H := Option.bind_eq_some_iff.mp H
       obtain ⟨t406, A310, H⟩ := H
       replace H : ((spec_IsIrreducibleObject.f k t383 t384 t387).bind fun t407 => (if (t406 != t407) = true then (laws_FnArrows.j0 k true t391 t392) else ((impl_IsIrreducibleAttribute.f k t383 t384 t387).bind fun t408 => ((spec_IsIrreducibleAttribute.f k t383 t384 t387).bind fun t409 => (laws_FnArrows.j0 k (t408 != t409) t391 t392))))) = some r := H
       have A31 := Aside0.mk A310
       clear A310
       replace H := Option.bind_eq_some_iff.mp H
       obtain ⟨t407, A320, H⟩ := H
       replace H : (if (t406 != t407) = true then (laws_FnArrows.j0 k true t391 t392) else ((impl_IsIrreducibleAttribute.f k t383 t384 t387).bind fun t408 => ((spec_IsIrreducibleAttribute.f k t383 t384 t387).bind fun t409 => (laws_FnArrows.j0 k (t408 != t409) t391 t392)))) = some r := H
       have A32 := Aside0.mk A320
       clear A320
       by_cases c33 : (t406 != t407) = true
       ·
        rw [if_pos c33] at H
        have c33b0 : (t406 != t407) = true := c33
        (try (have c33b1 : decide (t406 = t407) = false := by simpa using c33))
        (try (have c33b2 : (t406 == t407) = false := by simpa using c33))
        (try (have c33b3 : ¬ (t406 = t407) := by simpa using c33))
        clear c33
        refine absurd ?_ Bool.false_ne_true; revert H; generalize k = kq_; intro H; cases kq_ with | zero => exact absurd H q11_20 | succ kq_ => simp only [laws_FnArrows.j0] at H; (try rw [if_pos rfl] at H); exact (Option.some.inj H).trans HRT.out
       ·
        rw [if_neg c33] at H
        have c33b0 : (t406 != t407) = false := by simpa using c33
        (try (have c33b1 : decide (t406 = t407) = true := by simpa using c33))
        (try (have c33b2 : (t406 == t407) = true := by simpa using c33))
        clear c33
        replace H := Option.bind_eq_some_iff.mp H
        obtain ⟨t408, A340, H⟩ := H
        replace H : ((spec_IsIrreducibleAttribute.f k t383 t384 t387).bind fun t409 => (laws_FnArrows.j0 k (t408 != t409) t391 t392)) = some r := H
        have A34 := Aside0.mk A340
        clear A340
        replace H := Option.bind_eq_some_iff.mp H
        obtain ⟨t409, A350, H⟩ := H
        replace H : (laws_FnArrows.j0 k (t408 != t409) t391 t392) = some r := H
        have A35 := Aside0.mk A350
        clear A350
        have H' := Aside0.mk H
        clear H
        try go_wp2
        have n0_ : Aside0 (Kd.R (Kd.int .i64) 3 ((w17.setCell ⟨gb395, 0, none⟩ (.int .i64 t391)).setCell ⟨gb395, 1, none⟩ (.slice Ao20 t392.length co20)) w.heap.size (fun k_ => some k_ ≠ (.slice Ao20 t392.length co20 : Value).ownBlock) (.slice Ao12 t384.length co12) t384) := ⟨by (with_reducible repeat (first | apply Kd.R_alloc | apply Kd.R_drewN | apply Kd.R_drew)); exact Kd.R_mono (Kd.R_far (p := ⟨gb395, 1, none⟩) (Kd.R_far (p := ⟨gb395, 0, none⟩) (Kd.R_types HO386.out BK395.out (by decide)) (fun _ hk => hk.2) (.int .i64 t391)) (fun _ hk => hk.2) (.slice Ao20 t392.length co20)) (fun _ hk => hk.1.2)⟩
        have n1_ : Aside0 (Kd.R (Kd.int .i64) 3 ((w17.setCell ⟨gb395, 0, none⟩ (.int .i64 t391)).setCell ⟨gb395, 1, none⟩ (.slice Ao20 t392.length co20)) w.heap.size (fun k_ => some k_ ≠ (.slice Ao12 t384.length co12 : Value).ownBlock) (.slice Ao20 t392.length co20) t392) := ⟨by (with_reducible repeat (first | apply Kd.R_alloc | apply Kd.R_drewN | apply Kd.R_drew)); exact Kd.R_mono (Kd.R_far (p := ⟨gb395, 1, none⟩) (Kd.R_far (p := ⟨gb395, 0, none⟩) (Kd.R_types HO394.out BK395.out (by decide)) (fun _ hk => hk.2) (.int .i64 t391)) (fun _ hk => hk.2) (.slice Ao20 t392.length co20)) (fun _ hk => hk.1.2)⟩
        have n2_ : Aside0 (((w17.setCell ⟨gb395, 0, none⟩ (.int .i64 t391)).setCell ⟨gb395, 1, none⟩ (.slice Ao20 t392.length co20)).heap[gb388]? = some (.cells #[.int .i64 t383, .slice Ao12 t384.length co12] 26 (0, 0))) := ⟨by (with_reducible repeat (first | refine blk_drewN ?_ _ | refine blk_drew ?_ | refine blk_alloc ?_ _)); refine blk_far ?_ NB388_395.out _; (with_reducible repeat (first | refine blk_drewN ?_ _ | refine blk_drew ?_ | refine blk_alloc ?_ _)); refine blk_far ?_ NB388_395.out _; (with_reducible repeat (first | refine blk_drewN ?_ _ | refine blk_drew ?_ | refine blk_alloc ?_ _)); exact BK388.out⟩
        have n3_ : Aside0 (((w17.setCell ⟨gb395, 0, none⟩ (.int .i64 t391)).setCell ⟨gb395, 1, none⟩ (.slice Ao20 t392.length co20)).heap[gb395]? = some (.cells #[.int .i64 t391, .slice Ao20 t392.length co20] 26 (0, 0))) := ⟨by (with_reducible repeat (first | refine blk_drewN ?_ _ | refine blk_drew ?_ | refine blk_alloc ?_ _)); refine blk_put (cs := #[.int .i64 t391, .slice none 0 0]) ?_ 1 _ rfl; (with_reducible repeat (first | refine blk_drewN ?_ _ | refine blk_drew ?_ | refine blk_alloc ?_ _)); refine blk_put (cs := #[.int .i64 0, .slice none 0 0]) ?_ 0 _ rfl; (with_reducible repeat (first | refine blk_drewN ?_ _ | refine blk_drew ?_ | refine blk_alloc ?_ _)); exact BK395.out⟩
        have n4_ : Aside0 (Below w.heap.size w ((w17.setCell ⟨gb395, 0, none⟩ (.int .i64 t391)).setCell ⟨gb395, 1, none⟩ (.slice Ao20 t392.length co20))) := ⟨by repeat (first | (with_reducible first | exact HB.out | apply below_alloc | apply pw_below_drewN | apply below_drew1 | refine below_set ?_ GE388.out | refine below_set ?_ GE395.out) | exact HB.out)⟩
        (try clear HO386)
        (try clear HO394)
        (try clear BK388)
        (try clear BK395)
        (try clear HB)
        generalize ((w17.setCell ⟨gb395, 0, none⟩ (.int .i64 t391)).setCell ⟨gb395, 1, none⟩ (.slice Ao20 t392.length co20)) = w36 at n0_ n1_ n2_ n3_ n4_ ⊢
        have HO386 := n0_
        have HO394 := n1_
        have BK388 := n2_
        have BK395 := n3_
        have HB := n4_
        clear n0_ n1_ n2_ n3_ n4_
        have n0_ := Aside0.mk (Kd.R_drew HO386.out)
        have n1_ := Aside0.mk (Kd.R_drew HO394.out)
        have n2_ := Aside0.mk (blk_drew BK388.out)
        have n3_ := Aside0.mk (blk_drew BK395.out)
        have n4_ := Aside0.mk (below_drew1 HB.out)
        clear HO386
        clear HO394
        clear BK388
        clear BK395
        clear HB
        have HO386 := n0_
        have HO394 := n1_
        have BK388 := n2_
        have BK395 := n3_
        have HB := n4_
        clear n0_ n1_ n2_ n3_ n4_
        refine start_ (n := 47) (S := fun w' => w'.cell? ⟨gb388, 0, none⟩ = some (.int .i64 t383) ∧ w'.cell? ⟨gb388, 1, none⟩ = some (.slice Ao12 t384.length co12) ∧ w'.cell? ⟨gb395, 0, none⟩ = some (.int .i64 t391) ∧ w'.cell? ⟨gb395, 1, none⟩ = some (.slice Ao20 t392.length co20)) (ds := []) #[false, false, false, false, false, false, false, false, false, false, false, false, false, false, false, false, false, false, false, false, false, false, false, false, false, false, false, false, false, false, false, false, false, false, false, false, false, false, false, false, false, false, false, false, false, false, false] q11_22 rfl rfl ⟨(blk_cell BK388.out 0).trans rfl, (blk_cell BK388.out 1).trans rfl, (blk_cell BK395.out 0).trans rfl, (blk_cell BK395.out 1).trans rfl⟩ (fun hHeld => ?_); refine with_tabW laws_FnArrows.tab7 laws_FnArrows.bits7 (fun HT_ HW_ => ?_)
        generalize w36.drew = w37 at HO386 HO394 BK388 BK395 HB hHeld ⊢
        refine pure_ (i := 0) (N := some 26) (v := ?_) (a' := ?_) #[true, false, false, false, false, false, false, false, false, false, false, false, false, false, false, false, false, false, false, false, false, false, false, false, false, false, false, false, false, false, false, false, false, false, false, false, false, false, false, false, false, false, false, false, false, false, false] rfl rfl (any_of HT_.out q11_22) (fun _ _ _ h => h) (Or.inl ⟨by rfl, ?_⟩) ?_ ?_
        rotate_left
        ·
         intro w'
         go_simp
         with_reducible rfl
        rotate_left
        ·
         exact put11_
        refine pure_ (i := 2) (N := some 28) (v := ?_) (a' := ?_) #[true, false, true, false, false, false, false, false, false, false, false, false, false, false, false, false, false, false, false, false, false, false, false, false, false, false, false, false, false, false, false, false, false, false, false, false, false, false, false, false, false, false, false, false, false, false, false] rfl rfl (any_of HT_.out q11_22) (fun _ _ _ h => h) (Or.inl ⟨by rfl, ?_⟩) ?_ ?_
        rotate_left
        ·
         intro w'
         go_simp
         with_reducible rfl
        rotate_left
        ·
         exact put11_
        refine take_ (i := 1) (N := some 27) (v := ?_) (a' := ?_) #[true, true, true, false, false, false, false, false, false, false, false, false, false, false, false, false, false, false, false, false, false, false, false, false, false, false, false, false, false, false, false, false, false, false, false, false, false, false, false, false, false, false, false, false, false, false, false] rfl rfl (take_ofW HT_.out HW_.out q11_22) (fun _ _ _ h => h) (Or.inl ⟨by rfl, ?_⟩) hHeld ?_ ?_
        rotate_left
        ·
         rintro w' ⟨s0, s1, s2, s3⟩
         go_simp
         with_reducible rfl
        rotate_left
        ·
         exact put11_
        refine one_ (i := 3) (N := some 29) #[true, true, true, true, false, false, false, false, false, false, false, false, false, false, false, false, false, false, false, false, false, false, false, false, false, false, false, false, false, false, false, false, false, false, false, false, false, false, false, false, false, false, false, false, false, false, false] rfl rfl (one_of HT_.out q11_22) (by decide) (fun K hK => ?_)
        refine goes_ Try.func10 q11_22 rfl #[.agg #[.int .i64 t383, .slice Ao12 t384.length co12], .int .i64 t387] (by rfl) rfl rfl q11_8 ?_
        with_reducible refine (spec_DownArrows.calls k t383 _ _ t384 t387 t396 _ ?side1 ?side2 A21.out).mono ?_
        (case side1 => exact q11_4)
        (case side2 => exact (Kd.R_reads' HO386.out).2.1)
        rintro e w38 ⟨rfl, hb⟩
        refine ⟨_, rfl, ?_⟩
        have n0_ := Aside0.mk (Kd.R_below q11_14 hb)
        have n1_ := Aside0.mk (Kd.R_below q11_15 hb)
        have n2_ := Aside0.mk (blk_below (g := gb388) (o := .cells #[.int .i64 t383, .slice Ao12 t384.length co12] 26 (0, 0)) q11_10 hb)
        have n3_ := Aside0.mk (blk_below (g := gb395) (o := .cells #[.int .i64 t391, .slice Ao20 t392.length co20] 26 (0, 0)) q11_11 hb)
        have n4_ := Aside0.mk (below_step q11_2 hb)
        clear HO386
        clear HO394
        clear BK388
        clear BK395
        clear HB
        have HO386 := n0_
        have HO394 := n1_
        have BK388 := n2_
        have BK395 := n3_
        have HB := n4_
        clear n0_ n1_ n2_ n3_ n4_
        (try clear hb)
        (try clear hb2)
        (try clear hk)
        (try clear hi)
        refine hK.out _ _ ⟨(blk_cell BK388.out 0).trans rfl, (blk_cell BK388.out 1).trans rfl, (blk_cell BK395.out 0).trans rfl, (blk_cell BK395.out 1).trans rfl⟩ (fun hHeld => ?_)
        clear hK K
        refine norm_ (a' := ?_) ?_ ?_
        rotate_left
        ·
         show Act.put _ (some 29) _ = _
         exact put11_
        refine pure_ (i := 4) (N := some 30) (v := ?_) (a' := ?_) #[true, true, true, true, true, false, false, false, false, false, false, false, false, false, false, false, false, false, false, false, false, false, false, false, false, false, false, false, false, false, false, false, false, false, false, false, false, false, false, false, false, false, false, false, false, false, false] rfl rfl (any_of HT_.out q11_22) (fun _ _ _ h => h) (Or.inl ⟨by rfl, ?_⟩) ?_ ?_
        rotate_left
        ·
         intro w'
         go_simp
         with_reducible rfl
        rotate_left
        ·
         exact put11_
        refine pure_ (i := 5) (N := some 31) (v := ?_) (a' := ?_) #[true, true, true, true, true, true, false, false, false, false, false, false, false, false, false, false, false, false, false, false, false, false, false, false, false, false, false, false, false, false, false, false, false, false, false, false, false, false, false, false, false, false, false, false, false, false, false] rfl rfl (any_of HT_.out q11_22) (fun _ _ _ h => h) (Or.inl ⟨by rfl, ?_⟩) ?_ ?_
        rotate_left
        ·
         intro w'
         go_simp
         with_reducible rfl
        rotate_left
        ·
         exact put11_
        refine pure_ (i := 6) (N := some 32) (v := ?_) (a' := ?_) #[true, true, true, true, true, true, true, false, false, false, false, false, false, false, false, false, false, false, false, false, false, false, false, false, false, false, false, false, false, false, false, false, false, false, false, false, false, false, false, false, false, false, false, false, false, false, false] rfl rfl (any_of HT_.out q11_22) (fun _ _ _ h => h) (Or.inl ⟨by rfl, ?_⟩) ?_ ?_
        rotate_left
        ·
         intro w'
         go_simp
         with_reducible rfl
        rotate_left
        ·
         exact put11_
        refine pure_ (i := 8) (N := some 34) (v := ?_) (a' := ?_) #[true, true, true, true, true, true, true, false, true, false, false, false, false, false, false, false, false, false, false, false, false, false, false, false, false, false, false, false, false, false, false, false, false, false, false, false, false, false, false, false, false, false, false, false, false, false, false] rfl rfl (any_of HT_.out q11_22) (fun _ _ _ h => h) (Or.inl ⟨by rfl, ?_⟩) ?_ ?_
        rotate_left
        ·
         intro w'
         go_simp
         with_reducible rfl
        rotate_left
        ·
         exact put11_
        refine take_ (i := 7) (N := some 33) (v := ?_) (a' := ?_) #[true, true, true, true, true, true, true, true, true, false, false, false, false, false, false, false, false, false, false, false, false, false, false, false, false, false, false, false, false, false, false, false, false, false, false, false, false, false, false, false, false, false, false, false, false, false, false] rfl rfl (take_ofW HT_.out HW_.out q11_22) (fun _ _ _ h => h) (Or.inl ⟨by rfl, ?_⟩) hHeld ?_ ?_
        rotate_left
        ·
         rintro w' ⟨s0, s1, s2, s3⟩
         go_simp
         with_reducible rfl
        rotate_left
        ·
         exact put11_
        refine one_ (i := 9) (N := some 35) #[true, true, true, true, true, true, true, true, true, true, false, false, false, false, false, false, false, false, false, false, false, false, false, false, false, false, false, false, false, false, false, false, false, false, false, false, false, false, false, false, false, false, false, false, false, false, false] rfl rfl (one_of HT_.out q11_22) (by decide) (fun K hK => ?_)
        refine goes_ Try.func11 q11_22 rfl #[.agg #[.int .i64 t383, .slice Ao12 t384.length co12], .int .i64 t387] (by rfl) rfl rfl q11_8 ?_
        with_reducible refine (spec_UpArrows.calls k t383 _ _ t384 t387 t397 _ ?side1 ?side2 A23.out).mono ?_
        (case side1 => exact q11_4)
        (case side2 => exact (Kd.R_reads' HO386.out).2.1)
        rintro e w39 ⟨rfl, hb⟩
        refine ⟨_, rfl, ?_⟩
        have n0_ := Aside0.mk (Kd.R_below q11_14 hb)
        have n1_ := Aside0.mk (Kd.R_below q11_15 hb)
        have n2_ := Aside0.mk (blk_below (g := gb388) (o := .cells #[.int .i64 t383, .slice Ao12 t384.length co12] 26 (0, 0)) q11_10 hb)
        have n3_ := Aside0.mk (blk_below (g := gb395) (o := .cells #[.int .i64 t391, .slice Ao20 t392.length co20] 26 (0, 0)) q11_11 hb)
        have n4_ := Aside0.mk (below_step q11_2 hb)
        clear HO386
        clear HO394
        clear BK388
        clear BK395
        clear HB
        have HO386 := n0_
        have HO394 := n1_
        have BK388 := n2_
        have BK395 := n3_
        have HB := n4_
        clear n0_ n1_ n2_ n3_ n4_
        (try clear hb)
        (try clear hb2)
        (try clear hk)
        (try clear hi)
        refine hK.out _ _ ⟨(blk_cell BK388.out 0).trans rfl, (blk_cell BK388.out 1).trans rfl, (blk_cell BK395.out 0).trans rfl, (blk_cell BK395.out 1).trans rfl⟩ (fun hHeld => ?_)
        clear hK K
        refine norm_ (a' := ?_) ?_ ?_
        rotate_left
        ·
         show Act.put _ (some 35) _ = _
         exact put11_
        refine pure_ (i := 10) (N := some 36) (v := ?_) (a' := ?_) #[true, true, true, true, true, true, true, true, true, true, true, false, false, false, false, false, false, false, false, false, false, false, false, false, false, false, false, false, false, false, false, false, false, false, false, false, false, false, false, false, false, false, false, false, false, false, false] rfl rfl (any_of HT_.out q11_22) (fun _ _ _ h => h) (Or.inl ⟨by rfl, ?_⟩) ?_ ?_
        rotate_left
        ·
         intro w'
         go_simp
         with_reducible rfl
        rotate_left
        ·
         exact put11_
        refine pure_ (i := 11) (N := some 37) (v := ?_) (a' := ?_) #[true, true, true, true, true, true, true, true, true, true, true, true, false, false, false, false, false, false, false, false, false, false, false, false, false, false, false, false, false, false, false, false, false, false, false, false, false, false, false, false, false, false, false, false, false, false, false] rfl rfl (any_of HT_.out q11_22) (fun _ _ _ h => h) (Or.inl ⟨by rfl, ?_⟩) ?_ ?_
        rotate_left
        ·
         intro w'
         go_simp
         with_reducible rfl
        rotate_left
        ·
         exact put11_
        refine pure_ (i := 12) (N := some 38) (v := ?_) (a' := ?_) #[true, true, true, true, true, true, true, true, true, true, true, true, true, false, false, false, false, false, false, false, false, false, false, false, false, false, false, false, false, false, false, false, false, false, false, false, false, false, false, false, false, false, false, false, false, false, false] rfl rfl (any_of HT_.out q11_22) (fun _ _ _ h => h) (Or.inl ⟨by rfl, ?_⟩) ?_ ?_
        rotate_left
        ·
         intro w'
         go_simp
         with_reducible rfl
        rotate_left
        ·
         exact put11_
        refine pure_ (i := 14) (N := some 40) (v := ?_) (a' := ?_) #[true, true, true, true, true, true, true, true, true, true, true, true, true, false, true, false, false, false, false, false, false, false, false, false, false, false, false, false, false, false, false, false, false, false, false, false, false, false, false, false, false, false, false, false, false, false, false] rfl rfl (any_of HT_.out q11_22) (fun _ _ _ h => h) (Or.inl ⟨by rfl, ?_⟩) ?_ ?_
        rotate_left
        ·
         intro w'
         go_simp
         with_reducible rfl
        rotate_left
        ·
         exact put11_
        refine pure_ (i := 16) (N := some 42) (v := ?_) (a' := ?_) #[true, true, true, true, true, true, true, true, true, true, true, true, true, false, true, false, true, false, false, false, false, false, false, false, false, false, false, false, false, false, false, false, false, false, false, false, false, false, false, false, false, false, false, false, false, false, false] rfl rfl (any_of HT_.out q11_22) (fun _ _ _ h => h) (Or.inl ⟨by rfl, ?_⟩) ?_ ?_
        rotate_left
        ·
         intro w'
         go_simp
         with_reducible rfl
        rotate_left
        ·
         exact put11_
        refine pure_ (i := 17) (N := some 43) (v := ?_) (a' := ?_) #[true, true, true, true, true, true, true, true, true, true, true, true, true, false, true, false, true, true, false, false, false, false, false, false, false, false, false, false, false, false, false, false, false, false, false, false, false, false, false, false, false, false, false, false, false, false, false] rfl rfl (any_of HT_.out q11_22) (fun _ _ _ h => h) (Or.inl ⟨by rfl, ?_⟩) ?_ ?_
        rotate_left
        ·
         intro w'
         go_simp
         with_reducible rfl
        rotate_left
        ·
         exact put11_
        refine pure_ (i := 18) (N := some 44) (v := ?_) (a' := ?_) #[true, true, true, true, true, true, true, true, true, true, true, true, true, false, true, false, true, true, true, false, false, false, false, false, false, false, false, false, false, false, false, false, false, false, false, false, false, false, false, false, false, false, false, false, false, false, false] rfl rfl (any_of HT_.out q11_22) (fun _ _ _ h => h) (Or.inl ⟨by rfl, ?_⟩) ?_ ?_
        rotate_left
        ·
         intro w'
         go_simp
         with_reducible rfl
        rotate_left
        ·
         exact put11_
        refine take_ (i := 13) (N := some 39) (v := ?_) (a' := ?_) #[true, true, true, true, true, true, true, true, true, true, true, true, true, true, true, false, true, true, true, false, false, false, false, false, false, false, false, false, false, false, false, false, false, false, false, false, false, false, false, false, false, false, false, false, false, false, false] rfl rfl (take_ofW HT_.out HW_.out q11_22) (fun _ _ _ h => h) (Or.inl ⟨by rfl, ?_⟩) hHeld ?_ ?_
        rotate_left
        ·
         rintro w' ⟨s0, s1, s2, s3⟩
         go_simp
         with_reducible rfl
        rotate_left
        ·
         exact put11_
        refine one_ (i := 15) (N := some 41) #[true, true, true, true, true, true, true, true, true, true, true, true, true, true, true, true, true, true, true, false, false, false, false, false, false, false, false, false, false, false, false, false, false, false, false, false, false, false, false, false, false, false, false, false, false, false, false] rfl rfl (one_of HT_.out q11_22) (by decide) (fun K hK => ?_)
        refine goes_ Try.func12 q11_22 rfl #[.agg #[.int .i64 t383, .slice Ao12 t384.length co12], .int .i64 t387] (by rfl) rfl rfl q11_8 ?_
        with_reducible refine (impl_DoubleArrows.calls k t383 _ _ t384 t387 t398 _ ?side1 ?side2 A25.out).mono ?_
        (case side1 => exact q11_4)
        (case side2 => exact (Kd.R_reads' HO386.out).2.1)
        rintro e w40 ⟨rfl, hb⟩
        refine ⟨_, rfl, ?_⟩
        have n0_ := Aside0.mk (Kd.R_below q11_14 hb)
        have n1_ := Aside0.mk (Kd.R_below q11_15 hb)
        have n2_ := Aside0.mk (blk_below (g := gb388) (o := .cells #[.int .i64 t383, .slice Ao12 t384.length co12] 26 (0, 0)) q11_10 hb)
        have n3_ := Aside0.mk (blk_below (g := gb395) (o := .cells #[.int .i64 t391, .slice Ao20 t392.length co20] 26 (0, 0)) q11_11 hb)
        have n4_ := Aside0.mk (below_step q11_2 hb)
        clear HO386
        clear HO394
        clear BK388
        clear BK395
        clear HB
        have HO386 := n0_
        have HO394 := n1_
        have BK388 := n2_
        have BK395 := n3_
        have HB := n4_
        clear n0_ n1_ n2_ n3_ n4_
        (try clear hb)
        (try clear hb2)
        (try clear hk)
        (try clear hi)
        refine hK.out _ _ ⟨(blk_cell BK388.out 0).trans rfl, (blk_cell BK388.out 1).trans rfl, (blk_cell BK395.out 0).trans rfl, (blk_cell BK395.out 1).trans rfl⟩ (fun hHeld => ?_)
        clear hK K
        refine norm_ (a' := ?_) ?_ ?_
        rotate_left
        ·
         show Act.put _ (some 41) _ = _
         exact put11_
        refine pure_ (i := 19) (N := some 45) (v := ?_) (a' := ?_) #[true, true, true, true, true, true, true, true, true, true, true, true, true, true, true, true, true, true, true, true, false, false, false, false, false, false, false, false, false, false, false, false, false, false, false, false, false, false, false, false, false, false, false, false, false, false, false] rfl rfl (any_of HT_.out q11_22) (fun _ _ _ h => h) (Or.inl ⟨by rfl, ?_⟩) ?_ ?_
        rotate_left
        ·
         intro w'
         go_simp
         with_reducible rfl
        rotate_left
        ·
         exact put11_
        refine pure_ (i := 20) (N := some 46) (v := ?_) (a' := ?_) #[true, true, true, true, true, true, true, true, true, true, true, true, true, true, true, true, true, true, true, true, true, false, false, false, false, false, false, false, false, false, false, false, false, false, false, false, false, false, false, false, false, false, false, false, false, false, false] rfl rfl (any_of HT_.out q11_22) (fun _ _ _ h => h) (Or.inl ⟨by rfl, ?_⟩) ?_ ?_
        rotate_left
        ·
         intro w'
         go_simp
         with_reducible rfl
        rotate_left
        ·
         exact put11_
        refine pure_ (i := 21) (N := some 47) (v := ?_) (a' := ?_) #[true, true, true, true, true, true, true, true, true, true, true, true, true, true, true, true, true, true, true, true, true, true, false, false, false, false, false, false, false, false, false, false, false, false, false, false, false, false, false, false, false, false, false, false, false, false, false] rfl rfl (any_of HT_.out q11_22) (fun _ _ _ h => h) (Or.inl ⟨by rfl, ?_⟩) ?_ ?_
        rotate_left
        ·
         intro w'
         go_simp
         with_reducible rfl
        rotate_left
        ·
         exact put11_
        refine take_ (i := 22) (N := some 48) (v := ?_) (a' := ?_) #[true, true, true, true, true, true, true, true, true, true, true, true, true, true, true, true, true, true, true, true, true, true, true, false, false, false, false, false, false, false, false, false, false, false, false, false, false, false, false, false, false, false, false, false, false, false, false] rfl rfl (take_ofW HT_.out HW_.out q11_22) (fun _ _ _ h => h) (Or.inl ⟨by rfl, ?_⟩) hHeld ?_ ?_
        rotate_left
        ·
         rintro w' ⟨s0, s1, s2, s3⟩
         go_simp
         with_reducible rfl
        rotate_left
        ·
         exact put11_
        refine take_ (i := 24) (N := some 50) (v := ?_) (a' := ?_) #[true, true, true, true, true, true, true, true, true, true, true, true, true, true, true, true, true, true, true, true, true, true, true, false, true, false, false, false, false, false, false, false, false, false, false, false, false, false, false, false, false, false, false, false, false, false, false] rfl rfl (take_ofW HT_.out HW_.out q11_22) (fun _ _ _ h => h) (Or.inl ⟨by rfl, ?_⟩) hHeld ?_ ?_
        rotate_left
        ·
         rintro w' ⟨s0, s1, s2, s3⟩
         go_simp
         with_reducible rfl
        rotate_left
        ·
         exact put11_
        refine one_ (i := 23) (N := some 49) #[true, true, true, true, true, true, true, true, true, true, true, true, true, true, true, true, true, true, true, true, true, true, true, true, true, false, false, false, false, false, false, false, false, false, false, false, false, false, false, false, false, false, false, false, false, false, false] rfl rfl (one_of HT_.out q11_22) (by decide) (fun K hK => ?_)
        refine goes_ Try.func14 q11_22 rfl #[.agg #[.int .i64 t391, .slice Ao20 t392.length co20]] (by rfl) rfl rfl q11_8 ?_
        with_reducible refine (impl_ArrowText.calls k t391 _ _ t392 t399 _ ?side1 ?side2 A27.out).mono ?_
        (case side1 => exact q11_5)
        (case side2 => exact (Kd.R_reads' HO394.out).2.1)
        rintro e w41 ⟨v400, rfl, ho0, hb⟩
        refine ⟨_, rfl, ?_⟩
        have n0_ := Aside0.mk (Kd.R_below q11_14 hb)
        have n1_ := Aside0.mk (Kd.R_below q11_15 hb)
        have n2_ := Aside0.mk (Kd.R_lower ho0 (below_size q11_2))
        have n3_ := Aside0.mk (blk_below (g := gb388) (o := .cells #[.int .i64 t383, .slice Ao12 t384.length co12] 26 (0, 0)) q11_10 hb)
        have n4_ := Aside0.mk (blk_below (g := gb395) (o := .cells #[.int .i64 t391, .slice Ao20 t392.length co20] 26 (0, 0)) q11_11 hb)
        have n5_ := Aside0.mk (below_step q11_2 hb)
        clear HO386
        clear HO394
        clear BK388
        clear BK395
        clear HB
        have HO386 := n0_
        have HO394 := n1_
        have HO401 := n2_
        have BK388 := n3_
        have BK395 := n4_
        have HB := n5_
        clear n0_ n1_ n2_ n3_ n4_ n5_
        (try clear hb)
        (try clear hb2)
        (try clear hk)
        (try clear hi)
        (try clear ho0)
        refine hK.out _ _ ⟨(blk_cell BK388.out 0).trans rfl, (blk_cell BK388.out 1).trans rfl, (blk_cell BK395.out 0).trans rfl, (blk_cell BK395.out 1).trans rfl⟩ (fun hHeld => ?_)
        clear hK K
        refine norm_ (a' := ?_) ?_ ?_
        rotate_left
        ·
         show Act.put _ (some 49) _ = _
         exact put11_
        refine one_ (i := 25) (N := some 51) #[true, true, true, true, true, true, true, true, true, true, true, true, true, true, true, true, true, true, true, true, true, true, true, true, true, true, false, false, false, false, false, false, false, false, false, false, false, false, false, false, false, false, false, false, false, false, false] rfl rfl (one_of HT_.out q11_22) (by decide) (fun K hK => ?_)
        refine goes_ Try.func15 q11_22 rfl #[.agg #[.int .i64 t391, .slice Ao20 t392.length co20]] (by rfl) rfl rfl q11_8 ?_
        with_reducible refine (spec_ArrowText.calls k t391 _ _ t392 t402 _ ?side1 ?side2 A28.out).mono ?_
        (case side1 => exact q11_5)
        (case side2 => exact (Kd.R_reads' HO394.out).2.1)
        rintro e w42 ⟨v403, rfl, ho0, hb⟩
        refine ⟨_, rfl, ?_⟩
        have n0_ := Aside0.mk (Kd.R_below q11_14 hb)
        have n1_ := Aside0.mk (Kd.R_below q11_15 hb)
        have n2_ := Aside0.mk (Kd.R_elder' q11_16 (Kd.R_base ho0) hb)
        have n3_ := Aside0.mk (Kd.R_lower (Kd.R_new' ho0 (Kd.R_lt q11_16)) (below_size q11_2))
        have n4_ := Aside0.mk (blk_below (g := gb388) (o := .cells #[.int .i64 t383, .slice Ao12 t384.length co12] 26 (0, 0)) q11_10 hb)
        have n5_ := Aside0.mk (blk_below (g := gb395) (o := .cells #[.int .i64 t391, .slice Ao20 t392.length co20] 26 (0, 0)) q11_11 hb)
        have n6_ := Aside0.mk (below_step q11_2 hb)
        clear HO386
        clear HO394
        clear HO401
        clear BK388
        clear BK395
        clear HB
        have HO386 := n0_
        have HO394 := n1_
        have HO401 := n2_
        have HO404 := n3_
        have BK388 := n4_
        have BK395 := n5_
        have HB := n6_
        clear n0_ n1_ n2_ n3_ n4_ n5_ n6_
        (try clear hb)
        (try clear hb2)
        (try clear hk)
        (try clear hi)
        (try clear ho0)
        obtain ⟨Ao43, co43, eo43⟩ := Kd.R_slice HO401.out
        (first | subst eo43 | (injection eo43 with f1_ f2_ f3_; have f4_ := f1_.symm; have f5_ := f3_.symm; clear f1_ f2_ f3_; subst f4_; subst f5_))
        obtain ⟨Ao44, co44, eo44⟩ := Kd.R_slice HO404.out
        (first | subst eo44 | (injection eo44 with f1_ f2_ f3_; have f4_ := f1_.symm; have f5_ := f3_.symm; clear f1_ f2_ f3_; subst f4_; subst f5_))
        refine hK.out _ _ ⟨(blk_cell BK388.out 0).trans rfl, (blk_cell BK388.out 1).trans rfl, (blk_cell BK395.out 0).trans rfl, (blk_cell BK395.out 1).trans rfl⟩ (fun hHeld => ?_)
        clear hK K
        refine norm_ (a' := ?_) ?_ ?_
        rotate_left
        ·
         show Act.put _ (some 51) _ = _
         exact put11_
        refine one_ (i := 26) (N := some 52) #[true, true, true, true, true, true, true, true, true, true, true, true, true, true, true, true, true, true, true, true, true, true, true, true, true, true, true, false, false, false, false, false, false, false, false, false, false, false, false, false, false, false, false, false, false, false, false] rfl rfl (one_of HT_.out q11_22) (by decide) (fun K hK => ?_)
        refine goes_ Try.func13 q11_22 rfl #[.slice Ao43 t399.length co43, .slice Ao44 t402.length co44] (by rfl) rfl rfl q11_8 ?_
        with_reducible refine (laws_sameTexts.calls k _ _ t399 _ _ t402 true _ ?side1 ?side2 ?side3 ?side4 A29.out).mono ?_
        (case side1 => repeat (first | exact (Kd.R_reads' HO401.out).2.2 | (with_reducible refine Kd.C_alloc ?_ _) | (with_reducible refine Kd.C_drewN ?_ _) | (with_reducible refine Kd.C_drew ?_)))
        (case side2 => exact (Kd.R_reads' HO401.out).2.1)
        (case side3 => repeat (first | exact (Kd.R_reads' HO404.out).2.2 | (with_reducible refine Kd.C_alloc ?_ _) | (with_reducible refine Kd.C_drewN ?_ _) | (with_reducible refine Kd.C_drew ?_)))
        (case side4 => exact (Kd.R_reads' HO404.out).2.1)
        rintro e w' ⟨rfl, ⟨nd, rfl⟩⟩
        refine ⟨_, rfl, ?_⟩
        refine hK.out _ _ ⟨(blk_cell BK388.out 0).trans rfl, (blk_cell BK388.out 1).trans rfl, (blk_cell BK395.out 0).trans rfl, (blk_cell BK395.out 1).trans rfl⟩ (fun hHeld => ?_)
        clear hK K
        refine norm_ (a' := ?_) ?_ ?_
        rotate_left
        ·
         show Act.put _ (some 52) _ = _
         exact put11_
        refine pure_ (i := 27) (N := some 53) (v := ?_) (a' := ?_) #[true, true, true, true, true, true, true, true, true, true, true, true, true, true, true, true, true, true, true, true, true, true, true, true, true, true, true, true, false, false, false, false, false, false, false, false, false, false, false, false, false, false, false, false, false, false, false] rfl rfl (any_of HT_.out q11_22) (fun _ _ _ h => h) (Or.inl ⟨by rfl, ?_⟩) ?_ ?_
        rotate_left
        ·
         intro w'
         go_simp
         with_reducible rfl
        rotate_left
        ·
         exact put11_
        refine pure_ (i := 28) (N := some 54) (v := ?_) (a' := ?_) #[true, true, true, true, true, true, true, true, true, true, true, true, true, true, true, true, true, true, true, true, true, true, true, true, true, true, true, true, true, false, false, false, false, false, false, false, false, false, false, false, false, false, false, false, false, false, false] rfl rfl (any_of HT_.out q11_22) (fun _ _ _ h => h) (Or.inl ⟨by rfl, ?_⟩) ?_ ?_
        rotate_left
        ·
         intro w'
         go_simp
         with_reducible rfl
        rotate_left
        ·
         exact put11_
        refine pure_ (i := 29) (N := some 55) (v := ?_) (a' := ?_) #[true, true, true, true, true, true, true, true, true, true, true, true, true, true, true, true, true, true, true, true, true, true, true, true, true, true, true, true, true, true, false, false, false, false, false, false, false, false, false, false, false, false, false, false, false, false, false] rfl rfl (any_of HT_.out q11_22) (fun _ _ _ h => h) (Or.inl ⟨by rfl, ?_⟩) ?_ ?_
        rotate_left
        ·
         intro w'
         go_simp
         with_reducible rfl
        rotate_left
        ·
         exact put11_
        refine pure_ (i := 31) (N := some 57) (v := ?_) (a' := ?_) #[true, true, true, true, true, true, true, true, true, true, true, true, true, true, true, true, true, true, true, true, true, true, true, true, true, true, true, true, true, true, false, true, false, false, false, false, false, false, false, false, false, false, false, false, false, false, false] rfl rfl (any_of HT_.out q11_22) (fun _ _ _ h => h) (Or.inl ⟨by rfl, ?_⟩) ?_ ?_
        rotate_left
        ·
         intro w'
         go_simp
         with_reducible rfl
        rotate_left
        ·
         exact put11_
        refine pure_ (i := 34) (N := some 60) (v := ?_) (a' := ?_) #[true, true, true, true, true, true, true, true, true, true, true, true, true, true, true, true, true, true, true, true, true, true, true, true, true, true, true, true, true, true, false, true, false, false, true, false, false, false, false, false, false, false, false, false, false, false, false] rfl rfl (any_of HT_.out q11_22) (fun _ _ _ h => h) (Or.inl ⟨by rfl, ?_⟩) ?_ ?_
        rotate_left
        ·
         intro w'
         go_simp
         with_reducible rfl
        rotate_left
        ·
         exact put11_
        refine take_ (i := 30) (N := some 56) (v := ?_) (a' := ?_) #[true, true, true, true, true, true, true, true, true, true, true, true, true, true, true, true, true, true, true, true, true, true, true, true, true, true, true, true, true, true, true, true, false, false, true, false, false, false, false, false, false, false, false, false, false, false, false] rfl rfl (take_ofW HT_.out HW_.out q11_22) (fun _ _ _ h => h) (Or.inl ⟨by rfl, ?_⟩) hHeld ?_ ?_
        rotate_left
        ·
         rintro w' ⟨s0, s1, s2, s3⟩
         go_simp
         with_reducible rfl
        rotate_left
        ·
         exact put11_
        refine take_ (i := 33) (N := some 59) (v := ?_) (a' := ?_) #[true, true, true, true, true, true, true, true, true, true, true, true, true, true, true, true, true, true, true, true, true, true, true, true, true, true, true, true, true, true, true, true, false, true, true, false, false, false, false, false, false, false, false, false, false, false, false] rfl rfl (take_ofW HT_.out HW_.out q11_22) (fun _ _ _ h => h) (Or.inl ⟨by rfl, ?_⟩) hHeld ?_ ?_
        rotate_left
        ·
         rintro w' ⟨s0, s1, s2, s3⟩
         go_simp
         with_reducible rfl
        rotate_left
        ·
         exact put11_
        refine one_ (i := 32) (N := some 58) #[true, true, true, true, true, true, true, true, true, true, true, true, true, true, true, true, true, true, true, true, true, true, true, true, true, true, true, true, true, true, true, true, true, true, true, false, false, false, false, false, false, false, false, false, false, false, false] rfl rfl (one_of HT_.out q11_22) (by decide) (fun K hK => ?_)
        refine goes_ Try.func16 q11_22 rfl #[.agg #[.int .i64 t383, .slice Ao12 t384.length co12], .int .i64 t387] (by rfl) rfl rfl q11_8 ?_
        with_reducible refine (impl_IsIrreducibleObject.calls k t383 _ _ t384 t387 t406 _ ?side1 ?side2 A31.out).mono ?_
        (case side1 => exact q11_4)
        (case side2 => exact (Kd.R_reads' HO386.out).2.1)
        rintro e w45 ⟨rfl, hb⟩
        refine ⟨_, rfl, ?_⟩
        have n0_ := Aside0.mk (Kd.R_below q11_14 hb)
        have n1_ := Aside0.mk (Kd.R_below q11_15 hb)
        have n2_ := Aside0.mk (Kd.R_below q11_16 hb)
        have n3_ := Aside0.mk (Kd.R_below q11_17 hb)
        have n4_ := Aside0.mk (blk_below (g := gb388) (o := .cells #[.int .i64 t383, .slice Ao12 t384.length co12] 26 (0, 0)) q11_10 hb)
        have n5_ := Aside0.mk (blk_below (g := gb395) (o := .cells #[.int .i64 t391, .slice Ao20 t392.length co20] 26 (0, 0)) q11_11 hb)
        have n6_ := Aside0.mk (below_step q11_2 hb)
        clear HO386
        clear HO394
        clear HO401
        clear HO404
        clear BK388
        clear BK395
        clear HB
        have HO386 := n0_
        have HO394 := n1_
        have HO401 := n2_
        have HO404 := n3_
        have BK388 := n4_
        have BK395 := n5_
        have HB := n6_
        clear n0_ n1_ n2_ n3_ n4_ n5_ n6_
        (try clear hb)
        (try clear hb2)
        (try clear hk)
        (try clear hi)
        refine hK.out _ _ ⟨(blk_cell BK388.out 0).trans rfl, (blk_cell BK388.out 1).trans rfl, (blk_cell BK395.out 0).trans rfl, (blk_cell BK395.out 1).trans rfl⟩ (fun hHeld => ?_)
        clear hK K
        refine norm_ (a' := ?_) ?_ ?_
        rotate_left
        ·
         show Act.put _ (some 58) _ = _
         exact put11_
        refine one_ (i := 35) (N := some 61) #[true, true, true, true, true, true, true, true, true, true, true, true, true, true, true, true, true, true, true, true, true, true, true, true, true, true, true, true, true, true, true, true, true, true, true, true, false, false, false, false, false, false, false, false, false, false, false] rfl rfl (one_of HT_.out q11_22) (by decide) (fun K hK => ?_)
        refine goes_ Try.func17 q11_22 rfl #[.agg #[.int .i64 t383, .slice Ao12 t384.length co12], .int .i64 t387] (by rfl) rfl rfl q11_8 ?_
        with_reducible refine (spec_IsIrreducibleObject.calls k t383 _ _ t384 t387 t407 _ ?side1 ?side2 A32.out).mono ?_
        (case side1 => exact q11_4)
        (case side2 => exact (Kd.R_reads' HO386.out).2.1)
        rintro e w46 ⟨rfl, hb⟩
        refine ⟨_, rfl, ?_⟩
        have n0_ := Aside0.mk (Kd.R_below q11_14 hb)
        have n1_ := Aside0.mk (Kd.R_below q11_15 hb)
        have n2_ := Aside0.mk (Kd.R_below q11_16 hb)
        have n3_ := Aside0.mk (Kd.R_below q11_17 hb)
        have n4_ := Aside0.mk (blk_below (g := gb388) (o := .cells #[.int .i64 t383, .slice Ao12 t384.length co12] 26 (0, 0)) q11_10 hb)
        have n5_ := Aside0.mk (blk_below (g := gb395) (o := .cells #[.int .i64 t391, .slice Ao20 t392.length co20] 26 (0, 0)) q11_11 hb)
        have n6_ := Aside0.mk (below_step q11_2 hb)
        clear HO386
        clear HO394
        clear HO401
        clear HO404
        clear BK388
        clear BK395
        clear HB
        have HO386 := n0_
        have HO394 := n1_
        have HO401 := n2_
        have HO404 := n3_
        have BK388 := n4_
        have BK395 := n5_
        have HB := n6_
        clear n0_ n1_ n2_ n3_ n4_ n5_ n6_
        (try clear hb)
        (try clear hb2)
        (try clear hk)
        (try clear hi)
        refine hK.out _ _ ⟨(blk_cell BK388.out 0).trans rfl, (blk_cell BK388.out 1).trans rfl, (blk_cell BK395.out 0).trans rfl, (blk_cell BK395.out 1).trans rfl⟩ (fun hHeld => ?_)
        clear hK K
        refine norm_ (a' := ?_) ?_ ?_
        rotate_left
        ·
         show Act.put _ (some 61) _ = _
         exact put11_
        refine pure_ (i := 36) (N := some 62) (v := ?_) (a' := ?_) #[true, true, true, true, true, true, true, true, true, true, true, true, true, true, true, true, true, true, true, true, true, true, true, true, true, true, true, true, true, true, true, true, true, true, true, true, true, false, false, false, false, false, false, false, false, false, false] rfl rfl (any_of HT_.out q11_22) (fun _ _ _ h => h) (Or.inl ⟨by rfl, ?_⟩) ?_ ?_
        rotate_left
        ·
         intro w'
         go_simp
         with_reducible rfl
        rotate_left
        ·
         exact put11_
        refine pure_ (i := 37) (N := some 63) (v := ?_) (a' := ?_) #[true, true, true, true, true, true, true, true, true, true, true, true, true, true, true, true, true, true, true, true, true, true, true, true, true, true, true, true, true, true, true, true, true, true, true, true, true, true, false, false, false, false, false, false, false, false, false] rfl rfl (any_of HT_.out q11_22) (fun _ _ _ h => h) (Or.inl ⟨by rfl, ?_⟩) ?_ ?_
        rotate_left
        ·
         intro w'
         go_simp
         with_reducible rfl
        rotate_left
        ·
         exact put11_
        refine pure_ (i := 38) (N := some 64) (v := ?_) (a' := ?_) #[true, true, true, true, true, true, true, true, true, true, true, true, true, true, true, true, true, true, true, true, true, true, true, true, true, true, true, true, true, true, true, true, true, true, true, true, true, true, true, false, false, false, false, false, false, false, false] rfl rfl (any_of HT_.out q11_22) (fun _ _ _ h => h) (Or.inl ⟨by rfl, ?_⟩) ?_ ?_
        rotate_left
        ·
         intro w'
         go_simp
         with_reducible rfl
        rotate_left
        ·
         exact put11_
        refine pure_ (i := 40) (N := some 66) (v := ?_) (a' := ?_) #[true, true, true, true, true, true, true, true, true, true, true, true, true, true, true, true, true, true, true, true, true, true, true, true, true, true, true, true, true, true, true, true, true, true, true, true, true, true, true, false, true, false, false, false, false, false, false] rfl rfl (any_of HT_.out q11_22) (fun _ _ _ h => h) (Or.inl ⟨by rfl, ?_⟩) ?_ ?_
        rotate_left
        ·
         intro w'
         go_simp
         with_reducible rfl
        rotate_left
        ·
         exact put11_
        refine pure_ (i := 43) (N := some 69) (v := ?_) (a' := ?_) #[true, true, true, true, true, true, true, true, true, true, true, true, true, true, true, true, true, true, true, true, true, true, true, true, true, true, true, true, true, true, true, true, true, true, true, true, true, true, true, false, true, false, false, true, false, false, false] rfl rfl (any_of HT_.out q11_22) (fun _ _ _ h => h) (Or.inl ⟨by rfl, ?_⟩) ?_ ?_
        rotate_left
        ·
         intro w'
         go_simp
         with_reducible rfl
        rotate_left
        ·
         exact put11_
        refine take_ (i := 39) (N := some 65) (v := ?_) (a' := ?_) #[true, true, true, true, true, true, true, true, true, true, true, true, true, true, true, true, true, true, true, true, true, true, true, true, true, true, true, true, true, true, true, true, true, true, true, true, true, true, true, true, true, false, false, true, false, false, false] rfl rfl (take_ofW HT_.out HW_.out q11_22) (fun _ _ _ h => h) (Or.inl ⟨by rfl, ?_⟩) hHeld ?_ ?_
        rotate_left
        ·
         rintro w' ⟨s0, s1, s2, s3⟩
         go_simp
         with_reducible rfl
        rotate_left
        ·
         exact put11_
        refine take_ (i := 42) (N := some 68) (v := ?_) (a' := ?_) #[true, true, true, true, true, true, true, true, true, true, true, true, true, true, true, true, true, true, true, true, true, true, true, true, true, true, true, true, true, true, true, true, true, true, true, true, true, true, true, true, true, false, true, true, false, false, false] rfl rfl (take_ofW HT_.out HW_.out q11_22) (fun _ _ _ h => h) (Or.inl ⟨by rfl, ?_⟩) hHeld ?_ ?_
        rotate_left
        ·
         rintro w' ⟨s0, s1, s2, s3⟩
         go_simp
         with_reducible rfl
        rotate_left
        ·
         exact put11_
        refine one_ (i := 41) (N := some 67) #[true, true, true, true, true, true, true, true, true, true, true, true, true, true, true, true, true, true, true, true, true, true, true, true, true, true, true, true, true, true, true, true, true, true, true, true, true, true, true, true, true, true, true, true, false, false, false] rfl rfl (one_of HT_.out q11_22) (by decide) (fun K hK => ?_)
        refine goes_ Try.func18 q11_22 rfl #[.agg #[.int .i64 t383, .slice Ao12 t384.length co12], .int .i64 t387] (by rfl) rfl rfl q11_8 ?_
        with_reducible refine (impl_IsIrreducibleAttribute.calls k t383 _ _ t384 t387 t408 _ ?side1 ?side2 A34.out).mono ?_
        (case side1 => exact q11_4)
        (case side2 => exact (Kd.R_reads' HO386.out).2.1)
        rintro e w47 ⟨rfl, hb⟩
        refine ⟨_, rfl, ?_⟩
        have n0_ := Aside0.mk (Kd.R_below q11_14 hb)
        have n1_ := Aside0.mk (Kd.R_below q11_15 hb)
        have n2_ := Aside0.mk (Kd.R_below q11_16 hb)
        have n3_ := Aside0.mk (Kd.R_below q11_17 hb)
        have n4_ := Aside0.mk (blk_below (g := gb388) (o := .cells #[.int .i64 t383, .slice Ao12 t384.length co12] 26 (0, 0)) q11_10 hb)
        have n5_ := Aside0.mk (blk_below (g := gb395) (o := .cells #[.int .i64 t391, .slice Ao20 t392.length co20] 26 (0, 0)) q11_11 hb)
        have n6_ := Aside0.mk (below_step q11_2 hb)
        clear HO386
        clear HO394
        clear HO401
        clear HO404
        clear BK388
        clear BK395
        clear HB
        have HO386 := n0_
        have HO394 := n1_
        have HO401 := n2_
        have HO404 := n3_
        have BK388 := n4_
        have BK395 := n5_
        have HB := n6_
        clear n0_ n1_ n2_ n3_ n4_ n5_ n6_
        (try clear hb)
        (try clear hb2)
        (try clear hk)
        (try clear hi)
        refine hK.out _ _ ⟨(blk_cell BK388.out 0).trans rfl, (blk_cell BK388.out 1).trans rfl, (blk_cell BK395.out 0).trans rfl, (blk_cell BK395.out 1).trans rfl⟩ (fun hHeld => ?_)
        clear hK K
        refine norm_ (a' := ?_) ?_ ?_
        rotate_left
        ·
         show Act.put _ (some 67) _ = _
         exact put11_
        refine one_ (i := 44) (N := some 70) #[true, true, true, true, true, true, true, true, true, true, true, true, true, true, true, true, true, true, true, true, true, true, true, true, true, true, true, true, true, true, true, true, true, true, true, true, true, true, true, true, true, true, true, true, true, false, false] rfl rfl (one_of HT_.out q11_22) (by decide) (fun K hK => ?_)
        refine goes_ Try.func19 q11_22 rfl #[.agg #[.int .i64 t383, .slice Ao12 t384.length co12], .int .i64 t387] (by rfl) rfl rfl q11_8 ?_
        with_reducible refine (spec_IsIrreducibleAttribute.calls k t383 _ _ t384 t387 t409 _ ?side1 ?side2 A35.out).mono ?_
        (case side1 => exact q11_4)
        (case side2 => exact (Kd.R_reads' HO386.out).2.1)
        rintro e w48 ⟨rfl, hb⟩
        refine ⟨_, rfl, ?_⟩
        have n0_ := Aside0.mk (Kd.R_below q11_14 hb)
        have n1_ := Aside0.mk (Kd.R_below q11_15 hb)
        have n2_ := Aside0.mk (Kd.R_below q11_16 hb)
        have n3_ := Aside0.mk (Kd.R_below q11_17 hb)
        have n4_ := Aside0.mk (blk_below (g := gb388) (o := .cells #[.int .i64 t383, .slice Ao12 t384.length co12] 26 (0, 0)) q11_10 hb)
        have n5_ := Aside0.mk (blk_below (g := gb395) (o := .cells #[.int .i64 t391, .slice Ao20 t392.length co20] 26 (0, 0)) q11_11 hb)
        have n6_ := Aside0.mk (below_step q11_2 hb)
        clear HO386
        clear HO394
        clear HO401
        clear HO404
        clear BK388
        clear BK395
        clear HB
        have HO386 := n0_
        have HO394 := n1_
        have HO401 := n2_
        have HO404 := n3_
        have BK388 := n4_
        have BK395 := n5_
        have HB := n6_
        clear n0_ n1_ n2_ n3_ n4_ n5_ n6_
        (try clear hb)
        (try clear hb2)
        (try clear hk)
        (try clear hi)
        refine hK.out _ _ ⟨(blk_cell BK388.out 0).trans rfl, (blk_cell BK388.out 1).trans rfl, (blk_cell BK395.out 0).trans rfl, (blk_cell BK395.out 1).trans rfl⟩ (fun hHeld => ?_)
        clear hK K
        refine norm_ (a' := ?_) ?_ ?_
        rotate_left
        ·
         show Act.put _ (some 70) _ = _
         exact put11_
        refine pure_ (i := 45) (N := some 71) (v := ?_) (a' := ?_) #[true, true, true, true, true, true, true, true, true, true, true, true, true, true, true, true, true, true, true, true, true, true, true, true, true, true, true, true, true, true, true, true, true, true, true, true, true, true, true, true, true, true, true, true, true, true, false] rfl rfl (any_of HT_.out q11_22) (fun _ _ _ h => h) (Or.inl ⟨by rfl, ?_⟩) ?_ ?_
        rotate_left
        ·
         intro w'
         go_simp
         with_reducible rfl
        rotate_left
        ·
         exact put11_
        refine pure_ (i := 46) (N := some 72) (v := ?_) (a' := ?_) #[true, true, true, true, true, true, true, true, true, true, true, true, true, true, true, true, true, true, true, true, true, true, true, true, true, true, true, true, true, true, true, true, true, true, true, true, true, true, true, true, true, true, true, true, true, true, true] rfl rfl (any_of HT_.out q11_22) (fun _ _ _ h => h) (Or.inl ⟨by rfl, ?_⟩) ?_ ?_
        rotate_left
        ·
         intro w'
         go_simp
         with_reducible rfl
        rotate_left
        ·
         exact put11_
        refine done_ (done_of HT_.out q11_22) ?_
        try go_wp2
        go_meet
        case rel => exact ⟨_, ((t408 != t409)), q11_18, H', ⟨by first | omega | exact Nat.le_refl _⟩, ⟨by (with_reducible repeat (first | apply Kd.R_alloc | apply Kd.R_drewN | apply Kd.R_drew)); exact HO386.out⟩, ⟨by (with_reducible repeat (first | apply Kd.R_alloc | apply Kd.R_drewN | apply Kd.R_drew)); exact HO394.out⟩, ⟨by (with_reducible repeat (first | refine blk_drewN ?_ _ | refine blk_drew ?_ | refine blk_alloc ?_ _)); exact BK388.out⟩, ⟨by (with_reducible repeat (first | refine blk_drewN ?_ _ | refine blk_drew ?_ | refine blk_alloc ?_ _)); exact BK395.out⟩, ⟨by repeat (first | (with_reducible first | exact HB.out | apply below_alloc | apply pw_below_drewN | apply below_drew1 | refine below_set ?_ GE388.out | refine below_set ?_ GE395.out) | exact HB.out)⟩⟩
      ·
       replace c30 := Bool.eq_false_iff.mpr c30
       subst c30
       have H1 : (laws_FnArrows.j0 k true t391 t392) = some r := q11_19
       clear H
       have H := H1
       clear H1
       refine absurd ?_ Bool.false_ne_true; revert H; generalize k = kq_; intro H; cases kq_ with | zero => exact absurd H q11_20 | succ kq_ => simp only [laws_FnArrows.j0] at H; (try rw [if_pos rfl] at H); exact (Option.some.inj H).trans HRT.out
     ·
      rw [if_neg c26] at H
      have c26b0 : (t398 == (Go.bits .and .i64 t389 t390)) = false := beq_eq_false_iff_ne.mpr c26
      have c26b1 : (t398 != (Go.bits .and .i64 t389 t390)) = true := bne_iff_ne.mpr c26
      refine absurd ?_ Bool.false_ne_true; revert H; generalize k = kq_; intro H; cases kq_ with | zero => exact absurd H q11_20 | succ kq_ => simp only [laws_FnArrows.j0] at H; (try rw [if_pos rfl] at H); exact (Option.some.inj H).trans HRT.out
    ·
     rw [if_neg c24] at H
     have c24b0 : (t390 == t397) = false := beq_eq_false_iff_ne.mpr c24
     have c24b1 : (t390 != t397) = true := bne_iff_ne.mpr c24
     refine absurd ?_ Bool.false_ne_true; revert H; generalize k = kq_; intro H; cases kq_ with | zero => exact absurd H q11_20 | succ kq_ => simp only [laws_FnArrows.j0] at H; (try rw [if_pos rfl] at H); exact (Option.some.inj H).trans HRT.out
   ·
    rw [if_neg c22] at H
    have c22b0 : (t389 == t396) = false := beq_eq_false_iff_ne.mpr c22
    have c22b1 : (t389 != t396) = true := bne_iff_ne.mpr c22
    (first | rw [c22b0] | (simp only [i64_w, i32_w]; rw [c22b0]) | skip)
    refine absurd ?_ Bool.false_ne_true; revert H; generalize k = kq_; intro H; cases kq_ with | zero => exact absurd H q11_20 | succ kq_ => simp only [laws_FnArrows.j0] at H; (try rw [if_pos rfl] at H); exact (Option.some.inj H).trans HRT.out
  case rest =>
   clear HC8
   try clear c1
   try clear c2
   try clear p2
   try clear c3
   try clear c11
   try clear c12
   try clear c13
   try clear c14
   try clear c15
   try clear c16
   try clear c17
   try clear c18
   try clear c19
   try clear c22
   try clear c22b0
   try clear c22b1
   try clear c24
   try clear c24b0
   try clear c24b1
   try clear c26
   try clear c26b0
   try clear c26b1
   try clear c30
   obtain ⟨kq, x72_7, rfl, HA, HJ7, HO_389001, HO_396001, BK388, BK395, HB⟩ := hcut
   cases kq with
   | zero => exact absurd HA.out (by simp [laws_FnArrows.j0])
   | succ kj7 =>
    have H := HA.out
    clear HA
    simp only [laws_FnArrows.j0] at H
    by_cases c49 : x72_7 = true
    ·
     subst c49
     have H1 : (some false) = some r := q11_21
     clear H
     have H := H1
     clear H1
     exact absurd ((Option.some.inj H).trans HRT.out) Bool.false_ne_true
    ·
     replace c49 := Bool.eq_false_iff.mpr c49
     subst c49
     have H1 : ((spec_IsContext.f kj7 t391 t392).bind fun t410 => (if t410 = true then (laws_FnArrows.l0 kj7 0 0 t391 t392) else (some true))) = some r := q11_19
     clear H
     have H := H1
     clear H1
     replace H := Option.bind_eq_some_iff.mp H
     obtain ⟨t410, A500, H⟩ := H
     replace H : (if t410 = true then (laws_FnArrows.l0 kj7 0 0 t391 t392) else (some true)) = some r := H
     have A50 := Aside0.mk A500
     clear A500
     by_cases c51 : t410 = true
     ·
      subst c51
      have H1 : (laws_FnArrows.l0 kj7 0 0 t391 t392) = some r := q11_21
      clear H
      have H := H1
      clear H1
      have H' := Aside0.mk H
      clear H
      have hnb52 := NB395_388.out
      have hnc52 := NB388_395.out
      have hcz53_0 : wc.cell? ⟨gb395, 0, none⟩ = some (.int .i64 t391) := (blk_cell BK395.out 0).trans rfl
      have hcz53_1 : wc.cell? ⟨gb395, 1, none⟩ = some (.slice Ao20 t392.length co20) := (blk_cell BK395.out 1).trans rfl
      have hfz53_0 := blk_frozen BK395.out 0
      have hfz53_1 := blk_frozen BK395.out 1
      go_wp2_with (first | ((with_reducible refine gate_callee (f := 20) rfl ?_); refine goesL_ (some 74) rfl rfl Try.func20 q11_22 rfl #[.agg #[.int .i64 t391, .slice Ao20 t392.length co20]] rfl q11_8 ?_; (with_reducible refine (spec_IsContext.calls kj7 t391 _ _ t392 true _ ?side1 ?side2 A50.out).mono ?_); (case side1 => exact q11_3); (case side2 => exact (Kd.R_reads' HO_396001.out).2.1); rintro e w54 ⟨rfl, hb⟩; refine ⟨_, rfl, ?_⟩; have n0_ := Aside0.mk (Kd.R_below q11_12 hb); have n1_ := Aside0.mk (Kd.R_below q11_13 hb); have n2_ := Aside0.mk (blk_below (g := gb388) (o := .cells #[.int .i64 t383, .slice Ao12 t384.length co12] 26 (0, 0)) q11_10 hb); have n3_ := Aside0.mk (blk_below (g := gb395) (o := .cells #[.int .i64 t391, .slice Ao20 t392.length co20] 26 (0, 0)) q11_11 hb); have n4_ := Aside0.mk (below_step q11_2 hb); clear HO_389001; clear HO_396001; clear BK388; clear BK395; clear HB; have HO_389001 := n0_; have HO_396001 := n1_; have BK388 := n2_; have BK395 := n3_; have HB := n4_; clear n0_ n1_ n2_ n3_ n4_; (try clear hb); (try clear hb2); (try clear hk); (try clear hi)))
      go_loopg [8, 9] kj7 (fun kq v8 v9 w' => ∃ (x8_2 : Int) (x9_2 : Int), v8 = .int .i64 x8_2 ∧ v9 = .int .i64 x9_2 ∧ Aside0 (laws_FnArrows.l0 kq x8_2 x9_2 t391 t392 = some r) ∧ Aside0 (kq ≤ kj7) ∧ Aside0 (Kd.R (Kd.int .i64) 3 w' w.heap.size (fun k_ => some k_ ≠ ((.slice Ao20 t392.length co20) : Value).ownBlock) (.slice Ao12 t384.length co12) t384) ∧ Aside0 (Kd.R (Kd.int .i64) 3 w' w.heap.size (fun k_ => some k_ ≠ ((.slice Ao12 t384.length co12) : Value).ownBlock) (.slice Ao20 t392.length co20) t392) ∧ Aside0 (w'.heap[gb388]? = some (.cells #[.int .i64 t383, (.slice Ao12 t384.length co12)] 26 (0, 0))) ∧ Aside0 (w'.heap[gb395]? = some (.cells #[.int .i64 t391, (.slice Ao20 t392.length co20)] 26 (0, 0))) ∧ Aside0 (Below w.heap.size w w'))
      case atStart => exact ⟨(0), (0), q11_18, q11_18, H', ⟨Nat.le_refl _⟩, ⟨by (with_reducible repeat (first | apply Kd.R_alloc | apply Kd.R_drewN | apply Kd.R_drew)); exact HO_389001.out⟩, ⟨by (with_reducible repeat (first | apply Kd.R_alloc | apply Kd.R_drewN | apply Kd.R_drew)); exact HO_396001.out⟩, ⟨by (with_reducible repeat (first | refine blk_drewN ?_ _ | refine blk_drew ?_ | refine blk_alloc ?_ _)); exact BK388.out⟩, ⟨by (with_reducible repeat (first | refine blk_drewN ?_ _ | refine blk_drew ?_ | refine blk_alloc ?_ _)); exact BK395.out⟩, ⟨by repeat (first | (with_reducible first | exact HB.out | apply below_alloc | apply pw_below_drewN | apply below_drew1 | refine below_set ?_ GE388.out | refine below_set ?_ GE395.out) | exact HB.out)⟩⟩
      case round =>
       clear H'
       try clear c1
       try clear c2
       try clear p2
       try clear c3
       try clear c4
       try clear c5
       try clear c11
       try clear c12
       try clear c13
       try clear c14
       try clear c15
       try clear c16
       try clear c17
       try clear c18
       try clear c19
       try clear c20
       try clear c22
       try clear c22b0
       try clear c22b1
       try clear c24
       try clear c24b0
       try clear c24b1
       try clear c26
       try clear c26b0
       try clear c26b1
       try clear c30
       try clear c49
       try clear c51
       try clear c52
       try clear hcz53_0
       try clear hcz53_1
       try clear hfz53_0
       try clear hfz53_1
       try clear p2
       obtain ⟨x8_2, x9_2, rfl, rfl, HA, HK2, HO_389001, HO_396001, BK388, BK395, HB⟩ := hrel
       cases gk with
       | zero => exact absurd HA.out (by simp [laws_FnArrows.l0])
       | succ k2 =>
        have H := HA.out
        clear HA
        simp only [laws_FnArrows.l0] at H
        by_cases c55 : x9_2 < (t392.length : Int)
        ·
         rw [if_pos c55] at H
         have c55b0 : decide (x9_2 < (t392.length : Int)) = true := decide_eq_true c55
         clear c55
         replace H := Option.bind_eq_some_iff.mp H
         obtain ⟨t411, A560, H⟩ := H
         replace H : ((impl_IsIrreducibleObject.f k2 t391 t392 x9_2).bind fun t412 => ((impl_DownArrows.f k2 t391 t392 x9_2).bind fun t413 => (if (t412 != (t413 != 0)) = true then (some false) else ((impl_IsIrreducibleObject.f k2 t391 t392 x9_2).bind fun t414 => (if t414 = true then ((impl_DoubleArrows.f k2 t391 t392 x9_2).bind fun t415 => (if t415 = 0 then (some false) else (laws_FnArrows.l0 k2 (Go.bits .or .i64 x8_2 t411) (wrap64 (x9_2 + 1)) t391 t392))) else (laws_FnArrows.l0 k2 (Go.bits .or .i64 x8_2 t411) (wrap64 (x9_2 + 1)) t391 t392)))))) = some r := H
         have A56 := Aside0.mk A560
         clear A560
         replace H := Option.bind_eq_some_iff.mp H
         obtain ⟨t412, A570, H⟩ := H
         replace H : ((impl_DownArrows.f k2 t391 t392 x9_2).bind fun t413 => (if (t412 != (t413 != 0)) = true then (some false) else ((impl_IsIrreducibleObject.f k2 t391 t392 x9_2).bind fun t414 => (if t414 = true then ((impl_DoubleArrows.f k2 t391 t392 x9_2).bind fun t415 => (if t415 = 0 then (some false) else (laws_FnArrows.l0 k2 (Go.bits .or .i64 x8_2 t411) (wrap64 (x9_2 + 1)) t391 t392))) else (laws_FnArrows.l0 k2 (Go.bits .or .i64 x8_2 t411) (wrap64 (x9_2 + 1)) t391 t392))))) = some r := H
         have A57 := Aside0.mk A570
         clear A570
         replace H := Option.bind_eq_some_iff.mp H
         obtain ⟨t413, A580, H⟩ := H
         replace H : (if (t412 != (t413 != 0)) = true then (some false) else ((impl_IsIrreducibleObject.f k2 t391 t392 x9_2).bind fun t414 => (if t414 = true then ((impl_DoubleArrows.f k2 t391 t392 x9_2).bind fun t415 => (if t415 = 0 then (some false) else (laws_FnArrows.l0 k2 (Go.bits .or .i64 x8_2 t411) (wrap64 (x9_2 + 1)) t391 t392))) else (laws_FnArrows.l0 k2 (Go.bits .or .i64 x8_2 t411) (wrap64 (x9_2 + 1)) t391 t392)))) = some r := H
         have A58 := Aside0.mk A580
         clear A580
         by_cases c59 : (t412 != (t413 != 0)) = true
         ·
          rw [if_pos c59] at H
          have c59b0 : (t412 != (t413 != 0)) = true := c59
          (try (have c59b1 : decide (t412 = (t413 != 0)) = false := by simpa using c59))
          (try (have c59b2 : (t412 == (t413 != 0)) = false := by simpa using c59))
          (try (have c59b3 : ¬ (t412 = (t413 != 0)) := by simpa using c59))
          clear c59
          exact absurd ((Option.some.inj H).trans HRT.out) Bool.false_ne_true
         ·
          rw [if_neg c59] at H
          have c59b0 : (t412 != (t413 != 0)) = false := by simpa using c59
          (try (have c59b1 : decide (t412 = (t413 != 0)) = true := by simpa using c59))
          (try (have c59b2 : (t412 == (t413 != 0)) = true := by simpa using c59))
          clear c59
          replace H := Option.bind_eq_some_iff.mp H
          obtain ⟨t414, A600, H⟩ := H
          replace H : (if t414 = true then ((impl_DoubleArrows.f k2 t391 t392 x9_2).bind fun t415 => (if t415 = 0 then (some false) else (laws_FnArrows.l0 k2 (Go.bits .or .i64 x8_2 t411) (wrap64 (x9_2 + 1)) t391 t392))) else (laws_FnArrows.l0 k2 (Go.bits .or .i64 x8_2 t411) (wrap64 (x9_2 + 1)) t391 t392)) = some r := H
          have A60 := Aside0.mk A600
          clear A600
          by_cases c61 : t414 = true
          ·
           subst c61
           have H1 : ((impl_DoubleArrows.f k2 t391 t392 x9_2).bind fun t415 => (if t415 = 0 then (some false) else (laws_FnArrows.l0 k2 (Go.bits .or .i64 x8_2 t411) (wrap64 (x9_2 + 1)) t391 t392))) = some r := q11_21
           clear H
           have H := H1
           clear H1
           replace H := Option.bind_eq_some_iff.mp H
           obtain ⟨t415, A620, H⟩ := H
           replace H : (if t415 = 0 then (some false) else (laws_FnArrows.l0 k2 (Go.bits .or .i64 x8_2 t411) (wrap64 (x9_2 + 1)) t391 t392)) = some r := H
           have A62 := Aside0.mk A620
           clear A620
           by_cases c63 : t415 = 0
           ·
            rw [if_pos c63] at H
            exact absurd ((Option.some.inj H).trans HRT.out) Bool.false_ne_true
           ·
            rw [if_neg c63] at H
            have c63b0 : (t415 == 0) = false := beq_eq_false_iff_ne.mpr c63
            have c63b1 : (t415 != 0) = true := bne_iff_ne.mpr c63
            have H' := Aside0.mk H
            clear H
            have hnb64 := NB395_388.out
            have hnc64 := NB388_395.out
            have hcz65_0 : wr.cell? ⟨gb395, 0, none⟩ = some (.int .i64 t391) := (blk_cell BK395.out 0).trans rfl
            have hcz65_1 : wr.cell? ⟨gb395, 1, none⟩ = some (.slice Ao20 t392.length co20) := (blk_cell BK395.out 1).trans rfl
            have hfz65_0 := blk_frozen BK395.out 0
            have hfz65_1 := blk_frozen BK395.out 1
            try go_wp2_with (first | ((with_reducible refine gate_callee (f := 8) rfl ?_); refine goesL_ (some 86) rfl rfl Try.func8 q11_22 rfl #[.agg #[.int .i64 t391, .slice Ao20 t392.length co20], .int .i64 x9_2] rfl q11_8 ?_; (with_reducible refine (impl_UpArrows.calls t391 _ _ t392 x9_2 t411 _ ?side1 ?side2 A56.out).mono ?_); (case side1 => exact q11_3); (case side2 => exact (Kd.R_reads' HO_396001.out).2.1); rintro e w66 ⟨rfl, hb⟩; refine ⟨_, rfl, ?_⟩; have n0_ := Aside0.mk (Kd.R_below q11_12 hb); have n1_ := Aside0.mk (Kd.R_below q11_13 hb); have n2_ := Aside0.mk (blk_below (g := gb388) (o := .cells #[.int .i64 t383, .slice Ao12 t384.length co12] 26 (0, 0)) q11_10 hb); have n3_ := Aside0.mk (blk_below (g := gb395) (o := .cells #[.int .i64 t391, .slice Ao20 t392.length co20] 26 (0, 0)) q11_11 hb); have n4_ := Aside0.mk (below_step q11_2 hb); clear HO_389001; clear HO_396001; clear BK388; clear BK395; clear HB; have HO_389001 := n0_; have HO_396001 := n1_; have BK388 := n2_; have BK395 := n3_; have HB := n4_; clear n0_ n1_ n2_ n3_ n4_; (try clear hb); (try clear hb2); (try clear hk); (try clear hi)))
            have n0_ := Aside0.mk (Kd.R_drew HO_389001.out)
            have n1_ := Aside0.mk (Kd.R_drew HO_396001.out)
            have n2_ := Aside0.mk (blk_drew BK388.out)
            have n3_ := Aside0.mk (blk_drew BK395.out)
            have n4_ := Aside0.mk (below_drew1 HB.out)
            clear HO_389001
            clear HO_396001
            clear BK388
            clear BK395
            clear HB
            have HO_389001 := n0_
            have HO_396001 := n1_
            have BK388 := n2_
            have BK395 := n3_
            have HB := n4_
            clear n0_ n1_ n2_ n3_ n4_
            refine start_ (n := 19) (S := fun w' => w'.cell? ⟨gb395, 0, none⟩ = some (.int .i64 t391) ∧ w'.cell? ⟨gb395, 1, none⟩ = some (.slice Ao20 t392.length co20)) (ds := []) #[false, false, false, false, false, false, false, false, false, false, false, false, false, false, false, false, false, false, false] q11_22 rfl rfl ⟨(blk_cell BK395.out 0).trans rfl, (blk_cell BK395.out 1).trans rfl⟩ (fun hHeld => ?_); refine with_tabW laws_FnArrows.tab16 laws_FnArrows.bits16 (fun HT_ HW_ => ?_)
            generalize w66.drew = w67 at HO_389001 HO_396001 BK388 BK395 HB hHeld ⊢
            refine pure_ (i := 1) (N := some 89) (v := ?_) (a' := ?_) #[false, true, false, false, false, false, false, false, false, false, false, false, false, false, false, false, false, false, false] rfl rfl (any_of HT_.out q11_22) (fun _ _ _ h => h) (Or.inl ⟨by rfl, ?_⟩) ?_ ?_
            rotate_left
            ·
             intro w'
             go_simp
             with_reducible rfl
            rotate_left
            ·
             exact put11_
            refine pure_ (i := 4) (N := some 92) (v := ?_) (a' := ?_) #[false, true, false, false, true, false, false, false, false, false, false, false, false, false, false, false, false, false, false] rfl rfl (any_of HT_.out q11_22) (fun _ _ _ h => h) (Or.inl ⟨by rfl, ?_⟩) ?_ ?_
            rotate_left
            ·
             intro w'
             go_simp
             with_reducible rfl
            rotate_left
            ·
             exact put11_
            refine take_ (i := 0) (N := some 88) (v := ?_) (a' := ?_) #[true, true, false, false, true, false, false, false, false, false, false, false, false, false, false, false, false, false, false] rfl rfl (take_ofW HT_.out HW_.out q11_22) (fun _ _ _ h => h) (Or.inl ⟨by rfl, ?_⟩) hHeld ?_ ?_
            rotate_left
            ·
             rintro w' ⟨s0, s1⟩
             go_simp
             with_reducible rfl
            rotate_left
            ·
             exact put11_
            refine take_ (i := 3) (N := some 91) (v := ?_) (a' := ?_) #[true, true, false, true, true, false, false, false, false, false, false, false, false, false, false, false, false, false, false] rfl rfl (take_ofW HT_.out HW_.out q11_22) (fun _ _ _ h => h) (Or.inl ⟨by rfl, ?_⟩) hHeld ?_ ?_
            rotate_left
            ·
             rintro w' ⟨s0, s1⟩
             go_simp
             with_reducible rfl
            rotate_left
            ·
             exact put11_
            refine one_ (i := 2) (N := some 90) #[true, true, true, true, true, false, false, false, false, false, false, false, false, false, false, false, false, false, false] rfl rfl (one_of HT_.out q11_22) (by decide) (fun K hK => ?_)
            refine goes_ Try.func16 q11_22 rfl #[.agg #[.int .i64 t391, .slice Ao20 t392.length co20], .int .i64 x9_2] (by rfl) rfl rfl q11_8 ?_
            with_reducible refine (impl_IsIrreducibleObject.calls k2 t391 _ _ t392 x9_2 t412 _ ?side1 ?side2 A57.out).mono ?_
            (case side1 => exact q11_3)
            (case side2 => exact (Kd.R_reads' HO_396001.out).2.1)
            rintro e w68 ⟨rfl, hb⟩
            refine ⟨_, rfl, ?_⟩
            have n0_ := Aside0.mk (Kd.R_below q11_12 hb)
            have n1_ := Aside0.mk (Kd.R_below q11_13 hb)
            have n2_ := Aside0.mk (blk_below (g := gb388) (o := .cells #[.int .i64 t383, .slice Ao12 t384.length co12] 26 (0, 0)) q11_10 hb)
            have n3_ := Aside0.mk (blk_below (g := gb395) (o := .cells #[.int .i64 t391, .slice Ao20 t392.length co20] 26 (0, 0)) q11_11 hb)
            have n4_ := Aside0.mk (below_step q11_2 hb)
            clear HO_389001
            clear HO_396001
            clear BK388
            clear BK395
            clear HB
            have HO_389001 := n0_
            have HO_396001 := n1_
            have BK388 := n2_
            have BK395 := n3_
            have HB := n4_
            clear n0_ n1_ n2_ n3_ n4_
            (try clear hb)
            (try clear hb2)
            (try clear hk)
            (try clear hi)
            refine hK.out _ _ ⟨(blk_cell BK395.out 0).trans rfl, (blk_cell BK395.out 1).trans rfl⟩ (fun hHeld => ?_)
            clear hK K
            refine norm_ (a' := ?_) ?_ ?_
            rotate_left
            ·
             show Act.put _ (some 90) _ = _
             exact put11_
            refine one_ (i := 5) (N := some 93) #[true, true, true, true, true, true, false, false, false, false, false, false, false, false, false, false, false, false, false] rfl rfl (one_of HT_.out q11_22) (by decide) (fun K hK => ?_)
            refine goes_ Try.func7 q11_22 rfl #[.agg #[.int .i64 t391, .slice Ao20 t392.length co20], .int .i64 x9_2] (by rfl) rfl rfl q11_8 ?_
            with_reducible refine (impl_DownArrows.calls k2 t391 _ _ t392 x9_2 t413 _ ?side1 ?side2 A58.out).mono ?_
            (case side1 => exact q11_3)
            (case side2 => exact (Kd.R_reads' HO_396001.out).2.1)
            rintro e w69 ⟨rfl, hb⟩
            refine ⟨_, rfl, ?_⟩
            have n0_ := Aside0.mk (Kd.R_below q11_12 hb)
            have n1_ := Aside0.mk (Kd.R_below q11_13 hb)
            have n2_ := Aside0.mk (blk_below (g := gb388) (o := .cells #[.int .i64 t383, .slice Ao12 t384.length co12] 26 (0, 0)) q11_10 hb)
            have n3_ := Aside0.mk (blk_below (g := gb395) (o := .cells #[.int .i64 t391, .slice Ao20 t392.length co20] 26 (0, 0)) q11_11 hb)
            have n4_ := Aside0.mk (below_step q11_2 hb)
            clear HO_389001
            clear HO_396001
            clear BK388
            clear BK395
            clear HB
            have HO_389001 := n0_
            have HO_396001 := n1_
            have BK388 := n2_
            have BK395 := n3_
            have HB := n4_
            clear n0_ n1_ n2_ n3_ n4_
            (try clear hb)
            (try clear hb2)
            (try clear hk)
            (try clear hi)
            refine hK.out _ _ ⟨(blk_cell BK395.out 0).trans rfl, (blk_cell BK395.out 1).trans rfl⟩ (fun hHeld => ?_)
            clear hK K
            refine norm_ (a' := ?_) ?_ ?_
            rotate_left
            ·
             show Act.put _ (some 93) _ = _
             exact put11_
            refine pure_ (i := 6) (N := some 94) (v := ?_) (a' := ?_) #[true, true, true, true, true, true, true, false, false, false, false, false, false, false, false, false, false, false, false] rfl rfl (any_of HT_.out q11_22) (fun _ _ _ h => h) (Or.inl ⟨by rfl, ?_⟩) ?_ ?_
            rotate_left
            ·
             intro w'
             go_simp
             with_reducible rfl
            rotate_left
            ·
             exact put11_
            refine pure_ (i := 7) (N := some 95) (v := ?_) (a' := ?_) #[true, true, true, true, true, true, true, true, false, false, false, false, false, false, false, false, false, false, false] rfl rfl (any_of HT_.out q11_22) (fun _ _ _ h => h) (Or.inl ⟨by rfl, ?_⟩) ?_ ?_
            rotate_left
            ·
             intro w'
             go_simp
             with_reducible rfl
            rotate_left
            ·
             exact put11_
            refine pure_ (i := 8) (N := some 96) (v := ?_) (a' := ?_) #[true, true, true, true, true, true, true, true, true, false, false, false, false, false, false, false, false, false, false] rfl rfl (any_of HT_.out q11_22) (fun _ _ _ h => h) (Or.inl ⟨by rfl, ?_⟩) ?_ ?_
            rotate_left
            ·
             intro w'
             go_simp
             with_reducible rfl
            rotate_left
            ·
             exact put11_
            refine pure_ (i := 10) (N := some 98) (v := ?_) (a' := ?_) #[true, true, true, true, true, true, true, true, true, false, true, false, false, false, false, false, false, false, false] rfl rfl (any_of HT_.out q11_22) (fun _ _ _ h => h) (Or.inl ⟨by rfl, ?_⟩) ?_ ?_
            rotate_left
            ·
             intro w'
             go_simp
             with_reducible rfl
            rotate_left
            ·
             exact put11_
            refine take_ (i := 9) (N := some 97) (v := ?_) (a' := ?_) #[true, true, true, true, true, true, true, true, true, true, true, false, false, false, false, false, false, false, false] rfl rfl (take_ofW HT_.out HW_.out q11_22) (fun _ _ _ h => h) (Or.inl ⟨by rfl, ?_⟩) hHeld ?_ ?_
            rotate_left
            ·
             rintro w' ⟨s0, s1⟩
             go_simp
             with_reducible rfl
            rotate_left
            ·
             exact put11_
            refine one_ (i := 11) (N := some 99) #[true, true, true, true, true, true, true, true, true, true, true, true, false, false, false, false, false, false, false] rfl rfl (one_of HT_.out q11_22) (by decide) (fun K hK => ?_)
            refine goes_ Try.func16 q11_22 rfl #[.agg #[.int .i64 t391, .slice Ao20 t392.length co20], .int .i64 x9_2] (by rfl) rfl rfl q11_8 ?_
            with_reducible refine (impl_IsIrreducibleObject.calls k2 t391 _ _ t392 x9_2 true _ ?side1 ?side2 A60.out).mono ?_
            (case side1 => exact q11_3)
            (case side2 => exact (Kd.R_reads' HO_396001.out).2.1)
            rintro e w70 ⟨rfl, hb⟩
            refine ⟨_, rfl, ?_⟩
            have n0_ := Aside0.mk (Kd.R_below q11_12 hb)
            have n1_ := Aside0.mk (Kd.R_below q11_13 hb)
            have n2_ := Aside0.mk (blk_below (g := gb388) (o := .cells #[.int .i64 t383, .slice Ao12 t384.length co12] 26 (0, 0)) q11_10 hb)
            have n3_ := Aside0.mk (blk_below (g := gb395) (o := .cells #[.int .i64 t391, .slice Ao20 t392.length co20] 26 (0, 0)) q11_11 hb)
            have n4_ := Aside0.mk (below_step q11_2 hb)
            clear HO_389001
            clear HO_396001
            clear BK388
            clear BK395
            clear HB
            have HO_389001 := n0_
            have HO_396001 := n1_
            have BK388 := n2_
            have BK395 := n3_
            have HB := n4_
            clear n0_ n1_ n2_ n3_ n4_
            (try clear hb)
            (try clear hb2)
            (try clear hk)
            (try clear hi)
            refine hK.out _ _ ⟨(blk_cell BK395.out 0).trans rfl, (blk_cell BK395.out 1).trans rfl⟩ (fun hHeld => ?_)
            clear hK K
            refine norm_ (a' := ?_) ?_ ?_
            rotate_left
            ·
             show Act.put _ (some 99) _ = _
             exact put11_
            refine pure_ (i := 12) (N := some 100) (v := ?_) (a' := ?_) #[true, true, true, true, true, true, true, true, true, true, true, true, true, false, false, false, false, false, false] rfl rfl (any_of HT_.out q11_22) (fun _ _ _ h => h) (Or.inl ⟨by rfl, ?_⟩) ?_ ?_
            rotate_left
            ·
             intro w'
             go_simp
             with_reducible rfl
            rotate_left
            ·
             exact put11_
            refine pure_ (i := 14) (N := some 102) (v := ?_) (a' := ?_) #[true, true, true, true, true, true, true, true, true, true, true, true, true, false, true, false, false, false, false] rfl rfl (any_of HT_.out q11_22) (fun _ _ _ h => h) (Or.inl ⟨by rfl, ?_⟩) ?_ ?_
            rotate_left
            ·
             intro w'
             go_simp
             with_reducible rfl
            rotate_left
            ·
             exact put11_
            refine take_ (i := 13) (N := some 101) (v := ?_) (a' := ?_) #[true, true, true, true, true, true, true, true, true, true, true, true, true, true, true, false, false, false, false] rfl rfl (take_ofW HT_.out HW_.out q11_22) (fun _ _ _ h => h) (Or.inl ⟨by rfl, ?_⟩) hHeld ?_ ?_
            rotate_left
            ·
             rintro w' ⟨s0, s1⟩
             go_simp
             with_reducible rfl
            rotate_left
            ·
             exact put11_
            refine one_ (i := 15) (N := some 103) #[true, true, true, true, true, true, true, true, true, true, true, true, true, true, true, true, false, false, false] rfl rfl (one_of HT_.out q11_22) (by decide) (fun K hK => ?_)
            refine goes_ Try.func12 q11_22 rfl #[.agg #[.int .i64 t391, .slice Ao20 t392.length co20], .int .i64 x9_2] (by rfl) rfl rfl q11_8 ?_
            with_reducible refine (impl_DoubleArrows.calls k2 t391 _ _ t392 x9_2 t415 _ ?side1 ?side2 A62.out).mono ?_
            (case side1 => exact q11_3)
            (case side2 => exact (Kd.R_reads' HO_396001.out).2.1)
            rintro e w71 ⟨rfl, hb⟩
            refine ⟨_, rfl, ?_⟩
            have n0_ := Aside0.mk (Kd.R_below q11_12 hb)
            have n1_ := Aside0.mk (Kd.R_below q11_13 hb)
            have n2_ := Aside0.mk (blk_below (g := gb388) (o := .cells #[.int .i64 t383, .slice Ao12 t384.length co12] 26 (0, 0)) q11_10 hb)
            have n3_ := Aside0.mk (blk_below (g := gb395) (o := .cells #[.int .i64 t391, .slice Ao20 t392.length co20] 26 (0, 0)) q11_11 hb)
            have n4_ := Aside0.mk (below_step q11_2 hb)
            clear HO_389001
            clear HO_396001
            clear BK388
            clear BK395
            clear HB
            have HO_389001 := n0_
            have HO_396001 := n1_
            have BK388 := n2_
            have BK395 := n3_
            have HB := n4_
            clear n0_ n1_ n2_ n3_ n4_
            (try clear hb)
            (try clear hb2)
            (try clear hk)
            (try clear hi)
            refine hK.out _ _ ⟨(blk_cell BK395.out 0).trans rfl, (blk_cell BK395.out 1).trans rfl⟩ (fun hHeld => ?_)
            clear hK K
            refine norm_ (a' := ?_) ?_ ?_
            rotate_left
            ·
             show Act.put _ (some 103) _ = _
             exact put11_
            refine pure_ (i := 16) (N := some 104) (v := ?_) (a' := ?_) #[true, true, true, true, true, true, true, true, true, true, true, true, true, true, true, true, true, false, false] rfl rfl (any_of HT_.out q11_22) (fun _ _ _ h => h) (Or.inl ⟨by rfl, ?_⟩) ?_ ?_
            rotate_left
            ·
             intro w'
             go_simp
             with_reducible rfl
            rotate_left
            ·
             exact put11_
            refine pure_ (i := 17) (N := some 105) (v := ?_) (a' := ?_) #[true, true, true, true, true, true, true, true, true, true, true, true, true, true, true, true, true, true, false] rfl rfl (any_of HT_.out q11_22) (fun _ _ _ h => h) (Or.inl ⟨by rfl, ?_⟩) ?_ ?_
            rotate_left
            ·
             intro w'
             go_simp
             with_reducible rfl
            rotate_left
            ·
             exact put11_
            refine pure_ (i := 18) (N := some 106) (v := ?_) (a' := ?_) #[true, true, true, true, true, true, true, true, true, true, true, true, true, true, true, true, true, true, true] rfl rfl (any_of HT_.out q11_22) (fun _ _ _ h => h) (Or.inl ⟨by rfl, ?_⟩) ?_ ?_
            rotate_left
            ·
             intro w'
             go_simp
             with_reducible rfl
            rotate_left
            ·
             exact put11_
            refine done_ (done_of HT_.out q11_22) ?_
            try go_wp2
            go_roundg k2
            case measure => have := HJ7.out; have := HK2.out; omega
            case rel => exact ⟨(Go.bits .or .i64 x8_2 t411), (wrap64 (x9_2 + 1)), q11_18, q11_18, H', ⟨by have := HJ7.out; have := HK2.out; omega⟩, ⟨by (with_reducible repeat (first | apply Kd.R_alloc | apply Kd.R_drewN | apply Kd.R_drew)); exact HO_389001.out⟩, ⟨by (with_reducible repeat (first | apply Kd.R_alloc | apply Kd.R_drewN | apply Kd.R_drew)); exact HO_396001.out⟩, ⟨by (with_reducible repeat (first | refine blk_drewN ?_ _ | refine blk_drew ?_ | refine blk_alloc ?_ _)); exact BK388.out⟩, ⟨by (with_reducible repeat (first | refine blk_drewN ?_ _ | refine blk_drew ?_ | refine blk_alloc ?_ _)); exact BK395.out⟩, ⟨by repeat (first | (with_reducible first | exact HB.out | apply below_alloc | apply pw_below_drewN | apply below_drew1 | refine below_set ?_ GE388.out | refine below_set ?_ GE395.out) | exact HB.out)⟩⟩
          ·
           replace c61 := Bool.eq_false_iff.mpr c61
           subst c61
           have H1 : (laws_FnArrows.l0 k2 (Go.bits .or .i64 x8_2 t411) (wrap64 (x9_2 + 1)) t391 t392) = some r := q11_19
           clear H
           have H := H1
           clear H1
           have H' := Aside0.mk H
           clear H
           have hnb72 := NB395_388.out
           have hnc72 := NB388_395.out
           have hcz73_0 : wr.cell? ⟨gb395, 0, none⟩ = some (.int .i64 t391) := (blk_cell BK395.out 0).trans rfl
           have hcz73_1 : wr.cell? ⟨gb395, 1, none⟩ = some (.slice Ao20 t392.length co20) := (blk_cell BK395.out 1).trans rfl
           have hfz73_0 := blk_frozen BK395.out 0
           have hfz73_1 := blk_frozen BK395.out 1
           try go_wp2_with (first | ((with_reducible refine gate_callee (f := 8) rfl ?_); refine goesL_ (some 86) rfl rfl Try.func8 q11_22 rfl #[.agg #[.int .i64 t391, .slice Ao20 t392.length co20], .int .i64 x9_2] rfl q11_8 ?_; (with_reducible refine (impl_UpArrows.calls t391 _ _ t392 x9_2 t411 _ ?side1 ?side2 A56.out).mono ?_); (case side1 => exact q11_3); (case side2 => exact (Kd.R_reads' HO_396001.out).2.1); rintro e w74 ⟨rfl, hb⟩; refine ⟨_, rfl, ?_⟩; have n0_ := Aside0.mk (Kd.R_below q11_12 hb); have n1_ := Aside0.mk (Kd.R_below q11_13 hb); have n2_ := Aside0.mk (blk_below (g := gb388) (o := .cells #[.int .i64 t383, .slice Ao12 t384.length co12] 26 (0, 0)) q11_10 hb); have n3_ := Aside0.mk (blk_below (g := gb395) (o := .cells #[.int .i64 t391, .slice Ao20 t392.length co20] 26 (0, 0)) q11_11 hb); have n4_ := Aside0.mk (below_step q11_2 hb); clear HO_389001; clear HO_396001; clear BK388; clear BK395; clear HB; have HO_389001 := n0_; have HO_396001 := n1_; have BK388 := n2_; have BK395 := n3_; have HB := n4_; clear n0_ n1_ n2_ n3_ n4_; (try clear hb); (try clear hb2); (try clear hk); (try clear hi)))
           have n0_ := Aside0.mk (Kd.R_drew HO_389001.out)
           have n1_ := Aside0.mk (Kd.R_drew HO_396001.out)
           have n2_ := Aside0.mk (blk_drew BK388.out)
           have n3_ := Aside0.mk (blk_drew BK395.out)
           have n4_ := Aside0.mk (below_drew1 HB.out)
           clear HO_389001
           clear HO_396001
           clear BK388
           clear BK395
           clear HB
           have HO_389001 := n0_
           have HO_396001 := n1_
           have BK388 := n2_
           have BK395 := n3_
           have HB := n4_
           clear n0_ n1_ n2_ n3_ n4_
           refine start_ (n := 19) (S := fun w' => w'.cell? ⟨gb395, 0, none⟩ = some (.int .i64 t391) ∧ w'.cell? ⟨gb395, 1, none⟩ = some (.slice Ao20 t392.length co20)) (ds := []) #[false, false, false, false, false, false, false, false, false, false, false, false, false, false, false, false, false, false, false] q11_22 rfl rfl ⟨(blk_cell BK395.out 0).trans rfl, (blk_cell BK395.out 1).trans rfl⟩ (fun hHeld => ?_); refine with_tabW laws_FnArrows.tab16 laws_FnArrows.bits16 (fun HT_ HW_ => ?_)
           generalize w74.drew = w75 at HO_389001 HO_396001 BK388 BK395 HB hHeld ⊢
           refine pure_ (i := 1) (N := some 89) (v := ?_) (a' := ?_) #[false, true, false, false, false, false, false, false, false, false, false, false, false, false, false, false, false, false, false] rfl rfl (any_of HT_.out q11_22) (fun _ _ _ h => h) (Or.inl ⟨by rfl, ?_⟩) ?_ ?_
           rotate_left
           ·
            intro w'
            go_simp
            with_reducible rfl
           rotate_left
           ·
            exact put11_
           refine pure_ (i := 4) (N := some 92) (v := ?_) (a' := ?_) #[false, true, false, false, true, false, false, false, false, false, false, false, false, false, false, false, false, false, false] rfl rfl (any_of HT_.out q11_22) (fun _ _ _ h => h) (Or.inl ⟨by rfl, ?_⟩) ?_ ?_
           rotate_left
           ·
            intro w'
            go_simp
            with_reducible rfl
           rotate_left
           ·
            exact put11_
           refine take_ (i := 0) (N := some 88) (v := ?_) (a' := ?_) #[true, true, false, false, true, false, false, false, false, false, false, false, false, false, false, false, false, false, false] rfl rfl (take_ofW HT_.out HW_.out q11_22) (fun _ _ _ h => h) (Or.inl ⟨by rfl, ?_⟩) hHeld ?_ ?_
           rotate_left
           ·
            rintro w' ⟨s0, s1⟩
            go_simp
            with_reducible rfl
           rotate_left
           ·
            exact put11_
           refine take_ (i := 3) (N := some 91) (v := ?_) (a' := ?_) #[true, true, false, true, true, false, false, false, false, false, false, false, false, false, false, false, false, false, false] rfl rfl (take_ofW HT_.out HW_.out q11_22) (fun _ _ _ h => h) (Or.inl ⟨by rfl, ?_⟩) hHeld ?_ ?_
           rotate_left
           ·
            rintro w' ⟨s0, s1⟩
            go_simp
            with_reducible rfl
           rotate_left
           ·
            exact put11_
           refine one_ (i := 2) (N := some 90) #[true, true, true, true, true, false, false, false, false, false, false, false, false, false, false, false, false, false, false] rfl rfl (one_of HT_.out q11_22) (by decide) (fun K hK => ?_)
           refine goes_ Try.func16 q11_22 rfl #[.agg #[.int .i64 t391, .slice Ao20 t392.length co20], .int .i64 x9_2] (by rfl) rfl rfl q11_8 ?_
           with_reducible refine (impl_IsIrreducibleObject.calls k2 t391 _ _ t392 x9_2 t412 _ ?side1 ?side2 A57.out).mono ?_
           (case side1 => exact q11_3)
           (case side2 => exact (Kd.R_reads' HO_396001.out).2.1)
           rintro e w76 ⟨rfl, hb⟩
           refine ⟨_, rfl, ?_⟩
           have n0_ := Aside0.mk (Kd.R_below q11_12 hb)
           have n1_ := Aside0.mk (Kd.R_below q11_13 hb)
           have n2_ := Aside0.mk (blk_below (g := gb388) (o := .cells #[.int .i64 t383, .slice Ao12 t384.length co12] 26 (0, 0)) q11_10 hb)
           have n3_ := Aside0.mk (blk_below (g := gb395) (o := .cells #[.int .i64 t391, .slice Ao20 t392.length co20] 26 (0, 0)) q11_11 hb)
           have n4_ := Aside0.mk (below_step q11_2 hb)
           clear HO_389001
           clear HO_396001
           clear BK388
           clear BK395
           clear HB
           have HO_389001 := n0_
           have HO_396001 := n1_
           have BK388 := n2_
           have BK395 := n3_
           have HB := n4_
           clear n0_ n1_ n2_ n3_ n4_
           (try clear hb)
           (try clear hb2)
           (try clear hk)
           (try clear hi)
           refine hK.out _ _ ⟨(blk_cell BK395.out 0).trans rfl, (blk_cell BK395.out 1).trans rfl⟩ (fun hHeld => ?_)
           clear hK K
           refine norm_ (a' := ?_) ?_ ?_
           rotate_left
           ·
            show Act.put _ (some 90) _ = _
            exact put11_
           refine one_ (i := 5) (N := some 93) #[true, true, true, true, true, true, false, false, false, false, false, false, false, false, false, false, false, false, false] rfl rfl (one_of HT_.out q11_22) (by decide) (fun K hK => ?_)
           refine goes_ Try.func7 q11_22 rfl #[.agg #[.int .i64 t391, .slice Ao20 t392.length co20], .int .i64 x9_2] (by rfl) rfl rfl q11_8 ?_
           with_reducible refine (impl_DownArrows.calls k2 t391 _ _ t392 x9_2 t413 _ ?side1 ?side2 A58.out).mono ?_
           (case side1 => exact q11_3)
           (case side2 => exact (Kd.R_reads' HO_396001.out).2.1)
           rintro e w77 ⟨rfl, hb⟩
           refine ⟨_, rfl, ?_⟩
           have n0_ := Aside0.mk (Kd.R_below q11_12 hb)
           have n1_ := Aside0.mk (Kd.R_below q11_13 hb)
           have n2_ := Aside0.mk (blk_below (g := gb388) (o := .cells #[.int .i64 t383, .slice Ao12 t384.length co12] 26 (0, 0)) q11_10 hb)
           have n3_ := Aside0.mk (blk_below (g := gb395) (o := .cells #[.int .i64 t391, .slice Ao20 t392.length co20] 26 (0, 0)) q11_11 hb)
           have n4_ := Aside0.mk (below_step q11_2 hb)
           clear HO_389001
           clear HO_396001
           clear BK388
           clear BK395
           clear HB
           have HO_389001 := n0_
           have HO_396001 := n1_
           have BK388 := n2_
           have BK395 := n3_
           have HB := n4_
           clear n0_ n1_ n2_ n3_ n4_
           (try clear hb)
           (try clear hb2)
           (try clear hk)
           (try clear hi)
           refine hK.out _ _ ⟨(blk_cell BK395.out 0).trans rfl, (blk_cell BK395.out 1).trans rfl⟩ (fun hHeld => ?_)
           clear hK K
           refine norm_ (a' := ?_) ?_ ?_
           rotate_left
           ·
            show Act.put _ (some 93) _ = _
            exact put11_
           refine pure_ (i := 6) (N := some 94) (v := ?_) (a' := ?_) #[true, true, true, true, true, true, true, false, false, false, false, false, false, false, false, false, false, false, false] rfl rfl (any_of HT_.out q11_22) (fun _ _ _ h => h) (Or.inl ⟨by rfl, ?_⟩) ?_ ?_
           rotate_left
           ·
            intro w'
            go_simp
            with_reducible rfl
           rotate_left
           ·
            exact put11_
           refine pure_ (i := 7) (N := some 95) (v := ?_) (a' := ?_) #[true, true, true, true, true, true, true, true, false, false, false, false, false, false, false, false, false, false, false] rfl rfl (any_of HT_.out q11_22) (fun _ _ _ h => h) (Or.inl ⟨by rfl, ?_⟩) ?_ ?_
           rotate_left
           ·
            intro w'
            go_simp
            with_reducible rfl
           rotate_left
           ·
            exact put11_
           refine pure_ (i := 8) (N := some 96) (v := ?_) (a' := ?_) #[true, true, true, true, true, true, true, true, true, false, false, false, false, false, false, false, false, false, false] rfl rfl (any_of HT_.out q11_22) (fun _ _ _ h => h) (Or.inl ⟨by rfl, ?_⟩) ?_ ?_
           rotate_left
           ·
            intro w'
            go_simp
            with_reducible rfl
           rotate_left
           ·
            exact put11_
           refine pure_ (i := 10) (N := some 98) (v := ?_) (a' := ?_) #[true, true, true, true, true, true, true, true, true, false, true, false, false, false, false, false, false, false, false] rfl rfl (any_of HT_.out q11_22) (fun _ _ _ h => h) (Or.inl ⟨by rfl, ?_⟩) ?_ ?_
           rotate_left
           ·
            intro w'
            go_simp
            with_reducible rfl
           rotate_left
           ·
            exact put11_
           refine take_ (i := 9) (N := some 97) (v := ?_) (a' := ?_) #[true, true, true, true, true, true, true, true, true, true, true, false, false, false, false, false, false, false, false] rfl rfl (take_ofW HT_.out HW_.out q11_22) (fun _ _ _ h => h) (Or.inl ⟨by rfl, ?_⟩) hHeld ?_ ?_
           rotate_left
           ·
            rintro w' ⟨s0, s1⟩
            go_simp
            with_reducible rfl
           rotate_left
           ·
            exact put11_
           refine one_ (i := 11) (N := some 99) #[true, true, true, true, true, true, true, true, true, true, true, true, false, false, false, false, false, false, false] rfl rfl (one_of HT_.out q11_22) (by decide) (fun K hK => ?_)
           refine goes_ Try.func16 q11_22 rfl #[.agg #[.int .i64 t391, .slice Ao20 t392.length co20], .int .i64 x9_2] (by rfl) rfl rfl q11_8 ?_
           with_reducible refine (impl_IsIrreducibleObject.calls k2 t391 _ _ t392 x9_2 false _ ?side1 ?side2 A60.out).mono ?_
           (case side1 => exact q11_3)
           (case side2 => exact (Kd.R_reads' HO_396001.out).2.1)
           rintro e w78 ⟨rfl, hb⟩
           refine ⟨_, rfl, ?_⟩
           have n0_ := Aside0.mk (Kd.R_below q11_12 hb)
           have n1_ := Aside0.mk (Kd.R_below q11_13 hb)
           have n2_ := Aside0.mk (blk_below (g := gb388) (o := .cells #[.int .i64 t383, .slice Ao12 t384.length co12] 26 (0, 0)) q11_10 hb)
           have n3_ := Aside0.mk (blk_below (g := gb395) (o := .cells #[.int .i64 t391, .slice Ao20 t392.length co20] 26 (0, 0)) q11_11 hb)
           have n4_ := Aside0.mk (below_step q11_2 hb)
           clear HO_389001
           clear HO_396001
           clear BK388
           clear BK395
           clear HB
           have HO_389001 := n0_
           have HO_396001 := n1_
           have BK388 := n2_
           have BK395 := n3_
           have HB := n4_
           clear n0_ n1_ n2_ n3_ n4_
           (try clear hb)
           (try clear hb2)
           (try clear hk)
           (try clear hi)
           refine hK.out _ _ ⟨(blk_cell BK395.out 0).trans rfl, (blk_cell BK395.out 1).trans rfl⟩ (fun hHeld => ?_)
           clear hK K
           refine norm_ (a' := ?_) ?_ ?_
           rotate_left
           ·
            show Act.put _ (some 99) _ = _
            exact put11_
           refine pure_ (i := 12) (N := some 100) (v := ?_) (a' := ?_) #[true, true, true, true, true, true, true, true, true, true, true, true, true, false, false, false, false, false, false] rfl rfl (any_of HT_.out q11_22) (fun _ _ _ h => h) (Or.inl ⟨by rfl, ?_⟩) ?_ ?_
           rotate_left
           ·
            intro w'
            go_simp
            with_reducible rfl
           rotate_left
           ·
            exact put11_
           refine pure_ (i := 13) (N := some 101) (v := undef) (a' := ?_) #[true, true, true, true, true, true, true, true, true, true, true, true, true, true, false, false, false, false, false] rfl rfl (any_of HT_.out q11_22) (fun _ _ _ h => h) (Or.inr ⟨by rfl, rfl⟩) ?_ ?_
           rotate_left
           ·
            exact put11_
           refine pure_ (i := 14) (N := some 102) (v := undef) (a' := ?_) #[true, true, true, true, true, true, true, true, true, true, true, true, true, true, true, false, false, false, false] rfl rfl (any_of HT_.out q11_22) (fun _ _ _ h => h) (Or.inr ⟨by rfl, rfl⟩) ?_ ?_
           rotate_left
           ·
            exact put11_
           refine pure_ (i := 15) (N := some 103) (v := undef) (a' := ?_) #[true, true, true, true, true, true, true, true, true, true, true, true, true, true, true, true, false, false, false] rfl rfl (any_of HT_.out q11_22) (fun _ _ _ h => h) (Or.inr ⟨by rfl, rfl⟩) ?_ ?_
           rotate_left
           ·
            exact put11_
           refine pure_ (i := 16) (N := some 104) (v := undef) (a' := ?_) #[true, true, true, true, true, true, true, true, true, true, true, true, true, true, true, true, true, false, false] rfl rfl (any_of HT_.out q11_22) (fun _ _ _ h => h) (Or.inr ⟨by rfl, rfl⟩) ?_ ?_
           rotate_left
           ·
            exact put11_
           refine pure_ (i := 17) (N := some 105) (v := ?_) (a' := ?_) #[true, true, true, true, true, true, true, true, true, true, true, true, true, true, true, true, true, true, false] rfl rfl (any_of HT_.out q11_22) (fun _ _ _ h => h) (Or.inl ⟨by rfl, ?_⟩) ?_ ?_
           rotate_left
           ·
            intro w'
            go_simp
            with_reducible rfl
           rotate_left
           ·
            exact put11_
           refine pure_ (i := 18) (N := some 106) (v := ?_) (a' := ?_) #[true, true, true, true, true, true, true, true, true, true, true, true, true, true, true, true, true, true, true] rfl rfl (any_of HT_.out q11_22) (fun _ _ _ h => h) (Or.inl ⟨by rfl, ?_⟩) ?_ ?_
           rotate_left
           ·
            intro w'
            go_simp
            with_reducible rfl
           rotate_left
           ·
            exact put11_
           refine done_ (done_of HT_.out q11_22) ?_
           try go_wp2
           go_roundg k2
           case measure => have := HJ7.out; have := HK2.out; omega
           case rel => exact ⟨(Go.bits .or .i64 x8_2 t411), (wrap64 (x9_2 + 1)), q11_18, q11_18, H', ⟨by have := HJ7.out; have := HK2.out; omega⟩, ⟨by (with_reducible repeat (first | apply Kd.R_alloc | apply Kd.R_drewN | apply Kd.R_drew)); exact HO_389001.out⟩, ⟨by (with_reducible repeat (first | apply Kd.R_alloc | apply Kd.R_drewN | apply Kd.R_drew)); exact HO_396001.out⟩, ⟨by (with_reducible repeat (first | refine blk_drewN ?_ _ | refine blk_drew ?_ | refine blk_alloc ?_ _)); exact BK388.out⟩, ⟨by (with_reducible repeat (first | refine blk_drewN ?_ _ | refine blk_drew ?_ | refine blk_alloc ?_ _)); exact BK395.out⟩, ⟨by repeat (first | (with_reducible first | exact HB.out | apply below_alloc | apply pw_below_drewN | apply below_drew1 | refine below_set ?_ GE388.out | refine below_set ?_ GE395.out) | exact HB.out)⟩⟩
        ·
         rw [if_neg c55] at H
         have c55b0 : decide (x9_2 < (t392.length : Int)) = false := decide_eq_false c55
         clear c55
         have H' := Aside0.mk H
         clear H
         have hnb79 := NB395_388.out
         have hnc79 := NB388_395.out
         have hcz80_0 : wr.cell? ⟨gb395, 0, none⟩ = some (.int .i64 t391) := (blk_cell BK395.out 0).trans rfl
         have hcz80_1 : wr.cell? ⟨gb395, 1, none⟩ = some (.slice Ao20 t392.length co20) := (blk_cell BK395.out 1).trans rfl
         have hfz80_0 := blk_frozen BK395.out 0
         have hfz80_1 := blk_frozen BK395.out 1
         go_wp2
         go_loopg [10] k2 (fun kq v10 w' => ∃ (x10_3 : Int), v10 = .int .i64 x10_3 ∧ Aside0 (laws_FnArrows.l1 kq x8_2 x10_3 t391 t392 = some r) ∧ Aside0 (kq ≤ k2) ∧ Aside0 (Kd.R (Kd.int .i64) 3 w' w.heap.size (fun k_ => some k_ ≠ ((.slice Ao20 t392.length co20) : Value).ownBlock) (.slice Ao12 t384.length co12) t384) ∧ Aside0 (Kd.R (Kd.int .i64) 3 w' w.heap.size (fun k_ => some k_ ≠ ((.slice Ao12 t384.length co12) : Value).ownBlock) (.slice Ao20 t392.length co20) t392) ∧ Aside0 (w'.heap[gb388]? = some (.cells #[.int .i64 t383, (.slice Ao12 t384.length co12)] 26 (0, 0))) ∧ Aside0 (w'.heap[gb395]? = some (.cells #[.int .i64 t391, (.slice Ao20 t392.length co20)] 26 (0, 0))) ∧ Aside0 (Below w.heap.size w w'))
         case atStart => exact ⟨(0), q11_18, H', ⟨Nat.le_refl _⟩, ⟨by (with_reducible repeat (first | apply Kd.R_alloc | apply Kd.R_drewN | apply Kd.R_drew)); exact HO_389001.out⟩, ⟨by (with_reducible repeat (first | apply Kd.R_alloc | apply Kd.R_drewN | apply Kd.R_drew)); exact HO_396001.out⟩, ⟨by (with_reducible repeat (first | refine blk_drewN ?_ _ | refine blk_drew ?_ | refine blk_alloc ?_ _)); exact BK388.out⟩, ⟨by (with_reducible repeat (first | refine blk_drewN ?_ _ | refine blk_drew ?_ | refine blk_alloc ?_ _)); exact BK395.out⟩, ⟨by repeat (first | (with_reducible first | exact HB.out | apply below_alloc | apply pw_below_drewN | apply below_drew1 | refine below_set ?_ GE388.out | refine below_set ?_ GE395.out) | exact HB.out)⟩⟩
         case round =>
          clear H'
          try clear c1
          try clear p2
          try clear c5
          try clear c6
          try clear p6
          try clear c7
          try clear c8
          try clear c12
          try clear c16
          try clear c55
          try clear c55b0
          try clear c59
          try clear c59b0
          try clear c59b1
          try clear c59b2
          try clear c61
          try clear c63
          try clear c63b0
          try clear c63b1
          try clear c64
          try clear p64
          try clear c72
          try clear c79
          try clear hcz65_0
          try clear hcz65_1
          try clear hcz73_0
          try clear hcz73_1
          try clear hcz80_0
          try clear hcz80_1
          try clear hfz65_0
          try clear hfz65_1
          try clear hfz73_0
          try clear hfz73_1
          try clear hfz80_0
          try clear hfz80_1
          obtain ⟨x10_3, rfl, HA, HK3, HO_389001, HO_396001, BK388, BK395, HB⟩ := hrel
          cases gk with
          | zero => exact absurd HA.out (by simp [laws_FnArrows.l1])
          | succ k3 =>
           have H := HA.out
           clear HA
           simp only [laws_FnArrows.l1] at H
           by_cases c81 : x10_3 < t391
           ·
            rw [if_pos c81] at H
            have c81b0 : decide (x10_3 < t391) = true := decide_eq_true c81
            clear c81
            replace H := Option.bind_eq_some_iff.mp H
            obtain ⟨t416, A820, H⟩ := H
            replace H : ((spec_HasElement.f x8_2 x10_3).bind fun t417 => (if (t416 != t417) = true then (some false) else (laws_FnArrows.l1 k3 x8_2 (wrap64 (x10_3 + 1)) t391 t392))) = some r := H
            have A82 := Aside0.mk A820
            clear A820
            replace H := Option.bind_eq_some_iff.mp H
            obtain ⟨t417, A830, H⟩ := H
            replace H : (if (t416 != t417) = true then (some false) else (laws_FnArrows.l1 k3 x8_2 (wrap64 (x10_3 + 1)) t391 t392)) = some r := H
            have A83 := Aside0.mk A830
            clear A830
            by_cases c84 : (t416 != t417) = true
            ·
             rw [if_pos c84] at H
             exact absurd ((Option.some.inj H).trans HRT.out) Bool.false_ne_true
            ·
             rw [if_neg c84] at H
             have c84b0 : (t416 != t417) = false := by simpa using c84
             (try (have c84b1 : decide (t416 = t417) = true := by simpa using c84))
             (try (have c84b2 : (t416 == t417) = true := by simpa using c84))
             clear c84
             have H' := Aside0.mk H
             clear H
             have hnb85 := NB395_388.out
             have hnc85 := NB388_395.out
             have hcz86_0 : wr.cell? ⟨gb395, 0, none⟩ = some (.int .i64 t391) := (blk_cell BK395.out 0).trans rfl
             have hcz86_1 : wr.cell? ⟨gb395, 1, none⟩ = some (.slice Ao20 t392.length co20) := (blk_cell BK395.out 1).trans rfl
             have hfz86_0 := blk_frozen BK395.out 0
             have hfz86_1 := blk_frozen BK395.out 1
             go_wp2_with (first | ((with_reducible refine gate_callee (f := 18) rfl ?_); refine goesL_ (some 115) rfl rfl Try.func18 q11_22 rfl #[.agg #[.int .i64 t391, .slice Ao20 t392.length co20], .int .i64 x10_3] rfl q11_8 ?_; (with_reducible refine (impl_IsIrreducibleAttribute.calls k3 t391 _ _ t392 x10_3 t416 _ ?side1 ?side2 A82.out).mono ?_); (case side1 => exact q11_3); (case side2 => exact (Kd.R_reads' HO_396001.out).2.1); rintro e w87 ⟨rfl, hb⟩; refine ⟨_, rfl, ?_⟩; have n0_ := Aside0.mk (Kd.R_below q11_12 hb); have n1_ := Aside0.mk (Kd.R_below q11_13 hb); have n2_ := Aside0.mk (blk_below (g := gb388) (o := .cells #[.int .i64 t383, .slice Ao12 t384.length co12] 26 (0, 0)) q11_10 hb); have n3_ := Aside0.mk (blk_below (g := gb395) (o := .cells #[.int .i64 t391, .slice Ao20 t392.length co20] 26 (0, 0)) q11_11 hb); have n4_ := Aside0.mk (below_step q11_2 hb); clear HO_389001; clear HO_396001; clear BK388; clear BK395; clear HB; have HO_389001 := n0_; have HO_396001 := n1_; have BK388 := n2_; have BK395 := n3_; have HB := n4_; clear n0_ n1_ n2_ n3_ n4_; (try clear hb); (try clear hb2); (try clear hk); (try clear hi)) | ((with_reducible refine gate_callee (f := 21) rfl ?_); refine goesL_ (some 118) rfl rfl Try.func21 q11_22 rfl #[.int .i64 x8_2, .int .i64 x10_3] rfl q11_8 ?_; (with_reducible refine (spec_HasElement.calls x8_2 x10_3 t417 _ A83.out).mono ?_); rintro e w' ⟨rfl, ⟨nd, rfl⟩⟩; refine ⟨_, rfl, ?_⟩))
             go_roundg k3
             case measure => have := HJ7.out; have := HK2.out; have := HK3.out; omega
             case rel => exact ⟨(wrap64 (x10_3 + 1)), q11_18, H', ⟨by have := HJ7.out; have := HK2.out; have := HK3.out; omega⟩, ⟨by (with_reducible repeat (first | apply Kd.R_alloc | apply Kd.R_drewN | apply Kd.R_drew)); exact HO_389001.out⟩, ⟨by (with_reducible repeat (first | apply Kd.R_alloc | apply Kd.R_drewN | apply Kd.R_drew)); exact HO_396001.out⟩, ⟨by (with_reducible repeat (first | refine blk_drewN ?_ _ | refine blk_drew ?_ | refine blk_alloc ?_ _)); exact BK388.out⟩, ⟨by (with_reducible repeat (first | refine blk_drewN ?_ _ | refine blk_drew ?_ | refine blk_alloc ?_ _)); exact BK395.out⟩, ⟨by repeat (first | (with_reducible first | exact HB.out | apply below_alloc | apply pw_below_drewN | apply below_drew1 | refine below_set ?_ GE388.out | refine below_set ?_ GE395.out) | exact HB.out)⟩⟩
           ·
            rw [if_neg c81] at H
            have c81b0 : decide (x10_3 < t391) = false := decide_eq_false c81
            clear c81
            obtain rfl := Option.some.inj H
            have hnb88 := NB395_388.out
            have hnc88 := NB388_395.out
            have hcz89_0 : wr.cell? ⟨gb395, 0, none⟩ = some (.int .i64 t391) := (blk_cell BK395.out 0).trans rfl
            have hcz89_1 : wr.cell? ⟨gb395, 1, none⟩ = some (.slice Ao20 t392.length co20) := (blk_cell BK395.out 1).trans rfl
            have hfz89_0 := blk_frozen BK395.out 0
            have hfz89_1 := blk_frozen BK395.out 1
            go_wp2
            go_ret
            exact ⟨by first | rfl | (simp [errW_none, errW_some] <;> rfl) | (simp [*, errW_none, errW_some] <;> rfl), by repeat (first | (with_reducible first | exact HB.out | apply below_alloc | apply pw_below_drewN | apply below_drew1 | refine below_set ?_ GE388.out | refine below_set ?_ GE395.out) | exact HB.out)⟩
     ·
      replace c51 := Bool.eq_false_iff.mpr c51
      subst c51
      have H1 : (some true) = some r := q11_19
      clear H
      have H := H1
      clear H1
      obtain rfl := Option.some.inj H
      have hnb90 := NB395_388.out
      have hnc90 := NB388_395.out
      have hcz91_0 : wc.cell? ⟨gb395, 0, none⟩ = some (.int .i64 t391) := (blk_cell BK395.out 0).trans rfl
      have hcz91_1 : wc.cell? ⟨gb395, 1, none⟩ = some (.slice Ao20 t392.length co20) := (blk_cell BK395.out 1).trans rfl
      have hfz91_0 := blk_frozen BK395.out 0
      have hfz91_1 := blk_frozen BK395.out 1
      go_wp2_with (first | ((with_reducible refine gate_callee (f := 20) rfl ?_); refine goesL_ (some 74) rfl rfl Try.func20 q11_22 rfl #[.agg #[.int .i64 t391, .slice Ao20 t392.length co20]] rfl q11_8 ?_; (with_reducible refine (spec_IsContext.calls kj7 t391 _ _ t392 false _ ?side1 ?side2 A50.out).mono ?_); (case side1 => exact q11_3); (case side2 => exact (Kd.R_reads' HO_396001.out).2.1); rintro e w92 ⟨rfl, hb⟩; refine ⟨_, rfl, ?_⟩; have n0_ := Aside0.mk (Kd.R_below q11_12 hb); have n1_ := Aside0.mk (Kd.R_below q11_13 hb); have n2_ := Aside0.mk (blk_below (g := gb388) (o := .cells #[.int .i64 t383, .slice Ao12 t384.length co12] 26 (0, 0)) q11_10 hb); have n3_ := Aside0.mk (blk_below (g := gb395) (o := .cells #[.int .i64 t391, .slice Ao20 t392.length co20] 26 (0, 0)) q11_11 hb); have n4_ := Aside0.mk (below_step q11_2 hb); clear HO_389001; clear HO_396001; clear BK388; clear BK395; clear HB; have HO_389001 := n0_; have HO_396001 := n1_; have BK388 := n2_; have BK395 := n3_; have HB := n4_; clear n0_ n1_ n2_ n3_ n4_; (try clear hb); (try clear hb2); (try clear hk); (try clear hi)))
      go_ret
      exact ⟨by first | rfl | (simp [errW_none, errW_some] <;> rfl) | (simp [*, errW_none, errW_some] <;> rfl), by repeat (first | (with_reducible first | exact HB.out | apply below_alloc | apply pw_below_drewN | apply below_drew1 | refine below_set ?_ GE388.out | refine below_set ?_ GE395.out) | exact HB.out)⟩
end Go.Proofs.Ytafnamchckehmaa.Pr
