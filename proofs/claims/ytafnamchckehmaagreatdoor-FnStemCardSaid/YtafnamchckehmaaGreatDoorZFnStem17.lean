/- Functions of the program as plain functions, proofs that their calls answer so, and plain laws: what the law needs. No condition beyond what each statement says. -/
import Derived.Test.YtafnamchckehmaaGreatDoorZFnStem16
namespace Go.Proofs.YtafnamchckehmaaGreatDoor.Pr
open Go.RowKit Go.Proofs.YtafnamchckehmaaGreatDoorW.PrintWords Go.Proofs.YtafnamchckehmaaGreatDoorW.PrintLast Go.Proofs.YtafnamchckehmaaGreatDoorW.PrintMore
attribute [local go_sem] max2_int min2_int max_two min_two max_three min_three max_four min_four
set_option linter.unusedVariables false
set_option linter.unusedSimpArgs false
theorem bnd52_ {α β : Type} {o : Option α} {f : α → Option β} {r : β} (h : o.bind f = some r) : ∃ a, Aside0 (o = some a) ∧ f a = some r := by
 obtain ⟨a, h1, h2⟩ := Option.bind_eq_some_iff.mp h
 exact ⟨a, ⟨h1⟩, h2⟩
theorem q52_1 {P : Prop} (h : P := by (with_reducible repeat (first | apply Kd.R_alloc | apply Kd.R_drewN | apply Kd.R_drew)); exact (Kd.R_mono (Kd.R_far (p := ⟨gb1335, 1, none⟩) (Kd.R_far (p := ⟨gb1335, 0, none⟩) (Kd.R_types HO1334.out BK1335.out (by decide)) (fun _ hk => hk.2) (.int .i64 t1331)) (fun _ hk => hk.2) (.slice Ao13 t1332.length co13)) (fun _ h_ => h_.1))) : P := h
theorem q52_2 {P : Prop} (h : P := by (with_reducible repeat (first | apply Kd.R_alloc | apply Kd.R_drewN | apply Kd.R_drew)); exact (Kd.R_mono (Kd.R_far (p := ⟨gb1349, 1, none⟩) (Kd.R_far (p := ⟨gb1349, 0, none⟩) (Kd.R_types HO1345.out BK1349.out (by decide)) (fun _ hk => hk.2) (.int .i64 t1342)) (fun _ hk => hk.2) (.slice Ao21 t1343.length co21)) (fun _ h_ => h_.1))) : P := h
theorem q52_3 {P : Prop} (h : P := by (with_reducible repeat (first | apply Kd.R_alloc | apply Kd.R_drewN | apply Kd.R_drew)); exact (Kd.R_mono (Kd.R_far (p := ⟨gb1349, 1, none⟩) (Kd.R_far (p := ⟨gb1349, 0, none⟩) (Kd.R_types HO1348.out BK1349.out (by decide)) (fun _ hk => hk.2) (.int .i64 t1342)) (fun _ hk => hk.2) (.slice Ao21 t1343.length co21)) (fun _ h_ => h_.1))) : P := h
theorem q52_4 {P : Prop} (h : P := by repeat (first | (with_reducible first | exact HB.out | apply below_alloc | apply pw_below_drewN | apply below_drew1 | refine below_set ?_ GE1335.out | refine below_set ?_ GE1349.out) | exact HB.out)) : P := h
theorem q52_5 {P : Prop} (h : P := by repeat (first | (with_reducible exact HR1377.out) | (with_reducible refine Kd.C_alloc ?_ _) | (with_reducible refine Kd.C_drewN ?_ _) | (with_reducible refine Kd.C_drew ?_) | exact HR1377.out)) : P := h
theorem q52_6 {P : Prop} (h : P := by repeat (first | (with_reducible exact HR1384.out) | (with_reducible refine Kd.C_alloc ?_ _) | (with_reducible refine Kd.C_drewN ?_ _) | (with_reducible refine Kd.C_drew ?_) | exact HR1384.out)) : P := h
theorem q52_7 {P : Prop} (h : P := by repeat (first | exact (Kd.R_reads' HO_1336001.out).2.2 | (with_reducible refine Kd.C_alloc ?_ _) | (with_reducible refine Kd.C_drewN ?_ _) | (with_reducible refine Kd.C_drew ?_))) : P := h
theorem q52_8 {P : Prop} (h : P := by repeat (first | exact (Kd.R_reads' HO1334.out).2.2 | (with_reducible refine Kd.C_alloc ?_ _) | (with_reducible refine Kd.C_drewN ?_ _) | (with_reducible refine Kd.C_drew ?_))) : P := h
theorem q52_9 {P : Prop} (h : P := by repeat (first | exact (Kd.R_reads' HO1338.out).2.2 | (with_reducible refine Kd.C_alloc ?_ _) | (with_reducible refine Kd.C_drewN ?_ _) | (with_reducible refine Kd.C_drew ?_))) : P := h
theorem q52_10 {P : Prop} (h : P := by repeat (first | exact (Kd.R_reads' HO1341.out).2.2 | (with_reducible refine Kd.C_alloc ?_ _) | (with_reducible refine Kd.C_drewN ?_ _) | (with_reducible refine Kd.C_drew ?_))) : P := h
theorem q52_11 {P : Prop} (h : P := by repeat (first | exact (Kd.R_reads' HO1345.out).2.2 | (with_reducible refine Kd.C_alloc ?_ _) | (with_reducible refine Kd.C_drewN ?_ _) | (with_reducible refine Kd.C_drew ?_))) : P := h
theorem q52_12 {P : Prop} (h : P := by repeat (first | exact (Kd.R_reads' HO1348.out).2.2 | (with_reducible refine Kd.C_alloc ?_ _) | (with_reducible refine Kd.C_drewN ?_ _) | (with_reducible refine Kd.C_drew ?_))) : P := h
theorem q52_13 {P : Prop} (h : P := by repeat (first | exact (Kd.R_reads' HO1353.out).2.2 | (with_reducible refine Kd.C_alloc ?_ _) | (with_reducible refine Kd.C_drewN ?_ _) | (with_reducible refine Kd.C_drew ?_))) : P := h
theorem q52_14 {P : Prop} (h : P := by repeat (first | exact (Kd.R_reads' HO1357.out).2.2 | (with_reducible refine Kd.C_alloc ?_ _) | (with_reducible refine Kd.C_drewN ?_ _) | (with_reducible refine Kd.C_drew ?_))) : P := h
theorem q52_15 {P : Prop} (h : P := by repeat (first | exact (Kd.R_reads' HO_4.out).2.2 | (with_reducible refine Kd.C_alloc ?_ _) | (with_reducible refine Kd.C_drewN ?_ _) | (with_reducible refine Kd.C_drew ?_))) : P := h
theorem q52_16 {P : Prop} (h : P := by repeat (first | (with_reducible first | exact HB.out | apply below_alloc | apply pw_below_drewN | apply below_drew1 | refine below_set ?_ GE1335.out) | exact HB.out)) : P := h
theorem q52_19 {P : Prop} (h : P := by (with_reducible repeat (first | apply Kd.R_alloc | apply Kd.R_drewN | apply Kd.R_drew)); exact Kd.R_mono HO1334.out (fun _ hk => hk.1.1.2)) : P := h
theorem q52_20 {P : Prop} (h : P := by (with_reducible repeat (first | apply Kd.R_alloc | apply Kd.R_drewN | apply Kd.R_drew)); exact Kd.R_mono HO1341.out (fun _ hk => hk.1.1.2)) : P := h
theorem q52_21 {P : Prop} (h : P := by (with_reducible repeat (first | apply Kd.R_alloc | apply Kd.R_drewN | apply Kd.R_drew)); exact Kd.R_mono HO1338.out (fun _ hk => trivial)) : P := h
theorem q52_23 {P : Prop} (h : P := by (with_reducible repeat (first | refine blk_drewN ?_ _ | refine blk_drew ?_ | refine blk_alloc ?_ _)); exact BK1335.out) : P := h
theorem q52_24 {P : Prop} (h : P := by (with_reducible repeat (first | refine blk_drewN ?_ _ | refine blk_drew ?_ | refine blk_alloc ?_ _)); exact BK1349.out) : P := h
theorem q52_25 {P : Prop} (h : P := by (with_reducible repeat (first | apply Kd.R_alloc | apply Kd.R_drewN | apply Kd.R_drew)); exact HO_1336001.out) : P := h
theorem q52_26 {P : Prop} (h : P := by (with_reducible repeat (first | apply Kd.R_alloc | apply Kd.R_drewN | apply Kd.R_drew)); exact HO1334.out) : P := h
theorem q52_27 {P : Prop} (h : P := by (with_reducible repeat (first | apply Kd.R_alloc | apply Kd.R_drewN | apply Kd.R_drew)); exact HO1338.out) : P := h
theorem q52_28 {P : Prop} (h : P := by (with_reducible repeat (first | apply Kd.R_alloc | apply Kd.R_drewN | apply Kd.R_drew)); exact HO1341.out) : P := h
theorem q52_29 {P : Prop} (h : P := by (with_reducible repeat (first | apply Kd.R_alloc | apply Kd.R_drewN | apply Kd.R_drew)); exact HO1345.out) : P := h
theorem q52_30 {P : Prop} (h : P := by (with_reducible repeat (first | apply Kd.R_alloc | apply Kd.R_drewN | apply Kd.R_drew)); exact HO1348.out) : P := h
theorem q52_31 {P : Prop} (h : P := by (with_reducible repeat (first | apply Kd.R_alloc | apply Kd.R_drewN | apply Kd.R_drew)); exact HO1353.out) : P := h
theorem q52_32 {P : Prop} (h : P := by (with_reducible repeat (first | apply Kd.R_alloc | apply Kd.R_drewN | apply Kd.R_drew)); exact HO1357.out) : P := h
theorem q52_33 {P : Prop} (h : P := by (with_reducible repeat (first | apply Kd.R_alloc | apply Kd.R_drewN | apply Kd.R_drew)); exact HO1380.out) : P := h
theorem q52_35 {P : Prop} (h : P := by (with_reducible repeat (first | apply Kd.R_alloc | apply Kd.R_drewN | apply Kd.R_drew)); exact HO_5.out) : P := h
theorem q52_38 {P : Prop} (h : P := by simp only [laws_FnStem.j0]; exact fun h => by cases h) : P := h
mutual
def laws_FnStem.j0 : Nat → List (S48) → List Int → Bool → Int → List Int → Option (Bool)
 | 0, _, _, _, _, _ => none
 | k + 1, x4, x5, x73, x1336000, x1336001 => if x73 = true then (some false) else ((spec_IsContext.f k x1336000 x1336001).bind fun t1367 => (if t1367 = true then (laws_FnStem.l0 k x4 x5 0 x1336000 x1336001) else (some ((x4.length : Int) == 0))))
def laws_FnStem.l0 : Nat → List (S48) → List Int → Int → Int → List Int → Option (Bool)
 | 0, _, _, _, _, _ => none
 | k + 1, x4, x5, x9, x1336000, x1336001 => (spec_FullSet.f x1336000).bind fun t1368 => (if x9 ≤ t1368 then ((spec_ClosedBy.f k x4 x9).bind fun t1369 => ((spec_ClosureOf.f k x1336000 x1336001 x9).bind fun t1370 => (if t1369 = t1370 then (laws_FnStem.l0 k x4 x5 (wrap64 (x9 + 1)) x1336000 x1336001) else (some false)))) else (laws_FnStem.l1 k x4 x5 0 x1336000 x1336001))
def laws_FnStem.l1 : Nat → List (S48) → List Int → Int → Int → List Int → Option (Bool)
 | 0, _, _, _, _, _ => none
 | k + 1, x4, x5, x10, x1336000, x1336001 => if x10 < (x4.length : Int) then ((some (([] : List (S48)) : List (S48))).bind fun y1371 => (if 0 ≤ x10 then (if x10 ≤ (x4.length : Int) then ((some (x4.take (x10 : Int).toNat : List (S48))).bind fun y1374 => (if y1371.length + y1374.length < 8796093022208 then ((some (y1371 ++ y1374 : List (S48))).bind fun y1378 => (if 0 ≤ (wrap64 (x10 + 1)) then (if (wrap64 (x10 + 1)) ≤ (x4.length : Int) then ((some (x4.drop ((wrap64 (x10 + 1)) : Int).toNat : List (S48))).bind fun y1381 => (if y1378.length + y1381.length < 8796093022208 then ((spec_Follows.f k (y1378 ++ y1381) ((rd_T48 x4 x10).f0) ((rd_T48 x4 x10).f1)).bind fun t1389 => (if t1389 = true then (some false) else (if x10 < (x5.length : Int) then (if ((rd_T48 x4 x10).f0) = (rd x5 x10) then (laws_FnStem.l1 k x4 x5 (wrap64 (x10 + 1)) x1336000 x1336001) else (some false)) else (none)))) else (none))) else (none)) else (none))) else (none))) else (none)) else (none))) else (if (x4.length : Int) = (x5.length : Int) then ((impl_IsBase.f k x1336000 x1336001 x4).bind fun t1392 => (some t1392)) else (some false))
end
def laws_FnStem.f (k : Nat) (l0 : List Int) : Option (Bool) := (laws_big.f l0).bind fun t1330 => (if t1330 = true then (some true) else ((spec_DrawStemBase.f k l0).bind fun bt1331 => ((impl_StemBase.f bt1331.1 bt1331.2).bind fun t1336 => ((impl_PseudoIntents.f bt1331.1 bt1331.2).bind fun t1339 => ((spec_DrawIsBase.f k l0).bind fun bt1342 => ((impl_IsBase.f k bt1342.1 bt1342.2.1 bt1342.2.2).bind fun t1350 => ((spec_StemBase.f k bt1331.1 bt1331.2).bind fun t1351 => ((laws_sameRules.f k t1336 t1351).bind fun t1354 => (if t1354 = true then ((spec_PseudoIntents.f k bt1331.1 bt1331.2).bind fun t1355 => ((laws_sameInts.f k t1339 t1355).bind fun t1358 => (if t1358 = true then ((spec_IsBase.f k bt1342.1 bt1342.2.1 bt1342.2.2).bind fun t1359 => (if (t1350 != t1359) = true then (laws_FnStem.j0 k t1336 t1339 true bt1331.1 bt1331.2) else ((impl_IsShortest.f k bt1342.1 bt1342.2.1 bt1342.2.2).bind fun t1360 => ((spec_IsShortest.f k bt1342.1 bt1342.2.1 bt1342.2.2).bind fun t1361 => (if (t1360 != t1361) = true then (laws_FnStem.j0 k t1336 t1339 true bt1331.1 bt1331.2) else ((impl_CountRules.f k bt1331.1 bt1331.2).bind fun t1362 => ((spec_CountRules.f k bt1331.1 bt1331.2).bind fun t1363 => (if t1362 = t1363 then (if t1350 = true then ((impl_StemBase.f bt1342.1 bt1342.2.1).bind fun t1364 => (laws_FnStem.j0 k t1336 t1339 (decide ((bt1342.2.2.length : Int) < (t1364.length : Int))) bt1331.1 bt1331.2)) else (laws_FnStem.j0 k t1336 t1339 false bt1331.1 bt1331.2)) else (laws_FnStem.j0 k t1336 t1339 true bt1331.1 bt1331.2))))))))) else (laws_FnStem.j0 k t1336 t1339 true bt1331.1 bt1331.2)))) else (laws_FnStem.j0 k t1336 t1339 true bt1331.1 bt1331.2))))))))))
def laws_FnStem.T8 : Bool × List (List Nat × List Nat) := (true, [([], []), ([], []), ([1], [1]), ([0, 2, 2], [0, 2]), ([3], [3]), ([4, 3], [4]), ([5], [5]), ([5], [5]), ([7, 5, 5], [5, 7]), ([6, 8, 8, 5], [5, 6, 8]), ([9, 5], [5, 9]), ([5, 10], [5, 10]), ([11, 9], [11]), ([12], [12]), ([12], [12]), ([12], [12]), ([14, 15, 12, 12], [12, 14, 15]), ([13, 16, 12], [12, 13, 16]), ([12, 17], [12, 17]), ([18, 16], [18]), ([19], [19]), ([19], [19]), ([20, 21, 19, 19], [19, 20, 21]), ([19], [19]), ([19], [19]), ([23, 24, 22, 19], [19, 23, 24]), ([22, 25, 19], [19, 22, 25]), ([19, 26], [19, 26]), ([27, 25], [27]), ([28], [28]), ([29, 28, 28], [28, 29]), ([28], [28]), ([31, 30, 28], [28, 31]), ([30, 32, 28], [28, 30, 32]), ([28, 33], [28, 33]), ([34, 32], [34]), ([35], [35]), ([36, 35, 35], [35, 36]), ([37], [37]), ([38, 37], [37, 38]), ([37], [37]), ([40, 37, 37], [37, 40]), ([41, 37], [37, 41]), ([39, 42, 37], [37, 39, 42]), ([37, 43, 35], [35, 37, 43]), ([35, 44], [35, 44])])
def laws_FnStem.B8 : List Nat := [0, 0, 2, 7, 15, 31, 63, 63, 191, 511, 1023, 2047, 4095, 8191, 8191, 8191, 57343, 131071, 262143, 524287, 1048575, 1048575, 4194303, 1048575, 1048575, 33554431, 67108863, 134217727, 268435455, 536870911, 1073741823, 536870911, 4294967295, 8589934591, 17179869183, 34359738367, 68719476735, 137438953471, 274877906943, 549755813887, 274877906943, 1374389534719, 3573412790271, 8796093022207, 17592186044415, 35184372088831]
theorem laws_FnStem.tab8 : rtab .any (opsOf Tryz.f5 8) = laws_FnStem.T8 := s12_
theorem laws_FnStem.bits8 : waitsOk laws_FnStem.T8.2 laws_FnStem.B8 = true := s12_
def laws_FnStem.T20 : Bool × List (List Nat × List Nat) := (true, [([], []), ([], []), ([], []), ([1, 2], [1, 2]), ([0, 3], [0, 3]), ([], []), ([], []), ([6], [6]), ([5, 7], [5, 7]), ([4, 8, 4], [4, 8]), ([9, 9, 0, 1, 2, 3, 4, 5, 6, 7, 8, 9], [9])])
def laws_FnStem.B20 : List Nat := [0, 0, 0, 6, 15, 0, 0, 64, 224, 511, 1023]
theorem laws_FnStem.tab20 : rtab .any (opsOf Tryz.f5 20) = laws_FnStem.T20 := s12_
theorem laws_FnStem.bits20 : waitsOk laws_FnStem.T20.2 laws_FnStem.B20 = true := s12_
def laws_FnStem.T21 : Bool × List (List Nat × List Nat) := (true, [([], []), ([], []), ([], []), ([1, 2], [1, 2]), ([3], [3]), ([0, 4], [0, 4]), ([5, 5], [5]), ([6], [6]), ([6], [6]), ([7, 8, 6], [6, 7, 8]), ([9, 6], [6, 9]), ([10, 6], [6, 10]), ([6], [6]), ([6], [6]), ([12, 13, 6], [6, 12, 13]), ([14, 6], [6, 14]), ([11, 15, 6], [6, 11, 15]), ([6, 16], [6, 16])])
def laws_FnStem.B21 : List Nat := [0, 0, 0, 6, 14, 31, 63, 127, 127, 511, 1023, 2047, 127, 127, 12415, 28799, 65535, 131071]
theorem laws_FnStem.tab21 : rtab .any (opsOf Tryz.f5 21) = laws_FnStem.T21 := s12_
theorem laws_FnStem.bits21 : waitsOk laws_FnStem.T21.2 laws_FnStem.B21 = true := s12_
set_option maxHeartbeats 40000000 in
set_option maxRecDepth 100000 in
theorem laws_FnStem.calls (k : Nat) (A0 : Option Addr) (c0 : Nat) (l0 : List Int) (r : Bool) (w : World) (hr0 : Kd.C (Kd.int .u8) w A0 l0.length l0) (hc0 : l0.length ≤ c0) (hrt : r = true) (htab : Tab64 w) (h : laws_FnStem.f k l0 = some r) :
  Calls Tryz.prog 5 #[.slice A0 l0.length c0] w fun e w' => e = .returned (.bool r) ∧ Below w.heap.size w w' := by
 have HTB := Aside0.mk htab; clear htab; have hu29 := Tryz.underlying29; have hu48 := Tryz.underlying48; have HR0 := Aside0.mk hr0; have HC0 := Aside0.mk hc0; clear hr0 hc0; have HB := Aside0.mk (Below.refl w.heap.size w); have HRT := Aside0.mk hrt; clear hrt; have H := h; clear h; unfold laws_FnStem.f at H; obtain ⟨t1330, A2, H⟩ := bnd52_ H
 by_cases c3 : t1330 = true
 ·
  subst c3; rw [if_pos rfl] at H; obtain rfl := Option.some.inj H
  go_enter Tryz.func5, Tryz.ntmps5
  go_wp2_with (first | ((with_reducible refine gate_callee (f := 9) rfl ?_); refine gL_ 9 13 Tryz.func9 #[.slice A0 l0.length c0] ?_; (with_reducible refine (laws_big.calls _ _ l0 true _ ?side1 ?side2 A2.out).mono ?_); (case side1 => exact s15_); (case side2 => exact HC0.out); rintro e w' ⟨rfl, ⟨nd, rfl⟩⟩; refine ⟨_, rfl, ?_⟩))
  go_ret
  exact ⟨s5_, s1_⟩
 ·
  replace c3 := Bool.eq_false_iff.mpr c3; subst c3
  rw [if_neg (show ¬ (false = true) by decide)] at H
  obtain ⟨⟨t1331, t1332⟩, A4, H⟩ := bnd52_ H; dsimp only at H; obtain ⟨t1336, A5, H⟩ := bnd52_ H; obtain ⟨t1339, A6, H⟩ := bnd52_ H; obtain ⟨⟨t1342, t1343, t1346⟩, A7, H⟩ := bnd52_ H; dsimp only at H; obtain ⟨t1350, A8, H⟩ := bnd52_ H; have HC9 := Aside0.mk H; clear H
  go_enter Tryz.func5, Tryz.ntmps5
  go_upto_region 8 with (first | ((with_reducible refine gate_callee (f := 9) rfl ?_); refine gL_ 9 13 Tryz.func9 #[.slice A0 l0.length c0] ?_; (with_reducible refine (laws_big.calls _ _ l0 false _ ?side1 ?side2 A2.out).mono ?_); (case side1 => exact s15_); (case side2 => exact HC0.out); rintro e w' ⟨rfl, ⟨nd, rfl⟩⟩; refine ⟨_, rfl, ?_⟩) | ((with_reducible refine gate_callee (f := 50) rfl ?_); refine gL_ 50 15 Tryz.func50 #[.slice A0 l0.length c0] ?_; (with_reducible refine (spec_DrawStemBase.calls k _ _ l0 t1331 t1332 _ ?side1 ?side2 A4.out).mono ?_); (case side1 => exact s15_); (case side2 => exact HC0.out); rintro e w10 ⟨v1333, rfl, ho0, hb⟩; refine ⟨_, rfl, ?_⟩; have n_ := ac_ (Kd.R_lower ho0 (below_size s1_)) <| Aside0.mk (below_step s1_ hb); clear HB; obtain ⟨HO1334, HB⟩ := n_; (try clear hb ho0)) | ((with_reducible refine gate_dst (N := 3) rfl ?_); (try (refine gate_guard (by rfl) ?_; dsimp only)); refine box_event ?hg (N := 3) ?hd (cs := #[.int .i64 0, .slice none 0 0]) (t := 29) ?hr ?_; (case hd => rfl); (case hg => rfl); (case hr => first | (go_simp; done) | (go_simp; rfl)); intro gb1335 hg w11 hbox hb; have n_ := ac_ (Kd.R_below q52_26 hb) <| ac_ (below_step s1_ hb) <| ac_ (hbox) <| ac_ ((gz_ w hg s1_)) <| Aside0.mk ((gz_ w hg s1_)); clear HO1334 HB; obtain ⟨HO1334, HB, BK1335, GW1335, GE1335⟩ := n_; clear hb hbox hg; have hcz12_0 : w11.cell? ⟨gb1335, 0, none⟩ = some (.int .i64 0) := (blk_cell BK1335.out 0).trans rfl; have hcz12_1 : w11.cell? ⟨gb1335, 1, none⟩ = some (.slice none 0 0) := (blk_cell BK1335.out 1).trans rfl; have hfz12_0 := blk_frozen BK1335.out 0; have hfz12_1 := blk_frozen BK1335.out 1; obtain ⟨Ao13, co13, eo13⟩ := Kd.R_slice HO1334.out; subst eo13) | ((with_reducible refine gate_callee (f := 51) rfl ?_); refine gL_ 51 17 Tryz.func51 #[.agg #[.int .i64 t1331, .slice Ao13 t1332.length co13]] ?_; (with_reducible refine (impl_StemBase.calls t1331 _ _ t1332 t1336 _ ?side1 ?side2 ?tab A5.out).mono ?_); (case tab => first | exact HTB.out | (refine Tab64.below HTB.out ?_; repeat (first | (with_reducible first | exact HB.out | apply below_alloc | apply pw_below_drewN | apply below_drew1 | refine below_set ?_ GE1335.out | refine below_set ?_ GE1349.out) | exact HB.out)) | (repeat (first | exact HTB.out | apply Tab64.drewN | apply Tab64.drew | apply Tab64.alloc))); (case side1 => refine (Kd.R_reads' (e := 3) (base := w.heap.size) (ok := fun k_ => True) (n := t1332.length) (c := co13) ?_).2.2; exact q52_1); (case side2 => exact (Kd.R_reads' HO1334.out).2.1); rintro e w14 ⟨v1337, rfl, ho0, hb⟩; refine ⟨_, rfl, ?_⟩; have n_ := ac_ (Kd.R_below q52_1 hb) <| ac_ (Kd.R_lower ho0 (below_size q52_16)) <| ac_ (blk_below (g := gb1335) (o := .cells #[.int .i64 t1331, .slice Ao13 t1332.length co13] 29 (0, 0)) (by (with_reducible repeat (first | refine blk_drewN ?_ _ | refine blk_drew ?_ | refine blk_alloc ?_ _)); refine blk_put (cs := #[.int .i64 t1331, .slice none 0 0]) ?_ 1 _ rfl; (with_reducible repeat (first | refine blk_drewN ?_ _ | refine blk_drew ?_ | refine blk_alloc ?_ _)); refine blk_put (cs := #[.int .i64 0, .slice none 0 0]) ?_ 0 _ rfl; (with_reducible repeat (first | refine blk_drewN ?_ _ | refine blk_drew ?_ | refine blk_alloc ?_ _)); exact BK1335.out) hb) <| Aside0.mk (below_step q52_16 hb); clear HO1334 BK1335 HB; obtain ⟨HO1334, HO1338, BK1335, HB⟩ := n_; (try clear hb ho0); have hcz15_0 : w14.cell? ⟨gb1335, 0, none⟩ = some (.int .i64 t1331) := (blk_cell BK1335.out 0).trans rfl; have hcz15_1 : w14.cell? ⟨gb1335, 1, none⟩ = some (.slice Ao13 t1332.length co13) := (blk_cell BK1335.out 1).trans rfl; have hfz15_0 := blk_frozen BK1335.out 0; have hfz15_1 := blk_frozen BK1335.out 1) | ((with_reducible refine gate_callee (f := 52) rfl ?_); refine gL_ 52 19 Tryz.func52 #[.agg #[.int .i64 t1331, .slice Ao13 t1332.length co13]] ?_; (with_reducible refine (impl_PseudoIntents.calls t1331 _ _ t1332 t1339 _ ?side1 ?side2 ?tab A6.out).mono ?_); (case tab => first | exact HTB.out | (refine Tab64.below HTB.out ?_; repeat (first | (with_reducible first | exact HB.out | apply below_alloc | apply pw_below_drewN | apply below_drew1 | refine below_set ?_ GE1335.out | refine below_set ?_ GE1349.out) | exact HB.out)) | (repeat (first | exact HTB.out | apply Tab64.drewN | apply Tab64.drew | apply Tab64.alloc))); (case side1 => exact q52_8); (case side2 => exact (Kd.R_reads' HO1334.out).2.1); rintro e w16 ⟨v1340, rfl, ho0, hb⟩; refine ⟨_, rfl, ?_⟩; have n_ := ac_ (Kd.R_elder' q52_26 (Kd.R_base ho0) hb) <| ac_ (Kd.R_below q52_27 hb) <| ac_ (Kd.R_lower (Kd.R_new' ho0 (Kd.R_lt q52_26)) (below_size q52_16)) <| ac_ (blk_below (g := gb1335) (o := .cells #[.int .i64 t1331, .slice Ao13 t1332.length co13] 29 (0, 0)) q52_23 hb) <| Aside0.mk (below_step q52_16 hb); clear HO1334 HO1338 BK1335 HB; obtain ⟨HO1334, HO1338, HO1341, BK1335, HB⟩ := n_; (try clear hb ho0)) | ((with_reducible refine gate_callee (f := 53) rfl ?_); refine gL_ 53 22 Tryz.func53 #[.slice A0 l0.length c0] ?_; (with_reducible refine (spec_DrawIsBase.calls k _ _ l0 t1342 t1343 t1346 _ ?side1 ?side2 A7.out).mono ?_); (case side1 => repeat (first | exact (Kd.C_below HR0.out HB.out) | (with_reducible refine Kd.C_alloc ?_ _) | (with_reducible refine Kd.C_drewN ?_ _) | (with_reducible refine Kd.C_drew ?_))); (case side2 => exact HC0.out); rintro e w17 ⟨v1344, v1347, rfl, ho0, ho1, hb⟩; refine ⟨_, rfl, ?_⟩; have n_ := ac_ (Kd.R_elder' q52_26 (Kd.R_base ho0) hb) <| ac_ (Kd.R_elder' q52_27 (Kd.R_base ho1) hb) <| ac_ (Kd.R_elder' q52_28 (Kd.R_base ho0) hb) <| ac_ (Kd.R_lower (Kd.R_new' (Kd.R_new' ho0 (Kd.R_lt q52_26)) (Kd.R_lt q52_28)) (below_size q52_16)) <| ac_ (Kd.R_lower (Kd.R_new' ho1 (Kd.R_lt q52_27)) (below_size q52_16)) <| ac_ (blk_below (g := gb1335) (o := .cells #[.int .i64 t1331, .slice Ao13 t1332.length co13] 29 (0, 0)) q52_23 hb) <| Aside0.mk (below_step q52_16 hb); clear HO1334 HO1338 HO1341 BK1335 HB; obtain ⟨HO1334, HO1338, HO1341, HO1345, HO1348, BK1335, HB⟩ := n_; (try clear hb ho0 ho1)) | ((with_reducible refine gate_dst (N := 6) rfl ?_); (try (refine gate_guard (by rfl) ?_; dsimp only)); refine box_event ?hg (N := 6) ?hd (cs := #[.int .i64 0, .slice none 0 0]) (t := 29) ?hr ?_; (case hd => rfl); (case hg => rfl); (case hr => first | (go_simp; done) | (go_simp; rfl)); intro gb1349 hg w18 hbox hb; have n_ := ac_ (Kd.R_below q52_26 hb) <| ac_ (Kd.R_below q52_27 hb) <| ac_ (Kd.R_below q52_28 hb) <| ac_ (Kd.R_below q52_29 hb) <| ac_ (Kd.R_below q52_30 hb) <| ac_ (blk_below (g := gb1335) (o := .cells #[.int .i64 t1331, .slice Ao13 t1332.length co13] 29 (0, 0)) q52_23 hb) <| ac_ (below_step q52_16 hb) <| ac_ (hbox) <| ac_ ((gz_ w hg q52_16)) <| ac_ ((gz_ w hg q52_16)) <| ac_ ((nl_ hg (blk_lt (g := gb1335) (o := .cells #[.int .i64 t1331, .slice Ao13 t1332.length co13] 29 (0, 0)) q52_23))) <| Aside0.mk ((ng_ hg (blk_lt (g := gb1335) (o := .cells #[.int .i64 t1331, .slice Ao13 t1332.length co13] 29 (0, 0)) q52_23))); clear HO1334 HO1338 HO1341 HO1345 HO1348 BK1335 HB; obtain ⟨HO1334, HO1338, HO1341, HO1345, HO1348, BK1335, HB, BK1349, GW1349, GE1349, NB1335_1349, NB1349_1335⟩ := n_; clear hb hbox hg; have hnb19 := NB1349_1335.out; have hnc19 := NB1335_1349.out; have hcz20_0 : w18.cell? ⟨gb1349, 0, none⟩ = some (.int .i64 0) := (blk_cell BK1349.out 0).trans rfl; have hcz20_1 : w18.cell? ⟨gb1349, 1, none⟩ = some (.slice none 0 0) := (blk_cell BK1349.out 1).trans rfl; have hfz20_0 := blk_frozen BK1349.out 0; have hfz20_1 := blk_frozen BK1349.out 1; obtain ⟨Ao21, co21, eo21⟩ := Kd.R_slice HO1345.out; subst eo21; obtain ⟨Ao22, co22, eo22⟩ := Kd.R_slice HO1348.out; subst eo22) | ((with_reducible refine gate_callee (f := 54) rfl ?_); refine gL_ 54 27 Tryz.func54 #[.agg #[.int .i64 t1342, .slice Ao21 t1343.length co21], .slice Ao22 t1346.length co22] ?_; (with_reducible refine (impl_IsBase.calls k t1342 _ _ t1343 _ _ t1346 t1350 _ ?side1 ?side2 ?side3 ?side4 ?tab A8.out).mono ?_); (case tab => first | exact HTB.out | (refine Tab64.below HTB.out ?_; repeat (first | (with_reducible first | exact HB.out | apply below_alloc | apply pw_below_drewN | apply below_drew1 | refine below_set ?_ GE1335.out | refine below_set ?_ GE1349.out) | exact HB.out)) | (repeat (first | exact HTB.out | apply Tab64.drewN | apply Tab64.drew | apply Tab64.alloc))); (case side1 => refine (Kd.R_reads' (e := 3) (base := w.heap.size) (ok := fun k_ => ((True ∧ some k_ ≠ (.slice Ao13 t1332.length co13 : Value).ownBlock) ∧ some k_ ≠ (v1340 : Value).ownBlock)) (n := t1343.length) (c := co21) ?_).2.2; exact q52_2); (case side2 => exact (Kd.R_reads' HO1345.out).2.1); (case side3 => refine (Kd.R_reads' (e := 48) (base := w.heap.size) (ok := fun k_ => (True ∧ some k_ ≠ (v1337 : Value).ownBlock)) (n := t1346.length) (c := co22) ?_).2.2; exact q52_3); (case side4 => exact (Kd.R_reads' HO1348.out).2.1); rintro e w23 ⟨rfl, hb⟩; refine ⟨_, rfl, ?_⟩; have n_ := ac_ (Kd.R_below (by (with_reducible repeat (first | apply Kd.R_alloc | apply Kd.R_drewN | apply Kd.R_drew)); exact (Kd.R_mono (Kd.R_far (p := ⟨gb1349, 1, none⟩) (Kd.R_far (p := ⟨gb1349, 0, none⟩) (Kd.R_types HO1334.out BK1349.out (by decide)) (fun _ hk => hk.2) (.int .i64 t1342)) (fun _ hk => hk.2) (.slice Ao21 t1343.length co21)) (fun _ h_ => h_.1))) hb) <| ac_ (Kd.R_below (by (with_reducible repeat (first | apply Kd.R_alloc | apply Kd.R_drewN | apply Kd.R_drew)); exact (Kd.R_mono (Kd.R_far (p := ⟨gb1349, 1, none⟩) (Kd.R_far (p := ⟨gb1349, 0, none⟩) (Kd.R_types HO1338.out BK1349.out (by decide)) (fun _ hk => hk.2) (.int .i64 t1342)) (fun _ hk => hk.2) (.slice Ao21 t1343.length co21)) (fun _ h_ => h_.1))) hb) <| ac_ (Kd.R_below (by (with_reducible repeat (first | apply Kd.R_alloc | apply Kd.R_drewN | apply Kd.R_drew)); exact (Kd.R_mono (Kd.R_far (p := ⟨gb1349, 1, none⟩) (Kd.R_far (p := ⟨gb1349, 0, none⟩) (Kd.R_types HO1341.out BK1349.out (by decide)) (fun _ hk => hk.2) (.int .i64 t1342)) (fun _ hk => hk.2) (.slice Ao21 t1343.length co21)) (fun _ h_ => h_.1))) hb) <| ac_ (Kd.R_below q52_2 hb) <| ac_ (Kd.R_below q52_3 hb) <| ac_ (blk_below (g := gb1335) (o := .cells #[.int .i64 t1331, .slice Ao13 t1332.length co13] 29 (0, 0)) (by (with_reducible repeat (first | refine blk_drewN ?_ _ | refine blk_drew ?_ | refine blk_alloc ?_ _)); refine blk_far ?_ NB1335_1349.out _; (with_reducible repeat (first | refine blk_drewN ?_ _ | refine blk_drew ?_ | refine blk_alloc ?_ _)); refine blk_far ?_ NB1335_1349.out _; (with_reducible repeat (first | refine blk_drewN ?_ _ | refine blk_drew ?_ | refine blk_alloc ?_ _)); exact BK1335.out) hb) <| ac_ (blk_below (g := gb1349) (o := .cells #[.int .i64 t1342, .slice Ao21 t1343.length co21] 29 (0, 0)) (by (with_reducible repeat (first | refine blk_drewN ?_ _ | refine blk_drew ?_ | refine blk_alloc ?_ _)); refine blk_put (cs := #[.int .i64 t1342, .slice none 0 0]) ?_ 1 _ rfl; (with_reducible repeat (first | refine blk_drewN ?_ _ | refine blk_drew ?_ | refine blk_alloc ?_ _)); refine blk_put (cs := #[.int .i64 0, .slice none 0 0]) ?_ 0 _ rfl; (with_reducible repeat (first | refine blk_drewN ?_ _ | refine blk_drew ?_ | refine blk_alloc ?_ _)); exact BK1349.out) hb) <| Aside0.mk (below_step q52_4 hb); clear HO1334 HO1338 HO1341 HO1345 HO1348 BK1335 BK1349 HB; obtain ⟨HO1334, HO1338, HO1341, HO1345, HO1348, BK1335, BK1349, HB⟩ := n_; (try clear hb)))
  (try simp only [Act.put, List.setIfInBounds_toArray, List.set_cons_zero, List.set_cons_succ])
  go_cut [73] (fun v73 wc => ∃ (kq : Nat) (x73_8 : Bool), v73 = .bool x73_8 ∧ Aside0 (laws_FnStem.j0 kq t1336 t1339 x73_8 t1331 t1332 = some r) ∧ Aside0 (kq ≤ k) ∧ Aside0 (Kd.R k48 48 wc w.heap.size (fun _ => True) v1337 t1336) ∧ Aside0 (Kd.R (Kd.int .i64) 3 wc w.heap.size (fun k_ => some k_ ≠ ((.slice Ao13 t1332.length co13) : Value).ownBlock) v1340 t1339) ∧ Aside0 (Kd.R (Kd.int .i64) 3 wc w.heap.size (fun k_ => some k_ ≠ (v1340 : Value).ownBlock) (.slice Ao13 t1332.length co13) t1332) ∧ Aside0 (wc.heap[gb1335]? = some (.cells #[.int .i64 t1331, (.slice Ao13 t1332.length co13)] 29 (0, 0))) ∧ Aside0 (Below w.heap.size w wc))
  case first =>
   have H := HC9.out; clear HC9; obtain ⟨t1351, A24, H⟩ := bnd52_ H; obtain ⟨t1354, A25, H⟩ := bnd52_ H
   by_cases c26 : t1354 = true
   ·
    subst c26; rw [if_pos rfl] at H; obtain ⟨t1355, A27, H⟩ := bnd52_ H; obtain ⟨t1358, A28, H⟩ := bnd52_ H
    by_cases c29 : t1358 = true
    ·
     subst c29; rw [if_pos rfl] at H; obtain ⟨t1359, A30, H⟩ := bnd52_ H
     by_cases c31 : (t1350 != t1359) = true
     ·
      rw [if_pos c31] at H; have c31b0 : (t1350 != t1359) = true := c31
      (try (have c31b1 : decide (t1350 = t1359) = false := by simpa using c31))
      (try (have c31b2 : (t1350 == t1359) = false := by simpa using c31))
      (try (have c31b3 : ¬ (t1350 = t1359) := by simpa using c31))
      clear c31
      (first | rw [c31b0] | (simp only [i64_w, i32_w]; rw [c31b0]) | skip)
      refine absurd ?_ Bool.false_ne_true; revert H; generalize k = kq_; intro H; cases kq_ with | zero => exact absurd H q52_38 | succ kq_ => simp only [laws_FnStem.j0] at H; (try rw [if_pos rfl] at H); exact (Option.some.inj H).trans HRT.out
     ·
      rw [if_neg c31] at H
      have c31b0 : (t1350 != t1359) = false := by simpa using c31
      (try (have c31b1 : decide (t1350 = t1359) = true := by simpa using c31))
      (try (have c31b2 : (t1350 == t1359) = true := by simpa using c31))
      clear c31
      (first | rw [c31b0] | (simp only [i64_w, i32_w]; rw [c31b0]) | skip)
      obtain ⟨t1360, A32, H⟩ := bnd52_ H; obtain ⟨t1361, A33, H⟩ := bnd52_ H
      by_cases c34 : (t1360 != t1361) = true
      ·
       rw [if_pos c34] at H; have c34b0 : (t1360 != t1361) = true := c34
       (try (have c34b1 : decide (t1360 = t1361) = false := by simpa using c34))
       (try (have c34b2 : (t1360 == t1361) = false := by simpa using c34))
       (try (have c34b3 : ¬ (t1360 = t1361) := by simpa using c34))
       clear c34
       refine absurd ?_ Bool.false_ne_true; revert H; generalize k = kq_; intro H; cases kq_ with | zero => exact absurd H q52_38 | succ kq_ => simp only [laws_FnStem.j0] at H; (try rw [if_pos rfl] at H); exact (Option.some.inj H).trans HRT.out
      ·
       rw [if_neg c34] at H
       have c34b0 : (t1360 != t1361) = false := by simpa using c34
       (try (have c34b1 : decide (t1360 = t1361) = true := by simpa using c34))
       (try (have c34b2 : (t1360 == t1361) = true := by simpa using c34))
       clear c34; obtain ⟨t1362, A35, H⟩ := bnd52_ H; obtain ⟨t1363, A36, H⟩ := bnd52_ H
       by_cases c37 : t1362 = t1363
       ·
        rw [if_pos c37] at H; have c37b0 : (t1362 == t1363) = true := beq_iff_eq.mpr c37; have c37b1 : (t1362 != t1363) = false := bne_eq_false_iff_eq.mpr c37; clear c37
        by_cases c38 : t1350 = true
        ·
         subst c38; rw [if_pos rfl] at H; obtain ⟨t1364, A39, H⟩ := bnd52_ H; have H' := Aside0.mk H; clear H
         try go_wp2
         have n0_ := Aside0.mk (Kd.R_drew HO1334.out); have n1_ := Aside0.mk (Kd.R_drew HO1338.out); have n2_ := Aside0.mk (Kd.R_drew HO1341.out); have n3_ := Aside0.mk (Kd.R_drew HO1345.out); have n4_ := Aside0.mk (Kd.R_drew HO1348.out); have n5_ := Aside0.mk (blk_drew BK1335.out); have n6_ := Aside0.mk (blk_drew BK1349.out); have n7_ := Aside0.mk (below_drew1 HB.out); clear HO1334; clear HO1338; clear HO1341; clear HO1345; clear HO1348; clear BK1335; clear BK1349; clear HB; have HO1334 := n0_; have HO1338 := n1_; have HO1341 := n2_; have HO1345 := n3_; have HO1348 := n4_; have BK1335 := n5_; have BK1349 := n6_; have HB := n7_; clear n0_ n1_ n2_ n3_ n4_ n5_ n6_ n7_
         refine start_ (n := 46) (S := fun w' => w'.cell? ⟨gb1335, 0, none⟩ = some (.int .i64 t1331) ∧ w'.cell? ⟨gb1335, 1, none⟩ = some (.slice Ao13 t1332.length co13) ∧ w'.cell? ⟨gb1349, 0, none⟩ = some (.int .i64 t1342) ∧ w'.cell? ⟨gb1349, 1, none⟩ = some (.slice Ao21 t1343.length co21)) (ds := []) (tb_ 46 0) s12_ rfl rfl ⟨(blk_cell BK1335.out 0).trans rfl, (blk_cell BK1335.out 1).trans rfl, (blk_cell BK1349.out 0).trans rfl, (blk_cell BK1349.out 1).trans rfl⟩ (fun hHeld => ?_); refine with_tabW laws_FnStem.tab8 laws_FnStem.bits8 (fun HT_ HW_ => ?_)
         generalize w23.drew = w40 at HO1334 HO1338 HO1341 HO1345 HO1348 BK1335 BK1349 HB hHeld ⊢
         refine pl_ 0 28 (tb_ 46 1) ?_; refine tk_ 1 29 (tb_ 46 3) hHeld ?_
         refine on_ 2 30 (tb_ 46 7) (fun K hK => ?_)
         refine goes_ Tryz.func28 s12_ rfl #[.agg #[.int .i64 t1331, .slice Ao13 t1332.length co13]] (by rfl) rfl rfl s0_ ?_
         with_reducible refine (spec_StemBase.calls k t1331 _ _ t1332 t1351 _ ?side1 ?side2 A24.out).mono ?_
         (case side1 => exact q52_8)
         (case side2 => exact (Kd.R_reads' HO1334.out).2.1)
         rintro e w41 ⟨v1352, rfl, ho0, hb⟩
         refine ⟨_, rfl, ?_⟩
         have n0_ := Aside0.mk (Kd.R_below q52_26 hb); have n1_ := Aside0.mk (Kd.R_elder' q52_27 (Kd.R_base ho0) hb); have n2_ := Aside0.mk (Kd.R_below q52_28 hb); have n3_ := Aside0.mk (Kd.R_below q52_29 hb); have n4_ := Aside0.mk (Kd.R_elder' q52_30 (Kd.R_base ho0) hb); have n5_ := Aside0.mk (Kd.R_lower (Kd.R_new' (Kd.R_new' ho0 (Kd.R_lt q52_27)) (Kd.R_lt q52_30)) (below_size q52_4)); have n6_ := Aside0.mk (blk_below (g := gb1335) (o := .cells #[.int .i64 t1331, .slice Ao13 t1332.length co13] 29 (0, 0)) q52_23 hb); have n7_ := Aside0.mk (blk_below (g := gb1349) (o := .cells #[.int .i64 t1342, .slice Ao21 t1343.length co21] 29 (0, 0)) q52_24 hb); have n8_ := Aside0.mk (below_step q52_4 hb); clear HO1334; clear HO1338; clear HO1341; clear HO1345; clear HO1348; clear BK1335; clear BK1349; clear HB; have HO1334 := n0_; have HO1338 := n1_; have HO1341 := n2_; have HO1345 := n3_; have HO1348 := n4_; have HO1353 := n5_; have BK1335 := n6_; have BK1349 := n7_; have HB := n8_
         clear n0_ n1_ n2_ n3_ n4_ n5_ n6_ n7_ n8_
         (try clear hb)
         (try clear hb2)
         (try clear hk)
         (try clear hi)
         (try clear ho0)
         obtain ⟨Ao42, co42, eo42⟩ := Kd.R_slice HO1338.out
         (first | subst eo42 | (injection eo42 with f1_ f2_ f3_; have f4_ := f1_.symm; have f5_ := f3_.symm; clear f1_ f2_ f3_; subst f4_; subst f5_))
         obtain ⟨Ao43, co43, eo43⟩ := Kd.R_slice HO1353.out
         (first | subst eo43 | (injection eo43 with f1_ f2_ f3_; have f4_ := f1_.symm; have f5_ := f3_.symm; clear f1_ f2_ f3_; subst f4_; subst f5_))
         refine hK.out _ _ ⟨(blk_cell BK1335.out 0).trans rfl, (blk_cell BK1335.out 1).trans rfl, (blk_cell BK1349.out 0).trans rfl, (blk_cell BK1349.out 1).trans rfl⟩ (fun hHeld => ?_)
         clear hK K
         refine norm_ (a' := ?_) ?_ ?_
         rotate_left
         ·
          show Act.put _ (some 30) _ = _
          exact s9_
         refine on_ 3 31 (tb_ 46 15) (fun K hK => ?_)
         refine goes_ Tryz.func27 s12_ rfl #[.slice Ao42 t1336.length co42, .slice Ao43 t1351.length co43] (by rfl) rfl rfl s0_ ?_
         with_reducible refine (laws_sameRules.calls k _ _ t1336 _ _ t1351 true _ ?side1 ?side2 ?side3 ?side4 A25.out).mono ?_
         (case side1 => exact q52_9)
         (case side2 => exact (Kd.R_reads' HO1338.out).2.1)
         (case side3 => exact q52_13)
         (case side4 => exact (Kd.R_reads' HO1353.out).2.1)
         rintro e w' ⟨rfl, ⟨nd, rfl⟩⟩
         refine ⟨_, rfl, ?_⟩
         refine hK.out _ _ ⟨(blk_cell BK1335.out 0).trans rfl, (blk_cell BK1335.out 1).trans rfl, (blk_cell BK1349.out 0).trans rfl, (blk_cell BK1349.out 1).trans rfl⟩ (fun hHeld => ?_)
         clear hK K
         refine norm_ (a' := ?_) ?_ ?_
         rotate_left
         ·
          show Act.put _ (some 31) _ = _
          exact s9_
         refine pl_ 4 32 (tb_ 46 31) ?_; refine pl_ 5 33 (tb_ 46 63) ?_; refine pl_ 6 34 (tb_ 46 127) ?_; refine tk_ 7 35 (tb_ 46 255) hHeld ?_
         refine on_ 8 36 (tb_ 46 511) (fun K hK => ?_)
         refine goes_ Tryz.func55 s12_ rfl #[.agg #[.int .i64 t1331, .slice Ao13 t1332.length co13]] (by rfl) rfl rfl s0_ ?_
         with_reducible refine (spec_PseudoIntents.calls k t1331 _ _ t1332 t1355 _ ?side1 ?side2 A27.out).mono ?_
         (case side1 => exact q52_8)
         (case side2 => exact (Kd.R_reads' HO1334.out).2.1)
         rintro e w44 ⟨v1356, rfl, ho0, hb⟩
         refine ⟨_, rfl, ?_⟩
         have n0_ := Aside0.mk (Kd.R_elder' q52_26 (Kd.R_base ho0) hb); have n1_ := Aside0.mk (Kd.R_below q52_27 hb); have n2_ := Aside0.mk (Kd.R_elder' q52_28 (Kd.R_base ho0) hb); have n3_ := Aside0.mk (Kd.R_elder' q52_29 (Kd.R_base ho0) hb); have n4_ := Aside0.mk (Kd.R_below q52_30 hb); have n5_ := Aside0.mk (Kd.R_below q52_31 hb); have n6_ := Aside0.mk (Kd.R_lower (Kd.R_new' (Kd.R_new' (Kd.R_new' ho0 (Kd.R_lt q52_26)) (Kd.R_lt q52_28)) (Kd.R_lt q52_29)) (below_size q52_4)); have n7_ := Aside0.mk (blk_below (g := gb1335) (o := .cells #[.int .i64 t1331, .slice Ao13 t1332.length co13] 29 (0, 0)) q52_23 hb); have n8_ := Aside0.mk (blk_below (g := gb1349) (o := .cells #[.int .i64 t1342, .slice Ao21 t1343.length co21] 29 (0, 0)) q52_24 hb); have n9_ := Aside0.mk (below_step q52_4 hb); clear HO1334; clear HO1338; clear HO1341; clear HO1345; clear HO1348; clear HO1353; clear BK1335; clear BK1349; clear HB; have HO1334 := n0_; have HO1338 := n1_; have HO1341 := n2_; have HO1345 := n3_
         have HO1348 := n4_; have HO1353 := n5_; have HO1357 := n6_; have BK1335 := n7_; have BK1349 := n8_; have HB := n9_; clear n0_ n1_ n2_ n3_ n4_ n5_ n6_ n7_ n8_ n9_
         (try clear hb)
         (try clear hb2)
         (try clear hk)
         (try clear hi)
         (try clear ho0)
         obtain ⟨Ao45, co45, eo45⟩ := Kd.R_slice HO1341.out
         (first | subst eo45 | (injection eo45 with f1_ f2_ f3_; have f4_ := f1_.symm; have f5_ := f3_.symm; clear f1_ f2_ f3_; subst f4_; subst f5_))
         obtain ⟨Ao46, co46, eo46⟩ := Kd.R_slice HO1357.out
         (first | subst eo46 | (injection eo46 with f1_ f2_ f3_; have f4_ := f1_.symm; have f5_ := f3_.symm; clear f1_ f2_ f3_; subst f4_; subst f5_))
         refine hK.out _ _ ⟨(blk_cell BK1335.out 0).trans rfl, (blk_cell BK1335.out 1).trans rfl, (blk_cell BK1349.out 0).trans rfl, (blk_cell BK1349.out 1).trans rfl⟩ (fun hHeld => ?_)
         clear hK K
         refine norm_ (a' := ?_) ?_ ?_
         rotate_left
         ·
          show Act.put _ (some 36) _ = _
          exact s9_
         refine on_ 9 37 (tb_ 46 1023) (fun K hK => ?_)
         refine goes_ Tryz.func21 s12_ rfl #[.slice Ao45 t1339.length co45, .slice Ao46 t1355.length co46] (by rfl) rfl rfl s0_ ?_
         with_reducible refine (laws_sameInts.calls k _ _ t1339 _ _ t1355 true _ ?side1 ?side2 ?side3 ?side4 A28.out).mono ?_
         (case side1 => exact q52_10)
         (case side2 => exact (Kd.R_reads' HO1341.out).2.1)
         (case side3 => exact q52_14)
         (case side4 => exact (Kd.R_reads' HO1357.out).2.1)
         rintro e w' ⟨rfl, ⟨nd, rfl⟩⟩
         refine ⟨_, rfl, ?_⟩
         refine hK.out _ _ ⟨(blk_cell BK1335.out 0).trans rfl, (blk_cell BK1335.out 1).trans rfl, (blk_cell BK1349.out 0).trans rfl, (blk_cell BK1349.out 1).trans rfl⟩ (fun hHeld => ?_)
         clear hK K
         refine norm_ (a' := ?_) ?_ ?_
         rotate_left
         ·
          show Act.put _ (some 37) _ = _
          exact s9_
         refine pl_ 10 38 (tb_ 46 2047) ?_; refine pl_ 11 39 (tb_ 46 4095) ?_; refine pl_ 12 40 (tb_ 46 8191) ?_; refine pl_ 13 41 (tb_ 46 16383) ?_; refine pl_ 15 43 (tb_ 46 49151) ?_; refine tk_ 14 42 (tb_ 46 65535) hHeld ?_
         refine on_ 16 44 (tb_ 46 131071) (fun K hK => ?_)
         refine goes_ Tryz.func56 s12_ rfl #[.agg #[.int .i64 t1342, .slice Ao21 t1343.length co21], .slice Ao22 t1346.length co22] (by rfl) rfl rfl s0_ ?_
         with_reducible refine (spec_IsBase.calls k t1342 _ _ t1343 _ _ t1346 t1359 _ ?side1 ?side2 ?side3 ?side4 A30.out).mono ?_
         (case side1 => exact q52_11)
         (case side2 => exact (Kd.R_reads' HO1345.out).2.1)
         (case side3 => exact q52_12)
         (case side4 => exact (Kd.R_reads' HO1348.out).2.1)
         rintro e w47 ⟨rfl, hb⟩
         refine ⟨_, rfl, ?_⟩
         have n0_ := Aside0.mk (Kd.R_below q52_26 hb); have n1_ := Aside0.mk (Kd.R_below q52_27 hb); have n2_ := Aside0.mk (Kd.R_below q52_28 hb); have n3_ := Aside0.mk (Kd.R_below q52_29 hb); have n4_ := Aside0.mk (Kd.R_below q52_30 hb); have n5_ := Aside0.mk (Kd.R_below q52_31 hb); have n6_ := Aside0.mk (Kd.R_below q52_32 hb); have n7_ := Aside0.mk (blk_below (g := gb1335) (o := .cells #[.int .i64 t1331, .slice Ao13 t1332.length co13] 29 (0, 0)) q52_23 hb); have n8_ := Aside0.mk (blk_below (g := gb1349) (o := .cells #[.int .i64 t1342, .slice Ao21 t1343.length co21] 29 (0, 0)) q52_24 hb); have n9_ := Aside0.mk (below_step q52_4 hb); clear HO1334; clear HO1338; clear HO1341; clear HO1345; clear HO1348; clear HO1353; clear HO1357; clear BK1335; clear BK1349; clear HB; have HO1334 := n0_; have HO1338 := n1_; have HO1341 := n2_; have HO1345 := n3_; have HO1348 := n4_; have HO1353 := n5_; have HO1357 := n6_; have BK1335 := n7_; have BK1349 := n8_; have HB := n9_
         clear n0_ n1_ n2_ n3_ n4_ n5_ n6_ n7_ n8_ n9_
         (try clear hb)
         (try clear hb2)
         (try clear hk)
         (try clear hi)
         refine hK.out _ _ ⟨(blk_cell BK1335.out 0).trans rfl, (blk_cell BK1335.out 1).trans rfl, (blk_cell BK1349.out 0).trans rfl, (blk_cell BK1349.out 1).trans rfl⟩ (fun hHeld => ?_)
         clear hK K
         refine norm_ (a' := ?_) ?_ ?_
         rotate_left
         ·
          show Act.put _ (some 44) _ = _
          exact s9_
         refine pl_ 17 45 (tb_ 46 262143) ?_; refine pl_ 18 46 (tb_ 46 524287) ?_; refine pl_ 19 47 (tb_ 46 1048575) ?_; refine pl_ 21 49 (tb_ 46 3145727) ?_; refine pl_ 24 52 (tb_ 46 19922943) ?_; refine tk_ 20 48 (tb_ 46 20971519) hHeld ?_; refine tk_ 23 51 (tb_ 46 29360127) hHeld ?_
         refine on_ 22 50 (tb_ 46 33554431) (fun K hK => ?_)
         refine goes_ Tryz.func57 s12_ rfl #[.agg #[.int .i64 t1342, .slice Ao21 t1343.length co21], .slice Ao22 t1346.length co22] (by rfl) rfl rfl s0_ ?_
         with_reducible refine (impl_IsShortest.calls k t1342 _ _ t1343 _ _ t1346 t1360 _ ?side1 ?side2 ?side3 ?side4 ?tab A32.out).mono ?_
         (case tab => first | exact HTB.out | (refine Tab64.below HTB.out ?_; repeat (first | (with_reducible first | exact HB.out | apply below_alloc | apply pw_below_drewN | apply below_drew1 | refine below_set ?_ GE1335.out | refine below_set ?_ GE1349.out) | exact HB.out)) | (repeat (first | exact HTB.out | apply Tab64.drewN | apply Tab64.drew | apply Tab64.alloc)))
         (case side1 => exact q52_11)
         (case side2 => exact (Kd.R_reads' HO1345.out).2.1)
         (case side3 => exact q52_12)
         (case side4 => exact (Kd.R_reads' HO1348.out).2.1)
         rintro e w48 ⟨rfl, hb⟩
         refine ⟨_, rfl, ?_⟩
         have n0_ := Aside0.mk (Kd.R_below q52_26 hb); have n1_ := Aside0.mk (Kd.R_below q52_27 hb); have n2_ := Aside0.mk (Kd.R_below q52_28 hb); have n3_ := Aside0.mk (Kd.R_below q52_29 hb); have n4_ := Aside0.mk (Kd.R_below q52_30 hb); have n5_ := Aside0.mk (Kd.R_below q52_31 hb); have n6_ := Aside0.mk (Kd.R_below q52_32 hb); have n7_ := Aside0.mk (blk_below (g := gb1335) (o := .cells #[.int .i64 t1331, .slice Ao13 t1332.length co13] 29 (0, 0)) q52_23 hb); have n8_ := Aside0.mk (blk_below (g := gb1349) (o := .cells #[.int .i64 t1342, .slice Ao21 t1343.length co21] 29 (0, 0)) q52_24 hb); have n9_ := Aside0.mk (below_step q52_4 hb); clear HO1334; clear HO1338; clear HO1341; clear HO1345; clear HO1348; clear HO1353; clear HO1357; clear BK1335; clear BK1349; clear HB; have HO1334 := n0_; have HO1338 := n1_; have HO1341 := n2_; have HO1345 := n3_; have HO1348 := n4_; have HO1353 := n5_; have HO1357 := n6_; have BK1335 := n7_; have BK1349 := n8_; have HB := n9_
         clear n0_ n1_ n2_ n3_ n4_ n5_ n6_ n7_ n8_ n9_
         (try clear hb)
         (try clear hb2)
         (try clear hk)
         (try clear hi)
         refine hK.out _ _ ⟨(blk_cell BK1335.out 0).trans rfl, (blk_cell BK1335.out 1).trans rfl, (blk_cell BK1349.out 0).trans rfl, (blk_cell BK1349.out 1).trans rfl⟩ (fun hHeld => ?_)
         clear hK K
         refine norm_ (a' := ?_) ?_ ?_
         rotate_left
         ·
          show Act.put _ (some 50) _ = _
          exact s9_
         refine on_ 25 53 (tb_ 46 67108863) (fun K hK => ?_)
         refine goes_ Tryz.func58 s12_ rfl #[.agg #[.int .i64 t1342, .slice Ao21 t1343.length co21], .slice Ao22 t1346.length co22] (by rfl) rfl rfl s0_ ?_
         with_reducible refine (spec_IsShortest.calls k t1342 _ _ t1343 _ _ t1346 t1361 _ ?side1 ?side2 ?side3 ?side4 A33.out).mono ?_
         (case side1 => exact q52_11)
         (case side2 => exact (Kd.R_reads' HO1345.out).2.1)
         (case side3 => exact q52_12)
         (case side4 => exact (Kd.R_reads' HO1348.out).2.1)
         rintro e w49 ⟨rfl, hb⟩
         refine ⟨_, rfl, ?_⟩
         have n0_ := Aside0.mk (Kd.R_below q52_26 hb); have n1_ := Aside0.mk (Kd.R_below q52_27 hb); have n2_ := Aside0.mk (Kd.R_below q52_28 hb); have n3_ := Aside0.mk (Kd.R_below q52_29 hb); have n4_ := Aside0.mk (Kd.R_below q52_30 hb); have n5_ := Aside0.mk (Kd.R_below q52_31 hb); have n6_ := Aside0.mk (Kd.R_below q52_32 hb); have n7_ := Aside0.mk (blk_below (g := gb1335) (o := .cells #[.int .i64 t1331, .slice Ao13 t1332.length co13] 29 (0, 0)) q52_23 hb); have n8_ := Aside0.mk (blk_below (g := gb1349) (o := .cells #[.int .i64 t1342, .slice Ao21 t1343.length co21] 29 (0, 0)) q52_24 hb); have n9_ := Aside0.mk (below_step q52_4 hb); clear HO1334; clear HO1338; clear HO1341; clear HO1345; clear HO1348; clear HO1353; clear HO1357; clear BK1335; clear BK1349; clear HB; have HO1334 := n0_; have HO1338 := n1_; have HO1341 := n2_; have HO1345 := n3_; have HO1348 := n4_; have HO1353 := n5_; have HO1357 := n6_; have BK1335 := n7_; have BK1349 := n8_; have HB := n9_
         clear n0_ n1_ n2_ n3_ n4_ n5_ n6_ n7_ n8_ n9_
         (try clear hb)
         (try clear hb2)
         (try clear hk)
         (try clear hi)
         refine hK.out _ _ ⟨(blk_cell BK1335.out 0).trans rfl, (blk_cell BK1335.out 1).trans rfl, (blk_cell BK1349.out 0).trans rfl, (blk_cell BK1349.out 1).trans rfl⟩ (fun hHeld => ?_)
         clear hK K
         refine norm_ (a' := ?_) ?_ ?_
         rotate_left
         ·
          show Act.put _ (some 53) _ = _
          exact s9_
         refine pl_ 26 54 (tb_ 46 134217727) ?_; refine pl_ 27 55 (tb_ 46 268435455) ?_; refine pl_ 28 56 (tb_ 46 536870911) ?_; refine tk_ 29 57 (tb_ 46 1073741823) hHeld ?_; refine tk_ 31 59 (tb_ 46 3221225471) hHeld ?_
         refine on_ 30 58 (tb_ 46 4294967295) (fun K hK => ?_)
         refine goes_ Tryz.func59 s12_ rfl #[.agg #[.int .i64 t1331, .slice Ao13 t1332.length co13]] (by rfl) rfl rfl s0_ ?_
         with_reducible refine (impl_CountRules.calls k t1331 _ _ t1332 t1362 _ ?side1 ?side2 ?tab A35.out).mono ?_
         (case tab => first | exact HTB.out | (refine Tab64.below HTB.out ?_; repeat (first | (with_reducible first | exact HB.out | apply below_alloc | apply pw_below_drewN | apply below_drew1 | refine below_set ?_ GE1335.out | refine below_set ?_ GE1349.out) | exact HB.out)) | (repeat (first | exact HTB.out | apply Tab64.drewN | apply Tab64.drew | apply Tab64.alloc)))
         (case side1 => exact q52_8)
         (case side2 => exact (Kd.R_reads' HO1334.out).2.1)
         rintro e w50 ⟨rfl, hb⟩
         refine ⟨_, rfl, ?_⟩
         have n0_ := Aside0.mk (Kd.R_below q52_26 hb); have n1_ := Aside0.mk (Kd.R_below q52_27 hb); have n2_ := Aside0.mk (Kd.R_below q52_28 hb); have n3_ := Aside0.mk (Kd.R_below q52_29 hb); have n4_ := Aside0.mk (Kd.R_below q52_30 hb); have n5_ := Aside0.mk (Kd.R_below q52_31 hb); have n6_ := Aside0.mk (Kd.R_below q52_32 hb); have n7_ := Aside0.mk (blk_below (g := gb1335) (o := .cells #[.int .i64 t1331, .slice Ao13 t1332.length co13] 29 (0, 0)) q52_23 hb); have n8_ := Aside0.mk (blk_below (g := gb1349) (o := .cells #[.int .i64 t1342, .slice Ao21 t1343.length co21] 29 (0, 0)) q52_24 hb); have n9_ := Aside0.mk (below_step q52_4 hb); clear HO1334; clear HO1338; clear HO1341; clear HO1345; clear HO1348; clear HO1353; clear HO1357; clear BK1335; clear BK1349; clear HB; have HO1334 := n0_; have HO1338 := n1_; have HO1341 := n2_; have HO1345 := n3_; have HO1348 := n4_; have HO1353 := n5_; have HO1357 := n6_; have BK1335 := n7_; have BK1349 := n8_; have HB := n9_
         clear n0_ n1_ n2_ n3_ n4_ n5_ n6_ n7_ n8_ n9_
         (try clear hb)
         (try clear hb2)
         (try clear hk)
         (try clear hi)
         refine hK.out _ _ ⟨(blk_cell BK1335.out 0).trans rfl, (blk_cell BK1335.out 1).trans rfl, (blk_cell BK1349.out 0).trans rfl, (blk_cell BK1349.out 1).trans rfl⟩ (fun hHeld => ?_)
         clear hK K
         refine norm_ (a' := ?_) ?_ ?_
         rotate_left
         ·
          show Act.put _ (some 58) _ = _
          exact s9_
         refine on_ 32 60 (tb_ 46 8589934591) (fun K hK => ?_)
         refine goes_ Tryz.func60 s12_ rfl #[.agg #[.int .i64 t1331, .slice Ao13 t1332.length co13]] (by rfl) rfl rfl s0_ ?_
         with_reducible refine (spec_CountRules.calls k t1331 _ _ t1332 t1363 _ ?side1 ?side2 A36.out).mono ?_
         (case side1 => exact q52_8)
         (case side2 => exact (Kd.R_reads' HO1334.out).2.1)
         rintro e w51 ⟨rfl, hb⟩
         refine ⟨_, rfl, ?_⟩
         have n0_ := Aside0.mk (Kd.R_below q52_26 hb); have n1_ := Aside0.mk (Kd.R_below q52_27 hb); have n2_ := Aside0.mk (Kd.R_below q52_28 hb); have n3_ := Aside0.mk (Kd.R_below q52_29 hb); have n4_ := Aside0.mk (Kd.R_below q52_30 hb); have n5_ := Aside0.mk (Kd.R_below q52_31 hb); have n6_ := Aside0.mk (Kd.R_below q52_32 hb); have n7_ := Aside0.mk (blk_below (g := gb1335) (o := .cells #[.int .i64 t1331, .slice Ao13 t1332.length co13] 29 (0, 0)) q52_23 hb); have n8_ := Aside0.mk (blk_below (g := gb1349) (o := .cells #[.int .i64 t1342, .slice Ao21 t1343.length co21] 29 (0, 0)) q52_24 hb); have n9_ := Aside0.mk (below_step q52_4 hb); clear HO1334; clear HO1338; clear HO1341; clear HO1345; clear HO1348; clear HO1353; clear HO1357; clear BK1335; clear BK1349; clear HB; have HO1334 := n0_; have HO1338 := n1_; have HO1341 := n2_; have HO1345 := n3_; have HO1348 := n4_; have HO1353 := n5_; have HO1357 := n6_; have BK1335 := n7_; have BK1349 := n8_; have HB := n9_
         clear n0_ n1_ n2_ n3_ n4_ n5_ n6_ n7_ n8_ n9_
         (try clear hb)
         (try clear hb2)
         (try clear hk)
         (try clear hi)
         refine hK.out _ _ ⟨(blk_cell BK1335.out 0).trans rfl, (blk_cell BK1335.out 1).trans rfl, (blk_cell BK1349.out 0).trans rfl, (blk_cell BK1349.out 1).trans rfl⟩ (fun hHeld => ?_)
         clear hK K
         refine norm_ (a' := ?_) ?_ ?_
         rotate_left
         ·
          show Act.put _ (some 60) _ = _
          exact s9_
         refine pl_ 33 61 (tb_ 46 17179869183) ?_; refine pl_ 34 62 (tb_ 46 34359738367) ?_; refine pl_ 35 63 (tb_ 46 68719476735) ?_; refine pl_ 36 64 (tb_ 46 137438953471) ?_; refine pl_ 37 65 (tb_ 46 274877906943) ?_; refine pl_ 38 66 (tb_ 46 549755813887) ?_; refine pl_ 39 67 (tb_ 46 1099511627775) ?_; refine tk_ 40 68 (tb_ 46 2199023255551) hHeld ?_
         refine on_ 41 69 (tb_ 46 4398046511103) (fun K hK => ?_)
         refine goes_ Tryz.func51 s12_ rfl #[.agg #[.int .i64 t1342, .slice Ao21 t1343.length co21]] (by rfl) rfl rfl s0_ ?_
         with_reducible refine (impl_StemBase.calls t1342 _ _ t1343 t1364 _ ?side1 ?side2 ?tab A39.out).mono ?_
         (case tab => first | exact HTB.out | (refine Tab64.below HTB.out ?_; repeat (first | (with_reducible first | exact HB.out | apply below_alloc | apply pw_below_drewN | apply below_drew1 | refine below_set ?_ GE1335.out | refine below_set ?_ GE1349.out) | exact HB.out)) | (repeat (first | exact HTB.out | apply Tab64.drewN | apply Tab64.drew | apply Tab64.alloc)))
         (case side1 => exact q52_11)
         (case side2 => exact (Kd.R_reads' HO1345.out).2.1)
         rintro e w52 ⟨v1365, rfl, ho0, hb⟩
         refine ⟨_, rfl, ?_⟩
         have n0_ := Aside0.mk (Kd.R_below q52_26 hb); have n1_ := Aside0.mk (Kd.R_elder' q52_27 (Kd.R_base ho0) hb); have n2_ := Aside0.mk (Kd.R_below q52_28 hb); have n3_ := Aside0.mk (Kd.R_below q52_29 hb); have n4_ := Aside0.mk (Kd.R_elder' q52_30 (Kd.R_base ho0) hb); have n5_ := Aside0.mk (Kd.R_elder' q52_31 (Kd.R_base ho0) hb); have n6_ := Aside0.mk (Kd.R_below q52_32 hb); have n7_ := Aside0.mk (Kd.R_lower (Kd.R_new' (Kd.R_new' (Kd.R_new' ho0 (Kd.R_lt q52_27)) (Kd.R_lt q52_30)) (Kd.R_lt q52_31)) (below_size q52_4)); have n8_ := Aside0.mk (blk_below (g := gb1335) (o := .cells #[.int .i64 t1331, .slice Ao13 t1332.length co13] 29 (0, 0)) q52_23 hb); have n9_ := Aside0.mk (blk_below (g := gb1349) (o := .cells #[.int .i64 t1342, .slice Ao21 t1343.length co21] 29 (0, 0)) q52_24 hb); have n10_ := Aside0.mk (below_step q52_4 hb); clear HO1334; clear HO1338; clear HO1341; clear HO1345; clear HO1348; clear HO1353; clear HO1357; clear BK1335; clear BK1349; clear HB; have HO1334 := n0_
         have HO1338 := n1_; have HO1341 := n2_; have HO1345 := n3_; have HO1348 := n4_; have HO1353 := n5_; have HO1357 := n6_; have HO1366 := n7_; have BK1335 := n8_; have BK1349 := n9_; have HB := n10_; clear n0_ n1_ n2_ n3_ n4_ n5_ n6_ n7_ n8_ n9_ n10_
         (try clear hb)
         (try clear hb2)
         (try clear hk)
         (try clear hi)
         (try clear ho0)
         obtain ⟨Ao53, co53, eo53⟩ := Kd.R_slice HO1366.out
         (first | subst eo53 | (injection eo53 with f1_ f2_ f3_; have f4_ := f1_.symm; have f5_ := f3_.symm; clear f1_ f2_ f3_; subst f4_; subst f5_))
         refine hK.out _ _ ⟨(blk_cell BK1335.out 0).trans rfl, (blk_cell BK1335.out 1).trans rfl, (blk_cell BK1349.out 0).trans rfl, (blk_cell BK1349.out 1).trans rfl⟩ (fun hHeld => ?_)
         clear hK K
         refine norm_ (a' := ?_) ?_ ?_
         rotate_left
         ·
          show Act.put _ (some 69) _ = _
          exact s9_
         refine pl_ 42 70 (tb_ 46 8796093022207) ?_; refine pl_ 43 71 (tb_ 46 17592186044415) ?_; refine pl_ 44 72 (tb_ 46 35184372088831) ?_; refine pl_ 45 73 (tb_ 46 70368744177663) ?_
         refine done_ (done_of HT_.out s12_) ?_
         try go_wp2
         go_meet
         case rel => exact ⟨_, (decide ((t1346.length : Int) < (t1364.length : Int))), s3_, H', ⟨(by first | omega | exact Nat.le_refl _)⟩, ⟨q52_21⟩, ⟨q52_20⟩, ⟨q52_19⟩, ⟨q52_23⟩, ⟨q52_4⟩⟩
        ·
         replace c38 := Bool.eq_false_iff.mpr c38; subst c38
         rw [if_neg (show ¬ (false = true) by decide)] at H
         have H' := Aside0.mk H; clear H
         try go_wp2
         have n0_ := Aside0.mk (Kd.R_drew HO1334.out); have n1_ := Aside0.mk (Kd.R_drew HO1338.out); have n2_ := Aside0.mk (Kd.R_drew HO1341.out); have n3_ := Aside0.mk (Kd.R_drew HO1345.out); have n4_ := Aside0.mk (Kd.R_drew HO1348.out); have n5_ := Aside0.mk (blk_drew BK1335.out); have n6_ := Aside0.mk (blk_drew BK1349.out); have n7_ := Aside0.mk (below_drew1 HB.out); clear HO1334; clear HO1338; clear HO1341; clear HO1345; clear HO1348; clear BK1335; clear BK1349; clear HB; have HO1334 := n0_; have HO1338 := n1_; have HO1341 := n2_; have HO1345 := n3_; have HO1348 := n4_; have BK1335 := n5_; have BK1349 := n6_; have HB := n7_; clear n0_ n1_ n2_ n3_ n4_ n5_ n6_ n7_
         refine start_ (n := 46) (S := fun w' => w'.cell? ⟨gb1335, 0, none⟩ = some (.int .i64 t1331) ∧ w'.cell? ⟨gb1335, 1, none⟩ = some (.slice Ao13 t1332.length co13) ∧ w'.cell? ⟨gb1349, 0, none⟩ = some (.int .i64 t1342) ∧ w'.cell? ⟨gb1349, 1, none⟩ = some (.slice Ao21 t1343.length co21)) (ds := []) (tb_ 46 0) s12_ rfl rfl ⟨(blk_cell BK1335.out 0).trans rfl, (blk_cell BK1335.out 1).trans rfl, (blk_cell BK1349.out 0).trans rfl, (blk_cell BK1349.out 1).trans rfl⟩ (fun hHeld => ?_); refine with_tabW laws_FnStem.tab8 laws_FnStem.bits8 (fun HT_ HW_ => ?_)
         generalize w23.drew = w54 at HO1334 HO1338 HO1341 HO1345 HO1348 BK1335 BK1349 HB hHeld ⊢
         refine pl_ 0 28 (tb_ 46 1) ?_; refine tk_ 1 29 (tb_ 46 3) hHeld ?_
         refine on_ 2 30 (tb_ 46 7) (fun K hK => ?_)
         refine goes_ Tryz.func28 s12_ rfl #[.agg #[.int .i64 t1331, .slice Ao13 t1332.length co13]] (by rfl) rfl rfl s0_ ?_
         with_reducible refine (spec_StemBase.calls k t1331 _ _ t1332 t1351 _ ?side1 ?side2 A24.out).mono ?_
         (case side1 => exact q52_8)
         (case side2 => exact (Kd.R_reads' HO1334.out).2.1)
         rintro e w55 ⟨v1352, rfl, ho0, hb⟩
         refine ⟨_, rfl, ?_⟩
         have n0_ := Aside0.mk (Kd.R_below q52_26 hb); have n1_ := Aside0.mk (Kd.R_elder' q52_27 (Kd.R_base ho0) hb); have n2_ := Aside0.mk (Kd.R_below q52_28 hb); have n3_ := Aside0.mk (Kd.R_below q52_29 hb); have n4_ := Aside0.mk (Kd.R_elder' q52_30 (Kd.R_base ho0) hb); have n5_ := Aside0.mk (Kd.R_lower (Kd.R_new' (Kd.R_new' ho0 (Kd.R_lt q52_27)) (Kd.R_lt q52_30)) (below_size q52_4)); have n6_ := Aside0.mk (blk_below (g := gb1335) (o := .cells #[.int .i64 t1331, .slice Ao13 t1332.length co13] 29 (0, 0)) q52_23 hb); have n7_ := Aside0.mk (blk_below (g := gb1349) (o := .cells #[.int .i64 t1342, .slice Ao21 t1343.length co21] 29 (0, 0)) q52_24 hb); have n8_ := Aside0.mk (below_step q52_4 hb); clear HO1334; clear HO1338; clear HO1341; clear HO1345; clear HO1348; clear BK1335; clear BK1349; clear HB; have HO1334 := n0_; have HO1338 := n1_; have HO1341 := n2_; have HO1345 := n3_; have HO1348 := n4_; have HO1353 := n5_; have BK1335 := n6_; have BK1349 := n7_; have HB := n8_
         clear n0_ n1_ n2_ n3_ n4_ n5_ n6_ n7_ n8_
         (try clear hb)
         (try clear hb2)
         (try clear hk)
         (try clear hi)
         (try clear ho0)
         obtain ⟨Ao56, co56, eo56⟩ := Kd.R_slice HO1338.out
         (first | subst eo56 | (injection eo56 with f1_ f2_ f3_; have f4_ := f1_.symm; have f5_ := f3_.symm; clear f1_ f2_ f3_; subst f4_; subst f5_))
         obtain ⟨Ao57, co57, eo57⟩ := Kd.R_slice HO1353.out
         (first | subst eo57 | (injection eo57 with f1_ f2_ f3_; have f4_ := f1_.symm; have f5_ := f3_.symm; clear f1_ f2_ f3_; subst f4_; subst f5_))
         refine hK.out _ _ ⟨(blk_cell BK1335.out 0).trans rfl, (blk_cell BK1335.out 1).trans rfl, (blk_cell BK1349.out 0).trans rfl, (blk_cell BK1349.out 1).trans rfl⟩ (fun hHeld => ?_)
         clear hK K
         refine norm_ (a' := ?_) ?_ ?_
         rotate_left
         ·
          show Act.put _ (some 30) _ = _
          exact s9_
         refine on_ 3 31 (tb_ 46 15) (fun K hK => ?_)
         refine goes_ Tryz.func27 s12_ rfl #[.slice Ao56 t1336.length co56, .slice Ao57 t1351.length co57] (by rfl) rfl rfl s0_ ?_
         with_reducible refine (laws_sameRules.calls k _ _ t1336 _ _ t1351 true _ ?side1 ?side2 ?side3 ?side4 A25.out).mono ?_
         (case side1 => exact q52_9)
         (case side2 => exact (Kd.R_reads' HO1338.out).2.1)
         (case side3 => exact q52_13)
         (case side4 => exact (Kd.R_reads' HO1353.out).2.1)
         rintro e w' ⟨rfl, ⟨nd, rfl⟩⟩
         refine ⟨_, rfl, ?_⟩
         refine hK.out _ _ ⟨(blk_cell BK1335.out 0).trans rfl, (blk_cell BK1335.out 1).trans rfl, (blk_cell BK1349.out 0).trans rfl, (blk_cell BK1349.out 1).trans rfl⟩ (fun hHeld => ?_)
         clear hK K
         refine norm_ (a' := ?_) ?_ ?_
         rotate_left
         ·
          show Act.put _ (some 31) _ = _
          exact s9_
         refine pl_ 4 32 (tb_ 46 31) ?_; refine pl_ 5 33 (tb_ 46 63) ?_; refine pl_ 6 34 (tb_ 46 127) ?_; refine tk_ 7 35 (tb_ 46 255) hHeld ?_
         refine on_ 8 36 (tb_ 46 511) (fun K hK => ?_)
         refine goes_ Tryz.func55 s12_ rfl #[.agg #[.int .i64 t1331, .slice Ao13 t1332.length co13]] (by rfl) rfl rfl s0_ ?_
         with_reducible refine (spec_PseudoIntents.calls k t1331 _ _ t1332 t1355 _ ?side1 ?side2 A27.out).mono ?_
         (case side1 => exact q52_8)
         (case side2 => exact (Kd.R_reads' HO1334.out).2.1)
         rintro e w58 ⟨v1356, rfl, ho0, hb⟩
         refine ⟨_, rfl, ?_⟩
         have n0_ := Aside0.mk (Kd.R_elder' q52_26 (Kd.R_base ho0) hb); have n1_ := Aside0.mk (Kd.R_below q52_27 hb); have n2_ := Aside0.mk (Kd.R_elder' q52_28 (Kd.R_base ho0) hb); have n3_ := Aside0.mk (Kd.R_elder' q52_29 (Kd.R_base ho0) hb); have n4_ := Aside0.mk (Kd.R_below q52_30 hb); have n5_ := Aside0.mk (Kd.R_below q52_31 hb); have n6_ := Aside0.mk (Kd.R_lower (Kd.R_new' (Kd.R_new' (Kd.R_new' ho0 (Kd.R_lt q52_26)) (Kd.R_lt q52_28)) (Kd.R_lt q52_29)) (below_size q52_4)); have n7_ := Aside0.mk (blk_below (g := gb1335) (o := .cells #[.int .i64 t1331, .slice Ao13 t1332.length co13] 29 (0, 0)) q52_23 hb); have n8_ := Aside0.mk (blk_below (g := gb1349) (o := .cells #[.int .i64 t1342, .slice Ao21 t1343.length co21] 29 (0, 0)) q52_24 hb); have n9_ := Aside0.mk (below_step q52_4 hb); clear HO1334; clear HO1338; clear HO1341; clear HO1345; clear HO1348; clear HO1353; clear BK1335; clear BK1349; clear HB; have HO1334 := n0_; have HO1338 := n1_; have HO1341 := n2_; have HO1345 := n3_
         have HO1348 := n4_; have HO1353 := n5_; have HO1357 := n6_; have BK1335 := n7_; have BK1349 := n8_; have HB := n9_; clear n0_ n1_ n2_ n3_ n4_ n5_ n6_ n7_ n8_ n9_
         (try clear hb)
         (try clear hb2)
         (try clear hk)
         (try clear hi)
         (try clear ho0)
         obtain ⟨Ao59, co59, eo59⟩ := Kd.R_slice HO1341.out
         (first | subst eo59 | (injection eo59 with f1_ f2_ f3_; have f4_ := f1_.symm; have f5_ := f3_.symm; clear f1_ f2_ f3_; subst f4_; subst f5_))
         obtain ⟨Ao60, co60, eo60⟩ := Kd.R_slice HO1357.out
         (first | subst eo60 | (injection eo60 with f1_ f2_ f3_; have f4_ := f1_.symm; have f5_ := f3_.symm; clear f1_ f2_ f3_; subst f4_; subst f5_))
         refine hK.out _ _ ⟨(blk_cell BK1335.out 0).trans rfl, (blk_cell BK1335.out 1).trans rfl, (blk_cell BK1349.out 0).trans rfl, (blk_cell BK1349.out 1).trans rfl⟩ (fun hHeld => ?_)
         clear hK K
         refine norm_ (a' := ?_) ?_ ?_
         rotate_left
         ·
          show Act.put _ (some 36) _ = _
          exact s9_
         refine on_ 9 37 (tb_ 46 1023) (fun K hK => ?_)
         refine goes_ Tryz.func21 s12_ rfl #[.slice Ao59 t1339.length co59, .slice Ao60 t1355.length co60] (by rfl) rfl rfl s0_ ?_
         with_reducible refine (laws_sameInts.calls k _ _ t1339 _ _ t1355 true _ ?side1 ?side2 ?side3 ?side4 A28.out).mono ?_
         (case side1 => exact q52_10)
         (case side2 => exact (Kd.R_reads' HO1341.out).2.1)
         (case side3 => exact q52_14)
         (case side4 => exact (Kd.R_reads' HO1357.out).2.1)
         rintro e w' ⟨rfl, ⟨nd, rfl⟩⟩
         refine ⟨_, rfl, ?_⟩
         refine hK.out _ _ ⟨(blk_cell BK1335.out 0).trans rfl, (blk_cell BK1335.out 1).trans rfl, (blk_cell BK1349.out 0).trans rfl, (blk_cell BK1349.out 1).trans rfl⟩ (fun hHeld => ?_)
         clear hK K
         refine norm_ (a' := ?_) ?_ ?_
         rotate_left
         ·
          show Act.put _ (some 37) _ = _
          exact s9_
         refine pl_ 10 38 (tb_ 46 2047) ?_; refine pl_ 11 39 (tb_ 46 4095) ?_; refine pl_ 12 40 (tb_ 46 8191) ?_; refine pl_ 13 41 (tb_ 46 16383) ?_; refine pl_ 15 43 (tb_ 46 49151) ?_; refine tk_ 14 42 (tb_ 46 65535) hHeld ?_
         refine on_ 16 44 (tb_ 46 131071) (fun K hK => ?_)
         refine goes_ Tryz.func56 s12_ rfl #[.agg #[.int .i64 t1342, .slice Ao21 t1343.length co21], .slice Ao22 t1346.length co22] (by rfl) rfl rfl s0_ ?_
         with_reducible refine (spec_IsBase.calls k t1342 _ _ t1343 _ _ t1346 t1359 _ ?side1 ?side2 ?side3 ?side4 A30.out).mono ?_
         (case side1 => exact q52_11)
         (case side2 => exact (Kd.R_reads' HO1345.out).2.1)
         (case side3 => exact q52_12)
         (case side4 => exact (Kd.R_reads' HO1348.out).2.1)
         rintro e w61 ⟨rfl, hb⟩
         refine ⟨_, rfl, ?_⟩
         have n0_ := Aside0.mk (Kd.R_below q52_26 hb); have n1_ := Aside0.mk (Kd.R_below q52_27 hb); have n2_ := Aside0.mk (Kd.R_below q52_28 hb); have n3_ := Aside0.mk (Kd.R_below q52_29 hb); have n4_ := Aside0.mk (Kd.R_below q52_30 hb); have n5_ := Aside0.mk (Kd.R_below q52_31 hb); have n6_ := Aside0.mk (Kd.R_below q52_32 hb); have n7_ := Aside0.mk (blk_below (g := gb1335) (o := .cells #[.int .i64 t1331, .slice Ao13 t1332.length co13] 29 (0, 0)) q52_23 hb); have n8_ := Aside0.mk (blk_below (g := gb1349) (o := .cells #[.int .i64 t1342, .slice Ao21 t1343.length co21] 29 (0, 0)) q52_24 hb); have n9_ := Aside0.mk (below_step q52_4 hb); clear HO1334; clear HO1338; clear HO1341; clear HO1345; clear HO1348; clear HO1353; clear HO1357; clear BK1335; clear BK1349; clear HB; have HO1334 := n0_; have HO1338 := n1_; have HO1341 := n2_; have HO1345 := n3_; have HO1348 := n4_; have HO1353 := n5_; have HO1357 := n6_; have BK1335 := n7_; have BK1349 := n8_; have HB := n9_
         clear n0_ n1_ n2_ n3_ n4_ n5_ n6_ n7_ n8_ n9_
         (try clear hb)
         (try clear hb2)
         (try clear hk)
         (try clear hi)
         refine hK.out _ _ ⟨(blk_cell BK1335.out 0).trans rfl, (blk_cell BK1335.out 1).trans rfl, (blk_cell BK1349.out 0).trans rfl, (blk_cell BK1349.out 1).trans rfl⟩ (fun hHeld => ?_)
         clear hK K
         refine norm_ (a' := ?_) ?_ ?_
         rotate_left
         ·
          show Act.put _ (some 44) _ = _
          exact s9_
         refine pl_ 17 45 (tb_ 46 262143) ?_; refine pl_ 18 46 (tb_ 46 524287) ?_; refine pl_ 19 47 (tb_ 46 1048575) ?_; refine pl_ 21 49 (tb_ 46 3145727) ?_; refine pl_ 24 52 (tb_ 46 19922943) ?_; refine tk_ 20 48 (tb_ 46 20971519) hHeld ?_; refine tk_ 23 51 (tb_ 46 29360127) hHeld ?_
         refine on_ 22 50 (tb_ 46 33554431) (fun K hK => ?_)
         refine goes_ Tryz.func57 s12_ rfl #[.agg #[.int .i64 t1342, .slice Ao21 t1343.length co21], .slice Ao22 t1346.length co22] (by rfl) rfl rfl s0_ ?_
         with_reducible refine (impl_IsShortest.calls k t1342 _ _ t1343 _ _ t1346 t1360 _ ?side1 ?side2 ?side3 ?side4 ?tab A32.out).mono ?_
         (case tab => first | exact HTB.out | (refine Tab64.below HTB.out ?_; repeat (first | (with_reducible first | exact HB.out | apply below_alloc | apply pw_below_drewN | apply below_drew1 | refine below_set ?_ GE1335.out | refine below_set ?_ GE1349.out) | exact HB.out)) | (repeat (first | exact HTB.out | apply Tab64.drewN | apply Tab64.drew | apply Tab64.alloc)))
         (case side1 => exact q52_11)
         (case side2 => exact (Kd.R_reads' HO1345.out).2.1)
         (case side3 => exact q52_12)
         (case side4 => exact (Kd.R_reads' HO1348.out).2.1)
         rintro e w62 ⟨rfl, hb⟩
         refine ⟨_, rfl, ?_⟩
         have n0_ := Aside0.mk (Kd.R_below q52_26 hb); have n1_ := Aside0.mk (Kd.R_below q52_27 hb); have n2_ := Aside0.mk (Kd.R_below q52_28 hb); have n3_ := Aside0.mk (Kd.R_below q52_29 hb); have n4_ := Aside0.mk (Kd.R_below q52_30 hb); have n5_ := Aside0.mk (Kd.R_below q52_31 hb); have n6_ := Aside0.mk (Kd.R_below q52_32 hb); have n7_ := Aside0.mk (blk_below (g := gb1335) (o := .cells #[.int .i64 t1331, .slice Ao13 t1332.length co13] 29 (0, 0)) q52_23 hb); have n8_ := Aside0.mk (blk_below (g := gb1349) (o := .cells #[.int .i64 t1342, .slice Ao21 t1343.length co21] 29 (0, 0)) q52_24 hb); have n9_ := Aside0.mk (below_step q52_4 hb); clear HO1334; clear HO1338; clear HO1341; clear HO1345; clear HO1348; clear HO1353; clear HO1357; clear BK1335; clear BK1349; clear HB; have HO1334 := n0_; have HO1338 := n1_; have HO1341 := n2_; have HO1345 := n3_; have HO1348 := n4_; have HO1353 := n5_; have HO1357 := n6_; have BK1335 := n7_; have BK1349 := n8_; have HB := n9_
         clear n0_ n1_ n2_ n3_ n4_ n5_ n6_ n7_ n8_ n9_
         (try clear hb)
         (try clear hb2)
         (try clear hk)
         (try clear hi)
         refine hK.out _ _ ⟨(blk_cell BK1335.out 0).trans rfl, (blk_cell BK1335.out 1).trans rfl, (blk_cell BK1349.out 0).trans rfl, (blk_cell BK1349.out 1).trans rfl⟩ (fun hHeld => ?_)
         clear hK K
         refine norm_ (a' := ?_) ?_ ?_
         rotate_left
         ·
          show Act.put _ (some 50) _ = _
          exact s9_
         refine on_ 25 53 (tb_ 46 67108863) (fun K hK => ?_)
         refine goes_ Tryz.func58 s12_ rfl #[.agg #[.int .i64 t1342, .slice Ao21 t1343.length co21], .slice Ao22 t1346.length co22] (by rfl) rfl rfl s0_ ?_
         with_reducible refine (spec_IsShortest.calls k t1342 _ _ t1343 _ _ t1346 t1361 _ ?side1 ?side2 ?side3 ?side4 A33.out).mono ?_
         (case side1 => exact q52_11)
         (case side2 => exact (Kd.R_reads' HO1345.out).2.1)
         (case side3 => exact q52_12)
         (case side4 => exact (Kd.R_reads' HO1348.out).2.1)
         rintro e w63 ⟨rfl, hb⟩
         refine ⟨_, rfl, ?_⟩
         have n0_ := Aside0.mk (Kd.R_below q52_26 hb); have n1_ := Aside0.mk (Kd.R_below q52_27 hb); have n2_ := Aside0.mk (Kd.R_below q52_28 hb); have n3_ := Aside0.mk (Kd.R_below q52_29 hb); have n4_ := Aside0.mk (Kd.R_below q52_30 hb); have n5_ := Aside0.mk (Kd.R_below q52_31 hb); have n6_ := Aside0.mk (Kd.R_below q52_32 hb); have n7_ := Aside0.mk (blk_below (g := gb1335) (o := .cells #[.int .i64 t1331, .slice Ao13 t1332.length co13] 29 (0, 0)) q52_23 hb); have n8_ := Aside0.mk (blk_below (g := gb1349) (o := .cells #[.int .i64 t1342, .slice Ao21 t1343.length co21] 29 (0, 0)) q52_24 hb); have n9_ := Aside0.mk (below_step q52_4 hb); clear HO1334; clear HO1338; clear HO1341; clear HO1345; clear HO1348; clear HO1353; clear HO1357; clear BK1335; clear BK1349; clear HB; have HO1334 := n0_; have HO1338 := n1_; have HO1341 := n2_; have HO1345 := n3_; have HO1348 := n4_; have HO1353 := n5_; have HO1357 := n6_; have BK1335 := n7_; have BK1349 := n8_; have HB := n9_
         clear n0_ n1_ n2_ n3_ n4_ n5_ n6_ n7_ n8_ n9_
         (try clear hb)
         (try clear hb2)
         (try clear hk)
         (try clear hi)
         refine hK.out _ _ ⟨(blk_cell BK1335.out 0).trans rfl, (blk_cell BK1335.out 1).trans rfl, (blk_cell BK1349.out 0).trans rfl, (blk_cell BK1349.out 1).trans rfl⟩ (fun hHeld => ?_)
         clear hK K
         refine norm_ (a' := ?_) ?_ ?_
         rotate_left
         ·
          show Act.put _ (some 53) _ = _
          exact s9_
         refine pl_ 26 54 (tb_ 46 134217727) ?_; refine pl_ 27 55 (tb_ 46 268435455) ?_; refine pl_ 28 56 (tb_ 46 536870911) ?_; refine tk_ 29 57 (tb_ 46 1073741823) hHeld ?_; refine tk_ 31 59 (tb_ 46 3221225471) hHeld ?_
         refine on_ 30 58 (tb_ 46 4294967295) (fun K hK => ?_)
         refine goes_ Tryz.func59 s12_ rfl #[.agg #[.int .i64 t1331, .slice Ao13 t1332.length co13]] (by rfl) rfl rfl s0_ ?_
         with_reducible refine (impl_CountRules.calls k t1331 _ _ t1332 t1362 _ ?side1 ?side2 ?tab A35.out).mono ?_
         (case tab => first | exact HTB.out | (refine Tab64.below HTB.out ?_; repeat (first | (with_reducible first | exact HB.out | apply below_alloc | apply pw_below_drewN | apply below_drew1 | refine below_set ?_ GE1335.out | refine below_set ?_ GE1349.out) | exact HB.out)) | (repeat (first | exact HTB.out | apply Tab64.drewN | apply Tab64.drew | apply Tab64.alloc)))
         (case side1 => exact q52_8)
         (case side2 => exact (Kd.R_reads' HO1334.out).2.1)
         rintro e w64 ⟨rfl, hb⟩
         refine ⟨_, rfl, ?_⟩
         have n0_ := Aside0.mk (Kd.R_below q52_26 hb); have n1_ := Aside0.mk (Kd.R_below q52_27 hb); have n2_ := Aside0.mk (Kd.R_below q52_28 hb); have n3_ := Aside0.mk (Kd.R_below q52_29 hb); have n4_ := Aside0.mk (Kd.R_below q52_30 hb); have n5_ := Aside0.mk (Kd.R_below q52_31 hb); have n6_ := Aside0.mk (Kd.R_below q52_32 hb); have n7_ := Aside0.mk (blk_below (g := gb1335) (o := .cells #[.int .i64 t1331, .slice Ao13 t1332.length co13] 29 (0, 0)) q52_23 hb); have n8_ := Aside0.mk (blk_below (g := gb1349) (o := .cells #[.int .i64 t1342, .slice Ao21 t1343.length co21] 29 (0, 0)) q52_24 hb); have n9_ := Aside0.mk (below_step q52_4 hb); clear HO1334; clear HO1338; clear HO1341; clear HO1345; clear HO1348; clear HO1353; clear HO1357; clear BK1335; clear BK1349; clear HB; have HO1334 := n0_; have HO1338 := n1_; have HO1341 := n2_; have HO1345 := n3_; have HO1348 := n4_; have HO1353 := n5_; have HO1357 := n6_; have BK1335 := n7_; have BK1349 := n8_; have HB := n9_
         clear n0_ n1_ n2_ n3_ n4_ n5_ n6_ n7_ n8_ n9_
         (try clear hb)
         (try clear hb2)
         (try clear hk)
         (try clear hi)
         refine hK.out _ _ ⟨(blk_cell BK1335.out 0).trans rfl, (blk_cell BK1335.out 1).trans rfl, (blk_cell BK1349.out 0).trans rfl, (blk_cell BK1349.out 1).trans rfl⟩ (fun hHeld => ?_)
         clear hK K
         refine norm_ (a' := ?_) ?_ ?_
         rotate_left
         ·
          show Act.put _ (some 58) _ = _
          exact s9_
         refine on_ 32 60 (tb_ 46 8589934591) (fun K hK => ?_)
         refine goes_ Tryz.func60 s12_ rfl #[.agg #[.int .i64 t1331, .slice Ao13 t1332.length co13]] (by rfl) rfl rfl s0_ ?_
         with_reducible refine (spec_CountRules.calls k t1331 _ _ t1332 t1363 _ ?side1 ?side2 A36.out).mono ?_
         (case side1 => exact q52_8)
         (case side2 => exact (Kd.R_reads' HO1334.out).2.1)
         rintro e w65 ⟨rfl, hb⟩
         refine ⟨_, rfl, ?_⟩
         have n0_ := Aside0.mk (Kd.R_below q52_26 hb); have n1_ := Aside0.mk (Kd.R_below q52_27 hb); have n2_ := Aside0.mk (Kd.R_below q52_28 hb); have n3_ := Aside0.mk (Kd.R_below q52_29 hb); have n4_ := Aside0.mk (Kd.R_below q52_30 hb); have n5_ := Aside0.mk (Kd.R_below q52_31 hb); have n6_ := Aside0.mk (Kd.R_below q52_32 hb); have n7_ := Aside0.mk (blk_below (g := gb1335) (o := .cells #[.int .i64 t1331, .slice Ao13 t1332.length co13] 29 (0, 0)) q52_23 hb); have n8_ := Aside0.mk (blk_below (g := gb1349) (o := .cells #[.int .i64 t1342, .slice Ao21 t1343.length co21] 29 (0, 0)) q52_24 hb); have n9_ := Aside0.mk (below_step q52_4 hb); clear HO1334; clear HO1338; clear HO1341; clear HO1345; clear HO1348; clear HO1353; clear HO1357; clear BK1335; clear BK1349; clear HB; have HO1334 := n0_; have HO1338 := n1_; have HO1341 := n2_; have HO1345 := n3_; have HO1348 := n4_; have HO1353 := n5_; have HO1357 := n6_; have BK1335 := n7_; have BK1349 := n8_; have HB := n9_
         clear n0_ n1_ n2_ n3_ n4_ n5_ n6_ n7_ n8_ n9_
         (try clear hb)
         (try clear hb2)
         (try clear hk)
         (try clear hi)
         refine hK.out _ _ ⟨(blk_cell BK1335.out 0).trans rfl, (blk_cell BK1335.out 1).trans rfl, (blk_cell BK1349.out 0).trans rfl, (blk_cell BK1349.out 1).trans rfl⟩ (fun hHeld => ?_)
         clear hK K
         refine norm_ (a' := ?_) ?_ ?_
         rotate_left
         ·
          show Act.put _ (some 60) _ = _
          exact s9_
         refine pl_ 33 61 (tb_ 46 17179869183) ?_; refine pl_ 34 62 (tb_ 46 34359738367) ?_; refine pl_ 35 63 (tb_ 46 68719476735) ?_; refine pl_ 36 64 (tb_ 46 137438953471) ?_; refine pl_ 37 65 (tb_ 46 274877906943) ?_; refine pr_ 38 66 (tb_ 46 549755813887) ?_; refine pr_ 39 67 (tb_ 46 1099511627775) ?_; refine pr_ 40 68 (tb_ 46 2199023255551) ?_; refine pr_ 41 69 (tb_ 46 4398046511103) ?_; refine pr_ 42 70 (tb_ 46 8796093022207) ?_; refine pr_ 43 71 (tb_ 46 17592186044415) ?_; refine pl_ 44 72 (tb_ 46 35184372088831) ?_; refine pl_ 45 73 (tb_ 46 70368744177663) ?_
         refine done_ (done_of HT_.out s12_) ?_
         try go_wp2
         go_meet
         case rel => exact ⟨_, (false), s3_, H', ⟨(by first | omega | exact Nat.le_refl _)⟩, ⟨q52_21⟩, ⟨q52_20⟩, ⟨q52_19⟩, ⟨q52_23⟩, ⟨q52_4⟩⟩
       ·
        rw [if_neg c37] at H; have c37b0 : (t1362 == t1363) = false := beq_eq_false_iff_ne.mpr c37; have c37b1 : (t1362 != t1363) = true := bne_iff_ne.mpr c37
        refine absurd ?_ Bool.false_ne_true; revert H; generalize k = kq_; intro H; cases kq_ with | zero => exact absurd H q52_38 | succ kq_ => simp only [laws_FnStem.j0] at H; (try rw [if_pos rfl] at H); exact (Option.some.inj H).trans HRT.out
    ·
     replace c29 := Bool.eq_false_iff.mpr c29; subst c29
     rw [if_neg (show ¬ (false = true) by decide)] at H
     refine absurd ?_ Bool.false_ne_true; revert H; generalize k = kq_; intro H; cases kq_ with | zero => exact absurd H q52_38 | succ kq_ => simp only [laws_FnStem.j0] at H; (try rw [if_pos rfl] at H); exact (Option.some.inj H).trans HRT.out
   ·
    replace c26 := Bool.eq_false_iff.mpr c26; subst c26
    rw [if_neg (show ¬ (false = true) by decide)] at H
    refine absurd ?_ Bool.false_ne_true; revert H; generalize k = kq_; intro H; cases kq_ with | zero => exact absurd H q52_38 | succ kq_ => simp only [laws_FnStem.j0] at H; (try rw [if_pos rfl] at H); exact (Option.some.inj H).trans HRT.out
  case rest =>
   clear HC9
   try clear c2
   try clear p2
   try clear c3
   try clear c5
   try clear c6
   try clear c21
   try clear c26
   try clear c29
   try clear c37
   try clear c37b0
   try clear c37b1
   try clear c55
   try clear c56
   try clear c57
   try clear c58
   try clear c59
   try clear c60
   obtain ⟨kq, x73_8, rfl, HA, HJ8, HO_4, HO_5, HO_1336001, BK1335, HB⟩ := hcut
   cases kq with
   | zero => exact absurd HA.out (by simp [laws_FnStem.j0])
   | succ kj8 =>
    have H := HA.out; clear HA
    simp only [laws_FnStem.j0] at H
    by_cases c66 : x73_8 = true
    ·
     subst c66; rw [if_pos rfl] at H
     exact absurd ((Option.some.inj H).trans HRT.out) Bool.false_ne_true
    ·
     replace c66 := Bool.eq_false_iff.mpr c66; subst c66
     rw [if_neg (show ¬ (false = true) by decide)] at H
     obtain ⟨t1367, A67, H⟩ := bnd52_ H
     by_cases c68 : t1367 = true
     ·
      subst c68; rw [if_pos rfl] at H; have H' := Aside0.mk H; clear H; have hcz69_0 : wc.cell? ⟨gb1335, 0, none⟩ = some (.int .i64 t1331) := (blk_cell BK1335.out 0).trans rfl; have hcz69_1 : wc.cell? ⟨gb1335, 1, none⟩ = some (.slice Ao13 t1332.length co13) := (blk_cell BK1335.out 1).trans rfl; have hfz69_0 := blk_frozen BK1335.out 0; have hfz69_1 := blk_frozen BK1335.out 1
      go_wp2_with (first | ((with_reducible refine gate_callee (f := 61) rfl ?_); refine gL_ 61 75 Tryz.func61 #[.agg #[.int .i64 t1331, .slice Ao13 t1332.length co13]] ?_; (with_reducible refine (spec_IsContext.calls kj8 t1331 _ _ t1332 true _ ?side1 ?side2 A67.out).mono ?_); (case side1 => exact q52_7); (case side2 => exact (Kd.R_reads' HO_1336001.out).2.1); rintro e w70 ⟨rfl, hb⟩; refine ⟨_, rfl, ?_⟩; have n_ := ac_ (Kd.R_below s17_ hb) <| ac_ (Kd.R_below q52_35 hb) <| ac_ (Kd.R_below q52_25 hb) <| ac_ (blk_below (g := gb1335) (o := .cells #[.int .i64 t1331, .slice Ao13 t1332.length co13] 29 (0, 0)) q52_23 hb) <| Aside0.mk (below_step q52_16 hb); clear HO_4 HO_5 HO_1336001 BK1335 HB; obtain ⟨HO_4, HO_5, HO_1336001, BK1335, HB⟩ := n_; (try clear hb)))
      go_loopg [9] kj8 (fun kq v9 w' => ∃ (x9_2 : Int), v9 = .int .i64 x9_2 ∧ Aside0 (laws_FnStem.l0 kq t1336 t1339 x9_2 t1331 t1332 = some r) ∧ Aside0 (kq ≤ kj8) ∧ Aside0 (Kd.R k48 48 w' w.heap.size (fun _ => True) v1337 t1336) ∧ Aside0 (Kd.R (Kd.int .i64) 3 w' w.heap.size (fun k_ => some k_ ≠ ((.slice Ao13 t1332.length co13) : Value).ownBlock) v1340 t1339) ∧ Aside0 (Kd.R (Kd.int .i64) 3 w' w.heap.size (fun k_ => some k_ ≠ (v1340 : Value).ownBlock) (.slice Ao13 t1332.length co13) t1332) ∧ Aside0 (w'.heap[gb1335]? = some (.cells #[.int .i64 t1331, (.slice Ao13 t1332.length co13)] 29 (0, 0))) ∧ Aside0 (Below w.heap.size w w'))
      case atStart => exact ⟨(0), s3_, H', ⟨Nat.le_refl _⟩, ⟨s17_⟩, ⟨q52_35⟩, ⟨q52_25⟩, ⟨q52_23⟩, ⟨q52_16⟩⟩
      case round =>
       clear H'
       try clear c2
       try clear p2
       try clear c3
       try clear c5
       try clear c6
       try clear c21
       try clear c26
       try clear c29
       try clear c37
       try clear c37b0
       try clear c37b1
       try clear c55
       try clear c56
       try clear c57
       try clear c58
       try clear c59
       try clear c60
       try clear c61
       try clear c66
       try clear c68
       try clear hcz69_0
       try clear hcz69_1
       try clear hfz69_0
       try clear hfz69_1
       try clear p2
       obtain ⟨x9_2, rfl, HA, HK2, HO_4, HO_5, HO_1336001, BK1335, HB⟩ := hrel
       cases gk with
       | zero => exact absurd HA.out (by simp [laws_FnStem.l0])
       | succ k2 =>
        have H := HA.out; clear HA
        simp only [laws_FnStem.l0] at H
        obtain ⟨t1368, A71, H⟩ := bnd52_ H
        by_cases c72 : x9_2 ≤ t1368
        ·
         rw [if_pos c72] at H; have c72b0 : decide (x9_2 ≤ t1368) = true := decide_eq_true c72; clear c72; obtain ⟨t1369, A73, H⟩ := bnd52_ H; obtain ⟨t1370, A74, H⟩ := bnd52_ H
         by_cases c75 : t1369 = t1370
         ·
          rw [if_pos c75] at H; have c75b0 : (t1369 == t1370) = true := beq_iff_eq.mpr c75; have c75b1 : (t1369 != t1370) = false := bne_eq_false_iff_eq.mpr c75; clear c75; have H' := Aside0.mk H; clear H; have hcz76_0 : wr.cell? ⟨gb1335, 0, none⟩ = some (.int .i64 t1331) := (blk_cell BK1335.out 0).trans rfl; have hcz76_1 : wr.cell? ⟨gb1335, 1, none⟩ = some (.slice Ao13 t1332.length co13) := (blk_cell BK1335.out 1).trans rfl; have hfz76_0 := blk_frozen BK1335.out 0; have hfz76_1 := blk_frozen BK1335.out 1
          try go_wp2_with (first | ((with_reducible refine gate_callee (f := 62) rfl ?_); refine gL_ 62 83 Tryz.func62 #[.int .i64 t1331] ?_; (with_reducible refine (spec_FullSet.calls t1331 t1368 _ A71.out).mono ?_); rintro e w' ⟨rfl, ⟨nd, rfl⟩⟩; refine ⟨_, rfl, ?_⟩))
          (try (rw [drewN_self wr]; generalize hq_ : World.drewN wr _ = wr; have n0_ : Aside0 (Kd.R (Kd.int .i64) 3 wr w.heap.size (fun k_ => some k_ ≠ (v1340 : Value).ownBlock) (.slice Ao13 t1332.length co13) t1332) := ⟨by rw [← hq_]; exact q52_25⟩; have n1_ : Aside0 (Kd.R k48 48 wr w.heap.size (fun _ => True) v1337 t1336) := ⟨by rw [← hq_]; exact s17_⟩; have n2_ : Aside0 (Kd.R (Kd.int .i64) 3 wr w.heap.size (fun k_ => some k_ ≠ (.slice Ao13 t1332.length co13 : Value).ownBlock) v1340 t1339) := ⟨by rw [← hq_]; exact q52_35⟩; have n3_ : Aside0 (wr.heap[gb1335]? = some (.cells #[.int .i64 t1331, .slice Ao13 t1332.length co13] 29 (0, 0))) := ⟨by rw [← hq_]; exact q52_23⟩; have n4_ : Aside0 (Below w.heap.size w wr) := ⟨by rw [← hq_]; exact q52_16⟩; clear HO_1336001 HO_4 HO_5 BK1335 HB hq_; have HO_1336001 := n0_; have HO_4 := n1_; have HO_5 := n2_; have BK1335 := n3_; have HB := n4_; clear n0_ n1_ n2_ n3_ n4_))
          have n0_ := Aside0.mk (Kd.R_drew HO_4.out); have n1_ := Aside0.mk (Kd.R_drew HO_5.out); have n2_ := Aside0.mk (Kd.R_drew HO_1336001.out); have n3_ := Aside0.mk (blk_drew BK1335.out); have n4_ := Aside0.mk (below_drew1 HB.out); clear HO_4; clear HO_5; clear HO_1336001; clear BK1335; clear HB; have HO_4 := n0_; have HO_5 := n1_; have HO_1336001 := n2_; have BK1335 := n3_; have HB := n4_; clear n0_ n1_ n2_ n3_ n4_; obtain ⟨Ao78, co78, eo78⟩ := Kd.R_slice HO_4.out
          (first | subst eo78 | (injection eo78 with f1_ f2_ f3_; have f4_ := f1_.symm; have f5_ := f3_.symm; clear f1_ f2_ f3_; subst f4_; subst f5_))
          refine start_ (n := 7) (S := fun w' => w'.cell? ⟨gb1335, 0, none⟩ = some (.int .i64 t1331) ∧ w'.cell? ⟨gb1335, 1, none⟩ = some (.slice Ao13 t1332.length co13)) (ds := []) (tb_ 7 0) s12_ rfl rfl ⟨(blk_cell BK1335.out 0).trans rfl, (blk_cell BK1335.out 1).trans rfl⟩ (fun hHeld => ?_)
          generalize wr.drew = w77 at HO_4 HO_5 HO_1336001 BK1335 HB hHeld ⊢
          refine pl_ 0 87 (tb_ 7 1) ?_; refine pl_ 1 88 (tb_ 7 3) ?_; refine pl_ 4 91 (tb_ 7 19) ?_
          refine take_ (i := 3) (N := some 90) (v := ?_) (a' := ?_) (tb_ 7 27) rfl rfl s12_ (fun _ _ _ h => h) (Or.inl ⟨by rfl, ?_⟩) hHeld ?_ ?_
          rotate_left
          ·
           rintro w' ⟨s0, s1⟩
           go_simp; with_reducible rfl
          rotate_left
          ·
           exact s9_
          refine one_ (i := 2) (N := some 89) (tb_ 7 31) rfl rfl s12_ (by decide) (fun K hK => ?_)
          refine goes_ Tryz.func63 s12_ rfl #[.slice Ao78 t1336.length co78, .int .i64 x9_2] (by rfl) rfl rfl s0_ ?_
          with_reducible refine (spec_ClosedBy.calls k2 _ _ t1336 x9_2 t1369 _ ?side1 ?side2 A73.out).mono ?_
          (case side1 => exact q52_15)
          (case side2 => exact (Kd.R_reads' HO_4.out).2.1)
          rintro e w79 ⟨rfl, hb⟩
          refine ⟨_, rfl, ?_⟩
          have n0_ := Aside0.mk (Kd.R_below s17_ hb); have n1_ := Aside0.mk (Kd.R_below q52_35 hb); have n2_ := Aside0.mk (Kd.R_below q52_25 hb); have n3_ := Aside0.mk (blk_below (g := gb1335) (o := .cells #[.int .i64 t1331, .slice Ao13 t1332.length co13] 29 (0, 0)) q52_23 hb); have n4_ := Aside0.mk (below_step q52_16 hb); clear HO_4; clear HO_5; clear HO_1336001; clear BK1335; clear HB; have HO_4 := n0_; have HO_5 := n1_; have HO_1336001 := n2_; have BK1335 := n3_; have HB := n4_; clear n0_ n1_ n2_ n3_ n4_
          (try clear hb)
          (try clear hb2)
          (try clear hk)
          (try clear hi)
          refine hK.out _ _ ⟨(blk_cell BK1335.out 0).trans rfl, (blk_cell BK1335.out 1).trans rfl⟩ (fun hHeld => ?_)
          clear hK K
          refine norm_ (a' := ?_) ?_ ?_
          rotate_left
          ·
           show Act.put _ (some 89) _ = _
           exact s9_
          refine one_ (i := 5) (N := some 92) (tb_ 7 63) rfl rfl s12_ (by decide) (fun K hK => ?_)
          refine goes_ Tryz.func64 s12_ rfl #[.agg #[.int .i64 t1331, .slice Ao13 t1332.length co13], .int .i64 x9_2] (by rfl) rfl rfl s0_ ?_
          with_reducible refine (spec_ClosureOf.calls k2 t1331 _ _ t1332 x9_2 t1370 _ ?side1 ?side2 A74.out).mono ?_
          (case side1 => exact q52_7)
          (case side2 => exact (Kd.R_reads' HO_1336001.out).2.1)
          rintro e w80 ⟨rfl, hb⟩
          refine ⟨_, rfl, ?_⟩
          have n0_ := Aside0.mk (Kd.R_below s17_ hb); have n1_ := Aside0.mk (Kd.R_below q52_35 hb); have n2_ := Aside0.mk (Kd.R_below q52_25 hb); have n3_ := Aside0.mk (blk_below (g := gb1335) (o := .cells #[.int .i64 t1331, .slice Ao13 t1332.length co13] 29 (0, 0)) q52_23 hb); have n4_ := Aside0.mk (below_step q52_16 hb); clear HO_4; clear HO_5; clear HO_1336001; clear BK1335; clear HB; have HO_4 := n0_; have HO_5 := n1_; have HO_1336001 := n2_; have BK1335 := n3_; have HB := n4_; clear n0_ n1_ n2_ n3_ n4_
          (try clear hb)
          (try clear hb2)
          (try clear hk)
          (try clear hi)
          refine hK.out _ _ ⟨(blk_cell BK1335.out 0).trans rfl, (blk_cell BK1335.out 1).trans rfl⟩ (fun hHeld => ?_)
          clear hK K
          refine norm_ (a' := ?_) ?_ ?_
          rotate_left
          ·
           show Act.put _ (some 92) _ = _
           exact s9_
          refine pl_ 6 93 (tb_ 7 127) ?_
          refine done_ s12_ ?_
          try go_wp2
          go_roundg k2
          case measure => have := HJ8.out; have := HK2.out; omega
          case rel => exact ⟨(wrap64 (x9_2 + 1)), s3_, H', ⟨by have := HJ8.out; have := HK2.out; omega⟩, ⟨s17_⟩, ⟨q52_35⟩, ⟨q52_25⟩, ⟨q52_23⟩, ⟨q52_16⟩⟩
         ·
          rw [if_neg c75] at H
          exact absurd ((Option.some.inj H).trans HRT.out) Bool.false_ne_true
        ·
         rw [if_neg c72] at H; have c72b0 : decide (x9_2 ≤ t1368) = false := decide_eq_false c72; clear c72; have H' := Aside0.mk H; clear H; have hcz81_0 : wr.cell? ⟨gb1335, 0, none⟩ = some (.int .i64 t1331) := (blk_cell BK1335.out 0).trans rfl; have hcz81_1 : wr.cell? ⟨gb1335, 1, none⟩ = some (.slice Ao13 t1332.length co13) := (blk_cell BK1335.out 1).trans rfl; have hfz81_0 := blk_frozen BK1335.out 0; have hfz81_1 := blk_frozen BK1335.out 1
         go_wp2_with (first | ((with_reducible refine gate_callee (f := 62) rfl ?_); refine gL_ 62 83 Tryz.func62 #[.int .i64 t1331] ?_; (with_reducible refine (spec_FullSet.calls t1331 t1368 _ A71.out).mono ?_); rintro e w' ⟨rfl, ⟨nd, rfl⟩⟩; refine ⟨_, rfl, ?_⟩))
         go_loopg [10] k2 (fun kq v10 w' => ∃ (x10_3 : Int), v10 = .int .i64 x10_3 ∧ Aside0 (laws_FnStem.l1 kq t1336 t1339 x10_3 t1331 t1332 = some r) ∧ Aside0 (kq ≤ k2) ∧ Aside0 (Kd.R k48 48 w' w.heap.size (fun _ => True) v1337 t1336) ∧ Aside0 (Kd.R (Kd.int .i64) 3 w' w.heap.size (fun k_ => some k_ ≠ ((.slice Ao13 t1332.length co13) : Value).ownBlock) v1340 t1339) ∧ Aside0 (Kd.R (Kd.int .i64) 3 w' w.heap.size (fun k_ => some k_ ≠ (v1340 : Value).ownBlock) (.slice Ao13 t1332.length co13) t1332) ∧ Aside0 (w'.heap[gb1335]? = some (.cells #[.int .i64 t1331, (.slice Ao13 t1332.length co13)] 29 (0, 0))) ∧ Aside0 (Below w.heap.size w w'))
         case atStart => exact ⟨(0), s3_, H', ⟨Nat.le_refl _⟩, ⟨s17_⟩, ⟨q52_35⟩, ⟨q52_25⟩, ⟨q52_23⟩, ⟨q52_16⟩⟩
         case round =>
          clear H'
          try clear c2
          try clear p2
          try clear c3
          try clear c5
          try clear c6
          try clear p6
          try clear c7
          try clear c21
          try clear c26
          try clear c29
          try clear c37
          try clear c37b0
          try clear c37b1
          try clear c55
          try clear c56
          try clear c57
          try clear c58
          try clear c59
          try clear c60
          try clear c61
          try clear c62
          try clear c63
          try clear c64
          try clear p64
          try clear c66
          try clear c68
          try clear c72
          try clear c72b0
          try clear c75
          try clear c75b0
          try clear c75b1
          try clear hcz69_0
          try clear hcz69_1
          try clear hcz76_0
          try clear hcz76_1
          try clear hcz81_0
          try clear hcz81_1
          try clear hfz69_0
          try clear hfz69_1
          try clear hfz76_0
          try clear hfz76_1
          try clear hfz81_0
          try clear hfz81_1
          try clear p2
          obtain ⟨x10_3, rfl, HA, HK3, HO_4, HO_5, HO_1336001, BK1335, HB⟩ := hrel
          cases gk with
          | zero => exact absurd HA.out (by simp [laws_FnStem.l1])
          | succ k3 =>
           have H := HA.out; clear HA
           simp only [laws_FnStem.l1] at H
           by_cases c82 : x10_3 < (t1336.length : Int)
           ·
            rw [if_pos c82] at H; have c82b0 : decide (x10_3 < (t1336.length : Int)) = true := decide_eq_true c82; clear c82; obtain ⟨y1371, hy_⟩ : ∃ y_ : List (S48), y_ = (([] : List (S48))) := ⟨_, rfl⟩
            replace H : (if 0 ≤ x10_3 then (if x10_3 ≤ (t1336.length : Int) then ((some (t1336.take (x10_3 : Int).toNat : List (S48))).bind fun y1374 => (if y1371.length + y1374.length < 8796093022208 then ((some (y1371 ++ y1374 : List (S48))).bind fun y1378 => (if 0 ≤ (wrap64 (x10_3 + 1)) then (if (wrap64 (x10_3 + 1)) ≤ (t1336.length : Int) then ((some (t1336.drop ((wrap64 (x10_3 + 1)) : Int).toNat : List (S48))).bind fun y1381 => (if y1378.length + y1381.length < 8796093022208 then ((spec_Follows.f k3 (y1378 ++ y1381) ((rd_T48 t1336 x10_3).f0) ((rd_T48 t1336 x10_3).f1)).bind fun t1389 => (if t1389 = true then (some false) else (if x10_3 < (t1339.length : Int) then (if ((rd_T48 t1336 x10_3).f0) = (rd t1339 x10_3) then (laws_FnStem.l1 k3 t1336 t1339 (wrap64 (x10_3 + 1)) t1331 t1332) else (some false)) else (none)))) else (none))) else (none)) else (none))) else (none))) else (none)) else (none)) = some r := rH_
            have Ny1371 := Aside0.mk hy_; clear hy_
            by_cases c83 : 0 ≤ x10_3
            ·
             rw [if_pos c83] at H; have c83b0 := eq_true c83; have c83b1 : decide (0 ≤ x10_3) = true := decide_eq_true c83; clear c83
             by_cases c84 : x10_3 ≤ (t1336.length : Int)
             ·
              rw [if_pos c84] at H; have c84b0 := eq_true c84; have c84b1 : decide (x10_3 ≤ (t1336.length : Int)) = true := decide_eq_true c84; clear c84; obtain ⟨y1374, hy_⟩ : ∃ y_ : List (S48), y_ = (t1336.take (x10_3 : Int).toNat) := ⟨_, rfl⟩
              replace H : (if y1371.length + y1374.length < 8796093022208 then ((some (y1371 ++ y1374 : List (S48))).bind fun y1378 => (if 0 ≤ (wrap64 (x10_3 + 1)) then (if (wrap64 (x10_3 + 1)) ≤ (t1336.length : Int) then ((some (t1336.drop ((wrap64 (x10_3 + 1)) : Int).toNat : List (S48))).bind fun y1381 => (if y1378.length + y1381.length < 8796093022208 then ((spec_Follows.f k3 (y1378 ++ y1381) ((rd_T48 t1336 x10_3).f0) ((rd_T48 t1336 x10_3).f1)).bind fun t1389 => (if t1389 = true then (some false) else (if x10_3 < (t1339.length : Int) then (if ((rd_T48 t1336 x10_3).f0) = (rd t1339 x10_3) then (laws_FnStem.l1 k3 t1336 t1339 (wrap64 (x10_3 + 1)) t1331 t1332) else (some false)) else (none)))) else (none))) else (none)) else (none))) else (none)) = some r := rH_
              have Ny1374 := Aside0.mk hy_; clear hy_
              by_cases c85 : y1371.length + y1374.length < 8796093022208
              ·
               rw [if_pos c85] at H; have LMc85 := Aside0.mk c85; clear c85; obtain ⟨y1378, hy_⟩ : ∃ y_ : List (S48), y_ = (y1371 ++ y1374) := ⟨_, rfl⟩
               replace H : (if 0 ≤ (wrap64 (x10_3 + 1)) then (if (wrap64 (x10_3 + 1)) ≤ (t1336.length : Int) then ((some (t1336.drop ((wrap64 (x10_3 + 1)) : Int).toNat : List (S48))).bind fun y1381 => (if y1378.length + y1381.length < 8796093022208 then ((spec_Follows.f k3 (y1378 ++ y1381) ((rd_T48 t1336 x10_3).f0) ((rd_T48 t1336 x10_3).f1)).bind fun t1389 => (if t1389 = true then (some false) else (if x10_3 < (t1339.length : Int) then (if ((rd_T48 t1336 x10_3).f0) = (rd t1339 x10_3) then (laws_FnStem.l1 k3 t1336 t1339 (wrap64 (x10_3 + 1)) t1331 t1332) else (some false)) else (none)))) else (none))) else (none)) else (none)) = some r := rH_
               have Ny1378 := Aside0.mk hy_; clear hy_; obtain ⟨ji86, hji86⟩ : ∃ j_ : Int, (wrap64 (x10_3 + 1)) = j_ := ⟨_, rfl⟩
               replace H : (if 0 ≤ (ji86) then (if (ji86) ≤ (t1336.length : Int) then ((some (t1336.drop ((ji86) : Int).toNat : List (S48))).bind fun y1381 => (if y1378.length + y1381.length < 8796093022208 then ((spec_Follows.f k3 (y1378 ++ y1381) ((rd_T48 t1336 x10_3).f0) ((rd_T48 t1336 x10_3).f1)).bind fun t1389 => (if t1389 = true then (some false) else (if x10_3 < (t1339.length : Int) then (if ((rd_T48 t1336 x10_3).f0) = (rd t1339 x10_3) then (laws_FnStem.l1 k3 t1336 t1339 ji86 t1331 t1332) else (some false)) else (none)))) else (none))) else (none)) else (none)) = some r := by first | (rw [hji86] at H; exact H) | (simp only [hji86] at H ⊢; exact H)
               have hji86w : (IntKind.i64.wrap (x10_3 + 1)) = ji86 := (i64_w _).trans hji86
               by_cases c87 : 0 ≤ (ji86)
               ·
                rw [if_pos c87] at H; have c87b0 := eq_true c87; have c87b1 : decide (0 ≤ (ji86)) = true := decide_eq_true c87; clear c87
                by_cases c88 : (ji86) ≤ (t1336.length : Int)
                ·
                 rw [if_pos c88] at H; have c88b0 := eq_true c88; have c88b1 : decide ((ji86) ≤ (t1336.length : Int)) = true := decide_eq_true c88; clear c88; obtain ⟨y1381, hy_⟩ : ∃ y_ : List (S48), y_ = (t1336.drop ((ji86) : Int).toNat) := ⟨_, rfl⟩
                 replace H : (if y1378.length + y1381.length < 8796093022208 then ((spec_Follows.f k3 (y1378 ++ y1381) ((rd_T48 t1336 x10_3).f0) ((rd_T48 t1336 x10_3).f1)).bind fun t1389 => (if t1389 = true then (some false) else (if x10_3 < (t1339.length : Int) then (if ((rd_T48 t1336 x10_3).f0) = (rd t1339 x10_3) then (laws_FnStem.l1 k3 t1336 t1339 ji86 t1331 t1332) else (some false)) else (none)))) else (none)) = some r := rH_
                 have Ny1381 := Aside0.mk hy_; clear hy_
                 by_cases c89 : y1378.length + y1381.length < 8796093022208
                 ·
                  rw [if_pos c89] at H; have LMc89 := Aside0.mk c89; clear c89; obtain ⟨y1385, hy_⟩ : ∃ y_ : List (S48), y_ = (y1378 ++ y1381) := ⟨_, rfl⟩
                  replace H : ((spec_Follows.f k3 y1385 ((rd_T48 t1336 x10_3).f0) ((rd_T48 t1336 x10_3).f1)).bind fun t1389 => (if t1389 = true then (some false) else (if x10_3 < (t1339.length : Int) then (if ((rd_T48 t1336 x10_3).f0) = (rd t1339 x10_3) then (laws_FnStem.l1 k3 t1336 t1339 ji86 t1331 t1332) else (some false)) else (none)))) = some r := rH_
                  have Ny1385 := Aside0.mk hy_; clear hy_; obtain ⟨t1389, A90, H⟩ := bnd52_ H
                  by_cases c91 : t1389 = true
                  ·
                   subst c91; rw [if_pos rfl] at H
                   exact absurd ((Option.some.inj H).trans HRT.out) Bool.false_ne_true
                  ·
                   replace c91 := Bool.eq_false_iff.mpr c91; subst c91
                   rw [if_neg (show ¬ (false = true) by decide)] at H
                   by_cases c92 : x10_3 < (t1339.length : Int)
                   ·
                    rw [if_pos c92] at H; have c92b0 : decide (x10_3 < (t1339.length : Int)) = true := decide_eq_true c92; clear c92
                    by_cases c93 : ((rd_T48 t1336 x10_3).f0) = (rd t1339 x10_3)
                    ·
                     rw [if_pos c93] at H; have c93b0 : (((rd_T48 t1336 x10_3).f0) == (rd t1339 x10_3)) = true := beq_iff_eq.mpr c93; have c93b1 : (((rd_T48 t1336 x10_3).f0) != (rd t1339 x10_3)) = false := bne_eq_false_iff_eq.mpr c93; clear c93; have H' := Aside0.mk H; clear H; obtain ⟨Ao94, co94, eo94⟩ := Kd.R_slice HO_4.out; subst eo94
                     try go_wp2
                     have n0_ := Aside0.mk (Kd.R_drew HO_4.out); have n1_ := Aside0.mk (Kd.R_drew HO_5.out); have n2_ := Aside0.mk (Kd.R_drew HO_1336001.out); have n3_ := Aside0.mk (blk_drew BK1335.out); have n4_ := Aside0.mk (below_drew1 HB.out); clear HO_4; clear HO_5; clear HO_1336001; clear BK1335; clear HB; have HO_4 := n0_; have HO_5 := n1_; have HO_1336001 := n2_; have BK1335 := n3_; have HB := n4_; clear n0_ n1_ n2_ n3_ n4_; have q96 : (x10_3 : Int) ≤ ((t1336.length : Int) : Int) := of_decide_eq_true s4_; obtain ⟨i096, hi096, _, hsz96, _⟩ := info_parts info48; have hroom96 : t1336.length ≤ co94 := (Kd.R_reads' HO_4.out).2.1; have hC96 : Kd.C k48 _ Ao94 t1336.length t1336 := (Kd.R_reads' HO_4.out).2.2; have hcut96 := cut_to (P := Tryz.prog) 24 48 .i64 Tryz.underlying24 hi096 Ao94 t1336.length co94 x10_3 (of_decide_eq_true s4_) q96 hroom96
                     have hr96 := Kd.C_take (m := (x10_3 : Int).toNat) hC96 (by omega)
                     have hy96 : y1374.length = (x10_3 : Int).toNat := (by rw [Ny1374.out, List.length_take]; omega)
                     rw [← Ny1374.out] at hr96; rw [← hy96] at hcut96; have HR1377 := Aside0.mk hr96
                     have HC1377 := Aside0.mk (show y1374.length ≤ co94 from by omega)
                     clear hr96 hC96 hroom96 hi096 hsz96; have KY96 := Aside0.mk hy96; clear hy96
                     have KL96 := Aside0.mk (show (x10_3 : Int).toNat ≤ t1336.length from by omega)
                     replace q96 := eq_true q96; have q97 : ((ji86) : Int) ≤ ((t1336.length : Int) : Int) := of_decide_eq_true s4_; obtain ⟨i097, hi097, _, hsz97, _⟩ := info_parts info48; have hroom97 : t1336.length ≤ co94 := (Kd.R_reads' HO_4.out).2.1; have hC97 : Kd.C k48 _ Ao94 t1336.length t1336 := (Kd.R_reads' HO_4.out).2.2; have q097 : (0 : Int) ≤ ((ji86) : Int) := of_decide_eq_true s4_; have hcut97 := cut_from (P := Tryz.prog) 24 48 .i64 Tryz.underlying24 hi097 2 hsz97 Ao94 t1336.length co94 (ji86) q097 q97
                     have hr97 := Kd.C_drop (m := ((ji86) : Int).toNat) (c := co94) hC97 (by omega) hroom97
                     obtain ⟨A97, hA97⟩ : ∃ A1, A1 = (if co94 = ((ji86) : Int).toNat then Ao94 else (Ao94 : Option Addr).map (·.add (((ji86) : Int).toNat * 2))) := ⟨_, rfl⟩
                     obtain ⟨c97, hc97⟩ : ∃ c1, c1 = co94 - ((ji86) : Int).toNat := ⟨_, rfl⟩
                     have hy97 : y1381.length = t1336.length - ((ji86) : Int).toNat := (by rw [Ny1381.out, List.length_drop] <;> omega)
                     rw [show (t1336).drop ((ji86) : Int).toNat = y1381 from Ny1381.out.symm] at hr97
                     replace hr97 : Kd.C k48 _ A97 y1381.length y1381 := (by rw [hA97]; exact hr97)
                     rw [← hy97, ← hA97, ← hc97] at hcut97; have HR1384 := Aside0.mk hr97
                     have HC1384 := Aside0.mk (show y1381.length ≤ c97 from by rw [hy97, hc97]; exact Nat.sub_le_sub_right hroom97 _)
                     clear hr97 hC97 hroom97 hi097 hsz97 hc97; have KY97 := Aside0.mk hy97; have KA97 := Aside0.mk hA97; clear hy97 hA97
                     have KL97 := Aside0.mk (show ((ji86) : Int).toNat ≤ t1336.length from by omega)
                     replace q97 := eq_true q97
                     refine start_ (n := 11) (S := fun w' => True) (ds := []) (tb_ 11 0) s12_ rfl rfl trivial (fun hHeld => ?_); refine with_tabW laws_FnStem.tab20 laws_FnStem.bits20 (fun HT_ HW_ => ?_)
                     generalize wr.drew = w95 at HO_4 HO_5 HO_1336001 BK1335 HB HR1377 HR1384 hHeld ⊢
                     refine pl_ 1 101 (tb_ 11 2) ?_; refine pl_ 2 102 (tb_ 11 6) ?_; refine pl_ 3 103 (tb_ 11 14) ?_; refine pl_ 5 105 (tb_ 11 46) ?_; refine pl_ 6 106 (tb_ 11 110) ?_; refine pl_ 7 107 (tb_ 11 238) ?_; refine pl_ 8 108 (tb_ 11 494) ?_
                     refine on_ 0 100 (tb_ 11 495) (fun K hK => ?_)
                     refine Kd.R_lit_step k48 _ 48 ?hg (N := 100) ?hd (xs := ([] : List (S48))) (inner := []) (ok := fun _ => True) (okp := fun _ => True) ?hr ?hp (fun _ hk => hk) trivial (Below.refl _ _) (Nat.le_refl _) (by simp) ?_; (case hd => rfl); (case hg => rfl); (case hr => first | (go_simp; done) | (go_simp; rfl)); (case hp => exact (Reps.none _ _))
                     intro v1372 w98 ho99 hb hg_ hnew_
                     clear hg_ hnew_
                     (first | rw [← Ny1371.out] at ho99 | (simp only [Int.reduceToNat] at ho99; rw [← Ny1371.out] at ho99))
                     have n0_ := Aside0.mk (Kd.R_elder' s17_ (Kd.R_base ho99) hb); have n1_ := Aside0.mk (Kd.R_below q52_35 hb); have n2_ := Aside0.mk (Kd.R_below q52_25 hb); have n3_ := Aside0.mk (Kd.R_lower (Kd.R_new' ho99 (Kd.R_lt s17_)) (below_size q52_16)); have n4_ := Aside0.mk (blk_below (g := gb1335) (o := .cells #[.int .i64 t1331, .slice Ao13 t1332.length co13] 29 (0, 0)) q52_23 hb); have n5_ := Aside0.mk (Kd.C_below q52_5 hb); have n6_ := Aside0.mk (Kd.C_below q52_6 hb); have n7_ := Aside0.mk (below_step q52_16 hb); clear HO_4; clear HO_5; clear HO_1336001; clear BK1335; clear HR1377; clear HR1384; clear HB; have HO_4 := n0_; have HO_5 := n1_; have HO_1336001 := n2_; have HO1373 := n3_; have BK1335 := n4_; have HR1377 := n5_; have HR1384 := n6_; have HB := n7_; clear n0_ n1_ n2_ n3_ n4_ n5_ n6_ n7_; clear hb ho99
                     refine hK.out _ _ trivial (fun hHeld => ?_)
                     clear hK K
                     refine norm_ (a' := ?_) ?_ ?_
                     rotate_left
                     ·
                      show Act.put _ (some 100) _ = _
                      exact s9_
                     refine on_ 4 104 (tb_ 11 511) (fun K hK => ?_)
                     refine Kd.R_append_rows_step k48 (w0 := w) w.heap.size (by rfl) (.tmp 100) (.tmp 103) 24 48 (.agg #[(.int .i64 0), (.int .i64 0)]) 16 rfl Tryz.underlying24 info48 rfl (by decide) (by omega) v1372 y1371 y1374 _ _ _ (fun k_ => some k_ ≠ (.slice Ao94 t1336.length co94 : Value).ownBlock) (fun _ => False) rfl rfl ?aO ?aR (fun _ _ h => h) (fun _ h => h.elim) ?aF ?aB ?aS ?aL ?_
                     (case aR => repeat (first | exact q52_5 | (with_reducible refine Kd.C_alloc ?_ _) | (with_reducible refine Kd.C_drewN ?_ _) | (with_reducible refine Kd.C_drew ?_)))
                     (case aB => exact q52_16)
                     (case aF => exact (fun k_ hk => Kd.fresh' (Kd.R_lt s17_) k_ hk))
                     (case aO => exact (by (with_reducible repeat (first | apply Kd.R_alloc | apply Kd.R_drewN | apply Kd.R_drew)); exact Kd.R_mono HO1373.out (fun _ hk => hk.2)))
                     (case aS => exact (below_size q52_16))
                     (case aL => have := LMc85.out; omega)
                     intro v1379 w100 ho hb hg hat
                     rw [← Ny1378.out] at ho
                     have n0_ := Aside0.mk (Kd.R_after (ok := (fun _ => True)) s17_ hg hat)
                     have n1_ := Aside0.mk (Kd.R_over' q52_35 (Kd.R_typed (by (with_reducible repeat (first | apply Kd.R_alloc | apply Kd.R_drewN | apply Kd.R_drew)); exact HO1373.out)) (by decide) hg)
                     have n2_ := Aside0.mk (Kd.R_over' q52_25 (Kd.R_typed (by (with_reducible repeat (first | apply Kd.R_alloc | apply Kd.R_drewN | apply Kd.R_drew)); exact HO1373.out)) (by decide) hg)
                     have n3_ := Aside0.mk (blk_grown (g := gb1335) (o := .cells #[.int .i64 t1331, .slice Ao13 t1332.length co13] 29 (0, 0)) q52_23 hg (Kd.R_ne HO1373.out BK1335.out (by decide)))
                     have n4_ := Aside0.mk (hb)
                     have n5_ := Aside0.mk ((show Kd.C k48 w100 Ao94 y1374.length y1374 from by rw [Ny1374.out]; exact Kd.C_take (m := (x10_3 : Int).toNat) ((Kd.R_reads' (Kd.R_after (ok := (fun _ => True)) s17_ hg hat)).2.2) KL96.out))
                     have n6_ := Aside0.mk ((show Kd.C k48 w100 A97 y1381.length y1381 from by rw [Ny1381.out, KA97.out]; exact Kd.C_drop (m := ((ji86) : Int).toNat) (c := co94) ((Kd.R_reads' (Kd.R_after (ok := (fun _ => True)) s17_ hg hat)).2.2) KL97.out ((Kd.R_reads' (Kd.R_after (ok := (fun _ => True)) s17_ hg hat)).2.1)))
                     have n7_ := Aside0.mk (ho); clear HO_4; clear HO_5; clear HO_1336001; clear BK1335; clear HB; clear HR1377; clear HR1384; clear HO1373; have HO_4 := n0_; have HO_5 := n1_; have HO_1336001 := n2_; have BK1335 := n3_; have HB := n4_; have HR1377 := n5_; have HR1384 := n6_; have HO1380 := n7_; clear n0_ n1_ n2_ n3_ n4_ n5_ n6_ n7_; clear ho hb hg hat
                     refine hK.out _ _ trivial (fun hHeld => ?_)
                     clear hK K
                     refine norm_ (a' := ?_) ?_ ?_
                     rotate_left
                     ·
                      show Act.put _ (some 104) _ = _
                      exact s9_
                     refine on_ 9 109 (tb_ 11 1023) (fun K hK => ?_)
                     refine Kd.R_append_rows_step k48 (w0 := w) w.heap.size (by rfl) (.tmp 104) (.tmp 108) 24 48 (.agg #[(.int .i64 0), (.int .i64 0)]) 16 rfl Tryz.underlying24 info48 rfl (by decide) (by omega) v1379 y1378 y1381 _ _ _ (fun k_ => some k_ ≠ (.slice Ao94 t1336.length co94 : Value).ownBlock) (fun _ => False) rfl rfl ?aO ?aR (fun _ _ h => h) (fun _ h => h.elim) ?aF ?aB ?aS ?aL ?_
                     (case aR => repeat (first | exact q52_6 | (with_reducible refine Kd.C_alloc ?_ _) | (with_reducible refine Kd.C_drewN ?_ _) | (with_reducible refine Kd.C_drew ?_)))
                     (case aB => exact q52_16)
                     (case aF => exact (fun k_ hk => Kd.fresh' (Kd.R_lt s17_) k_ hk))
                     (case aO => exact q52_33)
                     (case aS => exact (below_size q52_16))
                     (case aL => have := LMc89.out; omega)
                     intro v1386 w101 ho hb hg hat
                     rw [← Ny1385.out] at ho
                     have n0_ := Aside0.mk (Kd.R_after (ok := (fun _ => True)) s17_ hg hat)
                     have n1_ := Aside0.mk (Kd.R_over' q52_35 (Kd.R_typed q52_33) (by decide) hg)
                     have n2_ := Aside0.mk (Kd.R_over' q52_25 (Kd.R_typed q52_33) (by decide) hg)
                     have n3_ := Aside0.mk (blk_grown (g := gb1335) (o := .cells #[.int .i64 t1331, .slice Ao13 t1332.length co13] 29 (0, 0)) q52_23 hg (Kd.R_ne HO1380.out BK1335.out (by decide)))
                     have n4_ := Aside0.mk (hb)
                     have n5_ := Aside0.mk ((show Kd.C k48 w101 Ao94 y1374.length y1374 from by rw [Ny1374.out]; exact Kd.C_take (m := (x10_3 : Int).toNat) ((Kd.R_reads' (Kd.R_after (ok := (fun _ => True)) s17_ hg hat)).2.2) KL96.out))
                     have n6_ := Aside0.mk ((show Kd.C k48 w101 A97 y1381.length y1381 from by rw [Ny1381.out, KA97.out]; exact Kd.C_drop (m := ((ji86) : Int).toNat) (c := co94) ((Kd.R_reads' (Kd.R_after (ok := (fun _ => True)) s17_ hg hat)).2.2) KL97.out ((Kd.R_reads' (Kd.R_after (ok := (fun _ => True)) s17_ hg hat)).2.1)))
                     have n7_ := Aside0.mk (ho); clear HO_4; clear HO_5; clear HO_1336001; clear BK1335; clear HB; clear HR1377; clear HR1384; clear HO1380; have HO_4 := n0_; have HO_5 := n1_; have HO_1336001 := n2_; have BK1335 := n3_; have HB := n4_; have HR1377 := n5_; have HR1384 := n6_; have HO1387 := n7_; clear n0_ n1_ n2_ n3_ n4_ n5_ n6_ n7_; clear ho hb hg hat
                     refine hK.out _ _ trivial (fun hHeld => ?_)
                     clear hK K
                     refine norm_ (a' := ?_) ?_ ?_
                     rotate_left
                     ·
                      show Act.put _ (some 109) _ = _
                      exact s9_
                     refine pl_ 10 11 (tb_ 11 2047) ?_
                     refine done_ (done_of HT_.out s12_) ?_
                     try go_wp2
                     have n0_ := Aside0.mk (Kd.R_drew HO_4.out); have n1_ := Aside0.mk (Kd.R_drew HO_5.out); have n2_ := Aside0.mk (Kd.R_drew HO_1336001.out); have n3_ := Aside0.mk (Kd.R_drew HO1387.out); have n4_ := Aside0.mk (blk_drew BK1335.out); have n5_ := Aside0.mk (Kd.C_drew HR1377.out); have n6_ := Aside0.mk (Kd.C_drew HR1384.out); have n7_ := Aside0.mk (below_drew1 HB.out); clear HO_4; clear HO_5; clear HO_1336001; clear HO1387; clear BK1335; clear HR1377; clear HR1384; clear HB; have HO_4 := n0_; have HO_5 := n1_; have HO_1336001 := n2_; have HO1387 := n3_; have BK1335 := n4_; have HR1377 := n5_; have HR1384 := n6_; have HB := n7_; clear n0_ n1_ n2_ n3_ n4_ n5_ n6_ n7_; have p1388 : 0 ≤ (x10_3 : Int) := of_decide_eq_true s4_; have q1388 : x10_3 < (t1336.length : Int) := of_decide_eq_true s4_; obtain ⟨ad1388, e1388, hx1388_0, hx1388_1⟩ := at_T48 (Kd.R_reads' HO_4.out).2.2 x10_3 p1388 q1388
                     cases e1388
                     replace p1388 := eq_true p1388; replace q1388 := eq_true q1388; obtain ⟨Ao103, co103, eo103⟩ := Kd.R_slice HO1387.out
                     (first | subst eo103 | (injection eo103 with f1_ f2_ f3_; have f4_ := f1_.symm; have f5_ := f3_.symm; clear f1_ f2_ f3_; subst f4_; subst f5_))
                     have p1390 : 0 ≤ (x10_3 : Int) := of_decide_eq_true s4_; have q1390 : x10_3 < (t1336.length : Int) := of_decide_eq_true s4_; obtain ⟨ad1390, e1390, hx1390_0, hx1390_1⟩ := at_T48 (Kd.R_reads' HO_4.out).2.2 x10_3 p1390 q1390
                     obtain rfl : ad1388 = ad1390 := (by injection e1390)
                     replace p1390 := eq_true p1390; replace q1390 := eq_true q1390; have p1391 : 0 ≤ (x10_3 : Int) := of_decide_eq_true s4_; have q1391 : x10_3 < (t1339.length : Int) := of_decide_eq_true s4_
                     (try (obtain ⟨Ap1391, cp1391, ep1391⟩ := Kd.R_slice HO_5.out; subst ep1391))
                     obtain ⟨ad1391, e1391, hx1391_0⟩ := Kd.at_int (Kd.R_reads' HO_5.out).2.2 x10_3 p1391 q1391
                     cases e1391
                     replace p1391 := eq_true p1391; replace q1391 := eq_true q1391
                     refine start_ (n := 18) (S := fun w' => w'.cell? (ad1388.add ((x10_3).toNat * 2)) = some (.int .i64 ((rd_T48 t1336 x10_3).f0)) ∧ w'.cell? ⟨(ad1388.add ((x10_3).toNat * 2)).block, (ad1388.add ((x10_3).toNat * 2)).off + 1, none⟩ = some (.int .i64 ((rd_T48 t1336 x10_3).f1)) ∧ w'.cell? (ad1388.add ((x10_3).toNat * 2)) = some (.int .i64 ((rd_T48 t1336 x10_3).f0)) ∧ w'.cell? ⟨(ad1388.add ((x10_3).toNat * 2)).block, (ad1388.add ((x10_3).toNat * 2)).off + 1, none⟩ = some (.int .i64 ((rd_T48 t1336 x10_3).f1)) ∧ w'.cell? (ad1391.add (x10_3).toNat) = some (.int .i64 (rd t1339 x10_3))) (ds := []) (tb_ 18 0) s12_ rfl rfl ⟨hx1388_0, hx1388_1, hx1390_0, hx1390_1, hx1391_0⟩ (fun hHeld => ?_); refine with_tabW laws_FnStem.tab21 laws_FnStem.bits21 (fun HT_ HW_ => ?_)
                     generalize w101.drew = w102 at HO_4 HO_5 HO_1336001 HO1387 BK1335 HR1377 HR1384 HB hx1388_0 hx1388_1 hx1390_0 hx1390_1 hx1391_0 hHeld ⊢
                     refine pl_ 0 110 (tb_ 18 1) ?_; refine pl_ 1 111 (tb_ 18 3) ?_; refine pl_ 2 112 (tb_ 18 7) ?_; refine pl_ 3 113 (tb_ 18 15) ?_; refine tk_ 4 114 (tb_ 18 31) hHeld ?_
                     refine on_ 5 115 (tb_ 18 63) (fun K hK => ?_)
                     refine goes_ Tryz.func49 s12_ rfl #[.slice Ao103 y1385.length co103, .agg #[.int .i64 ((rd_T48 t1336 x10_3).f0), .int .i64 ((rd_T48 t1336 x10_3).f1)]] (by rfl) rfl rfl s0_ ?_
                     with_reducible refine (spec_Follows.calls k3 _ _ y1385 ((rd_T48 t1336 x10_3).f0) ((rd_T48 t1336 x10_3).f1) false _ ?side1 ?side2 A90.out).mono ?_
                     (case side1 => repeat (first | exact (Kd.R_reads' HO1387.out).2.2 | (with_reducible refine Kd.C_alloc ?_ _) | (with_reducible refine Kd.C_drewN ?_ _) | (with_reducible refine Kd.C_drew ?_)))
                     (case side2 => exact (Kd.R_reads' HO1387.out).2.1)
                     rintro e w104 ⟨rfl, hb⟩
                     have HS0_ := (hb.cell (World.block_lt_of_cell? _ _ (hHeld.1))).trans (hHeld.1); have HS1_ := (hb.cell (World.block_lt_of_cell? _ _ (hHeld.2.1))).trans (hHeld.2.1); have HS2_ := (hb.cell (World.block_lt_of_cell? _ _ (hHeld.2.2.1))).trans (hHeld.2.2.1); have HS3_ := (hb.cell (World.block_lt_of_cell? _ _ (hHeld.2.2.2.1))).trans (hHeld.2.2.2.1); have HS4_ := (hb.cell (World.block_lt_of_cell? _ _ (hHeld.2.2.2.2))).trans (hHeld.2.2.2.2)
                     refine ⟨_, rfl, ?_⟩
                     have n0_ := Aside0.mk (Kd.R_below s17_ hb); have n1_ := Aside0.mk (Kd.R_below q52_35 hb); have n2_ := Aside0.mk (Kd.R_below q52_25 hb)
                     have n3_ := Aside0.mk (Kd.R_below (by (with_reducible repeat (first | apply Kd.R_alloc | apply Kd.R_drewN | apply Kd.R_drew)); exact HO1387.out) hb)
                     have n4_ := Aside0.mk (blk_below (g := gb1335) (o := .cells #[.int .i64 t1331, .slice Ao13 t1332.length co13] 29 (0, 0)) q52_23 hb); have n5_ := Aside0.mk (Kd.C_below q52_5 hb); have n6_ := Aside0.mk (Kd.C_below q52_6 hb); have n7_ := Aside0.mk (below_step q52_16 hb); clear HO_4; clear HO_5; clear HO_1336001; clear HO1387; clear BK1335; clear HR1377; clear HR1384; clear HB; have HO_4 := n0_; have HO_5 := n1_; have HO_1336001 := n2_; have HO1387 := n3_; have BK1335 := n4_; have HR1377 := n5_; have HR1384 := n6_; have HB := n7_; clear n0_ n1_ n2_ n3_ n4_ n5_ n6_ n7_
                     (try clear hb)
                     (try clear hb2)
                     (try clear hk)
                     (try clear hi)
                     obtain ⟨Ao105, co105, eo105⟩ := Kd.R_slice HO_5.out
                     (first | subst eo105 | (injection eo105 with f1_ f2_ f3_; have f4_ := f1_.symm; have f5_ := f3_.symm; clear f1_ f2_ f3_; subst f4_; subst f5_))
                     refine hK.out _ _ ⟨HS0_, HS1_, HS2_, HS3_, HS4_⟩ (fun hHeld => ?_)
                     clear hK K
                     refine norm_ (a' := ?_) ?_ ?_
                     rotate_left
                     ·
                      show Act.put _ (some 115) _ = _
                      exact s9_
                     refine pl_ 6 116 (tb_ 18 127) ?_; refine pl_ 7 117 (tb_ 18 255) ?_; refine pl_ 8 118 (tb_ 18 511) ?_; refine pl_ 9 119 (tb_ 18 1023) ?_; refine pl_ 10 120 (tb_ 18 2047) ?_; refine pl_ 12 122 (tb_ 18 6143) ?_; refine pl_ 13 123 (tb_ 18 14335) ?_; refine pl_ 14 124 (tb_ 18 30719) ?_; refine tk_ 11 121 (tb_ 18 32767) hHeld ?_; refine tk_ 15 125 (tb_ 18 65535) hHeld ?_; refine pl_ 16 126 (tb_ 18 131071) ?_; refine pl_ 17 127 (tb_ 18 262143) ?_
                     refine done_ (done_of HT_.out s12_) ?_
                     try go_wp2
                     go_roundg k3
                     case measure => have := HJ8.out; have := HK2.out; have := HK3.out; omega
                     case rel => exact ⟨(ji86), (by first | rfl | (simp; done) | (simp only [← hji86] <;> (first | rfl | simp)) | (simp [*]; done)), H', ⟨by have := HJ8.out; have := HK2.out; have := HK3.out; omega⟩, ⟨(by (with_reducible repeat (first | apply Kd.R_alloc | apply Kd.R_drewN | apply Kd.R_drew)); exact Kd.R_mono HO_4.out (fun _ hk => trivial))⟩, ⟨q52_35⟩, ⟨q52_25⟩, ⟨q52_23⟩, ⟨q52_16⟩⟩
                    ·
                     rw [if_neg c93] at H
                     exact absurd ((Option.some.inj H).trans HRT.out) Bool.false_ne_true
                   ·
                    rw [if_neg c92] at H
                    exact absurd H (by simp)
                 ·
                  rw [if_neg c89] at H
                  exact absurd H (by simp)
                ·
                 rw [if_neg c88] at H
                 exact absurd H (by simp)
               ·
                rw [if_neg c87] at H
                exact absurd H (by simp)
              ·
               rw [if_neg c85] at H
               exact absurd H (by simp)
             ·
              rw [if_neg c84] at H
              exact absurd H (by simp)
            ·
             rw [if_neg c83] at H
             exact absurd H (by simp)
           ·
            rw [if_neg c82] at H; have c82b0 : decide (x10_3 < (t1336.length : Int)) = false := decide_eq_false c82; clear c82
            by_cases c106 : (t1336.length : Int) = (t1339.length : Int)
            ·
             rw [if_pos c106] at H; have c106b0 : ((t1336.length : Int) == (t1339.length : Int)) = true := beq_iff_eq.mpr c106; have c106b1 : ((t1336.length : Int) != (t1339.length : Int)) = false := bne_eq_false_iff_eq.mpr c106
             have c106b2 : (t1336.length == t1339.length) = true := by first | simpa using c106 | (simp at c106 ⊢; omega)
             clear c106; obtain ⟨t1392, A107, H⟩ := bnd52_ H; obtain rfl := Option.some.inj H; obtain ⟨Ao108, co108, eo108⟩ := Kd.R_slice HO_4.out; subst eo108; obtain ⟨Ao109, co109, eo109⟩ := Kd.R_slice HO_5.out; subst eo109; have hcz110_0 : wr.cell? ⟨gb1335, 0, none⟩ = some (.int .i64 t1331) := (blk_cell BK1335.out 0).trans rfl; have hcz110_1 : wr.cell? ⟨gb1335, 1, none⟩ = some (.slice Ao13 t1332.length co13) := (blk_cell BK1335.out 1).trans rfl; have hfz110_0 := blk_frozen BK1335.out 0; have hfz110_1 := blk_frozen BK1335.out 1
             go_wp2_with (first | (go_at_call 54; (with_reducible refine (impl_IsBase.calls k3 t1331 _ _ t1332 _ _ t1336 t1392 _ ?side1 ?side2 ?side3 ?side4 ?tab A107.out).mono ?_); (case tab => first | exact HTB.out | (refine Tab64.below HTB.out ?_; repeat (first | (with_reducible first | exact HB.out | apply below_alloc | apply pw_below_drewN | apply below_drew1 | refine below_set ?_ GE1335.out | refine below_set ?_ GE1349.out) | exact HB.out)) | (repeat (first | exact HTB.out | apply Tab64.drewN | apply Tab64.drew | apply Tab64.alloc))); (case side1 => exact q52_7); (case side2 => exact (Kd.R_reads' HO_1336001.out).2.1); (case side3 => exact q52_15); (case side4 => exact (Kd.R_reads' HO_4.out).2.1); rintro e w111 ⟨rfl, hb⟩; have n_ := ac_ (Kd.R_below s17_ hb) <| ac_ (Kd.R_below q52_35 hb) <| ac_ (Kd.R_below q52_25 hb) <| ac_ (blk_below (g := gb1335) (o := .cells #[.int .i64 t1331, .slice Ao13 t1332.length co13] 29 (0, 0)) q52_23 hb) <| Aside0.mk (below_step q52_16 hb); clear HO_4 HO_5 HO_1336001 BK1335 HB; obtain ⟨HO_4, HO_5, HO_1336001, BK1335, HB⟩ := n_; (try clear hb)))
             go_ret
             exact ⟨s5_, q52_16⟩
            ·
             rw [if_neg c106] at H
             exact absurd ((Option.some.inj H).trans HRT.out) Bool.false_ne_true
     ·
      replace c68 := Bool.eq_false_iff.mpr c68; subst c68
      rw [if_neg (show ¬ (false = true) by decide)] at H
      obtain rfl := Option.some.inj H; have hcz112_0 : wc.cell? ⟨gb1335, 0, none⟩ = some (.int .i64 t1331) := (blk_cell BK1335.out 0).trans rfl; have hcz112_1 : wc.cell? ⟨gb1335, 1, none⟩ = some (.slice Ao13 t1332.length co13) := (blk_cell BK1335.out 1).trans rfl; have hfz112_0 := blk_frozen BK1335.out 0; have hfz112_1 := blk_frozen BK1335.out 1
      go_wp2_with (first | ((with_reducible refine gate_callee (f := 61) rfl ?_); refine gL_ 61 75 Tryz.func61 #[.agg #[.int .i64 t1331, .slice Ao13 t1332.length co13]] ?_; (with_reducible refine (spec_IsContext.calls kj8 t1331 _ _ t1332 false _ ?side1 ?side2 A67.out).mono ?_); (case side1 => exact q52_7); (case side2 => exact (Kd.R_reads' HO_1336001.out).2.1); rintro e w113 ⟨rfl, hb⟩; refine ⟨_, rfl, ?_⟩; have n_ := ac_ (Kd.R_below s17_ hb) <| ac_ (Kd.R_below q52_35 hb) <| ac_ (Kd.R_below q52_25 hb) <| ac_ (blk_below (g := gb1335) (o := .cells #[.int .i64 t1331, .slice Ao13 t1332.length co13] 29 (0, 0)) q52_23 hb) <| Aside0.mk (below_step q52_16 hb); clear HO_4 HO_5 HO_1336001 BK1335 HB; obtain ⟨HO_4, HO_5, HO_1336001, BK1335, HB⟩ := n_; (try clear hb); obtain ⟨Ao114, co114, eo114⟩ := Kd.R_slice HO_4.out; subst eo114))
      go_ret
      exact ⟨s5_, q52_16⟩
end Go.Proofs.YtafnamchckehmaaGreatDoor.Pr
