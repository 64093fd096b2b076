/- Functions of the program as plain functions, proofs that their calls answer so, and plain laws: what the law needs. No condition beyond what each statement says. -/
import Derived.Test.YtfmpafgmcleogaaGreatDoorZFnLattice12
namespace Go.Proofs.YtfmpafgmcleogaaGreatDoor.Pr
open Go.RowKit Go.Proofs.YtfmpafgmcleogaaGreatDoorW.PrintWords Go.Proofs.YtfmpafgmcleogaaGreatDoorW.PrintLast Go.Proofs.YtfmpafgmcleogaaGreatDoorW.PrintMore
attribute [local go_sem] max2_int min2_int max_two min_two max_three min_three max_four min_four
set_option linter.unusedVariables false
set_option linter.unusedSimpArgs false
theorem bnd21_ {α β : Type} {o : Option α} {f : α → Option β} {r : β} (h : o.bind f = some r) : ∃ a, Aside0 (o = some a) ∧ f a = some r := by
 obtain ⟨a, h1, h2⟩ := Option.bind_eq_some_iff.mp h
 exact ⟨a, ⟨h1⟩, h2⟩
theorem q21_1 {P : Prop} (h : P := by (with_reducible repeat (first | apply Kd.R_alloc | apply Kd.R_drewN | apply Kd.R_drew)); exact (Kd.R_mono (Kd.R_far (p := ⟨gb549, 1, none⟩) (Kd.R_far (p := ⟨gb549, 0, none⟩) (Kd.R_types HO546.out BK549.out (by decide)) (fun _ hk => hk.2) (.int .i64 t543)) (fun _ hk => hk.2) (.slice Ao15 t544.length co15)) (fun _ h_ => h_.1))) : P := h
theorem q21_2 {P : Prop} (h : P := by (with_reducible repeat (first | apply Kd.R_alloc | apply Kd.R_drewN | apply Kd.R_drew)); exact (Kd.R_mono (Kd.R_far (p := ⟨gb557, 1, none⟩) (Kd.R_far (p := ⟨gb557, 0, none⟩) (Kd.R_types HO546.out BK557.out (by decide)) (fun _ hk => hk.2) (.int .i64 t552)) (fun _ hk => hk.2) (.slice Ao23 t553.length co23)) (fun _ h_ => h_.1))) : P := h
theorem q21_3 {P : Prop} (h : P := by (with_reducible repeat (first | apply Kd.R_alloc | apply Kd.R_drewN | apply Kd.R_drew)); exact (Kd.R_mono (Kd.R_far (p := ⟨gb557, 1, none⟩) (Kd.R_far (p := ⟨gb557, 0, none⟩) (Kd.R_types HO555.out BK557.out (by decide)) (fun _ hk => hk.2) (.int .i64 t552)) (fun _ hk => hk.2) (.slice Ao23 t553.length co23)) (fun _ h_ => h_.1))) : P := h
theorem q21_4 {P : Prop} (h : P := by repeat (first | (with_reducible first | exact HB.out | apply below_alloc | apply pw_below_drewN | apply below_drew1 | refine below_set ?_ GE549.out | refine below_set ?_ GE557.out | refine below_set ?_ GE568.out) | exact HB.out)) : P := h
theorem q21_5 {P : Prop} (h : P := by repeat (first | (with_reducible first | exact HB.out | apply below_alloc | apply pw_below_drewN | apply below_drew1 | refine below_set ?_ GE549.out | refine below_set ?_ GE557.out) | exact HB.out)) : P := h
theorem q21_6 {P : Prop} (h : P := by repeat (first | exact (Kd.R_reads' HO_550001.out).2.2 | (with_reducible refine Kd.C_alloc ?_ _) | (with_reducible refine Kd.C_drewN ?_ _) | (with_reducible refine Kd.C_drew ?_))) : P := h
theorem q21_7 {P : Prop} (h : P := by repeat (first | exact (Kd.R_reads' HO_558001.out).2.2 | (with_reducible refine Kd.C_alloc ?_ _) | (with_reducible refine Kd.C_drewN ?_ _) | (with_reducible refine Kd.C_drew ?_))) : P := h
theorem q21_9 {P : Prop} (h : P := by repeat (first | exact (Kd.R_reads' HO546.out).2.2 | (with_reducible refine Kd.C_alloc ?_ _) | (with_reducible refine Kd.C_drewN ?_ _) | (with_reducible refine Kd.C_drew ?_))) : P := h
theorem q21_10 {P : Prop} (h : P := by repeat (first | exact (Kd.R_reads' HO555.out).2.2 | (with_reducible refine Kd.C_alloc ?_ _) | (with_reducible refine Kd.C_drewN ?_ _) | (with_reducible refine Kd.C_drew ?_))) : P := h
theorem q21_11 {P : Prop} (h : P := by repeat (first | exact (Kd.R_reads' HO567.out).2.2 | (with_reducible refine Kd.C_alloc ?_ _) | (with_reducible refine Kd.C_drewN ?_ _) | (with_reducible refine Kd.C_drew ?_))) : P := h
theorem q21_12 {P : Prop} (h : P := by repeat (first | (with_reducible first | exact HB.out | apply below_alloc | apply pw_below_drewN | apply below_drew1 | refine below_set ?_ GE549.out) | exact HB.out)) : P := h
theorem q21_14 {P : Prop} (h : P := by (with_reducible repeat (first | apply Kd.R_alloc | apply Kd.R_drewN | apply Kd.R_drew)); exact Kd.R_mono HO_550001.out (fun _ hk => trivial)) : P := h
theorem q21_17 {P : Prop} (h : P := by (with_reducible repeat (first | refine blk_drewN ?_ _ | refine blk_drew ?_ | refine blk_alloc ?_ _)); exact BK549.out) : P := h
theorem q21_18 {P : Prop} (h : P := by (with_reducible repeat (first | refine blk_drewN ?_ _ | refine blk_drew ?_ | refine blk_alloc ?_ _)); exact BK557.out) : P := h
theorem q21_19 {P : Prop} (h : P := by (with_reducible repeat (first | refine blk_drewN ?_ _ | refine blk_drew ?_ | refine blk_alloc ?_ _)); exact BK568.out) : P := h
theorem q21_20 {P : Prop} (h : P := by (with_reducible repeat (first | apply Kd.R_alloc | apply Kd.R_drewN | apply Kd.R_drew)); exact HO_550001.out) : P := h
theorem q21_21 {P : Prop} (h : P := by (with_reducible repeat (first | apply Kd.R_alloc | apply Kd.R_drewN | apply Kd.R_drew)); exact HO_558001.out) : P := h
theorem q21_22 {P : Prop} (h : P := by (with_reducible repeat (first | apply Kd.R_alloc | apply Kd.R_drewN | apply Kd.R_drew)); exact HO546.out) : P := h
theorem q21_23 {P : Prop} (h : P := by (with_reducible repeat (first | apply Kd.R_alloc | apply Kd.R_drewN | apply Kd.R_drew)); exact HO555.out) : P := h
theorem q21_24 {P : Prop} (h : P := by (with_reducible repeat (first | apply Kd.R_alloc | apply Kd.R_drewN | apply Kd.R_drew)); exact HO560.out) : P := h
theorem q21_25 {P : Prop} (h : P := by (with_reducible repeat (first | apply Kd.R_alloc | apply Kd.R_drewN | apply Kd.R_drew)); exact HO563.out) : P := h
theorem q21_26 {P : Prop} (h : P := by (with_reducible repeat (first | apply Kd.R_alloc | apply Kd.R_drewN | apply Kd.R_drew)); exact HO567.out) : P := h
theorem q21_27 {P : Prop} (h : P := by (with_reducible repeat (first | apply Kd.R_alloc | apply Kd.R_drewN | apply Kd.R_drew)); exact HO573.out) : P := h
theorem q21_28 {P : Prop} (h : P := by (with_reducible repeat (first | apply Kd.R_alloc | apply Kd.R_drewN | apply Kd.R_drew)); exact HO577.out) : P := h
theorem q21_29 {P : Prop} (h : P := by (with_reducible repeat (first | apply Kd.R_alloc | apply Kd.R_drewN | apply Kd.R_drew)); exact HO_10.out) : P := h
theorem q21_32 {P : Prop} (h : P := by simp only [laws_FnLattice.j0]; exact fun h => by cases h) : P := h
mutual
def laws_FnLattice.j0 : Nat → Int → Int → Int → Int → Int → List Int → Bool → Int → List Int → Int → List Int → Option (Bool)
 | 0, _, _, _, _, _, _, _, _, _, _, _ => none
 | k + 1, x4, x5, x6, x7, x9, x10, x113, x550000, x550001, x558000, x558001 => if x113 = true then (some false) else (laws_FnLattice.l0 k x4 x5 x6 x7 x9 x10 0 x550000 x550001 x558000 x558001)
def laws_FnLattice.l0 : Nat → Int → Int → Int → Int → Int → List Int → Int → Int → List Int → Int → List Int → Option (Bool)
 | 0, _, _, _, _, _, _, _, _, _, _, _ => none
 | k + 1, x4, x5, x6, x7, x9, x10, x13, x550000, x550001, x558000, x558001 => if x13 < (x10.length : Int) then (if 0 ≤ x13 then ((impl_IsBelow.f k x558000 x558001 x9 (rd x10 x13)).bind fun t590 => (if t590 = true then (if (rd x10 x13) = x9 then (some false) else ((impl_LowerCovers.f k x558000 x558001 (rd x10 x13)).bind fun t593 => ((laws_hasInt.f k t593 x9).bind fun t596 => (if t596 = true then (laws_FnLattice.l0 k x4 x5 x6 x7 x9 x10 (wrap64 (x13 + 1)) x550000 x550001 x558000 x558001) else (some false))))) else (some false))) else (none)) else (if x6 < 0 then (laws_FnLattice.j2 k x4 x5 x6 x7 true x550000 x550001) else (laws_FnLattice.j2 k x4 x5 x6 x7 (decide (x7 < 0)) x550000 x550001))
def laws_FnLattice.j2 : Nat → Int → Int → Int → Int → Bool → Int → List Int → Option (Bool)
 | 0, _, _, _, _, _, _, _ => none
 | k + 1, x4, x5, x6, x7, x152, x550000, x550001 => if x152 = true then (some (x6 == x7)) else ((spec_Concepts.f k x550000 x550001).bind fun t597 => (laws_FnLattice.l1 k x4 x5 x6 x7 (t597.length : Int) 0 x550000 x550001))
def laws_FnLattice.l1 : Nat → Int → Int → Int → Int → Int → Int → Int → List Int → Option (Bool)
 | 0, _, _, _, _, _, _, _, _ => none
 | k + 1, x4, x5, x6, x7, x14, x15, x550000, x550001 => if x15 < x14 then ((spec_IsBelow.f k x550000 x550001 x15 x4).bind fun t600 => (if t600 = true then ((spec_IsBelow.f k x550000 x550001 x15 x5).bind fun t601 => ((spec_IsBelow.f k x550000 x550001 x15 x6).bind fun t602 => (if (t601 != t602) = true then (some false) else ((spec_IsBelow.f k x550000 x550001 x4 x15).bind fun t603 => (if t603 = true then ((spec_IsBelow.f k x550000 x550001 x5 x15).bind fun t604 => ((spec_IsBelow.f k x550000 x550001 x7 x15).bind fun t605 => (if (t604 != t605) = true then (some false) else (laws_FnLattice.l1 k x4 x5 x6 x7 x14 (wrap64 (x15 + 1)) x550000 x550001)))) else (laws_FnLattice.l1 k x4 x5 x6 x7 x14 (wrap64 (x15 + 1)) x550000 x550001)))))) else ((spec_IsBelow.f k x550000 x550001 x4 x15).bind fun t606 => (if t606 = true then ((spec_IsBelow.f k x550000 x550001 x5 x15).bind fun t607 => ((spec_IsBelow.f k x550000 x550001 x7 x15).bind fun t608 => (if (t607 != t608) = true then (some false) else (laws_FnLattice.l1 k x4 x5 x6 x7 x14 (wrap64 (x15 + 1)) x550000 x550001)))) else (laws_FnLattice.l1 k x4 x5 x6 x7 x14 (wrap64 (x15 + 1)) x550000 x550001))))) else ((impl_IsBelow.f k x550000 x550001 x6 x4).bind fun t609 => (if t609 = true then ((impl_IsBelow.f k x550000 x550001 x6 x5).bind fun t610 => (if t610 = true then ((impl_IsBelow.f k x550000 x550001 x4 x7).bind fun t611 => (if t611 = true then ((impl_IsBelow.f k x550000 x550001 x5 x7).bind fun t612 => (some t612)) else (some false))) else (some false))) else (some false)))
end
def laws_FnLattice.f (k : Nat) (l0 : List Int) : Option (Bool) := (laws_big.f l0).bind fun t542 => (if t542 = true then (some true) else ((spec_DrawMeetOf.f k l0).bind fun bt543 => ((impl_MeetOf.f k bt543.1 bt543.2.1 bt543.2.2.1 bt543.2.2.2).bind fun t550 => ((impl_JoinOf.f k bt543.1 bt543.2.1 bt543.2.2.1 bt543.2.2.2).bind fun t551 => ((spec_DrawUpperCovers.f k l0).bind fun bt552 => ((impl_UpperCovers.f k bt552.1 bt552.2.1 bt552.2.2).bind fun t558 => ((impl_LowerCovers.f k bt552.1 bt552.2.1 bt552.2.2).bind fun t561 => ((spec_DrawTopOf.f k l0).bind fun bt564 => ((spec_MeetOf.f k bt543.1 bt543.2.1 bt543.2.2.1 bt543.2.2.2).bind fun t569 => (if t550 = t569 then ((spec_JoinOf.f k bt543.1 bt543.2.1 bt543.2.2.1 bt543.2.2.2).bind fun t570 => (if t551 = t570 then ((spec_UpperCovers.f k bt552.1 bt552.2.1 bt552.2.2).bind fun t571 => ((laws_sameInts.f k t558 t571).bind fun t574 => (if t574 = true then ((spec_LowerCovers.f k bt552.1 bt552.2.1 bt552.2.2).bind fun t575 => ((laws_sameInts.f k t561 t575).bind fun t578 => (if t578 = true then ((impl_IsBelow.f k bt543.1 bt543.2.1 bt543.2.2.1 bt543.2.2.2).bind fun t579 => ((spec_IsBelow.f k bt543.1 bt543.2.1 bt543.2.2.1 bt543.2.2.2).bind fun t580 => (if (t579 != t580) = true then (laws_FnLattice.j0 k bt543.2.2.1 bt543.2.2.2 t550 t551 bt552.2.2 t558 true bt543.1 bt543.2.1 bt552.1 bt552.2.1) else ((impl_TopOf.f k bt564.1 bt564.2).bind fun t581 => ((spec_TopOf.f k bt564.1 bt564.2).bind fun t582 => (if t581 = t582 then ((impl_BottomOf.f k bt564.1 bt564.2).bind fun t583 => ((spec_BottomOf.f k bt564.1 bt564.2).bind fun t584 => (if t583 = t584 then ((impl_HeightOf.f bt564.1 bt564.2).bind fun t585 => ((spec_HeightOf.f k bt564.1 bt564.2).bind fun t586 => (if t585 = t586 then ((impl_CountEdges.f k bt564.1 bt564.2).bind fun t587 => ((spec_CountEdges.f k bt564.1 bt564.2).bind fun t588 => (laws_FnLattice.j0 k bt543.2.2.1 bt543.2.2.2 t550 t551 bt552.2.2 t558 (t587 != t588) bt543.1 bt543.2.1 bt552.1 bt552.2.1))) else (laws_FnLattice.j0 k bt543.2.2.1 bt543.2.2.2 t550 t551 bt552.2.2 t558 true bt543.1 bt543.2.1 bt552.1 bt552.2.1)))) else (laws_FnLattice.j0 k bt543.2.2.1 bt543.2.2.2 t550 t551 bt552.2.2 t558 true bt543.1 bt543.2.1 bt552.1 bt552.2.1)))) else (laws_FnLattice.j0 k bt543.2.2.1 bt543.2.2.2 t550 t551 bt552.2.2 t558 true bt543.1 bt543.2.1 bt552.1 bt552.2.1))))))) else (laws_FnLattice.j0 k bt543.2.2.1 bt543.2.2.2 t550 t551 bt552.2.2 t558 true bt543.1 bt543.2.1 bt552.1 bt552.2.1)))) else (laws_FnLattice.j0 k bt543.2.2.1 bt543.2.2.2 t550 t551 bt552.2.2 t558 true bt543.1 bt543.2.1 bt552.1 bt552.2.1)))) else (laws_FnLattice.j0 k bt543.2.2.1 bt543.2.2.2 t550 t551 bt552.2.2 t558 true bt543.1 bt543.2.1 bt552.1 bt552.2.1))) else (laws_FnLattice.j0 k bt543.2.2.1 bt543.2.2.2 t550 t551 bt552.2.2 t558 true bt543.1 bt543.2.1 bt552.1 bt552.2.1)))))))))))
def laws_FnLattice.T10 : Bool × List (List Nat × List Nat) := (true, [([], []), ([], []), ([], []), ([], []), ([1, 2, 3], [1, 2, 3]), ([0, 4], [0, 4]), ([5, 4], [5]), ([6], [6]), ([6], [6]), ([6], [6]), ([6], [6]), ([8, 9, 10, 6, 6], [6, 8, 9, 10]), ([7, 11, 6], [6, 7, 11]), ([6, 12], [6, 12]), ([13, 11], [13]), ([14], [14]), ([14], [14]), ([14], [14]), ([16, 17, 14, 14], [14, 16, 17]), ([15, 18, 18, 14], [14, 15, 18]), ([19, 14], [14, 19]), ([14, 20], [14, 20]), ([21, 19], [21]), ([22], [22]), ([22], [22]), ([22], [22]), ([24, 25, 22, 22], [22, 24, 25]), ([23, 26, 26, 22], [22, 23, 26]), ([27, 22], [22, 27]), ([22, 28], [22, 28]), ([29, 27], [29]), ([30], [30]), ([30], [30]), ([30], [30]), ([31, 32, 33, 30, 30], [30, 31, 32, 33]), ([30], [30]), ([30], [30]), ([30], [30]), ([35, 36, 37, 34, 30], [30, 35, 36, 37]), ([34, 38, 30], [30, 34, 38]), ([30, 39], [30, 39]), ([40, 38], [40]), ([41], [41]), ([42, 41, 41], [41, 42]), ([41], [41]), ([44, 43, 41], [41, 44]), ([43, 45, 41], [41, 43, 45]), ([41, 46], [41, 46]), ([47, 45], [47]), ([48], [48]), ([49, 48, 48], [48, 49]), ([48], [48]), ([51, 50, 48], [48, 51]), ([50, 52, 48], [48, 50, 52]), ([48, 53], [48, 53]), ([54, 52], [54]), ([55], [55]), ([56, 55, 55], [55, 56]), ([55], [55]), ([58, 57, 55], [55, 58]), ([57, 59, 55], [55, 57, 59]), ([55, 60], [55, 60]), ([61, 59], [61]), ([62], [62]), ([63, 62, 62], [62, 63]), ([62], [62]), ([65, 64, 62], [62, 65]), ([64, 66, 62], [62, 64, 66]), ([62, 67], [62, 67])])
def laws_FnLattice.B10 : List Nat := [0, 0, 0, 0, 14, 31, 63, 127, 127, 127, 127, 1919, 4095, 8191, 16383, 32767, 32767, 32767, 229375, 524287, 1048575, 2097151, 4194303, 8388607, 8388607, 8388607, 58720255, 134217727, 268435455, 536870911, 1073741823, 2147483647, 2147483647, 2147483647, 17179869183, 2147483647, 2147483647, 2147483647, 274877906943, 549755813887, 1099511627775, 2199023255551, 4398046511103, 8796093022207, 4398046511103, 35184372088831, 70368744177663, 140737488355327, 281474976710655, 562949953421311, 1125899906842623, 562949953421311, 4503599627370495, 9007199254740991, 18014398509481983, 36028797018963967, 72057594037927935, 144115188075855871, 72057594037927935, 576460752303423487, 1152921504606846975, 2305843009213693951, 4611686018427387903, 9223372036854775807, 18446744073709551615, 9223372036854775807, 73786976294838206463, 147573952589676412927, 295147905179352825855]
theorem laws_FnLattice.tab10 : rtab .any (opsOf Tryz.f3 10) = laws_FnLattice.T10 := s13_
theorem laws_FnLattice.bits10 : waitsOk laws_FnLattice.T10.2 laws_FnLattice.B10 = true := s13_
def laws_FnLattice.T15 : Bool × List (List Nat × List Nat) := (true, [([], []), ([], []), ([], []), ([], []), ([2, 3], [2, 3]), ([4], [4]), ([0, 1, 5], [0, 1, 5]), ([6], [6]), ([7, 6], [7]), ([8], [8]), ([8], [8]), ([9, 10, 8], [8, 9, 10]), ([11, 8], [8, 11]), ([8], [8]), ([12, 13, 8], [8, 12, 13]), ([8, 14], [8, 14]), ([15, 8], [15]), ([16], [16]), ([16], [16]), ([16], [16]), ([18, 19, 16], [16, 18, 19]), ([20, 16], [16, 20]), ([17, 21, 16, 16], [16, 17, 21]), ([16], [16]), ([22, 23, 22, 16], [16, 22, 23]), ([24, 16], [16, 24]), ([16, 25], [16, 25])])
def laws_FnLattice.B15 : List Nat := [0, 0, 0, 0, 12, 28, 63, 127, 255, 511, 511, 2047, 4095, 511, 16383, 32767, 65535, 131071, 131071, 131071, 917503, 1966079, 4194303, 131071, 16777215, 33554431, 67108863]
theorem laws_FnLattice.tab15 : rtab .any (opsOf Tryz.f3 15) = laws_FnLattice.T15 := s13_
theorem laws_FnLattice.bits15 : waitsOk laws_FnLattice.T15.2 laws_FnLattice.B15 = true := s13_
def laws_FnLattice.T23 : Bool × List (List Nat × List Nat) := (true, [([], []), ([], []), ([], []), ([0, 1, 2], [0, 1, 2]), ([3, 3], [3]), ([4], [4]), ([4], [4]), ([4], [4]), ([5, 6, 7, 4, 4], [4, 5, 6, 7]), ([4], [4]), ([4], [4]), ([4], [4]), ([9, 10, 11, 8, 4], [4, 9, 10, 11]), ([8, 12, 4], [4, 8, 12]), ([4, 13], [4, 13]), ([14, 12], [14]), ([15], [15]), ([15], [15]), ([15], [15]), ([16, 17, 18, 15, 15], [15, 16, 17, 18]), ([19, 19, 15], [15, 19]), ([20], [20]), ([20], [20]), ([20], [20]), ([21, 22, 23, 20, 20], [20, 21, 22, 23]), ([20], [20]), ([20], [20]), ([20], [20]), ([25, 26, 27, 24, 20], [20, 25, 26, 27]), ([24, 28, 20], [20, 24, 28]), ([20, 29, 15], [15, 20, 29]), ([15, 30], [15, 30])])
def laws_FnLattice.B23 : List Nat := [0, 0, 0, 7, 15, 31, 31, 31, 255, 31, 31, 31, 4095, 8191, 16383, 32767, 65535, 65535, 65535, 524287, 1048575, 2097151, 2097151, 2097151, 16777215, 2097151, 2097151, 2097151, 268435455, 536870911, 1073741823, 2147483647]
theorem laws_FnLattice.tab23 : rtab .any (opsOf Tryz.f3 23) = laws_FnLattice.T23 := s13_
theorem laws_FnLattice.bits23 : waitsOk laws_FnLattice.T23.2 laws_FnLattice.B23 = true := s13_
set_option maxHeartbeats 40000000 in
set_option maxRecDepth 100000 in
theorem laws_FnLattice.calls (k : Nat) (A0 : Option Addr) (c0 : Nat) (l0 : List Int) (r : Bool) (w : World) (hr0 : Kd.C (Kd.int .u8) w A0 l0.length l0) (hc0 : l0.length ≤ c0) (hrt : r = true) (htab : Tab64 w) (h : laws_FnLattice.f k l0 = some r) :
  Calls Tryz.prog 3 #[.slice A0 l0.length c0] w fun e w' => e = .returned (.bool r) ∧ Below w.heap.size w w' := by
 have HTB := Aside0.mk htab; clear htab; have hu26 := Tryz.underlying26; have HR0 := Aside0.mk hr0; have HC0 := Aside0.mk hc0; clear hr0 hc0; have HB := Aside0.mk (Below.refl w.heap.size w); have HRT := Aside0.mk hrt; clear hrt; have H := h; clear h; unfold laws_FnLattice.f at H; obtain ⟨t542, A2, H⟩ := bnd21_ H
 by_cases c3 : t542 = true
 ·
  subst c3; rw [if_pos rfl] at H; obtain rfl := Option.some.inj H
  go_enter Tryz.func3, Tryz.ntmps3
  go_wp2_with (first | ((with_reducible refine gate_callee (f := 4) rfl ?_); refine gL_ 4 17 Tryz.func4 #[.slice A0 l0.length c0] ?_; (with_reducible refine (laws_big.calls _ _ l0 true _ ?side1 ?side2 A2.out).mono ?_); (case side1 => exact s14_); (case side2 => exact HC0.out); rintro e w' ⟨rfl, ⟨nd, rfl⟩⟩; refine ⟨_, rfl, ?_⟩))
  go_ret
  exact ⟨s5_, s0_⟩
 ·
  replace c3 := Bool.eq_false_iff.mpr c3; subst c3
  rw [if_neg (show ¬ (false = true) by decide)] at H
  obtain ⟨⟨t543, t544, t547, t548⟩, A4, H⟩ := bnd21_ H; dsimp only at H; obtain ⟨t550, A5, H⟩ := bnd21_ H; obtain ⟨t551, A6, H⟩ := bnd21_ H; obtain ⟨⟨t552, t553, t556⟩, A7, H⟩ := bnd21_ H; dsimp only at H; obtain ⟨t558, A8, H⟩ := bnd21_ H; obtain ⟨t561, A9, H⟩ := bnd21_ H; obtain ⟨⟨t564, t565⟩, A10, H⟩ := bnd21_ H; dsimp only at H; have HC11 := Aside0.mk H; clear H
  go_enter Tryz.func3, Tryz.ntmps3
  go_upto_region 10 with (first | ((with_reducible refine gate_callee (f := 4) rfl ?_); refine gL_ 4 17 Tryz.func4 #[.slice A0 l0.length c0] ?_; (with_reducible refine (laws_big.calls _ _ l0 false _ ?side1 ?side2 A2.out).mono ?_); (case side1 => exact s14_); (case side2 => exact HC0.out); rintro e w' ⟨rfl, ⟨nd, rfl⟩⟩; refine ⟨_, rfl, ?_⟩) | ((with_reducible refine gate_callee (f := 5) rfl ?_); refine gL_ 5 20 Tryz.func5 #[.slice A0 l0.length c0] ?_; (with_reducible refine (spec_DrawMeetOf.calls k _ _ l0 t543 t544 t547 t548 _ ?side1 ?side2 A4.out).mono ?_); (case side1 => exact s14_); (case side2 => exact HC0.out); rintro e w12 ⟨v545, rfl, ho0, hb⟩; refine ⟨_, rfl, ?_⟩; have n_ := ac_ (Kd.R_lower ho0 (below_size s0_)) <| Aside0.mk (below_step s0_ hb); clear HB; obtain ⟨HO546, HB⟩ := n_; (try clear hb ho0)) | (refine be_ 3 #[.int .i64 0, .slice none 0 0] 26 ?_; intro gb549 hg w13 hbox hb; have n_ := ac_ (Kd.R_below q21_22 hb) <| ac_ (below_step s0_ hb) <| ac_ (hbox) <| ac_ ((gz_ w hg s0_)) <| Aside0.mk ((gz_ w hg s0_)); clear HO546 HB; obtain ⟨HO546, HB, BK549, GW549, GE549⟩ := n_; clear hb hbox hg; have hcz14_0 : w13.cell? ⟨gb549, 0, none⟩ = some (.int .i64 0) := (blk_cell BK549.out 0).trans rfl; have hcz14_1 : w13.cell? ⟨gb549, 1, none⟩ = some (.slice none 0 0) := (blk_cell BK549.out 1).trans rfl; have hfz14_0 := blk_frozen BK549.out 0; have hfz14_1 := blk_frozen BK549.out 1; obtain ⟨Ao15, co15, eo15⟩ := Kd.R_slice HO546.out; subst eo15) | ((with_reducible refine gate_callee (f := 6) rfl ?_); refine gL_ 6 27 Tryz.func6 #[.agg #[.int .i64 t543, .slice Ao15 t544.length co15], .int .i64 t547, .int .i64 t548] ?_; (with_reducible refine (impl_MeetOf.calls k t543 _ _ t544 t547 t548 t550 _ ?side1 ?side2 ?tab A5.out).mono ?_); (case tab => first | exact HTB.out | (refine Tab64.below HTB.out ?_; repeat (first | (with_reducible first | exact HB.out | apply below_alloc | apply pw_below_drewN | apply below_drew1 | refine below_set ?_ GE549.out | refine below_set ?_ GE557.out | refine below_set ?_ GE568.out) | exact HB.out)) | (repeat (first | exact HTB.out | apply Tab64.drewN | apply Tab64.drew | apply Tab64.alloc))); (case side1 => refine (Kd.R_reads' (e := 3) (base := w.heap.size) (ok := fun k_ => True) (n := t544.length) (c := co15) ?_).2.2; exact q21_1); (case side2 => exact (Kd.R_reads' HO546.out).2.1); rintro e w16 ⟨rfl, hb⟩; refine ⟨_, rfl, ?_⟩; have n_ := ac_ (Kd.R_below q21_1 hb) <| ac_ (blk_below (g := gb549) (o := .cells #[.int .i64 t543, .slice Ao15 t544.length co15] 26 (0, 0)) (by (with_reducible repeat (first | refine blk_drewN ?_ _ | refine blk_drew ?_ | refine blk_alloc ?_ _)); refine blk_put (cs := #[.int .i64 t543, .slice none 0 0]) ?_ 1 _ rfl; (with_reducible repeat (first | refine blk_drewN ?_ _ | refine blk_drew ?_ | refine blk_alloc ?_ _)); refine blk_put (cs := #[.int .i64 0, .slice none 0 0]) ?_ 0 _ rfl; (with_reducible repeat (first | refine blk_drewN ?_ _ | refine blk_drew ?_ | refine blk_alloc ?_ _)); exact BK549.out) hb) <| Aside0.mk (below_step q21_12 hb); clear HO546 BK549 HB; obtain ⟨HO546, BK549, HB⟩ := n_; (try clear hb); have hcz17_0 : w16.cell? ⟨gb549, 0, none⟩ = some (.int .i64 t543) := (blk_cell BK549.out 0).trans rfl; have hcz17_1 : w16.cell? ⟨gb549, 1, none⟩ = some (.slice Ao15 t544.length co15) := (blk_cell BK549.out 1).trans rfl; have hfz17_0 := blk_frozen BK549.out 0; have hfz17_1 := blk_frozen BK549.out 1) | ((with_reducible refine gate_callee (f := 7) rfl ?_); refine gL_ 7 31 Tryz.func7 #[.agg #[.int .i64 t543, .slice Ao15 t544.length co15], .int .i64 t547, .int .i64 t548] ?_; (with_reducible refine (impl_JoinOf.calls k t543 _ _ t544 t547 t548 t551 _ ?side1 ?side2 ?tab A6.out).mono ?_); (case tab => first | exact HTB.out | (refine Tab64.below HTB.out ?_; repeat (first | (with_reducible first | exact HB.out | apply below_alloc | apply pw_below_drewN | apply below_drew1 | refine below_set ?_ GE549.out | refine below_set ?_ GE557.out | refine below_set ?_ GE568.out) | exact HB.out)) | (repeat (first | exact HTB.out | apply Tab64.drewN | apply Tab64.drew | apply Tab64.alloc))); (case side1 => exact q21_9); (case side2 => exact (Kd.R_reads' HO546.out).2.1); rintro e w18 ⟨rfl, hb⟩; refine ⟨_, rfl, ?_⟩; have n_ := ac_ (Kd.R_below q21_22 hb) <| ac_ (blk_below (g := gb549) (o := .cells #[.int .i64 t543, .slice Ao15 t544.length co15] 26 (0, 0)) q21_17 hb) <| Aside0.mk (below_step q21_12 hb); clear HO546 BK549 HB; obtain ⟨HO546, BK549, HB⟩ := n_; (try clear hb)) | ((with_reducible refine gate_callee (f := 8) rfl ?_); refine gL_ 8 34 Tryz.func8 #[.slice A0 l0.length c0] ?_; (with_reducible refine (spec_DrawUpperCovers.calls k _ _ l0 t552 t553 t556 _ ?side1 ?side2 A7.out).mono ?_); (case side1 => exact s12_); (case side2 => exact HC0.out); rintro e w19 ⟨v554, rfl, ho0, hb⟩; refine ⟨_, rfl, ?_⟩; have n_ := ac_ (Kd.R_elder' q21_22 (Kd.R_base ho0) hb) <| ac_ (Kd.R_lower (Kd.R_new' ho0 (Kd.R_lt q21_22)) (below_size q21_12)) <| ac_ (blk_below (g := gb549) (o := .cells #[.int .i64 t543, .slice Ao15 t544.length co15] 26 (0, 0)) q21_17 hb) <| Aside0.mk (below_step q21_12 hb); clear HO546 BK549 HB; obtain ⟨HO546, HO555, BK549, HB⟩ := n_; (try clear hb ho0)) | (refine be_ 8 #[.int .i64 0, .slice none 0 0] 26 ?_; intro gb557 hg w20 hbox hb; have n_ := ac_ (Kd.R_below q21_22 hb) <| ac_ (Kd.R_below q21_23 hb) <| ac_ (blk_below (g := gb549) (o := .cells #[.int .i64 t543, .slice Ao15 t544.length co15] 26 (0, 0)) q21_17 hb) <| ac_ (below_step q21_12 hb) <| ac_ (hbox) <| ac_ ((gz_ w hg q21_12)) <| ac_ ((gz_ w hg q21_12)) <| ac_ ((nl_ hg (blk_lt (g := gb549) (o := .cells #[.int .i64 t543, .slice Ao15 t544.length co15] 26 (0, 0)) q21_17))) <| Aside0.mk ((ng_ hg (blk_lt (g := gb549) (o := .cells #[.int .i64 t543, .slice Ao15 t544.length co15] 26 (0, 0)) q21_17))); clear HO546 HO555 BK549 HB; obtain ⟨HO546, HO555, BK549, HB, BK557, GW557, GE557, NB549_557, NB557_549⟩ := n_; clear hb hbox hg; have hnb21 := NB557_549.out; have hnc21 := NB549_557.out; have hcz22_0 : w20.cell? ⟨gb557, 0, none⟩ = some (.int .i64 0) := (blk_cell BK557.out 0).trans rfl; have hcz22_1 : w20.cell? ⟨gb557, 1, none⟩ = some (.slice none 0 0) := (blk_cell BK557.out 1).trans rfl; have hfz22_0 := blk_frozen BK557.out 0; have hfz22_1 := blk_frozen BK557.out 1; obtain ⟨Ao23, co23, eo23⟩ := Kd.R_slice HO555.out; subst eo23) | ((with_reducible refine gate_callee (f := 9) rfl ?_); refine gL_ 9 39 Tryz.func9 #[.agg #[.int .i64 t552, .slice Ao23 t553.length co23], .int .i64 t556] ?_; (with_reducible refine (impl_UpperCovers.calls k t552 _ _ t553 t556 t558 _ ?side1 ?side2 ?tab A8.out).mono ?_); (case tab => first | exact HTB.out | (refine Tab64.below HTB.out ?_; repeat (first | (with_reducible first | exact HB.out | apply below_alloc | apply pw_below_drewN | apply below_drew1 | refine below_set ?_ GE549.out | refine below_set ?_ GE557.out | refine below_set ?_ GE568.out) | exact HB.out)) | (repeat (first | exact HTB.out | apply Tab64.drewN | apply Tab64.drew | apply Tab64.alloc))); (case side1 => refine (Kd.R_reads' (e := 3) (base := w.heap.size) (ok := fun k_ => (True ∧ some k_ ≠ (.slice Ao15 t544.length co15 : Value).ownBlock)) (n := t553.length) (c := co23) ?_).2.2; exact q21_3); (case side2 => exact (Kd.R_reads' HO555.out).2.1); rintro e w24 ⟨v559, rfl, ho0, hb⟩; refine ⟨_, rfl, ?_⟩; have n_ := ac_ (Kd.R_elder' q21_2 (Kd.R_base ho0) hb) <| ac_ (Kd.R_elder' q21_3 (Kd.R_base ho0) hb) <| ac_ (Kd.R_lower (Kd.R_new' (Kd.R_new' ho0 (Kd.R_lt q21_2)) (Kd.R_lt q21_3)) (below_size q21_5)) <| ac_ (blk_below (g := gb549) (o := .cells #[.int .i64 t543, .slice Ao15 t544.length co15] 26 (0, 0)) (by (with_reducible repeat (first | refine blk_drewN ?_ _ | refine blk_drew ?_ | refine blk_alloc ?_ _)); refine blk_far ?_ NB549_557.out _; (with_reducible repeat (first | refine blk_drewN ?_ _ | refine blk_drew ?_ | refine blk_alloc ?_ _)); refine blk_far ?_ NB549_557.out _; (with_reducible repeat (first | refine blk_drewN ?_ _ | refine blk_drew ?_ | refine blk_alloc ?_ _)); exact BK549.out) hb) <| ac_ (blk_below (g := gb557) (o := .cells #[.int .i64 t552, .slice Ao23 t553.length co23] 26 (0, 0)) (by (with_reducible repeat (first | refine blk_drewN ?_ _ | refine blk_drew ?_ | refine blk_alloc ?_ _)); refine blk_put (cs := #[.int .i64 t552, .slice none 0 0]) ?_ 1 _ rfl; (with_reducible repeat (first | refine blk_drewN ?_ _ | refine blk_drew ?_ | refine blk_alloc ?_ _)); refine blk_put (cs := #[.int .i64 0, .slice none 0 0]) ?_ 0 _ rfl; (with_reducible repeat (first | refine blk_drewN ?_ _ | refine blk_drew ?_ | refine blk_alloc ?_ _)); exact BK557.out) hb) <| Aside0.mk (below_step q21_5 hb); clear HO546 HO555 BK549 BK557 HB; obtain ⟨HO546, HO555, HO560, BK549, BK557, HB⟩ := n_; (try clear hb ho0); have hcz25_0 : w24.cell? ⟨gb557, 0, none⟩ = some (.int .i64 t552) := (blk_cell BK557.out 0).trans rfl; have hcz25_1 : w24.cell? ⟨gb557, 1, none⟩ = some (.slice Ao23 t553.length co23) := (blk_cell BK557.out 1).trans rfl; have hfz25_0 := blk_frozen BK557.out 0; have hfz25_1 := blk_frozen BK557.out 1) | ((with_reducible refine gate_callee (f := 10) rfl ?_); refine gL_ 10 42 Tryz.func10 #[.agg #[.int .i64 t552, .slice Ao23 t553.length co23], .int .i64 t556] ?_; (with_reducible refine (impl_LowerCovers.calls k t552 _ _ t553 t556 t561 _ ?side1 ?side2 ?tab A9.out).mono ?_); (case tab => first | exact HTB.out | (refine Tab64.below HTB.out ?_; repeat (first | (with_reducible first | exact HB.out | apply below_alloc | apply pw_below_drewN | apply below_drew1 | refine below_set ?_ GE549.out | refine below_set ?_ GE557.out | refine below_set ?_ GE568.out) | exact HB.out)) | (repeat (first | exact HTB.out | apply Tab64.drewN | apply Tab64.drew | apply Tab64.alloc))); (case side1 => exact q21_10); (case side2 => exact (Kd.R_reads' HO555.out).2.1); rintro e w26 ⟨v562, rfl, ho0, hb⟩; refine ⟨_, rfl, ?_⟩; have n_ := ac_ (Kd.R_elder' q21_22 (Kd.R_base ho0) hb) <| ac_ (Kd.R_elder' q21_23 (Kd.R_base ho0) hb) <| ac_ (Kd.R_elder' q21_24 (Kd.R_base ho0) hb) <| ac_ (Kd.R_lower (Kd.R_new' (Kd.R_new' (Kd.R_new' ho0 (Kd.R_lt q21_22)) (Kd.R_lt q21_23)) (Kd.R_lt q21_24)) (below_size q21_5)) <| ac_ (blk_below (g := gb549) (o := .cells #[.int .i64 t543, .slice Ao15 t544.length co15] 26 (0, 0)) q21_17 hb) <| ac_ (blk_below (g := gb557) (o := .cells #[.int .i64 t552, .slice Ao23 t553.length co23] 26 (0, 0)) q21_18 hb) <| Aside0.mk (below_step q21_5 hb); clear HO546 HO555 HO560 BK549 BK557 HB; obtain ⟨HO546, HO555, HO560, HO563, BK549, BK557, HB⟩ := n_; (try clear hb ho0)) | ((with_reducible refine gate_callee (f := 11) rfl ?_); refine gL_ 11 44 Tryz.func11 #[.slice A0 l0.length c0] ?_; (with_reducible refine (spec_DrawTopOf.calls k _ _ l0 t564 t565 _ ?side1 ?side2 A10.out).mono ?_); (case side1 => exact s12_); (case side2 => exact HC0.out); rintro e w27 ⟨v566, rfl, ho0, hb⟩; refine ⟨_, rfl, ?_⟩; have n_ := ac_ (Kd.R_elder' q21_22 (Kd.R_base ho0) hb) <| ac_ (Kd.R_elder' q21_23 (Kd.R_base ho0) hb) <| ac_ (Kd.R_elder' q21_24 (Kd.R_base ho0) hb) <| ac_ (Kd.R_elder' q21_25 (Kd.R_base ho0) hb) <| ac_ (Kd.R_lower (Kd.R_new' (Kd.R_new' (Kd.R_new' (Kd.R_new' ho0 (Kd.R_lt q21_22)) (Kd.R_lt q21_23)) (Kd.R_lt q21_24)) (Kd.R_lt q21_25)) (below_size q21_5)) <| ac_ (blk_below (g := gb549) (o := .cells #[.int .i64 t543, .slice Ao15 t544.length co15] 26 (0, 0)) q21_17 hb) <| ac_ (blk_below (g := gb557) (o := .cells #[.int .i64 t552, .slice Ao23 t553.length co23] 26 (0, 0)) q21_18 hb) <| Aside0.mk (below_step q21_5 hb); clear HO546 HO555 HO560 HO563 BK549 BK557 HB; obtain ⟨HO546, HO555, HO560, HO563, HO567, BK549, BK557, HB⟩ := n_; (try clear hb ho0)) | (refine be_ 12 #[.int .i64 0, .slice none 0 0] 26 ?_; intro gb568 hg w28 hbox hb; have n_ := ac_ (Kd.R_below q21_22 hb) <| ac_ (Kd.R_below q21_23 hb) <| ac_ (Kd.R_below q21_24 hb) <| ac_ (Kd.R_below q21_25 hb) <| ac_ (Kd.R_below q21_26 hb) <| ac_ (blk_below (g := gb549) (o := .cells #[.int .i64 t543, .slice Ao15 t544.length co15] 26 (0, 0)) q21_17 hb) <| ac_ (blk_below (g := gb557) (o := .cells #[.int .i64 t552, .slice Ao23 t553.length co23] 26 (0, 0)) q21_18 hb) <| ac_ (below_step q21_5 hb) <| ac_ (hbox) <| ac_ ((gz_ w hg q21_5)) <| ac_ ((gz_ w hg q21_5)) <| ac_ ((nl_ hg (blk_lt (g := gb549) (o := .cells #[.int .i64 t543, .slice Ao15 t544.length co15] 26 (0, 0)) q21_17))) <| ac_ ((ng_ hg (blk_lt (g := gb549) (o := .cells #[.int .i64 t543, .slice Ao15 t544.length co15] 26 (0, 0)) q21_17))) <| ac_ ((nl_ hg (blk_lt (g := gb557) (o := .cells #[.int .i64 t552, .slice Ao23 t553.length co23] 26 (0, 0)) q21_18))) <| Aside0.mk ((ng_ hg (blk_lt (g := gb557) (o := .cells #[.int .i64 t552, .slice Ao23 t553.length co23] 26 (0, 0)) q21_18))); clear HO546 HO555 HO560 HO563 HO567 BK549 BK557 HB; obtain ⟨HO546, HO555, HO560, HO563, HO567, BK549, BK557, HB, BK568, GW568, GE568, NB549_568, NB568_549, NB557_568, NB568_557⟩ := n_; clear hb hbox hg; have hnb29 := NB568_549.out; have hnc29 := NB549_568.out; have hnb30 := NB568_557.out; have hnc30 := NB557_568.out; have hcz31_0 : w28.cell? ⟨gb568, 0, none⟩ = some (.int .i64 0) := (blk_cell BK568.out 0).trans rfl; have hcz31_1 : w28.cell? ⟨gb568, 1, none⟩ = some (.slice none 0 0) := (blk_cell BK568.out 1).trans rfl; have hfz31_0 := blk_frozen BK568.out 0; have hfz31_1 := blk_frozen BK568.out 1; obtain ⟨Ao32, co32, eo32⟩ := Kd.R_slice HO567.out; subst eo32))
  (try simp only [Act.put, List.setIfInBounds_toArray, List.set_cons_zero, List.set_cons_succ])
  go_cut [113] (fun v113 wc => ∃ (kq : Nat) (x113_10 : Bool), v113 = .bool x113_10 ∧ Aside0 (laws_FnLattice.j0 kq t547 t548 t550 t551 t556 t558 x113_10 t543 t544 t552 t553 = some r) ∧ Aside0 (kq ≤ k) ∧ Aside0 (Kd.R (Kd.int .i64) 3 wc w.heap.size (fun k_ => some k_ ≠ ((.slice Ao15 t544.length co15) : Value).ownBlock ∧ some k_ ≠ ((.slice Ao23 t553.length co23) : Value).ownBlock) v559 t558) ∧ Aside0 (Kd.R (Kd.int .i64) 3 wc w.heap.size (fun k_ => some k_ ≠ (v559 : Value).ownBlock ∧ some k_ ≠ ((.slice Ao23 t553.length co23) : Value).ownBlock) (.slice Ao15 t544.length co15) t544) ∧ Aside0 (Kd.R (Kd.int .i64) 3 wc w.heap.size (fun k_ => some k_ ≠ (v559 : Value).ownBlock ∧ some k_ ≠ ((.slice Ao15 t544.length co15) : Value).ownBlock) (.slice Ao23 t553.length co23) t553) ∧ Aside0 (wc.heap[gb549]? = some (.cells #[.int .i64 t543, (.slice Ao15 t544.length co15)] 26 (0, 0))) ∧ Aside0 (wc.heap[gb557]? = some (.cells #[.int .i64 t552, (.slice Ao23 t553.length co23)] 26 (0, 0))) ∧ Aside0 (Below w.heap.size w wc))
  case first => as_aux_lemma =>
   have H := HC11.out; clear HC11; obtain ⟨t569, A33, H⟩ := bnd21_ H
   by_cases c34 : t550 = t569
   ·
    rw [if_pos c34] at H; have c34b0 : (t550 == t569) = true := beq_iff_eq.mpr c34; have c34b1 : (t550 != t569) = false := bne_eq_false_iff_eq.mpr c34; clear c34
    (first | rw [c34b0] | (simp only [i64_w, i32_w]; rw [c34b0]) | skip)
    obtain ⟨t570, A35, H⟩ := bnd21_ H
    by_cases c36 : t551 = t570
    ·
     rw [if_pos c36] at H; have c36b0 : (t551 == t570) = true := beq_iff_eq.mpr c36; have c36b1 : (t551 != t570) = false := bne_eq_false_iff_eq.mpr c36; clear c36; obtain ⟨t571, A37, H⟩ := bnd21_ H; obtain ⟨t574, A38, H⟩ := bnd21_ H
     by_cases c39 : t574 = true
     ·
      subst c39; rw [if_pos rfl] at H; obtain ⟨t575, A40, H⟩ := bnd21_ H; obtain ⟨t578, A41, H⟩ := bnd21_ H
      by_cases c42 : t578 = true
      ·
       subst c42; rw [if_pos rfl] at H; obtain ⟨t579, A43, H⟩ := bnd21_ H; obtain ⟨t580, A44, H⟩ := bnd21_ H
       by_cases c45 : (t579 != t580) = true
       ·
        rw [if_pos c45] at H; have c45b0 : (t579 != t580) = true := c45
        (try (have c45b1 : decide (t579 = t580) = false := by simpa using c45))
        (try (have c45b2 : (t579 == t580) = false := by simpa using c45))
        (try (have c45b3 : ¬ (t579 = t580) := by simpa using c45))
        clear c45
        refine absurd ?_ Bool.false_ne_true; revert H; generalize k = kq_; intro H; cases kq_ with | zero => exact absurd H q21_32 | succ kq_ => simp only [laws_FnLattice.j0] at H; (try rw [if_pos rfl] at H); exact (Option.some.inj H).trans HRT.out
       ·
        rw [if_neg c45] at H
        have c45b0 : (t579 != t580) = false := by simpa using c45
        (try (have c45b1 : decide (t579 = t580) = true := by simpa using c45))
        (try (have c45b2 : (t579 == t580) = true := by simpa using c45))
        clear c45; obtain ⟨t581, A46, H⟩ := bnd21_ H; obtain ⟨t582, A47, H⟩ := bnd21_ H
        by_cases c48 : t581 = t582
        ·
         rw [if_pos c48] at H; have c48b0 : (t581 == t582) = true := beq_iff_eq.mpr c48; have c48b1 : (t581 != t582) = false := bne_eq_false_iff_eq.mpr c48; clear c48; obtain ⟨t583, A49, H⟩ := bnd21_ H; obtain ⟨t584, A50, H⟩ := bnd21_ H
         by_cases c51 : t583 = t584
         ·
          rw [if_pos c51] at H; have c51b0 : (t583 == t584) = true := beq_iff_eq.mpr c51; have c51b1 : (t583 != t584) = false := bne_eq_false_iff_eq.mpr c51; clear c51; obtain ⟨t585, A52, H⟩ := bnd21_ H; obtain ⟨t586, A53, H⟩ := bnd21_ H
          by_cases c54 : t585 = t586
          ·
           rw [if_pos c54] at H; have c54b0 : (t585 == t586) = true := beq_iff_eq.mpr c54; have c54b1 : (t585 != t586) = false := bne_eq_false_iff_eq.mpr c54; clear c54; obtain ⟨t587, A55, H⟩ := bnd21_ H; obtain ⟨t588, A56, H⟩ := bnd21_ H; have H' := Aside0.mk H; clear H
           try go_wp2
           have n0_ : Aside0 (Kd.R (Kd.int .i64) 3 ((w28.setCell ⟨gb568, 0, none⟩ (.int .i64 t564)).setCell ⟨gb568, 1, none⟩ (.slice Ao32 t565.length co32)) w.heap.size (fun k_ => some k_ ≠ (.slice Ao23 t553.length co23 : Value).ownBlock ∧ some k_ ≠ (v559 : Value).ownBlock ∧ some k_ ≠ (v562 : Value).ownBlock ∧ some k_ ≠ (.slice Ao32 t565.length co32 : Value).ownBlock) (.slice Ao15 t544.length co15) t544) := ⟨by (with_reducible repeat (first | apply Kd.R_alloc | apply Kd.R_drewN | apply Kd.R_drew)); exact Kd.R_mono (Kd.R_far (p := ⟨gb568, 1, none⟩) (Kd.R_far (p := ⟨gb568, 0, none⟩) (Kd.R_types HO546.out BK568.out (by decide)) (fun _ hk => hk.2) (.int .i64 t564)) (fun _ hk => hk.2) (.slice Ao32 t565.length co32)) (fun _ hk => ⟨hk.1.1.1.1.2, ⟨hk.1.1.1.2, ⟨hk.1.1.2, hk.1.2⟩⟩⟩)⟩
           have n1_ : Aside0 (Kd.R (Kd.int .i64) 3 ((w28.setCell ⟨gb568, 0, none⟩ (.int .i64 t564)).setCell ⟨gb568, 1, none⟩ (.slice Ao32 t565.length co32)) w.heap.size (fun k_ => some k_ ≠ (.slice Ao15 t544.length co15 : Value).ownBlock ∧ some k_ ≠ (v559 : Value).ownBlock ∧ some k_ ≠ (v562 : Value).ownBlock ∧ some k_ ≠ (.slice Ao32 t565.length co32 : Value).ownBlock) (.slice Ao23 t553.length co23) t553) := ⟨by (with_reducible repeat (first | apply Kd.R_alloc | apply Kd.R_drewN | apply Kd.R_drew)); exact Kd.R_mono (Kd.R_far (p := ⟨gb568, 1, none⟩) (Kd.R_far (p := ⟨gb568, 0, none⟩) (Kd.R_types HO555.out BK568.out (by decide)) (fun _ hk => hk.2) (.int .i64 t564)) (fun _ hk => hk.2) (.slice Ao32 t565.length co32)) (fun _ hk => ⟨hk.1.1.1.1.2, ⟨hk.1.1.1.2, ⟨hk.1.1.2, hk.1.2⟩⟩⟩)⟩
           have n2_ : Aside0 (Kd.R (Kd.int .i64) 3 ((w28.setCell ⟨gb568, 0, none⟩ (.int .i64 t564)).setCell ⟨gb568, 1, none⟩ (.slice Ao32 t565.length co32)) w.heap.size (fun k_ => some k_ ≠ (.slice Ao15 t544.length co15 : Value).ownBlock ∧ some k_ ≠ (.slice Ao23 t553.length co23 : Value).ownBlock ∧ some k_ ≠ (v562 : Value).ownBlock ∧ some k_ ≠ (.slice Ao32 t565.length co32 : Value).ownBlock) v559 t558) := ⟨by (with_reducible repeat (first | apply Kd.R_alloc | apply Kd.R_drewN | apply Kd.R_drew)); exact Kd.R_mono (Kd.R_far (p := ⟨gb568, 1, none⟩) (Kd.R_far (p := ⟨gb568, 0, none⟩) (Kd.R_types HO560.out BK568.out (by decide)) (fun _ hk => hk.2) (.int .i64 t564)) (fun _ hk => hk.2) (.slice Ao32 t565.length co32)) (fun _ hk => ⟨hk.1.1.1.1.2, ⟨hk.1.1.1.2, ⟨hk.1.1.2, hk.1.2⟩⟩⟩)⟩
           have n3_ : Aside0 (Kd.R (Kd.int .i64) 3 ((w28.setCell ⟨gb568, 0, none⟩ (.int .i64 t564)).setCell ⟨gb568, 1, none⟩ (.slice Ao32 t565.length co32)) w.heap.size (fun k_ => some k_ ≠ (.slice Ao15 t544.length co15 : Value).ownBlock ∧ some k_ ≠ (.slice Ao23 t553.length co23 : Value).ownBlock ∧ some k_ ≠ (v559 : Value).ownBlock ∧ some k_ ≠ (.slice Ao32 t565.length co32 : Value).ownBlock) v562 t561) := ⟨by (with_reducible repeat (first | apply Kd.R_alloc | apply Kd.R_drewN | apply Kd.R_drew)); exact Kd.R_mono (Kd.R_far (p := ⟨gb568, 1, none⟩) (Kd.R_far (p := ⟨gb568, 0, none⟩) (Kd.R_types HO563.out BK568.out (by decide)) (fun _ hk => hk.2) (.int .i64 t564)) (fun _ hk => hk.2) (.slice Ao32 t565.length co32)) (fun _ hk => ⟨hk.1.1.1.1.2, ⟨hk.1.1.1.2, ⟨hk.1.1.2, hk.1.2⟩⟩⟩)⟩
           have n4_ : Aside0 (Kd.R (Kd.int .i64) 3 ((w28.setCell ⟨gb568, 0, none⟩ (.int .i64 t564)).setCell ⟨gb568, 1, none⟩ (.slice Ao32 t565.length co32)) w.heap.size (fun k_ => some k_ ≠ (.slice Ao15 t544.length co15 : Value).ownBlock ∧ some k_ ≠ (.slice Ao23 t553.length co23 : Value).ownBlock ∧ some k_ ≠ (v559 : Value).ownBlock ∧ some k_ ≠ (v562 : Value).ownBlock) (.slice Ao32 t565.length co32) t565) := ⟨by (with_reducible repeat (first | apply Kd.R_alloc | apply Kd.R_drewN | apply Kd.R_drew)); exact Kd.R_mono (Kd.R_far (p := ⟨gb568, 1, none⟩) (Kd.R_far (p := ⟨gb568, 0, none⟩) (Kd.R_types HO567.out BK568.out (by decide)) (fun _ hk => hk.2) (.int .i64 t564)) (fun _ hk => hk.2) (.slice Ao32 t565.length co32)) (fun _ hk => ⟨hk.1.1.1.1.2, ⟨hk.1.1.1.2, ⟨hk.1.1.2, hk.1.2⟩⟩⟩)⟩
           have n5_ : Aside0 (((w28.setCell ⟨gb568, 0, none⟩ (.int .i64 t564)).setCell ⟨gb568, 1, none⟩ (.slice Ao32 t565.length co32)).heap[gb549]? = some (.cells #[.int .i64 t543, .slice Ao15 t544.length co15] 26 (0, 0))) := ⟨by (with_reducible repeat (first | refine blk_drewN ?_ _ | refine blk_drew ?_ | refine blk_alloc ?_ _)); refine blk_far ?_ NB549_568.out _; (with_reducible repeat (first | refine blk_drewN ?_ _ | refine blk_drew ?_ | refine blk_alloc ?_ _)); refine blk_far ?_ NB549_568.out _; (with_reducible repeat (first | refine blk_drewN ?_ _ | refine blk_drew ?_ | refine blk_alloc ?_ _)); exact BK549.out⟩
           have n6_ : Aside0 (((w28.setCell ⟨gb568, 0, none⟩ (.int .i64 t564)).setCell ⟨gb568, 1, none⟩ (.slice Ao32 t565.length co32)).heap[gb557]? = some (.cells #[.int .i64 t552, .slice Ao23 t553.length co23] 26 (0, 0))) := ⟨by (with_reducible repeat (first | refine blk_drewN ?_ _ | refine blk_drew ?_ | refine blk_alloc ?_ _)); refine blk_far ?_ NB557_568.out _; (with_reducible repeat (first | refine blk_drewN ?_ _ | refine blk_drew ?_ | refine blk_alloc ?_ _)); refine blk_far ?_ NB557_568.out _; (with_reducible repeat (first | refine blk_drewN ?_ _ | refine blk_drew ?_ | refine blk_alloc ?_ _)); exact BK557.out⟩
           have n7_ : Aside0 (((w28.setCell ⟨gb568, 0, none⟩ (.int .i64 t564)).setCell ⟨gb568, 1, none⟩ (.slice Ao32 t565.length co32)).heap[gb568]? = some (.cells #[.int .i64 t564, .slice Ao32 t565.length co32] 26 (0, 0))) := ⟨by (with_reducible repeat (first | refine blk_drewN ?_ _ | refine blk_drew ?_ | refine blk_alloc ?_ _)); refine blk_put (cs := #[.int .i64 t564, .slice none 0 0]) ?_ 1 _ rfl; (with_reducible repeat (first | refine blk_drewN ?_ _ | refine blk_drew ?_ | refine blk_alloc ?_ _)); refine blk_put (cs := #[.int .i64 0, .slice none 0 0]) ?_ 0 _ rfl; (with_reducible repeat (first | refine blk_drewN ?_ _ | refine blk_drew ?_ | refine blk_alloc ?_ _)); exact BK568.out⟩
           have n8_ : Aside0 (Below w.heap.size w ((w28.setCell ⟨gb568, 0, none⟩ (.int .i64 t564)).setCell ⟨gb568, 1, none⟩ (.slice Ao32 t565.length co32))) := ⟨by repeat (first | (with_reducible first | exact HB.out | apply below_alloc | apply pw_below_drewN | apply below_drew1 | refine below_set ?_ GE549.out | refine below_set ?_ GE557.out | refine below_set ?_ GE568.out) | exact HB.out)⟩
           (try clear HO546)
           (try clear HO555)
           (try clear HO560)
           (try clear HO563)
           (try clear HO567)
           (try clear BK549)
           (try clear BK557)
           (try clear BK568)
           (try clear HB)
           generalize ((w28.setCell ⟨gb568, 0, none⟩ (.int .i64 t564)).setCell ⟨gb568, 1, none⟩ (.slice Ao32 t565.length co32)) = w57 at n0_ n1_ n2_ n3_ n4_ n5_ n6_ n7_ n8_ ⊢
           have HO546 := n0_; have HO555 := n1_; have HO560 := n2_; have HO563 := n3_; have HO567 := n4_; have BK549 := n5_; have BK557 := n6_; have BK568 := n7_; have HB := n8_; clear n0_ n1_ n2_ n3_ n4_ n5_ n6_ n7_ n8_; have n0_ := Aside0.mk (Kd.R_drew HO546.out); have n1_ := Aside0.mk (Kd.R_drew HO555.out); have n2_ := Aside0.mk (Kd.R_drew HO560.out); have n3_ := Aside0.mk (Kd.R_drew HO563.out); have n4_ := Aside0.mk (Kd.R_drew HO567.out); have n5_ := Aside0.mk (blk_drew BK549.out); have n6_ := Aside0.mk (blk_drew BK557.out); have n7_ := Aside0.mk (blk_drew BK568.out); have n8_ := Aside0.mk (below_drew1 HB.out); clear HO546; clear HO555; clear HO560; clear HO563; clear HO567; clear BK549; clear BK557; clear BK568; clear HB; have HO546 := n0_; have HO555 := n1_; have HO560 := n2_; have HO563 := n3_; have HO567 := n4_; have BK549 := n5_; have BK557 := n6_; have BK568 := n7_; have HB := n8_; clear n0_ n1_ n2_ n3_ n4_ n5_ n6_ n7_ n8_
           refine start_ (n := 69) (S := fun w' => w'.cell? ⟨gb549, 0, none⟩ = some (.int .i64 t543) ∧ w'.cell? ⟨gb549, 1, none⟩ = some (.slice Ao15 t544.length co15) ∧ w'.cell? ⟨gb557, 0, none⟩ = some (.int .i64 t552) ∧ w'.cell? ⟨gb557, 1, none⟩ = some (.slice Ao23 t553.length co23) ∧ w'.cell? ⟨gb568, 0, none⟩ = some (.int .i64 t564) ∧ w'.cell? ⟨gb568, 1, none⟩ = some (.slice Ao32 t565.length co32)) (ds := []) (tb_ 69 0) s13_ rfl rfl ⟨(blk_cell BK549.out 0).trans rfl, (blk_cell BK549.out 1).trans rfl, (blk_cell BK557.out 0).trans rfl, (blk_cell BK557.out 1).trans rfl, (blk_cell BK568.out 0).trans rfl, (blk_cell BK568.out 1).trans rfl⟩ (fun hHeld => ?_); refine with_tabW laws_FnLattice.tab10 laws_FnLattice.bits10 (fun HT_ HW_ => ?_)
           generalize w57.drew = w58 at HO546 HO555 HO560 HO563 HO567 BK549 BK557 BK568 HB hHeld ⊢
           refine pl_ 0 45 (tb_ 69 1) ?_; refine pl_ 2 47 (tb_ 69 5) ?_; refine pl_ 3 48 (tb_ 69 13) ?_; refine tk_ 1 46 (tb_ 69 15) hHeld ?_
           refine on_ 4 49 (tb_ 69 31) (fun K hK => ?_)
           refine goes_ Tryz.func12 s13_ rfl #[.agg #[.int .i64 t543, .slice _ t544.length _], .int .i64 t547, .int .i64 t548] (by rfl) rfl rfl s1_ ?_
           with_reducible refine (spec_MeetOf.calls k t543 _ _ t544 t547 t548 t569 _ ?side1 ?side2 A33.out).mono ?_
           (case side1 => exact q21_9)
           (case side2 => exact (Kd.R_reads' HO546.out).2.1)
           rintro e w59 ⟨rfl, hb⟩
           refine ⟨_, rfl, ?_⟩
           have n0_ := Aside0.mk (Kd.R_below q21_22 hb); have n1_ := Aside0.mk (Kd.R_below q21_23 hb); have n2_ := Aside0.mk (Kd.R_below q21_24 hb); have n3_ := Aside0.mk (Kd.R_below q21_25 hb); have n4_ := Aside0.mk (Kd.R_below q21_26 hb); have n5_ := Aside0.mk (blk_below (g := gb549) (o := .cells #[.int .i64 t543, .slice Ao15 t544.length co15] 26 (0, 0)) q21_17 hb); have n6_ := Aside0.mk (blk_below (g := gb557) (o := .cells #[.int .i64 t552, .slice Ao23 t553.length co23] 26 (0, 0)) q21_18 hb); have n7_ := Aside0.mk (blk_below (g := gb568) (o := .cells #[.int .i64 t564, .slice Ao32 t565.length co32] 26 (0, 0)) q21_19 hb); have n8_ := Aside0.mk (below_step q21_4 hb); clear HO546; clear HO555; clear HO560; clear HO563; clear HO567; clear BK549; clear BK557; clear BK568; clear HB; have HO546 := n0_; have HO555 := n1_; have HO560 := n2_; have HO563 := n3_; have HO567 := n4_; have BK549 := n5_; have BK557 := n6_; have BK568 := n7_; have HB := n8_; clear n0_ n1_ n2_ n3_ n4_ n5_ n6_ n7_ n8_
           (try clear hb)
           (try clear hb2)
           (try clear hk)
           (try clear hi)
           refine hK.out _ _ ⟨(blk_cell BK549.out 0).trans rfl, (blk_cell BK549.out 1).trans rfl, (blk_cell BK557.out 0).trans rfl, (blk_cell BK557.out 1).trans rfl, (blk_cell BK568.out 0).trans rfl, (blk_cell BK568.out 1).trans rfl⟩ (fun hHeld => ?_)
           clear hK K
           refine norm_ (a' := ?_) ?_ ?_
           rotate_left
           ·
            show Act.put _ (some 49) _ = _
            exact s8_
           refine pl_ 5 50 (tb_ 69 63) ?_; refine pl_ 6 51 (tb_ 69 127) ?_; refine pl_ 7 52 (tb_ 69 255) ?_; refine pl_ 9 54 (tb_ 69 767) ?_; refine pl_ 10 55 (tb_ 69 1791) ?_; refine tk_ 8 53 (tb_ 69 2047) hHeld ?_
           refine on_ 11 56 (tb_ 69 4095) (fun K hK => ?_)
           refine goes_ Tryz.func13 s13_ rfl #[.agg #[.int .i64 t543, .slice _ t544.length _], .int .i64 t547, .int .i64 t548] (by rfl) rfl rfl s1_ ?_
           with_reducible refine (spec_JoinOf.calls k t543 _ _ t544 t547 t548 t570 _ ?side1 ?side2 A35.out).mono ?_
           (case side1 => exact q21_9)
           (case side2 => exact (Kd.R_reads' HO546.out).2.1)
           rintro e w60 ⟨rfl, hb⟩
           refine ⟨_, rfl, ?_⟩
           have n0_ := Aside0.mk (Kd.R_below q21_22 hb); have n1_ := Aside0.mk (Kd.R_below q21_23 hb); have n2_ := Aside0.mk (Kd.R_below q21_24 hb); have n3_ := Aside0.mk (Kd.R_below q21_25 hb); have n4_ := Aside0.mk (Kd.R_below q21_26 hb); have n5_ := Aside0.mk (blk_below (g := gb549) (o := .cells #[.int .i64 t543, .slice Ao15 t544.length co15] 26 (0, 0)) q21_17 hb); have n6_ := Aside0.mk (blk_below (g := gb557) (o := .cells #[.int .i64 t552, .slice Ao23 t553.length co23] 26 (0, 0)) q21_18 hb); have n7_ := Aside0.mk (blk_below (g := gb568) (o := .cells #[.int .i64 t564, .slice Ao32 t565.length co32] 26 (0, 0)) q21_19 hb); have n8_ := Aside0.mk (below_step q21_4 hb); clear HO546; clear HO555; clear HO560; clear HO563; clear HO567; clear BK549; clear BK557; clear BK568; clear HB; have HO546 := n0_; have HO555 := n1_; have HO560 := n2_; have HO563 := n3_; have HO567 := n4_; have BK549 := n5_; have BK557 := n6_; have BK568 := n7_; have HB := n8_; clear n0_ n1_ n2_ n3_ n4_ n5_ n6_ n7_ n8_
           (try clear hb)
           (try clear hb2)
           (try clear hk)
           (try clear hi)
           refine hK.out _ _ ⟨(blk_cell BK549.out 0).trans rfl, (blk_cell BK549.out 1).trans rfl, (blk_cell BK557.out 0).trans rfl, (blk_cell BK557.out 1).trans rfl, (blk_cell BK568.out 0).trans rfl, (blk_cell BK568.out 1).trans rfl⟩ (fun hHeld => ?_)
           clear hK K
           refine norm_ (a' := ?_) ?_ ?_
           rotate_left
           ·
            show Act.put _ (some 56) _ = _
            exact s8_
           refine pl_ 12 57 (tb_ 69 8191) ?_; refine pl_ 13 58 (tb_ 69 16383) ?_; refine pl_ 14 59 (tb_ 69 32767) ?_; refine pl_ 15 60 (tb_ 69 65535) ?_; refine pl_ 17 62 (tb_ 69 196607) ?_; refine tk_ 16 61 (tb_ 69 262143) hHeld ?_
           refine on_ 18 63 (tb_ 69 524287) (fun K hK => ?_)
           refine goes_ Tryz.func15 s13_ rfl #[.agg #[.int .i64 t552, .slice _ t553.length _], .int .i64 t556] (by rfl) rfl rfl s1_ ?_
           with_reducible refine (spec_UpperCovers.calls k t552 _ _ t553 t556 t571 _ ?side1 ?side2 A37.out).mono ?_
           (case side1 => exact q21_10)
           (case side2 => exact (Kd.R_reads' HO555.out).2.1)
           rintro e w61 ⟨v572, rfl, ho0, hb⟩
           refine ⟨_, rfl, ?_⟩
           have n0_ := Aside0.mk (Kd.R_elder' q21_22 (Kd.R_base ho0) hb); have n1_ := Aside0.mk (Kd.R_elder' q21_23 (Kd.R_base ho0) hb); have n2_ := Aside0.mk (Kd.R_elder' q21_24 (Kd.R_base ho0) hb); have n3_ := Aside0.mk (Kd.R_elder' q21_25 (Kd.R_base ho0) hb); have n4_ := Aside0.mk (Kd.R_elder' q21_26 (Kd.R_base ho0) hb); have n5_ := Aside0.mk (Kd.R_lower (Kd.R_new' (Kd.R_new' (Kd.R_new' (Kd.R_new' (Kd.R_new' ho0 (Kd.R_lt q21_22)) (Kd.R_lt q21_23)) (Kd.R_lt q21_24)) (Kd.R_lt q21_25)) (Kd.R_lt q21_26)) (below_size q21_4)); have n6_ := Aside0.mk (blk_below (g := gb549) (o := .cells #[.int .i64 t543, .slice Ao15 t544.length co15] 26 (0, 0)) q21_17 hb); have n7_ := Aside0.mk (blk_below (g := gb557) (o := .cells #[.int .i64 t552, .slice Ao23 t553.length co23] 26 (0, 0)) q21_18 hb); have n8_ := Aside0.mk (blk_below (g := gb568) (o := .cells #[.int .i64 t564, .slice Ao32 t565.length co32] 26 (0, 0)) q21_19 hb); have n9_ := Aside0.mk (below_step q21_4 hb); clear HO546; clear HO555
           clear HO560; clear HO563; clear HO567; clear BK549; clear BK557; clear BK568; clear HB; have HO546 := n0_; have HO555 := n1_; have HO560 := n2_; have HO563 := n3_; have HO567 := n4_; have HO573 := n5_; have BK549 := n6_; have BK557 := n7_; have BK568 := n8_; have HB := n9_; clear n0_ n1_ n2_ n3_ n4_ n5_ n6_ n7_ n8_ n9_
           (try clear hb)
           (try clear hb2)
           (try clear hk)
           (try clear hi)
           (try clear ho0)
           obtain ⟨Ao62, co62, eo62⟩ := Kd.R_slice HO560.out
           (first | subst eo62 | (injection eo62 with f1_ f2_ f3_; have f4_ := f1_.symm; have f5_ := f3_.symm; clear f1_ f2_ f3_; subst f4_; subst f5_))
           obtain ⟨Ao63, co63, eo63⟩ := Kd.R_slice HO573.out
           (first | subst eo63 | (injection eo63 with f1_ f2_ f3_; have f4_ := f1_.symm; have f5_ := f3_.symm; clear f1_ f2_ f3_; subst f4_; subst f5_))
           refine hK.out _ _ ⟨(blk_cell BK549.out 0).trans rfl, (blk_cell BK549.out 1).trans rfl, (blk_cell BK557.out 0).trans rfl, (blk_cell BK557.out 1).trans rfl, (blk_cell BK568.out 0).trans rfl, (blk_cell BK568.out 1).trans rfl⟩ (fun hHeld => ?_)
           clear hK K
           refine norm_ (a' := ?_) ?_ ?_
           rotate_left
           ·
            show Act.put _ (some 63) _ = _
            exact s8_
           refine on_ 19 64 (tb_ 69 1048575) (fun K hK => ?_)
           refine goes_ Tryz.func14 s13_ rfl #[.slice _ t558.length _, .slice _ t571.length _] (by rfl) rfl rfl s1_ ?_
           with_reducible refine (laws_sameInts.calls k _ _ t558 _ _ t571 true _ ?side1 ?side2 ?side3 ?side4 A38.out).mono ?_
           (case side1 => repeat (first | exact (Kd.R_reads' HO560.out).2.2 | (with_reducible refine Kd.C_alloc ?_ _) | (with_reducible refine Kd.C_drewN ?_ _) | (with_reducible refine Kd.C_drew ?_)))
           (case side2 => exact (Kd.R_reads' HO560.out).2.1)
           (case side3 => repeat (first | exact (Kd.R_reads' HO573.out).2.2 | (with_reducible refine Kd.C_alloc ?_ _) | (with_reducible refine Kd.C_drewN ?_ _) | (with_reducible refine Kd.C_drew ?_)))
           (case side4 => exact (Kd.R_reads' HO573.out).2.1)
           rintro e w' ⟨rfl, ⟨nd, rfl⟩⟩
           refine ⟨_, rfl, ?_⟩
           refine hK.out _ _ ⟨(blk_cell BK549.out 0).trans rfl, (blk_cell BK549.out 1).trans rfl, (blk_cell BK557.out 0).trans rfl, (blk_cell BK557.out 1).trans rfl, (blk_cell BK568.out 0).trans rfl, (blk_cell BK568.out 1).trans rfl⟩ (fun hHeld => ?_)
           clear hK K
           refine norm_ (a' := ?_) ?_ ?_
           rotate_left
           ·
            show Act.put _ (some 64) _ = _
            exact s8_
           refine pl_ 20 65 (tb_ 69 2097151) ?_; refine pl_ 21 66 (tb_ 69 4194303) ?_; refine pl_ 22 67 (tb_ 69 8388607) ?_; refine pl_ 23 68 (tb_ 69 16777215) ?_; refine pl_ 25 70 (tb_ 69 50331647) ?_; refine tk_ 24 69 (tb_ 69 67108863) hHeld ?_
           refine on_ 26 71 (tb_ 69 134217727) (fun K hK => ?_)
           refine goes_ Tryz.func16 s13_ rfl #[.agg #[.int .i64 t552, .slice _ t553.length _], .int .i64 t556] (by rfl) rfl rfl s1_ ?_
           with_reducible refine (spec_LowerCovers.calls k t552 _ _ t553 t556 t575 _ ?side1 ?side2 A40.out).mono ?_
           (case side1 => exact q21_10)
           (case side2 => exact (Kd.R_reads' HO555.out).2.1)
           rintro e w64 ⟨v576, rfl, ho0, hb⟩
           refine ⟨_, rfl, ?_⟩
           have n0_ := Aside0.mk (Kd.R_elder' q21_22 (Kd.R_base ho0) hb); have n1_ := Aside0.mk (Kd.R_elder' q21_23 (Kd.R_base ho0) hb); have n2_ := Aside0.mk (Kd.R_elder' q21_24 (Kd.R_base ho0) hb); have n3_ := Aside0.mk (Kd.R_elder' q21_25 (Kd.R_base ho0) hb); have n4_ := Aside0.mk (Kd.R_elder' q21_26 (Kd.R_base ho0) hb); have n5_ := Aside0.mk (Kd.R_elder' q21_27 (Kd.R_base ho0) hb); have n6_ := Aside0.mk (Kd.R_lower (Kd.R_new' (Kd.R_new' (Kd.R_new' (Kd.R_new' (Kd.R_new' (Kd.R_new' ho0 (Kd.R_lt q21_22)) (Kd.R_lt q21_23)) (Kd.R_lt q21_24)) (Kd.R_lt q21_25)) (Kd.R_lt q21_26)) (Kd.R_lt q21_27)) (below_size q21_4)); have n7_ := Aside0.mk (blk_below (g := gb549) (o := .cells #[.int .i64 t543, .slice Ao15 t544.length co15] 26 (0, 0)) q21_17 hb); have n8_ := Aside0.mk (blk_below (g := gb557) (o := .cells #[.int .i64 t552, .slice Ao23 t553.length co23] 26 (0, 0)) q21_18 hb)
           have n9_ := Aside0.mk (blk_below (g := gb568) (o := .cells #[.int .i64 t564, .slice Ao32 t565.length co32] 26 (0, 0)) q21_19 hb); have n10_ := Aside0.mk (below_step q21_4 hb); clear HO546; clear HO555; clear HO560; clear HO563; clear HO567; clear HO573; clear BK549; clear BK557; clear BK568; clear HB; have HO546 := n0_; have HO555 := n1_; have HO560 := n2_; have HO563 := n3_; have HO567 := n4_; have HO573 := n5_; have HO577 := n6_; have BK549 := n7_; have BK557 := n8_; have BK568 := n9_; have HB := n10_; clear n0_ n1_ n2_ n3_ n4_ n5_ n6_ n7_ n8_ n9_ n10_
           (try clear hb)
           (try clear hb2)
           (try clear hk)
           (try clear hi)
           (try clear ho0)
           obtain ⟨Ao65, co65, eo65⟩ := Kd.R_slice HO563.out
           (first | subst eo65 | (injection eo65 with f1_ f2_ f3_; have f4_ := f1_.symm; have f5_ := f3_.symm; clear f1_ f2_ f3_; subst f4_; subst f5_))
           obtain ⟨Ao66, co66, eo66⟩ := Kd.R_slice HO577.out
           (first | subst eo66 | (injection eo66 with f1_ f2_ f3_; have f4_ := f1_.symm; have f5_ := f3_.symm; clear f1_ f2_ f3_; subst f4_; subst f5_))
           refine hK.out _ _ ⟨(blk_cell BK549.out 0).trans rfl, (blk_cell BK549.out 1).trans rfl, (blk_cell BK557.out 0).trans rfl, (blk_cell BK557.out 1).trans rfl, (blk_cell BK568.out 0).trans rfl, (blk_cell BK568.out 1).trans rfl⟩ (fun hHeld => ?_)
           clear hK K
           refine norm_ (a' := ?_) ?_ ?_
           rotate_left
           ·
            show Act.put _ (some 71) _ = _
            exact s8_
           refine on_ 27 72 (tb_ 69 268435455) (fun K hK => ?_)
           refine goes_ Tryz.func14 s13_ rfl #[.slice _ t561.length _, .slice _ t575.length _] (by rfl) rfl rfl s1_ ?_
           with_reducible refine (laws_sameInts.calls k _ _ t561 _ _ t575 true _ ?side1 ?side2 ?side3 ?side4 A41.out).mono ?_
           (case side1 => repeat (first | exact (Kd.R_reads' HO563.out).2.2 | (with_reducible refine Kd.C_alloc ?_ _) | (with_reducible refine Kd.C_drewN ?_ _) | (with_reducible refine Kd.C_drew ?_)))
           (case side2 => exact (Kd.R_reads' HO563.out).2.1)
           (case side3 => repeat (first | exact (Kd.R_reads' HO577.out).2.2 | (with_reducible refine Kd.C_alloc ?_ _) | (with_reducible refine Kd.C_drewN ?_ _) | (with_reducible refine Kd.C_drew ?_)))
           (case side4 => exact (Kd.R_reads' HO577.out).2.1)
           rintro e w' ⟨rfl, ⟨nd, rfl⟩⟩
           refine ⟨_, rfl, ?_⟩
           refine hK.out _ _ ⟨(blk_cell BK549.out 0).trans rfl, (blk_cell BK549.out 1).trans rfl, (blk_cell BK557.out 0).trans rfl, (blk_cell BK557.out 1).trans rfl, (blk_cell BK568.out 0).trans rfl, (blk_cell BK568.out 1).trans rfl⟩ (fun hHeld => ?_)
           clear hK K
           refine norm_ (a' := ?_) ?_ ?_
           rotate_left
           ·
            show Act.put _ (some 72) _ = _
            exact s8_
           refine pl_ 28 73 (tb_ 69 536870911) ?_; refine pl_ 29 74 (tb_ 69 1073741823) ?_; refine pl_ 30 75 (tb_ 69 2147483647) ?_; refine pl_ 32 77 (tb_ 69 6442450943) ?_; refine pl_ 33 78 (tb_ 69 15032385535) ?_; refine pl_ 36 81 (tb_ 69 83751862271) ?_; refine pl_ 37 82 (tb_ 69 221190815743) ?_; refine tk_ 31 76 (tb_ 69 223338299391) hHeld ?_; refine tk_ 35 80 (tb_ 69 257698037759) hHeld ?_
           refine on_ 34 79 (tb_ 69 274877906943) (fun K hK => ?_)
           refine goes_ Tryz.func17 s13_ rfl #[.agg #[.int .i64 t543, .slice _ t544.length _], .int .i64 t547, .int .i64 t548] (by rfl) rfl rfl s1_ ?_
           with_reducible refine (impl_IsBelow.calls k t543 _ _ t544 t547 t548 t579 _ ?side1 ?side2 ?tab A43.out).mono ?_
           (case tab => first | exact HTB.out | (refine Tab64.below HTB.out ?_; repeat (first | (with_reducible first | exact HB.out | apply below_alloc | apply pw_below_drewN | apply below_drew1 | refine below_set ?_ GE549.out | refine below_set ?_ GE557.out | refine below_set ?_ GE568.out) | exact HB.out)) | (repeat (first | exact HTB.out | apply Tab64.drewN | apply Tab64.drew | apply Tab64.alloc)))
           (case side1 => exact q21_9)
           (case side2 => exact (Kd.R_reads' HO546.out).2.1)
           rintro e w67 ⟨rfl, hb⟩
           refine ⟨_, rfl, ?_⟩
           have n0_ := Aside0.mk (Kd.R_below q21_22 hb); have n1_ := Aside0.mk (Kd.R_below q21_23 hb); have n2_ := Aside0.mk (Kd.R_below q21_24 hb); have n3_ := Aside0.mk (Kd.R_below q21_25 hb); have n4_ := Aside0.mk (Kd.R_below q21_26 hb); have n5_ := Aside0.mk (Kd.R_below q21_27 hb); have n6_ := Aside0.mk (Kd.R_below q21_28 hb); have n7_ := Aside0.mk (blk_below (g := gb549) (o := .cells #[.int .i64 t543, .slice Ao15 t544.length co15] 26 (0, 0)) q21_17 hb); have n8_ := Aside0.mk (blk_below (g := gb557) (o := .cells #[.int .i64 t552, .slice Ao23 t553.length co23] 26 (0, 0)) q21_18 hb); have n9_ := Aside0.mk (blk_below (g := gb568) (o := .cells #[.int .i64 t564, .slice Ao32 t565.length co32] 26 (0, 0)) q21_19 hb); have n10_ := Aside0.mk (below_step q21_4 hb); clear HO546; clear HO555; clear HO560; clear HO563; clear HO567; clear HO573; clear HO577; clear BK549; clear BK557; clear BK568; clear HB; have HO546 := n0_; have HO555 := n1_; have HO560 := n2_; have HO563 := n3_
           have HO567 := n4_; have HO573 := n5_; have HO577 := n6_; have BK549 := n7_; have BK557 := n8_; have BK568 := n9_; have HB := n10_; clear n0_ n1_ n2_ n3_ n4_ n5_ n6_ n7_ n8_ n9_ n10_
           (try clear hb)
           (try clear hb2)
           (try clear hk)
           (try clear hi)
           refine hK.out _ _ ⟨(blk_cell BK549.out 0).trans rfl, (blk_cell BK549.out 1).trans rfl, (blk_cell BK557.out 0).trans rfl, (blk_cell BK557.out 1).trans rfl, (blk_cell BK568.out 0).trans rfl, (blk_cell BK568.out 1).trans rfl⟩ (fun hHeld => ?_)
           clear hK K
           refine norm_ (a' := ?_) ?_ ?_
           rotate_left
           ·
            show Act.put _ (some 79) _ = _
            exact s8_
           refine on_ 38 83 (tb_ 69 549755813887) (fun K hK => ?_)
           refine goes_ Tryz.func18 s13_ rfl #[.agg #[.int .i64 t543, .slice _ t544.length _], .int .i64 t547, .int .i64 t548] (by rfl) rfl rfl s1_ ?_
           with_reducible refine (spec_IsBelow.calls k t543 _ _ t544 t547 t548 t580 _ ?side1 ?side2 A44.out).mono ?_
           (case side1 => exact q21_9)
           (case side2 => exact (Kd.R_reads' HO546.out).2.1)
           rintro e w68 ⟨rfl, hb⟩
           refine ⟨_, rfl, ?_⟩
           have n0_ := Aside0.mk (Kd.R_below q21_22 hb); have n1_ := Aside0.mk (Kd.R_below q21_23 hb); have n2_ := Aside0.mk (Kd.R_below q21_24 hb); have n3_ := Aside0.mk (Kd.R_below q21_25 hb); have n4_ := Aside0.mk (Kd.R_below q21_26 hb); have n5_ := Aside0.mk (Kd.R_below q21_27 hb); have n6_ := Aside0.mk (Kd.R_below q21_28 hb); have n7_ := Aside0.mk (blk_below (g := gb549) (o := .cells #[.int .i64 t543, .slice Ao15 t544.length co15] 26 (0, 0)) q21_17 hb); have n8_ := Aside0.mk (blk_below (g := gb557) (o := .cells #[.int .i64 t552, .slice Ao23 t553.length co23] 26 (0, 0)) q21_18 hb); have n9_ := Aside0.mk (blk_below (g := gb568) (o := .cells #[.int .i64 t564, .slice Ao32 t565.length co32] 26 (0, 0)) q21_19 hb); have n10_ := Aside0.mk (below_step q21_4 hb); clear HO546; clear HO555; clear HO560; clear HO563; clear HO567; clear HO573; clear HO577; clear BK549; clear BK557; clear BK568; clear HB; have HO546 := n0_; have HO555 := n1_; have HO560 := n2_; have HO563 := n3_
           have HO567 := n4_; have HO573 := n5_; have HO577 := n6_; have BK549 := n7_; have BK557 := n8_; have BK568 := n9_; have HB := n10_; clear n0_ n1_ n2_ n3_ n4_ n5_ n6_ n7_ n8_ n9_ n10_
           (try clear hb)
           (try clear hb2)
           (try clear hk)
           (try clear hi)
           refine hK.out _ _ ⟨(blk_cell BK549.out 0).trans rfl, (blk_cell BK549.out 1).trans rfl, (blk_cell BK557.out 0).trans rfl, (blk_cell BK557.out 1).trans rfl, (blk_cell BK568.out 0).trans rfl, (blk_cell BK568.out 1).trans rfl⟩ (fun hHeld => ?_)
           clear hK K
           refine norm_ (a' := ?_) ?_ ?_
           rotate_left
           ·
            show Act.put _ (some 83) _ = _
            exact s8_
           refine pl_ 39 84 (tb_ 69 1099511627775) ?_; refine pl_ 40 85 (tb_ 69 2199023255551) ?_; refine pl_ 41 86 (tb_ 69 4398046511103) ?_; refine tk_ 42 87 (tb_ 69 8796093022207) hHeld ?_; refine tk_ 44 89 (tb_ 69 26388279066623) hHeld ?_
           refine on_ 43 88 (tb_ 69 35184372088831) (fun K hK => ?_)
           refine goes_ Tryz.func19 s13_ rfl #[.agg #[.int .i64 t564, .slice _ t565.length _]] (by rfl) rfl rfl s1_ ?_
           with_reducible refine (impl_TopOf.calls k t564 _ _ t565 t581 _ ?side1 ?side2 ?tab A46.out).mono ?_
           (case tab => first | exact HTB.out | (refine Tab64.below HTB.out ?_; repeat (first | (with_reducible first | exact HB.out | apply below_alloc | apply pw_below_drewN | apply below_drew1 | refine below_set ?_ GE549.out | refine below_set ?_ GE557.out | refine below_set ?_ GE568.out) | exact HB.out)) | (repeat (first | exact HTB.out | apply Tab64.drewN | apply Tab64.drew | apply Tab64.alloc)))
           (case side1 => exact q21_11)
           (case side2 => exact (Kd.R_reads' HO567.out).2.1)
           rintro e w69 ⟨rfl, hb⟩
           refine ⟨_, rfl, ?_⟩
           have n0_ := Aside0.mk (Kd.R_below q21_22 hb); have n1_ := Aside0.mk (Kd.R_below q21_23 hb); have n2_ := Aside0.mk (Kd.R_below q21_24 hb); have n3_ := Aside0.mk (Kd.R_below q21_25 hb); have n4_ := Aside0.mk (Kd.R_below q21_26 hb); have n5_ := Aside0.mk (Kd.R_below q21_27 hb); have n6_ := Aside0.mk (Kd.R_below q21_28 hb); have n7_ := Aside0.mk (blk_below (g := gb549) (o := .cells #[.int .i64 t543, .slice Ao15 t544.length co15] 26 (0, 0)) q21_17 hb); have n8_ := Aside0.mk (blk_below (g := gb557) (o := .cells #[.int .i64 t552, .slice Ao23 t553.length co23] 26 (0, 0)) q21_18 hb); have n9_ := Aside0.mk (blk_below (g := gb568) (o := .cells #[.int .i64 t564, .slice Ao32 t565.length co32] 26 (0, 0)) q21_19 hb); have n10_ := Aside0.mk (below_step q21_4 hb); clear HO546; clear HO555; clear HO560; clear HO563; clear HO567; clear HO573; clear HO577; clear BK549; clear BK557; clear BK568; clear HB; have HO546 := n0_; have HO555 := n1_; have HO560 := n2_; have HO563 := n3_
           have HO567 := n4_; have HO573 := n5_; have HO577 := n6_; have BK549 := n7_; have BK557 := n8_; have BK568 := n9_; have HB := n10_; clear n0_ n1_ n2_ n3_ n4_ n5_ n6_ n7_ n8_ n9_ n10_
           (try clear hb)
           (try clear hb2)
           (try clear hk)
           (try clear hi)
           refine hK.out _ _ ⟨(blk_cell BK549.out 0).trans rfl, (blk_cell BK549.out 1).trans rfl, (blk_cell BK557.out 0).trans rfl, (blk_cell BK557.out 1).trans rfl, (blk_cell BK568.out 0).trans rfl, (blk_cell BK568.out 1).trans rfl⟩ (fun hHeld => ?_)
           clear hK K
           refine norm_ (a' := ?_) ?_ ?_
           rotate_left
           ·
            show Act.put _ (some 88) _ = _
            exact s8_
           refine on_ 45 90 (tb_ 69 70368744177663) (fun K hK => ?_)
           refine goes_ Tryz.func20 s13_ rfl #[.agg #[.int .i64 t564, .slice _ t565.length _]] (by rfl) rfl rfl s1_ ?_
           with_reducible refine (spec_TopOf.calls k t564 _ _ t565 t582 _ ?side1 ?side2 A47.out).mono ?_
           (case side1 => exact q21_11)
           (case side2 => exact (Kd.R_reads' HO567.out).2.1)
           rintro e w70 ⟨rfl, hb⟩
           refine ⟨_, rfl, ?_⟩
           have n0_ := Aside0.mk (Kd.R_below q21_22 hb); have n1_ := Aside0.mk (Kd.R_below q21_23 hb); have n2_ := Aside0.mk (Kd.R_below q21_24 hb); have n3_ := Aside0.mk (Kd.R_below q21_25 hb); have n4_ := Aside0.mk (Kd.R_below q21_26 hb); have n5_ := Aside0.mk (Kd.R_below q21_27 hb); have n6_ := Aside0.mk (Kd.R_below q21_28 hb); have n7_ := Aside0.mk (blk_below (g := gb549) (o := .cells #[.int .i64 t543, .slice Ao15 t544.length co15] 26 (0, 0)) q21_17 hb); have n8_ := Aside0.mk (blk_below (g := gb557) (o := .cells #[.int .i64 t552, .slice Ao23 t553.length co23] 26 (0, 0)) q21_18 hb); have n9_ := Aside0.mk (blk_below (g := gb568) (o := .cells #[.int .i64 t564, .slice Ao32 t565.length co32] 26 (0, 0)) q21_19 hb); have n10_ := Aside0.mk (below_step q21_4 hb); clear HO546; clear HO555; clear HO560; clear HO563; clear HO567; clear HO573; clear HO577; clear BK549; clear BK557; clear BK568; clear HB; have HO546 := n0_; have HO555 := n1_; have HO560 := n2_; have HO563 := n3_
           have HO567 := n4_; have HO573 := n5_; have HO577 := n6_; have BK549 := n7_; have BK557 := n8_; have BK568 := n9_; have HB := n10_; clear n0_ n1_ n2_ n3_ n4_ n5_ n6_ n7_ n8_ n9_ n10_
           (try clear hb)
           (try clear hb2)
           (try clear hk)
           (try clear hi)
           refine hK.out _ _ ⟨(blk_cell BK549.out 0).trans rfl, (blk_cell BK549.out 1).trans rfl, (blk_cell BK557.out 0).trans rfl, (blk_cell BK557.out 1).trans rfl, (blk_cell BK568.out 0).trans rfl, (blk_cell BK568.out 1).trans rfl⟩ (fun hHeld => ?_)
           clear hK K
           refine norm_ (a' := ?_) ?_ ?_
           rotate_left
           ·
            show Act.put _ (some 90) _ = _
            exact s8_
           refine pl_ 46 91 (tb_ 69 140737488355327) ?_; refine pl_ 47 92 (tb_ 69 281474976710655) ?_; refine pl_ 48 93 (tb_ 69 562949953421311) ?_; refine tk_ 49 94 (tb_ 69 1125899906842623) hHeld ?_; refine tk_ 51 96 (tb_ 69 3377699720527871) hHeld ?_
           refine on_ 50 95 (tb_ 69 4503599627370495) (fun K hK => ?_)
           refine goes_ Tryz.func21 s13_ rfl #[.agg #[.int .i64 t564, .slice _ t565.length _]] (by rfl) rfl rfl s1_ ?_
           with_reducible refine (impl_BottomOf.calls k t564 _ _ t565 t583 _ ?side1 ?side2 ?tab A49.out).mono ?_
           (case tab => first | exact HTB.out | (refine Tab64.below HTB.out ?_; repeat (first | (with_reducible first | exact HB.out | apply below_alloc | apply pw_below_drewN | apply below_drew1 | refine below_set ?_ GE549.out | refine below_set ?_ GE557.out | refine below_set ?_ GE568.out) | exact HB.out)) | (repeat (first | exact HTB.out | apply Tab64.drewN | apply Tab64.drew | apply Tab64.alloc)))
           (case side1 => exact q21_11)
           (case side2 => exact (Kd.R_reads' HO567.out).2.1)
           rintro e w71 ⟨rfl, hb⟩
           refine ⟨_, rfl, ?_⟩
           have n0_ := Aside0.mk (Kd.R_below q21_22 hb); have n1_ := Aside0.mk (Kd.R_below q21_23 hb); have n2_ := Aside0.mk (Kd.R_below q21_24 hb); have n3_ := Aside0.mk (Kd.R_below q21_25 hb); have n4_ := Aside0.mk (Kd.R_below q21_26 hb); have n5_ := Aside0.mk (Kd.R_below q21_27 hb); have n6_ := Aside0.mk (Kd.R_below q21_28 hb); have n7_ := Aside0.mk (blk_below (g := gb549) (o := .cells #[.int .i64 t543, .slice Ao15 t544.length co15] 26 (0, 0)) q21_17 hb); have n8_ := Aside0.mk (blk_below (g := gb557) (o := .cells #[.int .i64 t552, .slice Ao23 t553.length co23] 26 (0, 0)) q21_18 hb); have n9_ := Aside0.mk (blk_below (g := gb568) (o := .cells #[.int .i64 t564, .slice Ao32 t565.length co32] 26 (0, 0)) q21_19 hb); have n10_ := Aside0.mk (below_step q21_4 hb); clear HO546; clear HO555; clear HO560; clear HO563; clear HO567; clear HO573; clear HO577; clear BK549; clear BK557; clear BK568; clear HB; have HO546 := n0_; have HO555 := n1_; have HO560 := n2_; have HO563 := n3_
           have HO567 := n4_; have HO573 := n5_; have HO577 := n6_; have BK549 := n7_; have BK557 := n8_; have BK568 := n9_; have HB := n10_; clear n0_ n1_ n2_ n3_ n4_ n5_ n6_ n7_ n8_ n9_ n10_
           (try clear hb)
           (try clear hb2)
           (try clear hk)
           (try clear hi)
           refine hK.out _ _ ⟨(blk_cell BK549.out 0).trans rfl, (blk_cell BK549.out 1).trans rfl, (blk_cell BK557.out 0).trans rfl, (blk_cell BK557.out 1).trans rfl, (blk_cell BK568.out 0).trans rfl, (blk_cell BK568.out 1).trans rfl⟩ (fun hHeld => ?_)
           clear hK K
           refine norm_ (a' := ?_) ?_ ?_
           rotate_left
           ·
            show Act.put _ (some 95) _ = _
            exact s8_
           refine on_ 52 97 (tb_ 69 9007199254740991) (fun K hK => ?_)
           refine goes_ Tryz.func22 s13_ rfl #[.agg #[.int .i64 t564, .slice _ t565.length _]] (by rfl) rfl rfl s1_ ?_
           with_reducible refine (spec_BottomOf.calls k t564 _ _ t565 t584 _ ?side1 ?side2 A50.out).mono ?_
           (case side1 => exact q21_11)
           (case side2 => exact (Kd.R_reads' HO567.out).2.1)
           rintro e w72 ⟨rfl, hb⟩
           refine ⟨_, rfl, ?_⟩
           have n0_ := Aside0.mk (Kd.R_below q21_22 hb); have n1_ := Aside0.mk (Kd.R_below q21_23 hb); have n2_ := Aside0.mk (Kd.R_below q21_24 hb); have n3_ := Aside0.mk (Kd.R_below q21_25 hb); have n4_ := Aside0.mk (Kd.R_below q21_26 hb); have n5_ := Aside0.mk (Kd.R_below q21_27 hb); have n6_ := Aside0.mk (Kd.R_below q21_28 hb); have n7_ := Aside0.mk (blk_below (g := gb549) (o := .cells #[.int .i64 t543, .slice Ao15 t544.length co15] 26 (0, 0)) q21_17 hb); have n8_ := Aside0.mk (blk_below (g := gb557) (o := .cells #[.int .i64 t552, .slice Ao23 t553.length co23] 26 (0, 0)) q21_18 hb); have n9_ := Aside0.mk (blk_below (g := gb568) (o := .cells #[.int .i64 t564, .slice Ao32 t565.length co32] 26 (0, 0)) q21_19 hb); have n10_ := Aside0.mk (below_step q21_4 hb); clear HO546; clear HO555; clear HO560; clear HO563; clear HO567; clear HO573; clear HO577; clear BK549; clear BK557; clear BK568; clear HB; have HO546 := n0_; have HO555 := n1_; have HO560 := n2_; have HO563 := n3_
           have HO567 := n4_; have HO573 := n5_; have HO577 := n6_; have BK549 := n7_; have BK557 := n8_; have BK568 := n9_; have HB := n10_; clear n0_ n1_ n2_ n3_ n4_ n5_ n6_ n7_ n8_ n9_ n10_
           (try clear hb)
           (try clear hb2)
           (try clear hk)
           (try clear hi)
           refine hK.out _ _ ⟨(blk_cell BK549.out 0).trans rfl, (blk_cell BK549.out 1).trans rfl, (blk_cell BK557.out 0).trans rfl, (blk_cell BK557.out 1).trans rfl, (blk_cell BK568.out 0).trans rfl, (blk_cell BK568.out 1).trans rfl⟩ (fun hHeld => ?_)
           clear hK K
           refine norm_ (a' := ?_) ?_ ?_
           rotate_left
           ·
            show Act.put _ (some 97) _ = _
            exact s8_
           refine pl_ 53 98 (tb_ 69 18014398509481983) ?_; refine pl_ 54 99 (tb_ 69 36028797018963967) ?_; refine pl_ 55 100 (tb_ 69 72057594037927935) ?_; refine tk_ 56 101 (tb_ 69 144115188075855871) hHeld ?_; refine tk_ 58 103 (tb_ 69 432345564227567615) hHeld ?_
           refine on_ 57 102 (tb_ 69 576460752303423487) (fun K hK => ?_)
           refine goes_ Tryz.func23 s13_ rfl #[.agg #[.int .i64 t564, .slice _ t565.length _]] (by rfl) rfl rfl s1_ ?_
           with_reducible refine (impl_HeightOf.calls t564 _ _ t565 t585 _ ?side1 ?side2 ?tab A52.out).mono ?_
           (case tab => first | exact HTB.out | (refine Tab64.below HTB.out ?_; repeat (first | (with_reducible first | exact HB.out | apply below_alloc | apply pw_below_drewN | apply below_drew1 | refine below_set ?_ GE549.out | refine below_set ?_ GE557.out | refine below_set ?_ GE568.out) | exact HB.out)) | (repeat (first | exact HTB.out | apply Tab64.drewN | apply Tab64.drew | apply Tab64.alloc)))
           (case side1 => exact q21_11)
           (case side2 => exact (Kd.R_reads' HO567.out).2.1)
           rintro e w73 ⟨rfl, hb⟩
           refine ⟨_, rfl, ?_⟩
           have n0_ := Aside0.mk (Kd.R_below q21_22 hb); have n1_ := Aside0.mk (Kd.R_below q21_23 hb); have n2_ := Aside0.mk (Kd.R_below q21_24 hb); have n3_ := Aside0.mk (Kd.R_below q21_25 hb); have n4_ := Aside0.mk (Kd.R_below q21_26 hb); have n5_ := Aside0.mk (Kd.R_below q21_27 hb); have n6_ := Aside0.mk (Kd.R_below q21_28 hb); have n7_ := Aside0.mk (blk_below (g := gb549) (o := .cells #[.int .i64 t543, .slice Ao15 t544.length co15] 26 (0, 0)) q21_17 hb); have n8_ := Aside0.mk (blk_below (g := gb557) (o := .cells #[.int .i64 t552, .slice Ao23 t553.length co23] 26 (0, 0)) q21_18 hb); have n9_ := Aside0.mk (blk_below (g := gb568) (o := .cells #[.int .i64 t564, .slice Ao32 t565.length co32] 26 (0, 0)) q21_19 hb); have n10_ := Aside0.mk (below_step q21_4 hb); clear HO546; clear HO555; clear HO560; clear HO563; clear HO567; clear HO573; clear HO577; clear BK549; clear BK557; clear BK568; clear HB; have HO546 := n0_; have HO555 := n1_; have HO560 := n2_; have HO563 := n3_
           have HO567 := n4_; have HO573 := n5_; have HO577 := n6_; have BK549 := n7_; have BK557 := n8_; have BK568 := n9_; have HB := n10_; clear n0_ n1_ n2_ n3_ n4_ n5_ n6_ n7_ n8_ n9_ n10_
           (try clear hb)
           (try clear hb2)
           (try clear hk)
           (try clear hi)
           refine hK.out _ _ ⟨(blk_cell BK549.out 0).trans rfl, (blk_cell BK549.out 1).trans rfl, (blk_cell BK557.out 0).trans rfl, (blk_cell BK557.out 1).trans rfl, (blk_cell BK568.out 0).trans rfl, (blk_cell BK568.out 1).trans rfl⟩ (fun hHeld => ?_)
           clear hK K
           refine norm_ (a' := ?_) ?_ ?_
           rotate_left
           ·
            show Act.put _ (some 102) _ = _
            exact s8_
           refine on_ 59 104 (tb_ 69 1152921504606846975) (fun K hK => ?_)
           refine goes_ Tryz.func24 s13_ rfl #[.agg #[.int .i64 t564, .slice _ t565.length _]] (by rfl) rfl rfl s1_ ?_
           with_reducible refine (spec_HeightOf.calls k t564 _ _ t565 t586 _ ?side1 ?side2 A53.out).mono ?_
           (case side1 => exact q21_11)
           (case side2 => exact (Kd.R_reads' HO567.out).2.1)
           rintro e w74 ⟨rfl, hb⟩
           refine ⟨_, rfl, ?_⟩
           have n0_ := Aside0.mk (Kd.R_below q21_22 hb); have n1_ := Aside0.mk (Kd.R_below q21_23 hb); have n2_ := Aside0.mk (Kd.R_below q21_24 hb); have n3_ := Aside0.mk (Kd.R_below q21_25 hb); have n4_ := Aside0.mk (Kd.R_below q21_26 hb); have n5_ := Aside0.mk (Kd.R_below q21_27 hb); have n6_ := Aside0.mk (Kd.R_below q21_28 hb); have n7_ := Aside0.mk (blk_below (g := gb549) (o := .cells #[.int .i64 t543, .slice Ao15 t544.length co15] 26 (0, 0)) q21_17 hb); have n8_ := Aside0.mk (blk_below (g := gb557) (o := .cells #[.int .i64 t552, .slice Ao23 t553.length co23] 26 (0, 0)) q21_18 hb); have n9_ := Aside0.mk (blk_below (g := gb568) (o := .cells #[.int .i64 t564, .slice Ao32 t565.length co32] 26 (0, 0)) q21_19 hb); have n10_ := Aside0.mk (below_step q21_4 hb); clear HO546; clear HO555; clear HO560; clear HO563; clear HO567; clear HO573; clear HO577; clear BK549; clear BK557; clear BK568; clear HB; have HO546 := n0_; have HO555 := n1_; have HO560 := n2_; have HO563 := n3_
           have HO567 := n4_; have HO573 := n5_; have HO577 := n6_; have BK549 := n7_; have BK557 := n8_; have BK568 := n9_; have HB := n10_; clear n0_ n1_ n2_ n3_ n4_ n5_ n6_ n7_ n8_ n9_ n10_
           (try clear hb)
           (try clear hb2)
           (try clear hk)
           (try clear hi)
           refine hK.out _ _ ⟨(blk_cell BK549.out 0).trans rfl, (blk_cell BK549.out 1).trans rfl, (blk_cell BK557.out 0).trans rfl, (blk_cell BK557.out 1).trans rfl, (blk_cell BK568.out 0).trans rfl, (blk_cell BK568.out 1).trans rfl⟩ (fun hHeld => ?_)
           clear hK K
           refine norm_ (a' := ?_) ?_ ?_
           rotate_left
           ·
            show Act.put _ (some 104) _ = _
            exact s8_
           refine pl_ 60 105 (tb_ 69 2305843009213693951) ?_; refine pl_ 61 106 (tb_ 69 4611686018427387903) ?_; refine pl_ 62 107 (tb_ 69 9223372036854775807) ?_; refine tk_ 63 108 (tb_ 69 18446744073709551615) hHeld ?_; refine tk_ 65 110 (tb_ 69 55340232221128654847) hHeld ?_
           refine on_ 64 109 (tb_ 69 73786976294838206463) (fun K hK => ?_)
           refine goes_ Tryz.func25 s13_ rfl #[.agg #[.int .i64 t564, .slice _ t565.length _]] (by rfl) rfl rfl s1_ ?_
           with_reducible refine (impl_CountEdges.calls k t564 _ _ t565 t587 _ ?side1 ?side2 ?tab A55.out).mono ?_
           (case tab => first | exact HTB.out | (refine Tab64.below HTB.out ?_; repeat (first | (with_reducible first | exact HB.out | apply below_alloc | apply pw_below_drewN | apply below_drew1 | refine below_set ?_ GE549.out | refine below_set ?_ GE557.out | refine below_set ?_ GE568.out) | exact HB.out)) | (repeat (first | exact HTB.out | apply Tab64.drewN | apply Tab64.drew | apply Tab64.alloc)))
           (case side1 => exact q21_11)
           (case side2 => exact (Kd.R_reads' HO567.out).2.1)
           rintro e w75 ⟨rfl, hb⟩
           refine ⟨_, rfl, ?_⟩
           have n0_ := Aside0.mk (Kd.R_below q21_22 hb); have n1_ := Aside0.mk (Kd.R_below q21_23 hb); have n2_ := Aside0.mk (Kd.R_below q21_24 hb); have n3_ := Aside0.mk (Kd.R_below q21_25 hb); have n4_ := Aside0.mk (Kd.R_below q21_26 hb); have n5_ := Aside0.mk (Kd.R_below q21_27 hb); have n6_ := Aside0.mk (Kd.R_below q21_28 hb); have n7_ := Aside0.mk (blk_below (g := gb549) (o := .cells #[.int .i64 t543, .slice Ao15 t544.length co15] 26 (0, 0)) q21_17 hb); have n8_ := Aside0.mk (blk_below (g := gb557) (o := .cells #[.int .i64 t552, .slice Ao23 t553.length co23] 26 (0, 0)) q21_18 hb); have n9_ := Aside0.mk (blk_below (g := gb568) (o := .cells #[.int .i64 t564, .slice Ao32 t565.length co32] 26 (0, 0)) q21_19 hb); have n10_ := Aside0.mk (below_step q21_4 hb); clear HO546; clear HO555; clear HO560; clear HO563; clear HO567; clear HO573; clear HO577; clear BK549; clear BK557; clear BK568; clear HB; have HO546 := n0_; have HO555 := n1_; have HO560 := n2_; have HO563 := n3_
           have HO567 := n4_; have HO573 := n5_; have HO577 := n6_; have BK549 := n7_; have BK557 := n8_; have BK568 := n9_; have HB := n10_; clear n0_ n1_ n2_ n3_ n4_ n5_ n6_ n7_ n8_ n9_ n10_
           (try clear hb)
           (try clear hb2)
           (try clear hk)
           (try clear hi)
           refine hK.out _ _ ⟨(blk_cell BK549.out 0).trans rfl, (blk_cell BK549.out 1).trans rfl, (blk_cell BK557.out 0).trans rfl, (blk_cell BK557.out 1).trans rfl, (blk_cell BK568.out 0).trans rfl, (blk_cell BK568.out 1).trans rfl⟩ (fun hHeld => ?_)
           clear hK K
           refine norm_ (a' := ?_) ?_ ?_
           rotate_left
           ·
            show Act.put _ (some 109) _ = _
            exact s8_
           refine on_ 66 111 (tb_ 69 147573952589676412927) (fun K hK => ?_)
           refine goes_ Tryz.func26 s13_ rfl #[.agg #[.int .i64 t564, .slice _ t565.length _]] (by rfl) rfl rfl s1_ ?_
           with_reducible refine (spec_CountEdges.calls k t564 _ _ t565 t588 _ ?side1 ?side2 A56.out).mono ?_
           (case side1 => exact q21_11)
           (case side2 => exact (Kd.R_reads' HO567.out).2.1)
           rintro e w76 ⟨rfl, hb⟩
           refine ⟨_, rfl, ?_⟩
           have n0_ := Aside0.mk (Kd.R_below q21_22 hb); have n1_ := Aside0.mk (Kd.R_below q21_23 hb); have n2_ := Aside0.mk (Kd.R_below q21_24 hb); have n3_ := Aside0.mk (Kd.R_below q21_25 hb); have n4_ := Aside0.mk (Kd.R_below q21_26 hb); have n5_ := Aside0.mk (Kd.R_below q21_27 hb); have n6_ := Aside0.mk (Kd.R_below q21_28 hb); have n7_ := Aside0.mk (blk_below (g := gb549) (o := .cells #[.int .i64 t543, .slice Ao15 t544.length co15] 26 (0, 0)) q21_17 hb); have n8_ := Aside0.mk (blk_below (g := gb557) (o := .cells #[.int .i64 t552, .slice Ao23 t553.length co23] 26 (0, 0)) q21_18 hb); have n9_ := Aside0.mk (blk_below (g := gb568) (o := .cells #[.int .i64 t564, .slice Ao32 t565.length co32] 26 (0, 0)) q21_19 hb); have n10_ := Aside0.mk (below_step q21_4 hb); clear HO546; clear HO555; clear HO560; clear HO563; clear HO567; clear HO573; clear HO577; clear BK549; clear BK557; clear BK568; clear HB; have HO546 := n0_; have HO555 := n1_; have HO560 := n2_; have HO563 := n3_
           have HO567 := n4_; have HO573 := n5_; have HO577 := n6_; have BK549 := n7_; have BK557 := n8_; have BK568 := n9_; have HB := n10_; clear n0_ n1_ n2_ n3_ n4_ n5_ n6_ n7_ n8_ n9_ n10_
           (try clear hb)
           (try clear hb2)
           (try clear hk)
           (try clear hi)
           refine hK.out _ _ ⟨(blk_cell BK549.out 0).trans rfl, (blk_cell BK549.out 1).trans rfl, (blk_cell BK557.out 0).trans rfl, (blk_cell BK557.out 1).trans rfl, (blk_cell BK568.out 0).trans rfl, (blk_cell BK568.out 1).trans rfl⟩ (fun hHeld => ?_)
           clear hK K
           refine norm_ (a' := ?_) ?_ ?_
           rotate_left
           ·
            show Act.put _ (some 111) _ = _
            exact s8_
           refine pl_ 67 112 (tb_ 69 295147905179352825855) ?_; refine pl_ 68 113 (tb_ 69 590295810358705651711) ?_
           refine done_ (done_of HT_.out s13_) ?_
           try go_wp2
           go_meet
           case rel => exact ⟨_, ((t587 != t588)), s3_, H', ⟨(by first | omega | exact Nat.le_refl _)⟩, ⟨(by (with_reducible repeat (first | apply Kd.R_alloc | apply Kd.R_drewN | apply Kd.R_drew)); exact Kd.R_mono HO560.out (fun _ hk => ⟨by first | exact hk.1.1.1 | exact hk.1.1.2 | exact hk.1.1 | exact hk.1.2 | exact hk.2 | exact hk.1 | exact hk | exact hk.1.2.1 | exact hk.1.2.2 | exact hk.1.1.2.1 | exact hk.1.1.2.2 | exact hk.2.1 | exact hk.2.2 | exact hk.1.1.1.1 | exact hk.1.1.1.2 | exact hk.1.2.2.1 | exact hk.1.2.2.2 | exact hk.1.1.1.2.1 | exact hk.1.1.1.2.2 | exact hk.2.2.1 | exact hk.2.2.2 | exact hk.1.1.2.2.1 | exact hk.1.1.2.2.2 | exact hk.1.2.2.2.1 | exact hk.1.2.2.2.2 | exact hk.1.1.1.1.1 | exact hk.1.1.1.1.2, by first | exact hk.1.1.2.1 | exact hk.1.1.2 | exact hk.1.1 | exact hk.1.2 | exact hk.2 | exact hk.1 | exact hk.1.1.1 | exact hk | exact hk.1.2.1 | exact hk.1.2.2 | exact hk.1.1.2.2 | exact hk.2.1 | exact hk.2.2 | exact hk.1.1.1.1 | exact hk.1.1.1.2 | exact hk.1.2.2.1 | exact hk.1.2.2.2 | exact hk.1.1.1.2.1 | exact hk.1.1.1.2.2 | exact hk.2.2.1 | exact hk.2.2.2 | exact hk.1.1.2.2.1 | exact hk.1.1.2.2.2 | exact hk.1.2.2.2.1 | exact hk.1.2.2.2.2 | exact hk.1.1.1.1.1 | exact hk.1.1.1.1.2⟩))⟩, ⟨(by (with_reducible repeat (first | apply Kd.R_alloc | apply Kd.R_drewN | apply Kd.R_drew)); exact Kd.R_mono HO546.out (fun _ hk => ⟨by first | exact hk.1.1.2.1 | exact hk.1.1.2 | exact hk.1.1 | exact hk.1.2 | exact hk.2 | exact hk.1 | exact hk.1.1.1 | exact hk | exact hk.1.2.1 | exact hk.1.2.2 | exact hk.1.1.2.2 | exact hk.2.1 | exact hk.2.2 | exact hk.1.1.1.1 | exact hk.1.1.1.2 | exact hk.1.2.2.1 | exact hk.1.2.2.2 | exact hk.1.1.1.2.1 | exact hk.1.1.1.2.2 | exact hk.2.2.1 | exact hk.2.2.2 | exact hk.1.1.2.2.1 | exact hk.1.1.2.2.2 | exact hk.1.2.2.2.1 | exact hk.1.2.2.2.2 | exact hk.1.1.1.1.1 | exact hk.1.1.1.1.2, by first | exact hk.1.1.1 | exact hk.1.1.2 | exact hk.1.1 | exact hk.1.2 | exact hk.2 | exact hk.1 | exact hk | exact hk.1.2.1 | exact hk.1.2.2 | exact hk.1.1.2.1 | exact hk.1.1.2.2 | exact hk.2.1 | exact hk.2.2 | exact hk.1.1.1.1 | exact hk.1.1.1.2 | exact hk.1.2.2.1 | exact hk.1.2.2.2 | exact hk.1.1.1.2.1 | exact hk.1.1.1.2.2 | exact hk.2.2.1 | exact hk.2.2.2 | exact hk.1.1.2.2.1 | exact hk.1.1.2.2.2 | exact hk.1.2.2.2.1 | exact hk.1.2.2.2.2 | exact hk.1.1.1.1.1 | exact hk.1.1.1.1.2⟩))⟩, ⟨(by (with_reducible repeat (first | apply Kd.R_alloc | apply Kd.R_drewN | apply Kd.R_drew)); exact Kd.R_mono HO555.out (fun _ hk => ⟨by first | exact hk.1.1.2.1 | exact hk.1.1.2 | exact hk.1.1 | exact hk.1.2 | exact hk.2 | exact hk.1 | exact hk.1.1.1 | exact hk | exact hk.1.2.1 | exact hk.1.2.2 | exact hk.1.1.2.2 | exact hk.2.1 | exact hk.2.2 | exact hk.1.1.1.1 | exact hk.1.1.1.2 | exact hk.1.2.2.1 | exact hk.1.2.2.2 | exact hk.1.1.1.2.1 | exact hk.1.1.1.2.2 | exact hk.2.2.1 | exact hk.2.2.2 | exact hk.1.1.2.2.1 | exact hk.1.1.2.2.2 | exact hk.1.2.2.2.1 | exact hk.1.2.2.2.2 | exact hk.1.1.1.1.1 | exact hk.1.1.1.1.2, by first | exact hk.1.1.1 | exact hk.1.1.2 | exact hk.1.1 | exact hk.1.2 | exact hk.2 | exact hk.1 | exact hk | exact hk.1.2.1 | exact hk.1.2.2 | exact hk.1.1.2.1 | exact hk.1.1.2.2 | exact hk.2.1 | exact hk.2.2 | exact hk.1.1.1.1 | exact hk.1.1.1.2 | exact hk.1.2.2.1 | exact hk.1.2.2.2 | exact hk.1.1.1.2.1 | exact hk.1.1.1.2.2 | exact hk.2.2.1 | exact hk.2.2.2 | exact hk.1.1.2.2.1 | exact hk.1.1.2.2.2 | exact hk.1.2.2.2.1 | exact hk.1.2.2.2.2 | exact hk.1.1.1.1.1 | exact hk.1.1.1.1.2⟩))⟩, ⟨q21_17⟩, ⟨q21_18⟩, ⟨q21_4⟩⟩
          ·
           rw [if_neg c54] at H; have c54b0 : (t585 == t586) = false := beq_eq_false_iff_ne.mpr c54; have c54b1 : (t585 != t586) = true := bne_iff_ne.mpr c54
           refine absurd ?_ Bool.false_ne_true; revert H; generalize k = kq_; intro H; cases kq_ with | zero => exact absurd H q21_32 | succ kq_ => simp only [laws_FnLattice.j0] at H; (try rw [if_pos rfl] at H); exact (Option.some.inj H).trans HRT.out
         ·
          rw [if_neg c51] at H; have c51b0 : (t583 == t584) = false := beq_eq_false_iff_ne.mpr c51; have c51b1 : (t583 != t584) = true := bne_iff_ne.mpr c51
          refine absurd ?_ Bool.false_ne_true; revert H; generalize k = kq_; intro H; cases kq_ with | zero => exact absurd H q21_32 | succ kq_ => simp only [laws_FnLattice.j0] at H; (try rw [if_pos rfl] at H); exact (Option.some.inj H).trans HRT.out
        ·
         rw [if_neg c48] at H; have c48b0 : (t581 == t582) = false := beq_eq_false_iff_ne.mpr c48; have c48b1 : (t581 != t582) = true := bne_iff_ne.mpr c48
         refine absurd ?_ Bool.false_ne_true; revert H; generalize k = kq_; intro H; cases kq_ with | zero => exact absurd H q21_32 | succ kq_ => simp only [laws_FnLattice.j0] at H; (try rw [if_pos rfl] at H); exact (Option.some.inj H).trans HRT.out
      ·
       replace c42 := Bool.eq_false_iff.mpr c42; subst c42
       rw [if_neg (show ¬ (false = true) by decide)] at H
       refine absurd ?_ Bool.false_ne_true; revert H; generalize k = kq_; intro H; cases kq_ with | zero => exact absurd H q21_32 | succ kq_ => simp only [laws_FnLattice.j0] at H; (try rw [if_pos rfl] at H); exact (Option.some.inj H).trans HRT.out
     ·
      replace c39 := Bool.eq_false_iff.mpr c39; subst c39
      rw [if_neg (show ¬ (false = true) by decide)] at H
      refine absurd ?_ Bool.false_ne_true; revert H; generalize k = kq_; intro H; cases kq_ with | zero => exact absurd H q21_32 | succ kq_ => simp only [laws_FnLattice.j0] at H; (try rw [if_pos rfl] at H); exact (Option.some.inj H).trans HRT.out
    ·
     rw [if_neg c36] at H; have c36b0 : (t551 == t570) = false := beq_eq_false_iff_ne.mpr c36; have c36b1 : (t551 != t570) = true := bne_iff_ne.mpr c36
     refine absurd ?_ Bool.false_ne_true; revert H; generalize k = kq_; intro H; cases kq_ with | zero => exact absurd H q21_32 | succ kq_ => simp only [laws_FnLattice.j0] at H; (try rw [if_pos rfl] at H); exact (Option.some.inj H).trans HRT.out
   ·
    rw [if_neg c34] at H; have c34b0 : (t550 == t569) = false := beq_eq_false_iff_ne.mpr c34; have c34b1 : (t550 != t569) = true := bne_iff_ne.mpr c34
    (first | rw [c34b0] | (simp only [i64_w, i32_w]; rw [c34b0]) | skip)
    refine absurd ?_ Bool.false_ne_true; revert H; generalize k = kq_; intro H; cases kq_ with | zero => exact absurd H q21_32 | succ kq_ => simp only [laws_FnLattice.j0] at H; (try rw [if_pos rfl] at H); exact (Option.some.inj H).trans HRT.out
  case rest => as_aux_lemma =>
   clear HC11
   try clear c1
   try clear c2
   try clear p2
   try clear c3
   try clear c4
   try clear c5
   try clear c19
   try clear c20
   try clear c21
   try clear c22
   try clear c23
   try clear c24
   try clear c25
   try clear c26
   try clear c34
   try clear c34b0
   try clear c34b1
   try clear c36
   try clear c36b0
   try clear c36b1
   try clear c39
   try clear c42
   try clear c48
   try clear c48b0
   try clear c48b1
   try clear c51
   try clear c51b0
   try clear c51b1
   try clear c54
   try clear c54b0
   try clear c54b1
   obtain ⟨kq, x113_10, rfl, HA, HJ10, HO_10, HO_550001, HO_558001, BK549, BK557, HB⟩ := hcut
   cases kq with
   | zero => exact absurd HA.out (by simp [laws_FnLattice.j0])
   | succ kj10 =>
    have H := HA.out; clear HA
    simp only [laws_FnLattice.j0] at H
    by_cases c77 : x113_10 = true
    ·
     subst c77; rw [if_pos rfl] at H
     exact absurd ((Option.some.inj H).trans HRT.out) Bool.false_ne_true
    ·
     replace c77 := Bool.eq_false_iff.mpr c77; subst c77
     rw [if_neg (show ¬ (false = true) by decide)] at H
     have H' := Aside0.mk H; clear H
     go_wp2
     go_loopg [13] kj10 (fun kq v13 w' => ∃ (x13_2 : Int), v13 = .int .i64 x13_2 ∧ Aside0 (laws_FnLattice.l0 kq t547 t548 t550 t551 t556 t558 x13_2 t543 t544 t552 t553 = some r) ∧ Aside0 (kq ≤ kj10) ∧ Aside0 (Kd.R (Kd.int .i64) 3 w' w.heap.size (fun k_ => some k_ ≠ ((.slice Ao15 t544.length co15) : Value).ownBlock ∧ some k_ ≠ ((.slice Ao23 t553.length co23) : Value).ownBlock) v559 t558) ∧ Aside0 (Kd.R (Kd.int .i64) 3 w' w.heap.size (fun k_ => some k_ ≠ (v559 : Value).ownBlock ∧ some k_ ≠ ((.slice Ao23 t553.length co23) : Value).ownBlock) (.slice Ao15 t544.length co15) t544) ∧ Aside0 (Kd.R (Kd.int .i64) 3 w' w.heap.size (fun k_ => some k_ ≠ (v559 : Value).ownBlock ∧ some k_ ≠ ((.slice Ao15 t544.length co15) : Value).ownBlock) (.slice Ao23 t553.length co23) t553) ∧ Aside0 (w'.heap[gb549]? = some (.cells #[.int .i64 t543, (.slice Ao15 t544.length co15)] 26 (0, 0))) ∧ Aside0 (w'.heap[gb557]? = some (.cells #[.int .i64 t552, (.slice Ao23 t553.length co23)] 26 (0, 0))) ∧ Aside0 (Below w.heap.size w w'))
     case atStart => exact ⟨(0), s3_, H', ⟨Nat.le_refl _⟩, ⟨q21_29⟩, ⟨q21_20⟩, ⟨q21_21⟩, ⟨q21_17⟩, ⟨q21_18⟩, ⟨q21_5⟩⟩
     case round =>
      clear H'
      try clear c1
      try clear c2
      try clear p2
      try clear c3
      try clear c4
      try clear c5
      try clear c7
      try clear c19
      try clear c20
      try clear c21
      try clear c22
      try clear c23
      try clear c24
      try clear c25
      try clear c26
      try clear c34
      try clear c34b0
      try clear c34b1
      try clear c36
      try clear c36b0
      try clear c36b1
      try clear c39
      try clear c42
      try clear c48
      try clear c48b0
      try clear c48b1
      try clear c51
      try clear c51b0
      try clear c51b1
      try clear c54
      try clear c54b0
      try clear c54b1
      try clear c77
      try clear p2
      obtain ⟨x13_2, rfl, HA, HK2, HO_10, HO_550001, HO_558001, BK549, BK557, HB⟩ := hrel
      cases gk with
      | zero => exact absurd HA.out (by simp [laws_FnLattice.l0])
      | succ k2 =>
       have H := HA.out; clear HA
       simp only [laws_FnLattice.l0] at H
       by_cases c78 : x13_2 < (t558.length : Int)
       ·
        rw [if_pos c78] at H; have c78b0 : decide (x13_2 < (t558.length : Int)) = true := decide_eq_true c78; clear c78
        by_cases c79 : 0 ≤ x13_2
        ·
         rw [if_pos c79] at H; have c79b0 : decide (0 ≤ x13_2) = true := decide_eq_true c79; clear c79; obtain ⟨t590, A80, H⟩ := bnd21_ H
         by_cases c81 : t590 = true
         ·
          subst c81; rw [if_pos rfl] at H
          by_cases c82 : (rd t558 x13_2) = t556
          ·
           rw [if_pos c82] at H; have c82b0 : ((rd t558 x13_2) == t556) = true := beq_iff_eq.mpr c82; have c82b1 : ((rd t558 x13_2) != t556) = false := bne_eq_false_iff_eq.mpr c82; clear c82
           exact absurd ((Option.some.inj H).trans HRT.out) Bool.false_ne_true
          ·
           rw [if_neg c82] at H; have c82b0 : ((rd t558 x13_2) == t556) = false := beq_eq_false_iff_ne.mpr c82; have c82b1 : ((rd t558 x13_2) != t556) = true := bne_iff_ne.mpr c82; obtain ⟨t593, A83, H⟩ := bnd21_ H; obtain ⟨t596, A84, H⟩ := bnd21_ H
           by_cases c85 : t596 = true
           ·
            subst c85; rw [if_pos rfl] at H; have H' := Aside0.mk H; clear H; obtain ⟨Ao86, co86, eo86⟩ := Kd.R_slice HO_10.out; subst eo86
            try go_wp2
            have n0_ := Aside0.mk (Kd.R_drew HO_10.out); have n1_ := Aside0.mk (Kd.R_drew HO_550001.out); have n2_ := Aside0.mk (Kd.R_drew HO_558001.out); have n3_ := Aside0.mk (blk_drew BK549.out); have n4_ := Aside0.mk (blk_drew BK557.out); have n5_ := Aside0.mk (below_drew1 HB.out); clear HO_10; clear HO_550001; clear HO_558001; clear BK549; clear BK557; clear HB; have HO_10 := n0_; have HO_550001 := n1_; have HO_558001 := n2_; have BK549 := n3_; have BK557 := n4_; have HB := n5_; clear n0_ n1_ n2_ n3_ n4_ n5_; have p589 : 0 ≤ (x13_2 : Int) := of_decide_eq_true s4_; have q589 : x13_2 < (t558.length : Int) := of_decide_eq_true s4_
            (try (obtain ⟨Ap589, cp589, ep589⟩ := Kd.R_slice HO_10.out; subst ep589))
            obtain ⟨ad589, e589, hx589_0⟩ := Kd.at_int (Kd.R_reads' HO_10.out).2.2 x13_2 p589 q589
            cases e589
            replace p589 := eq_true p589; replace q589 := eq_true q589; have p591 : 0 ≤ (x13_2 : Int) := of_decide_eq_true s4_; have q591 : x13_2 < (t558.length : Int) := of_decide_eq_true s4_
            (try (obtain ⟨Ap591, cp591, ep591⟩ := Kd.R_slice HO_10.out; subst ep591))
            obtain ⟨ad591, e591, hx591_0⟩ := Kd.at_int (Kd.R_reads' HO_10.out).2.2 x13_2 p591 q591
            obtain rfl : ad589 = ad591 := (by injection e591)
            replace p591 := eq_true p591; replace q591 := eq_true q591; have p592 : 0 ≤ (x13_2 : Int) := of_decide_eq_true s4_; have q592 : x13_2 < (t558.length : Int) := of_decide_eq_true s4_
            (try (obtain ⟨Ap592, cp592, ep592⟩ := Kd.R_slice HO_10.out; subst ep592))
            obtain ⟨ad592, e592, hx592_0⟩ := Kd.at_int (Kd.R_reads' HO_10.out).2.2 x13_2 p592 q592
            obtain rfl : ad589 = ad592 := (by injection e592)
            replace p592 := eq_true p592; replace q592 := eq_true q592
            refine start_ (n := 27) (S := fun w' => w'.cell? ⟨gb557, 0, none⟩ = some (.int .i64 t552) ∧ w'.cell? ⟨gb557, 1, none⟩ = some (.slice Ao23 t553.length co23) ∧ w'.cell? (ad589.add (x13_2).toNat) = some (.int .i64 (rd t558 x13_2)) ∧ w'.cell? (ad589.add (x13_2).toNat) = some (.int .i64 (rd t558 x13_2)) ∧ w'.cell? (ad589.add (x13_2).toNat) = some (.int .i64 (rd t558 x13_2))) (ds := []) (tb_ 27 0) s13_ rfl rfl ⟨(blk_cell BK557.out 0).trans rfl, (blk_cell BK557.out 1).trans rfl, hx589_0, hx591_0, hx592_0⟩ (fun hHeld => ?_); refine with_tabW laws_FnLattice.tab15 laws_FnLattice.bits15 (fun HT_ HW_ => ?_)
            generalize wr.drew = w87 at HO_10 HO_550001 HO_558001 BK549 BK557 HB hx589_0 hx591_0 hx592_0 hHeld ⊢
            refine pl_ 1 121 (tb_ 27 2) ?_; refine pl_ 2 122 (tb_ 27 6) ?_; refine pl_ 3 123 (tb_ 27 14) ?_; refine pl_ 4 124 (tb_ 27 30) ?_; refine tk_ 0 120 (tb_ 27 31) hHeld ?_; refine tk_ 5 125 (tb_ 27 63) hHeld ?_
            refine on_ 6 126 (tb_ 27 127) (fun K hK => ?_)
            refine goes_ Tryz.func17 s13_ rfl #[.agg #[.int .i64 t552, .slice _ t553.length _], .int .i64 t556, .int .i64 (rd t558 x13_2)] (by rfl) rfl rfl s1_ ?_
            with_reducible refine (impl_IsBelow.calls k2 t552 _ _ t553 t556 (rd t558 x13_2) true _ ?side1 ?side2 ?tab A80.out).mono ?_
            (case tab => first | exact HTB.out | (refine Tab64.below HTB.out ?_; repeat (first | (with_reducible first | exact HB.out | apply below_alloc | apply pw_below_drewN | apply below_drew1 | refine below_set ?_ GE549.out | refine below_set ?_ GE557.out | refine below_set ?_ GE568.out) | exact HB.out)) | (repeat (first | exact HTB.out | apply Tab64.drewN | apply Tab64.drew | apply Tab64.alloc)))
            (case side1 => exact q21_7)
            (case side2 => exact (Kd.R_reads' HO_558001.out).2.1)
            rintro e w88 ⟨rfl, hb⟩
            have HS2_ := (hb.cell (World.block_lt_of_cell? _ _ (hHeld.2.2.1))).trans (hHeld.2.2.1); have HS3_ := (hb.cell (World.block_lt_of_cell? _ _ (hHeld.2.2.2.1))).trans (hHeld.2.2.2.1); have HS4_ := (hb.cell (World.block_lt_of_cell? _ _ (hHeld.2.2.2.2))).trans (hHeld.2.2.2.2)
            refine ⟨_, rfl, ?_⟩
            have n0_ := Aside0.mk (Kd.R_below q21_29 hb); have n1_ := Aside0.mk (Kd.R_below q21_20 hb); have n2_ := Aside0.mk (Kd.R_below q21_21 hb); have n3_ := Aside0.mk (blk_below (g := gb549) (o := .cells #[.int .i64 t543, .slice Ao15 t544.length co15] 26 (0, 0)) q21_17 hb); have n4_ := Aside0.mk (blk_below (g := gb557) (o := .cells #[.int .i64 t552, .slice Ao23 t553.length co23] 26 (0, 0)) q21_18 hb); have n5_ := Aside0.mk (below_step q21_5 hb); clear HO_10; clear HO_550001; clear HO_558001; clear BK549; clear BK557; clear HB; have HO_10 := n0_; have HO_550001 := n1_; have HO_558001 := n2_; have BK549 := n3_; have BK557 := n4_; have HB := n5_; clear n0_ n1_ n2_ n3_ n4_ n5_
            (try clear hb)
            (try clear hb2)
            (try clear hk)
            (try clear hi)
            refine hK.out _ _ ⟨(blk_cell BK557.out 0).trans rfl, (blk_cell BK557.out 1).trans rfl, HS2_, HS3_, HS4_⟩ (fun hHeld => ?_)
            clear hK K
            refine norm_ (a' := ?_) ?_ ?_
            rotate_left
            ·
             show Act.put _ (some 126) _ = _
             exact s8_
            refine pl_ 7 127 (tb_ 27 255) ?_; refine pl_ 8 128 (tb_ 27 511) ?_; refine pl_ 9 129 (tb_ 27 1023) ?_; refine pl_ 10 130 (tb_ 27 2047) ?_; refine pl_ 11 131 (tb_ 27 4095) ?_; refine pl_ 13 133 (tb_ 27 12287) ?_; refine tk_ 12 132 (tb_ 27 16383) hHeld ?_; refine pl_ 14 134 (tb_ 27 32767) ?_; refine pl_ 15 135 (tb_ 27 65535) ?_; refine pl_ 16 136 (tb_ 27 131071) ?_; refine pl_ 18 138 (tb_ 27 393215) ?_; refine pl_ 19 139 (tb_ 27 917503) ?_; refine pl_ 20 140 (tb_ 27 1966079) ?_; refine pl_ 23 143 (tb_ 27 10354687) ?_; refine tk_ 17 137 (tb_ 27 10485759) hHeld ?_; refine tk_ 21 141 (tb_ 27 12582911) hHeld ?_
            refine on_ 22 142 (tb_ 27 16777215) (fun K hK => ?_)
            refine goes_ Tryz.func10 s13_ rfl #[.agg #[.int .i64 t552, .slice _ t553.length _], .int .i64 (rd t558 x13_2)] (by rfl) rfl rfl s1_ ?_
            with_reducible refine (impl_LowerCovers.calls k2 t552 _ _ t553 (rd t558 x13_2) t593 _ ?side1 ?side2 ?tab A83.out).mono ?_
            (case tab => first | exact HTB.out | (refine Tab64.below HTB.out ?_; repeat (first | (with_reducible first | exact HB.out | apply below_alloc | apply pw_below_drewN | apply below_drew1 | refine below_set ?_ GE549.out | refine below_set ?_ GE557.out | refine below_set ?_ GE568.out) | exact HB.out)) | (repeat (first | exact HTB.out | apply Tab64.drewN | apply Tab64.drew | apply Tab64.alloc)))
            (case side1 => exact q21_7)
            (case side2 => exact (Kd.R_reads' HO_558001.out).2.1)
            rintro e w89 ⟨v594, rfl, ho0, hb⟩
            have HS2_ := (hb.cell (World.block_lt_of_cell? _ _ (hHeld.2.2.1))).trans (hHeld.2.2.1); have HS3_ := (hb.cell (World.block_lt_of_cell? _ _ (hHeld.2.2.2.1))).trans (hHeld.2.2.2.1); have HS4_ := (hb.cell (World.block_lt_of_cell? _ _ (hHeld.2.2.2.2))).trans (hHeld.2.2.2.2)
            refine ⟨_, rfl, ?_⟩
            have n0_ := Aside0.mk (Kd.R_elder' q21_29 (Kd.R_base ho0) hb); have n1_ := Aside0.mk (Kd.R_elder' q21_20 (Kd.R_base ho0) hb); have n2_ := Aside0.mk (Kd.R_elder' q21_21 (Kd.R_base ho0) hb); have n3_ := Aside0.mk (Kd.R_lower (Kd.R_new' (Kd.R_new' (Kd.R_new' ho0 (Kd.R_lt q21_29)) (Kd.R_lt q21_20)) (Kd.R_lt q21_21)) (below_size q21_5)); have n4_ := Aside0.mk (blk_below (g := gb549) (o := .cells #[.int .i64 t543, .slice Ao15 t544.length co15] 26 (0, 0)) q21_17 hb); have n5_ := Aside0.mk (blk_below (g := gb557) (o := .cells #[.int .i64 t552, .slice Ao23 t553.length co23] 26 (0, 0)) q21_18 hb); have n6_ := Aside0.mk (below_step q21_5 hb); clear HO_10; clear HO_550001; clear HO_558001; clear BK549; clear BK557; clear HB; have HO_10 := n0_; have HO_550001 := n1_; have HO_558001 := n2_; have HO595 := n3_; have BK549 := n4_; have BK557 := n5_; have HB := n6_; clear n0_ n1_ n2_ n3_ n4_ n5_ n6_
            (try clear hb)
            (try clear hb2)
            (try clear hk)
            (try clear hi)
            (try clear ho0)
            obtain ⟨Ao90, co90, eo90⟩ := Kd.R_slice HO595.out
            (first | subst eo90 | (injection eo90 with f1_ f2_ f3_; have f4_ := f1_.symm; have f5_ := f3_.symm; clear f1_ f2_ f3_; subst f4_; subst f5_))
            refine hK.out _ _ ⟨(blk_cell BK557.out 0).trans rfl, (blk_cell BK557.out 1).trans rfl, HS2_, HS3_, HS4_⟩ (fun hHeld => ?_)
            clear hK K
            refine norm_ (a' := ?_) ?_ ?_
            rotate_left
            ·
             show Act.put _ (some 142) _ = _
             exact s8_
            refine on_ 24 144 (tb_ 27 33554431) (fun K hK => ?_)
            refine goes_ Tryz.func27 s13_ rfl #[.slice _ t593.length _, .int .i64 t556] (by rfl) rfl rfl s1_ ?_
            with_reducible refine (laws_hasInt.calls k2 _ _ t593 t556 true _ ?side1 ?side2 A84.out).mono ?_
            (case side1 => repeat (first | exact (Kd.R_reads' HO595.out).2.2 | (with_reducible refine Kd.C_alloc ?_ _) | (with_reducible refine Kd.C_drewN ?_ _) | (with_reducible refine Kd.C_drew ?_)))
            (case side2 => exact (Kd.R_reads' HO595.out).2.1)
            rintro e w' ⟨rfl, ⟨nd, rfl⟩⟩
            refine ⟨_, rfl, ?_⟩
            refine hK.out _ _ ⟨(blk_cell BK557.out 0).trans rfl, (blk_cell BK557.out 1).trans rfl, hHeld.2.2.1, hHeld.2.2.2.1, hHeld.2.2.2.2⟩ (fun hHeld => ?_)
            clear hK K
            refine norm_ (a' := ?_) ?_ ?_
            rotate_left
            ·
             show Act.put _ (some 144) _ = _
             exact s8_
            refine pl_ 25 145 (tb_ 27 67108863) ?_; refine pl_ 26 146 (tb_ 27 134217727) ?_
            refine done_ (done_of HT_.out s13_) ?_
            try go_wp2
            go_roundg k2
            case measure => have := HJ10.out; have := HK2.out; omega
            case rel => exact ⟨(wrap64 (x13_2 + 1)), s3_, H', ⟨by have := HJ10.out; have := HK2.out; omega⟩, ⟨(by (with_reducible repeat (first | apply Kd.R_alloc | apply Kd.R_drewN | apply Kd.R_drew)); exact Kd.R_mono HO_10.out (fun _ hk => ⟨by first | exact hk.1.1 | exact hk.1.1.2 | exact hk.1.2 | exact hk.2 | exact hk.1 | exact hk.1.1.1 | exact hk | exact hk.1.2.1 | exact hk.1.2.2 | exact hk.1.1.2.1 | exact hk.1.1.2.2 | exact hk.2.1 | exact hk.2.2 | exact hk.1.1.1.1 | exact hk.1.1.1.2 | exact hk.1.2.2.1 | exact hk.1.2.2.2 | exact hk.1.1.1.2.1 | exact hk.1.1.1.2.2 | exact hk.2.2.1 | exact hk.2.2.2 | exact hk.1.1.2.2.1 | exact hk.1.1.2.2.2 | exact hk.1.2.2.2.1 | exact hk.1.2.2.2.2 | exact hk.1.1.1.1.1 | exact hk.1.1.1.1.2, by first | exact hk.1.2 | exact hk.1.1.2 | exact hk.1.1 | exact hk.2 | exact hk.1 | exact hk.1.1.1 | exact hk | exact hk.1.2.1 | exact hk.1.2.2 | exact hk.1.1.2.1 | exact hk.1.1.2.2 | exact hk.2.1 | exact hk.2.2 | exact hk.1.1.1.1 | exact hk.1.1.1.2 | exact hk.1.2.2.1 | exact hk.1.2.2.2 | exact hk.1.1.1.2.1 | exact hk.1.1.1.2.2 | exact hk.2.2.1 | exact hk.2.2.2 | exact hk.1.1.2.2.1 | exact hk.1.1.2.2.2 | exact hk.1.2.2.2.1 | exact hk.1.2.2.2.2 | exact hk.1.1.1.1.1 | exact hk.1.1.1.1.2⟩))⟩, ⟨(by (with_reducible repeat (first | apply Kd.R_alloc | apply Kd.R_drewN | apply Kd.R_drew)); exact Kd.R_mono HO_550001.out (fun _ hk => ⟨by first | exact hk.1.1 | exact hk.1.1.2 | exact hk.1.2 | exact hk.2 | exact hk.1 | exact hk.1.1.1 | exact hk | exact hk.1.2.1 | exact hk.1.2.2 | exact hk.1.1.2.1 | exact hk.1.1.2.2 | exact hk.2.1 | exact hk.2.2 | exact hk.1.1.1.1 | exact hk.1.1.1.2 | exact hk.1.2.2.1 | exact hk.1.2.2.2 | exact hk.1.1.1.2.1 | exact hk.1.1.1.2.2 | exact hk.2.2.1 | exact hk.2.2.2 | exact hk.1.1.2.2.1 | exact hk.1.1.2.2.2 | exact hk.1.2.2.2.1 | exact hk.1.2.2.2.2 | exact hk.1.1.1.1.1 | exact hk.1.1.1.1.2, by first | exact hk.1.2 | exact hk.1.1.2 | exact hk.1.1 | exact hk.2 | exact hk.1 | exact hk.1.1.1 | exact hk | exact hk.1.2.1 | exact hk.1.2.2 | exact hk.1.1.2.1 | exact hk.1.1.2.2 | exact hk.2.1 | exact hk.2.2 | exact hk.1.1.1.1 | exact hk.1.1.1.2 | exact hk.1.2.2.1 | exact hk.1.2.2.2 | exact hk.1.1.1.2.1 | exact hk.1.1.1.2.2 | exact hk.2.2.1 | exact hk.2.2.2 | exact hk.1.1.2.2.1 | exact hk.1.1.2.2.2 | exact hk.1.2.2.2.1 | exact hk.1.2.2.2.2 | exact hk.1.1.1.1.1 | exact hk.1.1.1.1.2⟩))⟩, ⟨(by (with_reducible repeat (first | apply Kd.R_alloc | apply Kd.R_drewN | apply Kd.R_drew)); exact Kd.R_mono HO_558001.out (fun _ hk => ⟨by first | exact hk.1.1 | exact hk.1.1.2 | exact hk.1.2 | exact hk.2 | exact hk.1 | exact hk.1.1.1 | exact hk | exact hk.1.2.1 | exact hk.1.2.2 | exact hk.1.1.2.1 | exact hk.1.1.2.2 | exact hk.2.1 | exact hk.2.2 | exact hk.1.1.1.1 | exact hk.1.1.1.2 | exact hk.1.2.2.1 | exact hk.1.2.2.2 | exact hk.1.1.1.2.1 | exact hk.1.1.1.2.2 | exact hk.2.2.1 | exact hk.2.2.2 | exact hk.1.1.2.2.1 | exact hk.1.1.2.2.2 | exact hk.1.2.2.2.1 | exact hk.1.2.2.2.2 | exact hk.1.1.1.1.1 | exact hk.1.1.1.1.2, by first | exact hk.1.2 | exact hk.1.1.2 | exact hk.1.1 | exact hk.2 | exact hk.1 | exact hk.1.1.1 | exact hk | exact hk.1.2.1 | exact hk.1.2.2 | exact hk.1.1.2.1 | exact hk.1.1.2.2 | exact hk.2.1 | exact hk.2.2 | exact hk.1.1.1.1 | exact hk.1.1.1.2 | exact hk.1.2.2.1 | exact hk.1.2.2.2 | exact hk.1.1.1.2.1 | exact hk.1.1.1.2.2 | exact hk.2.2.1 | exact hk.2.2.2 | exact hk.1.1.2.2.1 | exact hk.1.1.2.2.2 | exact hk.1.2.2.2.1 | exact hk.1.2.2.2.2 | exact hk.1.1.1.1.1 | exact hk.1.1.1.1.2⟩))⟩, ⟨q21_17⟩, ⟨q21_18⟩, ⟨q21_5⟩⟩
           ·
            replace c85 := Bool.eq_false_iff.mpr c85; subst c85
            rw [if_neg (show ¬ (false = true) by decide)] at H
            exact absurd ((Option.some.inj H).trans HRT.out) Bool.false_ne_true
         ·
          replace c81 := Bool.eq_false_iff.mpr c81; subst c81
          rw [if_neg (show ¬ (false = true) by decide)] at H
          exact absurd ((Option.some.inj H).trans HRT.out) Bool.false_ne_true
        ·
         rw [if_neg c79] at H
         exact absurd H (by simp)
       ·
        rw [if_neg c78] at H; have c78b0 : decide (x13_2 < (t558.length : Int)) = false := decide_eq_false c78; clear c78; have HC91 := Aside0.mk H; clear H; obtain ⟨Ao92, co92, eo92⟩ := Kd.R_slice HO_10.out; subst eo92
        go_upto_region 17 with (fail)
        go_cut [152] (fun v152 wc => ∃ (kq : Nat) (x152_90 : Bool), v152 = .bool x152_90 ∧ Aside0 (laws_FnLattice.j2 kq t547 t548 t550 t551 x152_90 t543 t544 = some r) ∧ Aside0 (kq ≤ k2) ∧ Aside0 (Kd.R (Kd.int .i64) 3 wc w.heap.size (fun _ => True) (.slice Ao15 t544.length co15) t544) ∧ Aside0 (wc.heap[gb549]? = some (.cells #[.int .i64 t543, (.slice Ao15 t544.length co15)] 26 (0, 0))) ∧ Aside0 (Below w.heap.size w wc))
        case first => as_aux_lemma =>
         have H := HC91.out; clear HC91
         by_cases c93 : t550 < 0
         ·
          rw [if_pos c93] at H; have c93b0 : decide (t550 < 0) = true := decide_eq_true c93; clear c93
          (first | rw [c93b0] | (simp only [i64_w, i32_w]; rw [c93b0]) | skip)
          have H' := Aside0.mk H; clear H
          go_wp2
          go_meet
          case rel => exact ⟨_, (true), s3_, H', ⟨by have := HJ10.out; have := HK2.out; first | omega | exact Nat.le_refl _⟩, ⟨q21_14⟩, ⟨q21_17⟩, ⟨q21_5⟩⟩
         ·
          rw [if_neg c93] at H; have c93b0 : decide (t550 < 0) = false := decide_eq_false c93; clear c93
          (first | rw [c93b0] | (simp only [i64_w, i32_w]; rw [c93b0]) | skip)
          have H' := Aside0.mk H; clear H
          go_wp2
          go_meet
          case rel => exact ⟨_, (decide (t551 < 0)), s3_, H', ⟨by have := HJ10.out; have := HK2.out; first | omega | exact Nat.le_refl _⟩, ⟨q21_14⟩, ⟨q21_17⟩, ⟨q21_5⟩⟩
        case rest => as_aux_lemma =>
         clear HC91
         try clear c1
         try clear c2
         try clear p2
         try clear c3
         try clear c4
         try clear c5
         try clear p5
         try clear q5
         try clear hx5
         try clear p6
         try clear c7
         try clear c8
         try clear c9
         try clear c10
         try clear c17
         try clear c19
         try clear c20
         try clear c21
         try clear c22
         try clear c23
         try clear c24
         try clear c25
         try clear c26
         try clear c27
         try clear c34
         try clear c34b0
         try clear c34b1
         try clear c36
         try clear c36b0
         try clear c36b1
         try clear c39
         try clear c42
         try clear c48
         try clear c48b0
         try clear c48b1
         try clear c51
         try clear c51b0
         try clear c51b1
         try clear c54
         try clear c54b0
         try clear c54b1
         try clear p58
         try clear q58
         try clear hx58
         try clear p59
         try clear q59
         try clear hx59
         try clear p64
         try clear c77
         try clear c78
         try clear c78b0
         try clear c79
         try clear c79b0
         try clear c81
         try clear c82
         try clear c82b0
         try clear c82b1
         try clear c85
         try clear c93
         try clear c93b0
         try clear hx589_0
         try clear hx591_0
         try clear hx592_0
         try clear p2
         try clear p589
         try clear p591
         try clear p592
         try clear q589
         try clear q591
         try clear q592
         obtain ⟨kq, x152_90, rfl, HA, HJ90, HO_550001, BK549, HB⟩ := hcut
         cases kq with
         | zero => exact absurd HA.out (by simp [laws_FnLattice.j2])
         | succ kj90 =>
          have H := HA.out; clear HA
          simp only [laws_FnLattice.j2] at H
          by_cases c94 : x152_90 = true
          ·
           subst c94; rw [if_pos rfl] at H; obtain rfl := Option.some.inj H
           go_wp2
           go_ret
           exact ⟨s5_, q21_12⟩
          ·
           replace c94 := Bool.eq_false_iff.mpr c94; subst c94
           rw [if_neg (show ¬ (false = true) by decide)] at H
           obtain ⟨t597, A95, H⟩ := bnd21_ H; have H' := Aside0.mk H; clear H; have hcz96_0 : wc.cell? ⟨gb549, 0, none⟩ = some (.int .i64 t543) := (blk_cell BK549.out 0).trans rfl; have hcz96_1 : wc.cell? ⟨gb549, 1, none⟩ = some (.slice Ao15 t544.length co15) := (blk_cell BK549.out 1).trans rfl; have hfz96_0 := blk_frozen BK549.out 0; have hfz96_1 := blk_frozen BK549.out 1
           go_wp2_with (first | ((with_reducible refine gate_callee (f := 28) rfl ?_); refine gL_ 28 157 Tryz.func28 #[.agg #[.int .i64 t543, .slice Ao15 t544.length co15]] ?_; (with_reducible refine (spec_Concepts.calls kj90 t543 _ _ t544 t597 _ ?side1 ?side2 A95.out).mono ?_); (case side1 => exact q21_6); (case side2 => exact (Kd.R_reads' HO_550001.out).2.1); rintro e w97 ⟨v598, rfl, ho0, hb⟩; refine ⟨_, rfl, ?_⟩; have n_ := ac_ (Kd.R_below q21_20 hb) <| ac_ (Kd.R_lower ho0 (below_size q21_12)) <| ac_ (blk_below (g := gb549) (o := .cells #[.int .i64 t543, .slice Ao15 t544.length co15] 26 (0, 0)) q21_17 hb) <| Aside0.mk (below_step q21_12 hb); clear HO_550001 BK549 HB; obtain ⟨HO_550001, HO599, BK549, HB⟩ := n_; (try clear hb ho0); obtain ⟨Ao98, co98, eo98⟩ := Kd.R_slice HO599.out; subst eo98))
           go_loopg [15] kj90 (fun kq v15 w' => ∃ (x15_4 : Int), v15 = .int .i64 x15_4 ∧ Aside0 (laws_FnLattice.l1 kq t547 t548 t550 t551 (t597.length : Int) x15_4 t543 t544 = some r) ∧ Aside0 (kq ≤ kj90) ∧ Aside0 (Kd.R (Kd.int .i64) 3 w' w.heap.size (fun _ => True) (.slice Ao15 t544.length co15) t544) ∧ Aside0 (w'.heap[gb549]? = some (.cells #[.int .i64 t543, (.slice Ao15 t544.length co15)] 26 (0, 0))) ∧ Aside0 (Below w.heap.size w w'))
           case atStart => exact ⟨(0), s3_, H', ⟨Nat.le_refl _⟩, ⟨q21_20⟩, ⟨q21_17⟩, ⟨q21_12⟩⟩
           case round =>
            clear H'
            try clear c1
            try clear c2
            try clear p2
            try clear c3
            try clear c4
            try clear c5
            try clear p5
            try clear q5
            try clear hx5
            try clear p6
            try clear c7
            try clear c8
            try clear c9
            try clear c10
            try clear c17
            try clear c19
            try clear c20
            try clear c21
            try clear c22
            try clear c23
            try clear c24
            try clear c25
            try clear c26
            try clear c27
            try clear c28
            try clear c34
            try clear c34b0
            try clear c34b1
            try clear c36
            try clear c36b0
            try clear c36b1
            try clear c39
            try clear c42
            try clear c48
            try clear c48b0
            try clear c48b1
            try clear c51
            try clear c51b0
            try clear c51b1
            try clear c54
            try clear c54b0
            try clear c54b1
            try clear p58
            try clear q58
            try clear hx58
            try clear p59
            try clear q59
            try clear hx59
            try clear p64
            try clear c77
            try clear c78
            try clear c78b0
            try clear c79
            try clear c79b0
            try clear c81
            try clear c82
            try clear c82b0
            try clear c82b1
            try clear c85
            try clear c93
            try clear c93b0
            try clear c94
            try clear hcz96_0
            try clear hcz96_1
            try clear hfz96_0
            try clear hfz96_1
            try clear hx589_0
            try clear hx591_0
            try clear hx592_0
            try clear p2
            try clear p5
            try clear p58
            try clear p589
            try clear p59
            try clear p591
            try clear p592
            try clear p6
            try clear p64
            try clear q5
            try clear q58
            try clear q589
            try clear q59
            try clear q591
            try clear q592
            obtain ⟨x15_4, rfl, HA, HK4, HO_550001, BK549, HB⟩ := hrel
            cases gk with
            | zero => exact absurd HA.out (by simp [laws_FnLattice.l1])
            | succ k4 =>
             have H := HA.out; clear HA
             simp only [laws_FnLattice.l1] at H
             by_cases c99 : x15_4 < (t597.length : Int)
             ·
              rw [if_pos c99] at H; have c99b0 : decide (x15_4 < (t597.length : Int)) = true := decide_eq_true c99; clear c99; obtain ⟨t600, A100, H⟩ := bnd21_ H
              by_cases c101 : t600 = true
              ·
               subst c101; rw [if_pos rfl] at H; obtain ⟨t601, A102, H⟩ := bnd21_ H; obtain ⟨t602, A103, H⟩ := bnd21_ H
               by_cases c104 : (t601 != t602) = true
               ·
                rw [if_pos c104] at H; have c104b0 : (t601 != t602) = true := c104
                (try (have c104b1 : decide (t601 = t602) = false := by simpa using c104))
                (try (have c104b2 : (t601 == t602) = false := by simpa using c104))
                (try (have c104b3 : ¬ (t601 = t602) := by simpa using c104))
                clear c104
                exact absurd ((Option.some.inj H).trans HRT.out) Bool.false_ne_true
               ·
                rw [if_neg c104] at H
                have c104b0 : (t601 != t602) = false := by simpa using c104
                (try (have c104b1 : decide (t601 = t602) = true := by simpa using c104))
                (try (have c104b2 : (t601 == t602) = true := by simpa using c104))
                clear c104; obtain ⟨t603, A105, H⟩ := bnd21_ H
                by_cases c106 : t603 = true
                ·
                 subst c106; rw [if_pos rfl] at H; obtain ⟨t604, A107, H⟩ := bnd21_ H; obtain ⟨t605, A108, H⟩ := bnd21_ H
                 by_cases c109 : (t604 != t605) = true
                 ·
                  rw [if_pos c109] at H
                  exact absurd ((Option.some.inj H).trans HRT.out) Bool.false_ne_true
                 ·
                  rw [if_neg c109] at H
                  have c109b0 : (t604 != t605) = false := by simpa using c109
                  (try (have c109b1 : decide (t604 = t605) = true := by simpa using c109))
                  (try (have c109b2 : (t604 == t605) = true := by simpa using c109))
                  clear c109; have H' := Aside0.mk H; clear H
                  try go_wp2
                  have n0_ := Aside0.mk (Kd.R_drew HO_550001.out); have n1_ := Aside0.mk (blk_drew BK549.out); have n2_ := Aside0.mk (below_drew1 HB.out); clear HO_550001; clear BK549; clear HB; have HO_550001 := n0_; have BK549 := n1_; have HB := n2_; clear n0_ n1_ n2_
                  refine start_ (n := 32) (S := fun w' => w'.cell? ⟨gb549, 0, none⟩ = some (.int .i64 t543) ∧ w'.cell? ⟨gb549, 1, none⟩ = some (.slice Ao15 t544.length co15)) (ds := []) (tb_ 32 0) s13_ rfl rfl ⟨(blk_cell BK549.out 0).trans rfl, (blk_cell BK549.out 1).trans rfl⟩ (fun hHeld => ?_); refine with_tabW laws_FnLattice.tab23 laws_FnLattice.bits23 (fun HT_ HW_ => ?_)
                  generalize wr.drew = w110 at HO_550001 BK549 HB hHeld ⊢
                  refine pl_ 1 165 (tb_ 32 2) ?_; refine pl_ 2 166 (tb_ 32 6) ?_; refine tk_ 0 164 (tb_ 32 7) hHeld ?_
                  refine on_ 3 167 (tb_ 32 15) (fun K hK => ?_)
                  refine goes_ Tryz.func18 s13_ rfl #[.agg #[.int .i64 t543, .slice _ t544.length _], .int .i64 x15_4, .int .i64 t547] (by rfl) rfl rfl s1_ ?_
                  with_reducible refine (spec_IsBelow.calls k4 t543 _ _ t544 x15_4 t547 true _ ?side1 ?side2 A100.out).mono ?_
                  (case side1 => exact q21_6)
                  (case side2 => exact (Kd.R_reads' HO_550001.out).2.1)
                  rintro e w111 ⟨rfl, hb⟩
                  refine ⟨_, rfl, ?_⟩
                  have n0_ := Aside0.mk (Kd.R_below q21_20 hb); have n1_ := Aside0.mk (blk_below (g := gb549) (o := .cells #[.int .i64 t543, .slice Ao15 t544.length co15] 26 (0, 0)) q21_17 hb); have n2_ := Aside0.mk (below_step q21_12 hb); clear HO_550001; clear BK549; clear HB; have HO_550001 := n0_; have BK549 := n1_; have HB := n2_; clear n0_ n1_ n2_
                  (try clear hb)
                  (try clear hb2)
                  (try clear hk)
                  (try clear hi)
                  refine hK.out _ _ ⟨(blk_cell BK549.out 0).trans rfl, (blk_cell BK549.out 1).trans rfl⟩ (fun hHeld => ?_)
                  clear hK K
                  refine norm_ (a' := ?_) ?_ ?_
                  rotate_left
                  ·
                   show Act.put _ (some 167) _ = _
                   exact s8_
                  refine pl_ 4 168 (tb_ 32 31) ?_; refine pl_ 6 170 (tb_ 32 95) ?_; refine pl_ 7 171 (tb_ 32 223) ?_; refine pl_ 10 174 (tb_ 32 1247) ?_; refine pl_ 11 175 (tb_ 32 3295) ?_; refine tk_ 5 169 (tb_ 32 3327) hHeld ?_; refine tk_ 9 173 (tb_ 32 3839) hHeld ?_
                  refine on_ 8 172 (tb_ 32 4095) (fun K hK => ?_)
                  refine goes_ Tryz.func18 s13_ rfl #[.agg #[.int .i64 t543, .slice _ t544.length _], .int .i64 x15_4, .int .i64 t548] (by rfl) rfl rfl s1_ ?_
                  with_reducible refine (spec_IsBelow.calls k4 t543 _ _ t544 x15_4 t548 t601 _ ?side1 ?side2 A102.out).mono ?_
                  (case side1 => exact q21_6)
                  (case side2 => exact (Kd.R_reads' HO_550001.out).2.1)
                  rintro e w112 ⟨rfl, hb⟩
                  refine ⟨_, rfl, ?_⟩
                  have n0_ := Aside0.mk (Kd.R_below q21_20 hb); have n1_ := Aside0.mk (blk_below (g := gb549) (o := .cells #[.int .i64 t543, .slice Ao15 t544.length co15] 26 (0, 0)) q21_17 hb); have n2_ := Aside0.mk (below_step q21_12 hb); clear HO_550001; clear BK549; clear HB; have HO_550001 := n0_; have BK549 := n1_; have HB := n2_; clear n0_ n1_ n2_
                  (try clear hb)
                  (try clear hb2)
                  (try clear hk)
                  (try clear hi)
                  refine hK.out _ _ ⟨(blk_cell BK549.out 0).trans rfl, (blk_cell BK549.out 1).trans rfl⟩ (fun hHeld => ?_)
                  clear hK K
                  refine norm_ (a' := ?_) ?_ ?_
                  rotate_left
                  ·
                   show Act.put _ (some 172) _ = _
                   exact s8_
                  refine on_ 12 176 (tb_ 32 8191) (fun K hK => ?_)
                  refine goes_ Tryz.func18 s13_ rfl #[.agg #[.int .i64 t543, .slice _ t544.length _], .int .i64 x15_4, .int .i64 t550] (by rfl) rfl rfl s1_ ?_
                  with_reducible refine (spec_IsBelow.calls k4 t543 _ _ t544 x15_4 t550 t602 _ ?side1 ?side2 A103.out).mono ?_
                  (case side1 => exact q21_6)
                  (case side2 => exact (Kd.R_reads' HO_550001.out).2.1)
                  rintro e w113 ⟨rfl, hb⟩
                  refine ⟨_, rfl, ?_⟩
                  have n0_ := Aside0.mk (Kd.R_below q21_20 hb); have n1_ := Aside0.mk (blk_below (g := gb549) (o := .cells #[.int .i64 t543, .slice Ao15 t544.length co15] 26 (0, 0)) q21_17 hb); have n2_ := Aside0.mk (below_step q21_12 hb); clear HO_550001; clear BK549; clear HB; have HO_550001 := n0_; have BK549 := n1_; have HB := n2_; clear n0_ n1_ n2_
                  (try clear hb)
                  (try clear hb2)
                  (try clear hk)
                  (try clear hi)
                  refine hK.out _ _ ⟨(blk_cell BK549.out 0).trans rfl, (blk_cell BK549.out 1).trans rfl⟩ (fun hHeld => ?_)
                  clear hK K
                  refine norm_ (a' := ?_) ?_ ?_
                  rotate_left
                  ·
                   show Act.put _ (some 176) _ = _
                   exact s8_
                  refine pl_ 13 177 (tb_ 32 16383) ?_; refine pl_ 14 178 (tb_ 32 32767) ?_; refine pl_ 15 179 (tb_ 32 65535) ?_; refine pl_ 17 181 (tb_ 32 196607) ?_; refine pl_ 18 182 (tb_ 32 458751) ?_; refine tk_ 16 180 (tb_ 32 524287) hHeld ?_
                  refine on_ 19 183 (tb_ 32 1048575) (fun K hK => ?_)
                  refine goes_ Tryz.func18 s13_ rfl #[.agg #[.int .i64 t543, .slice _ t544.length _], .int .i64 t547, .int .i64 x15_4] (by rfl) rfl rfl s1_ ?_
                  with_reducible refine (spec_IsBelow.calls k4 t543 _ _ t544 t547 x15_4 true _ ?side1 ?side2 A105.out).mono ?_
                  (case side1 => exact q21_6)
                  (case side2 => exact (Kd.R_reads' HO_550001.out).2.1)
                  rintro e w114 ⟨rfl, hb⟩
                  refine ⟨_, rfl, ?_⟩
                  have n0_ := Aside0.mk (Kd.R_below q21_20 hb); have n1_ := Aside0.mk (blk_below (g := gb549) (o := .cells #[.int .i64 t543, .slice Ao15 t544.length co15] 26 (0, 0)) q21_17 hb); have n2_ := Aside0.mk (below_step q21_12 hb); clear HO_550001; clear BK549; clear HB; have HO_550001 := n0_; have BK549 := n1_; have HB := n2_; clear n0_ n1_ n2_
                  (try clear hb)
                  (try clear hb2)
                  (try clear hk)
                  (try clear hi)
                  refine hK.out _ _ ⟨(blk_cell BK549.out 0).trans rfl, (blk_cell BK549.out 1).trans rfl⟩ (fun hHeld => ?_)
                  clear hK K
                  refine norm_ (a' := ?_) ?_ ?_
                  rotate_left
                  ·
                   show Act.put _ (some 183) _ = _
                   exact s8_
                  refine pl_ 20 184 (tb_ 32 2097151) ?_; refine pl_ 22 186 (tb_ 32 6291455) ?_; refine pl_ 23 187 (tb_ 32 14680063) ?_; refine pl_ 26 190 (tb_ 32 81788927) ?_; refine pl_ 27 191 (tb_ 32 216006655) ?_; refine tk_ 21 185 (tb_ 32 218103807) hHeld ?_; refine tk_ 25 189 (tb_ 32 251658239) hHeld ?_
                  refine on_ 24 188 (tb_ 32 268435455) (fun K hK => ?_)
                  refine goes_ Tryz.func18 s13_ rfl #[.agg #[.int .i64 t543, .slice _ t544.length _], .int .i64 t548, .int .i64 x15_4] (by rfl) rfl rfl s1_ ?_
                  with_reducible refine (spec_IsBelow.calls k4 t543 _ _ t544 t548 x15_4 t604 _ ?side1 ?side2 A107.out).mono ?_
                  (case side1 => exact q21_6)
                  (case side2 => exact (Kd.R_reads' HO_550001.out).2.1)
                  rintro e w115 ⟨rfl, hb⟩
                  refine ⟨_, rfl, ?_⟩
                  have n0_ := Aside0.mk (Kd.R_below q21_20 hb); have n1_ := Aside0.mk (blk_below (g := gb549) (o := .cells #[.int .i64 t543, .slice Ao15 t544.length co15] 26 (0, 0)) q21_17 hb); have n2_ := Aside0.mk (below_step q21_12 hb); clear HO_550001; clear BK549; clear HB; have HO_550001 := n0_; have BK549 := n1_; have HB := n2_; clear n0_ n1_ n2_
                  (try clear hb)
                  (try clear hb2)
                  (try clear hk)
                  (try clear hi)
                  refine hK.out _ _ ⟨(blk_cell BK549.out 0).trans rfl, (blk_cell BK549.out 1).trans rfl⟩ (fun hHeld => ?_)
                  clear hK K
                  refine norm_ (a' := ?_) ?_ ?_
                  rotate_left
                  ·
                   show Act.put _ (some 188) _ = _
                   exact s8_
                  refine on_ 28 192 (tb_ 32 536870911) (fun K hK => ?_)
                  refine goes_ Tryz.func18 s13_ rfl #[.agg #[.int .i64 t543, .slice _ t544.length _], .int .i64 t551, .int .i64 x15_4] (by rfl) rfl rfl s1_ ?_
                  with_reducible refine (spec_IsBelow.calls k4 t543 _ _ t544 t551 x15_4 t605 _ ?side1 ?side2 A108.out).mono ?_
                  (case side1 => exact q21_6)
                  (case side2 => exact (Kd.R_reads' HO_550001.out).2.1)
                  rintro e w116 ⟨rfl, hb⟩
                  refine ⟨_, rfl, ?_⟩
                  have n0_ := Aside0.mk (Kd.R_below q21_20 hb); have n1_ := Aside0.mk (blk_below (g := gb549) (o := .cells #[.int .i64 t543, .slice Ao15 t544.length co15] 26 (0, 0)) q21_17 hb); have n2_ := Aside0.mk (below_step q21_12 hb); clear HO_550001; clear BK549; clear HB; have HO_550001 := n0_; have BK549 := n1_; have HB := n2_; clear n0_ n1_ n2_
                  (try clear hb)
                  (try clear hb2)
                  (try clear hk)
                  (try clear hi)
                  refine hK.out _ _ ⟨(blk_cell BK549.out 0).trans rfl, (blk_cell BK549.out 1).trans rfl⟩ (fun hHeld => ?_)
                  clear hK K
                  refine norm_ (a' := ?_) ?_ ?_
                  rotate_left
                  ·
                   show Act.put _ (some 192) _ = _
                   exact s8_
                  refine pl_ 29 193 (tb_ 32 1073741823) ?_; refine pl_ 30 194 (tb_ 32 2147483647) ?_; refine pl_ 31 195 (tb_ 32 4294967295) ?_
                  refine done_ (done_of HT_.out s13_) ?_
                  try go_wp2
                  go_roundg k4
                  case measure => have := HJ10.out; have := HK2.out; have := HJ90.out; have := HK4.out; omega
                  case rel => exact ⟨(wrap64 (x15_4 + 1)), s3_, H', ⟨by have := HJ10.out; have := HK2.out; have := HJ90.out; have := HK4.out; omega⟩, ⟨q21_20⟩, ⟨q21_17⟩, ⟨q21_12⟩⟩
                ·
                 replace c106 := Bool.eq_false_iff.mpr c106; subst c106
                 rw [if_neg (show ¬ (false = true) by decide)] at H
                 have H' := Aside0.mk H; clear H
                 try go_wp2
                 have n0_ := Aside0.mk (Kd.R_drew HO_550001.out); have n1_ := Aside0.mk (blk_drew BK549.out); have n2_ := Aside0.mk (below_drew1 HB.out); clear HO_550001; clear BK549; clear HB; have HO_550001 := n0_; have BK549 := n1_; have HB := n2_; clear n0_ n1_ n2_
                 refine start_ (n := 32) (S := fun w' => w'.cell? ⟨gb549, 0, none⟩ = some (.int .i64 t543) ∧ w'.cell? ⟨gb549, 1, none⟩ = some (.slice Ao15 t544.length co15)) (ds := []) (tb_ 32 0) s13_ rfl rfl ⟨(blk_cell BK549.out 0).trans rfl, (blk_cell BK549.out 1).trans rfl⟩ (fun hHeld => ?_); refine with_tabW laws_FnLattice.tab23 laws_FnLattice.bits23 (fun HT_ HW_ => ?_)
                 generalize wr.drew = w117 at HO_550001 BK549 HB hHeld ⊢
                 refine pl_ 1 165 (tb_ 32 2) ?_; refine pl_ 2 166 (tb_ 32 6) ?_; refine tk_ 0 164 (tb_ 32 7) hHeld ?_
                 refine on_ 3 167 (tb_ 32 15) (fun K hK => ?_)
                 refine goes_ Tryz.func18 s13_ rfl #[.agg #[.int .i64 t543, .slice _ t544.length _], .int .i64 x15_4, .int .i64 t547] (by rfl) rfl rfl s1_ ?_
                 with_reducible refine (spec_IsBelow.calls k4 t543 _ _ t544 x15_4 t547 true _ ?side1 ?side2 A100.out).mono ?_
                 (case side1 => exact q21_6)
                 (case side2 => exact (Kd.R_reads' HO_550001.out).2.1)
                 rintro e w118 ⟨rfl, hb⟩
                 refine ⟨_, rfl, ?_⟩
                 have n0_ := Aside0.mk (Kd.R_below q21_20 hb); have n1_ := Aside0.mk (blk_below (g := gb549) (o := .cells #[.int .i64 t543, .slice Ao15 t544.length co15] 26 (0, 0)) q21_17 hb); have n2_ := Aside0.mk (below_step q21_12 hb); clear HO_550001; clear BK549; clear HB; have HO_550001 := n0_; have BK549 := n1_; have HB := n2_; clear n0_ n1_ n2_
                 (try clear hb)
                 (try clear hb2)
                 (try clear hk)
                 (try clear hi)
                 refine hK.out _ _ ⟨(blk_cell BK549.out 0).trans rfl, (blk_cell BK549.out 1).trans rfl⟩ (fun hHeld => ?_)
                 clear hK K
                 refine norm_ (a' := ?_) ?_ ?_
                 rotate_left
                 ·
                  show Act.put _ (some 167) _ = _
                  exact s8_
                 refine pl_ 4 168 (tb_ 32 31) ?_; refine pl_ 6 170 (tb_ 32 95) ?_; refine pl_ 7 171 (tb_ 32 223) ?_; refine pl_ 10 174 (tb_ 32 1247) ?_; refine pl_ 11 175 (tb_ 32 3295) ?_; refine tk_ 5 169 (tb_ 32 3327) hHeld ?_; refine tk_ 9 173 (tb_ 32 3839) hHeld ?_
                 refine on_ 8 172 (tb_ 32 4095) (fun K hK => ?_)
                 refine goes_ Tryz.func18 s13_ rfl #[.agg #[.int .i64 t543, .slice _ t544.length _], .int .i64 x15_4, .int .i64 t548] (by rfl) rfl rfl s1_ ?_
                 with_reducible refine (spec_IsBelow.calls k4 t543 _ _ t544 x15_4 t548 t601 _ ?side1 ?side2 A102.out).mono ?_
                 (case side1 => exact q21_6)
                 (case side2 => exact (Kd.R_reads' HO_550001.out).2.1)
                 rintro e w119 ⟨rfl, hb⟩
                 refine ⟨_, rfl, ?_⟩
                 have n0_ := Aside0.mk (Kd.R_below q21_20 hb); have n1_ := Aside0.mk (blk_below (g := gb549) (o := .cells #[.int .i64 t543, .slice Ao15 t544.length co15] 26 (0, 0)) q21_17 hb); have n2_ := Aside0.mk (below_step q21_12 hb); clear HO_550001; clear BK549; clear HB; have HO_550001 := n0_; have BK549 := n1_; have HB := n2_; clear n0_ n1_ n2_
                 (try clear hb)
                 (try clear hb2)
                 (try clear hk)
                 (try clear hi)
                 refine hK.out _ _ ⟨(blk_cell BK549.out 0).trans rfl, (blk_cell BK549.out 1).trans rfl⟩ (fun hHeld => ?_)
                 clear hK K
                 refine norm_ (a' := ?_) ?_ ?_
                 rotate_left
                 ·
                  show Act.put _ (some 172) _ = _
                  exact s8_
                 refine on_ 12 176 (tb_ 32 8191) (fun K hK => ?_)
                 refine goes_ Tryz.func18 s13_ rfl #[.agg #[.int .i64 t543, .slice _ t544.length _], .int .i64 x15_4, .int .i64 t550] (by rfl) rfl rfl s1_ ?_
                 with_reducible refine (spec_IsBelow.calls k4 t543 _ _ t544 x15_4 t550 t602 _ ?side1 ?side2 A103.out).mono ?_
                 (case side1 => exact q21_6)
                 (case side2 => exact (Kd.R_reads' HO_550001.out).2.1)
                 rintro e w120 ⟨rfl, hb⟩
                 refine ⟨_, rfl, ?_⟩
                 have n0_ := Aside0.mk (Kd.R_below q21_20 hb); have n1_ := Aside0.mk (blk_below (g := gb549) (o := .cells #[.int .i64 t543, .slice Ao15 t544.length co15] 26 (0, 0)) q21_17 hb); have n2_ := Aside0.mk (below_step q21_12 hb); clear HO_550001; clear BK549; clear HB; have HO_550001 := n0_; have BK549 := n1_; have HB := n2_; clear n0_ n1_ n2_
                 (try clear hb)
                 (try clear hb2)
                 (try clear hk)
                 (try clear hi)
                 refine hK.out _ _ ⟨(blk_cell BK549.out 0).trans rfl, (blk_cell BK549.out 1).trans rfl⟩ (fun hHeld => ?_)
                 clear hK K
                 refine norm_ (a' := ?_) ?_ ?_
                 rotate_left
                 ·
                  show Act.put _ (some 176) _ = _
                  exact s8_
                 refine pl_ 13 177 (tb_ 32 16383) ?_; refine pl_ 14 178 (tb_ 32 32767) ?_; refine pl_ 15 179 (tb_ 32 65535) ?_; refine pl_ 17 181 (tb_ 32 196607) ?_; refine pl_ 18 182 (tb_ 32 458751) ?_; refine tk_ 16 180 (tb_ 32 524287) hHeld ?_
                 refine on_ 19 183 (tb_ 32 1048575) (fun K hK => ?_)
                 refine goes_ Tryz.func18 s13_ rfl #[.agg #[.int .i64 t543, .slice _ t544.length _], .int .i64 t547, .int .i64 x15_4] (by rfl) rfl rfl s1_ ?_
                 with_reducible refine (spec_IsBelow.calls k4 t543 _ _ t544 t547 x15_4 false _ ?side1 ?side2 A105.out).mono ?_
                 (case side1 => exact q21_6)
                 (case side2 => exact (Kd.R_reads' HO_550001.out).2.1)
                 rintro e w121 ⟨rfl, hb⟩
                 refine ⟨_, rfl, ?_⟩
                 have n0_ := Aside0.mk (Kd.R_below q21_20 hb); have n1_ := Aside0.mk (blk_below (g := gb549) (o := .cells #[.int .i64 t543, .slice Ao15 t544.length co15] 26 (0, 0)) q21_17 hb); have n2_ := Aside0.mk (below_step q21_12 hb); clear HO_550001; clear BK549; clear HB; have HO_550001 := n0_; have BK549 := n1_; have HB := n2_; clear n0_ n1_ n2_
                 (try clear hb)
                 (try clear hb2)
                 (try clear hk)
                 (try clear hi)
                 refine hK.out _ _ ⟨(blk_cell BK549.out 0).trans rfl, (blk_cell BK549.out 1).trans rfl⟩ (fun hHeld => ?_)
                 clear hK K
                 refine norm_ (a' := ?_) ?_ ?_
                 rotate_left
                 ·
                  show Act.put _ (some 183) _ = _
                  exact s8_
                 refine pl_ 20 184 (tb_ 32 2097151) ?_; refine pr_ 21 185 (tb_ 32 4194303) ?_; refine pr_ 22 186 (tb_ 32 8388607) ?_; refine pr_ 23 187 (tb_ 32 16777215) ?_; refine pr_ 24 188 (tb_ 32 33554431) ?_; refine pr_ 25 189 (tb_ 32 67108863) ?_; refine pr_ 26 190 (tb_ 32 134217727) ?_; refine pr_ 27 191 (tb_ 32 268435455) ?_; refine pr_ 28 192 (tb_ 32 536870911) ?_; refine pr_ 29 193 (tb_ 32 1073741823) ?_; refine pl_ 30 194 (tb_ 32 2147483647) ?_; refine pl_ 31 195 (tb_ 32 4294967295) ?_
                 refine done_ (done_of HT_.out s13_) ?_
                 try go_wp2
                 go_roundg k4
                 case measure => have := HJ10.out; have := HK2.out; have := HJ90.out; have := HK4.out; omega
                 case rel => exact ⟨(wrap64 (x15_4 + 1)), s3_, H', ⟨by have := HJ10.out; have := HK2.out; have := HJ90.out; have := HK4.out; omega⟩, ⟨q21_20⟩, ⟨q21_17⟩, ⟨q21_12⟩⟩
              ·
               replace c101 := Bool.eq_false_iff.mpr c101; subst c101
               rw [if_neg (show ¬ (false = true) by decide)] at H
               obtain ⟨t606, A122, H⟩ := bnd21_ H
               by_cases c123 : t606 = true
               ·
                subst c123; rw [if_pos rfl] at H; obtain ⟨t607, A124, H⟩ := bnd21_ H; obtain ⟨t608, A125, H⟩ := bnd21_ H
                by_cases c126 : (t607 != t608) = true
                ·
                 rw [if_pos c126] at H
                 exact absurd ((Option.some.inj H).trans HRT.out) Bool.false_ne_true
                ·
                 rw [if_neg c126] at H
                 have c126b0 : (t607 != t608) = false := by simpa using c126
                 (try (have c126b1 : decide (t607 = t608) = true := by simpa using c126))
                 (try (have c126b2 : (t607 == t608) = true := by simpa using c126))
                 clear c126; have H' := Aside0.mk H; clear H
                 try go_wp2
                 have n0_ := Aside0.mk (Kd.R_drew HO_550001.out); have n1_ := Aside0.mk (blk_drew BK549.out); have n2_ := Aside0.mk (below_drew1 HB.out); clear HO_550001; clear BK549; clear HB; have HO_550001 := n0_; have BK549 := n1_; have HB := n2_; clear n0_ n1_ n2_
                 refine start_ (n := 32) (S := fun w' => w'.cell? ⟨gb549, 0, none⟩ = some (.int .i64 t543) ∧ w'.cell? ⟨gb549, 1, none⟩ = some (.slice Ao15 t544.length co15)) (ds := []) (tb_ 32 0) s13_ rfl rfl ⟨(blk_cell BK549.out 0).trans rfl, (blk_cell BK549.out 1).trans rfl⟩ (fun hHeld => ?_); refine with_tabW laws_FnLattice.tab23 laws_FnLattice.bits23 (fun HT_ HW_ => ?_)
                 generalize wr.drew = w127 at HO_550001 BK549 HB hHeld ⊢
                 refine pl_ 1 165 (tb_ 32 2) ?_; refine pl_ 2 166 (tb_ 32 6) ?_; refine tk_ 0 164 (tb_ 32 7) hHeld ?_
                 refine on_ 3 167 (tb_ 32 15) (fun K hK => ?_)
                 refine goes_ Tryz.func18 s13_ rfl #[.agg #[.int .i64 t543, .slice _ t544.length _], .int .i64 x15_4, .int .i64 t547] (by rfl) rfl rfl s1_ ?_
                 with_reducible refine (spec_IsBelow.calls k4 t543 _ _ t544 x15_4 t547 false _ ?side1 ?side2 A100.out).mono ?_
                 (case side1 => exact q21_6)
                 (case side2 => exact (Kd.R_reads' HO_550001.out).2.1)
                 rintro e w128 ⟨rfl, hb⟩
                 refine ⟨_, rfl, ?_⟩
                 have n0_ := Aside0.mk (Kd.R_below q21_20 hb); have n1_ := Aside0.mk (blk_below (g := gb549) (o := .cells #[.int .i64 t543, .slice Ao15 t544.length co15] 26 (0, 0)) q21_17 hb); have n2_ := Aside0.mk (below_step q21_12 hb); clear HO_550001; clear BK549; clear HB; have HO_550001 := n0_; have BK549 := n1_; have HB := n2_; clear n0_ n1_ n2_
                 (try clear hb)
                 (try clear hb2)
                 (try clear hk)
                 (try clear hi)
                 refine hK.out _ _ ⟨(blk_cell BK549.out 0).trans rfl, (blk_cell BK549.out 1).trans rfl⟩ (fun hHeld => ?_)
                 clear hK K
                 refine norm_ (a' := ?_) ?_ ?_
                 rotate_left
                 ·
                  show Act.put _ (some 167) _ = _
                  exact s8_
                 refine pl_ 4 168 (tb_ 32 31) ?_; refine pr_ 5 169 (tb_ 32 63) ?_; refine pr_ 6 170 (tb_ 32 127) ?_; refine pr_ 7 171 (tb_ 32 255) ?_; refine pr_ 8 172 (tb_ 32 511) ?_; refine pr_ 9 173 (tb_ 32 1023) ?_; refine pr_ 10 174 (tb_ 32 2047) ?_; refine pr_ 11 175 (tb_ 32 4095) ?_; refine pr_ 12 176 (tb_ 32 8191) ?_; refine pr_ 13 177 (tb_ 32 16383) ?_; refine pl_ 14 178 (tb_ 32 32767) ?_; refine pl_ 15 179 (tb_ 32 65535) ?_; refine pl_ 17 181 (tb_ 32 196607) ?_; refine pl_ 18 182 (tb_ 32 458751) ?_; refine tk_ 16 180 (tb_ 32 524287) hHeld ?_
                 refine on_ 19 183 (tb_ 32 1048575) (fun K hK => ?_)
                 refine goes_ Tryz.func18 s13_ rfl #[.agg #[.int .i64 t543, .slice _ t544.length _], .int .i64 t547, .int .i64 x15_4] (by rfl) rfl rfl s1_ ?_
                 with_reducible refine (spec_IsBelow.calls k4 t543 _ _ t544 t547 x15_4 true _ ?side1 ?side2 A122.out).mono ?_
                 (case side1 => exact q21_6)
                 (case side2 => exact (Kd.R_reads' HO_550001.out).2.1)
                 rintro e w129 ⟨rfl, hb⟩
                 refine ⟨_, rfl, ?_⟩
                 have n0_ := Aside0.mk (Kd.R_below q21_20 hb); have n1_ := Aside0.mk (blk_below (g := gb549) (o := .cells #[.int .i64 t543, .slice Ao15 t544.length co15] 26 (0, 0)) q21_17 hb); have n2_ := Aside0.mk (below_step q21_12 hb); clear HO_550001; clear BK549; clear HB; have HO_550001 := n0_; have BK549 := n1_; have HB := n2_; clear n0_ n1_ n2_
                 (try clear hb)
                 (try clear hb2)
                 (try clear hk)
                 (try clear hi)
                 refine hK.out _ _ ⟨(blk_cell BK549.out 0).trans rfl, (blk_cell BK549.out 1).trans rfl⟩ (fun hHeld => ?_)
                 clear hK K
                 refine norm_ (a' := ?_) ?_ ?_
                 rotate_left
                 ·
                  show Act.put _ (some 183) _ = _
                  exact s8_
                 refine pl_ 20 184 (tb_ 32 2097151) ?_; refine pl_ 22 186 (tb_ 32 6291455) ?_; refine pl_ 23 187 (tb_ 32 14680063) ?_; refine pl_ 26 190 (tb_ 32 81788927) ?_; refine pl_ 27 191 (tb_ 32 216006655) ?_; refine tk_ 21 185 (tb_ 32 218103807) hHeld ?_; refine tk_ 25 189 (tb_ 32 251658239) hHeld ?_
                 refine on_ 24 188 (tb_ 32 268435455) (fun K hK => ?_)
                 refine goes_ Tryz.func18 s13_ rfl #[.agg #[.int .i64 t543, .slice _ t544.length _], .int .i64 t548, .int .i64 x15_4] (by rfl) rfl rfl s1_ ?_
                 with_reducible refine (spec_IsBelow.calls k4 t543 _ _ t544 t548 x15_4 t607 _ ?side1 ?side2 A124.out).mono ?_
                 (case side1 => exact q21_6)
                 (case side2 => exact (Kd.R_reads' HO_550001.out).2.1)
                 rintro e w130 ⟨rfl, hb⟩
                 refine ⟨_, rfl, ?_⟩
                 have n0_ := Aside0.mk (Kd.R_below q21_20 hb); have n1_ := Aside0.mk (blk_below (g := gb549) (o := .cells #[.int .i64 t543, .slice Ao15 t544.length co15] 26 (0, 0)) q21_17 hb); have n2_ := Aside0.mk (below_step q21_12 hb); clear HO_550001; clear BK549; clear HB; have HO_550001 := n0_; have BK549 := n1_; have HB := n2_; clear n0_ n1_ n2_
                 (try clear hb)
                 (try clear hb2)
                 (try clear hk)
                 (try clear hi)
                 refine hK.out _ _ ⟨(blk_cell BK549.out 0).trans rfl, (blk_cell BK549.out 1).trans rfl⟩ (fun hHeld => ?_)
                 clear hK K
                 refine norm_ (a' := ?_) ?_ ?_
                 rotate_left
                 ·
                  show Act.put _ (some 188) _ = _
                  exact s8_
                 refine on_ 28 192 (tb_ 32 536870911) (fun K hK => ?_)
                 refine goes_ Tryz.func18 s13_ rfl #[.agg #[.int .i64 t543, .slice _ t544.length _], .int .i64 t551, .int .i64 x15_4] (by rfl) rfl rfl s1_ ?_
                 with_reducible refine (spec_IsBelow.calls k4 t543 _ _ t544 t551 x15_4 t608 _ ?side1 ?side2 A125.out).mono ?_
                 (case side1 => exact q21_6)
                 (case side2 => exact (Kd.R_reads' HO_550001.out).2.1)
                 rintro e w131 ⟨rfl, hb⟩
                 refine ⟨_, rfl, ?_⟩
                 have n0_ := Aside0.mk (Kd.R_below q21_20 hb); have n1_ := Aside0.mk (blk_below (g := gb549) (o := .cells #[.int .i64 t543, .slice Ao15 t544.length co15] 26 (0, 0)) q21_17 hb); have n2_ := Aside0.mk (below_step q21_12 hb); clear HO_550001; clear BK549; clear HB; have HO_550001 := n0_; have BK549 := n1_; have HB := n2_; clear n0_ n1_ n2_
                 (try clear hb)
                 (try clear hb2)
                 (try clear hk)
                 (try clear hi)
                 refine hK.out _ _ ⟨(blk_cell BK549.out 0).trans rfl, (blk_cell BK549.out 1).trans rfl⟩ (fun hHeld => ?_)
                 clear hK K
                 refine norm_ (a' := ?_) ?_ ?_
                 rotate_left
                 ·
                  show Act.put _ (some 192) _ = _
                  exact s8_
                 refine pl_ 29 193 (tb_ 32 1073741823) ?_; refine pl_ 30 194 (tb_ 32 2147483647) ?_; refine pl_ 31 195 (tb_ 32 4294967295) ?_
                 refine done_ (done_of HT_.out s13_) ?_
                 try go_wp2
                 go_roundg k4
                 case measure => have := HJ10.out; have := HK2.out; have := HJ90.out; have := HK4.out; omega
                 case rel => exact ⟨(wrap64 (x15_4 + 1)), s3_, H', ⟨by have := HJ10.out; have := HK2.out; have := HJ90.out; have := HK4.out; omega⟩, ⟨q21_20⟩, ⟨q21_17⟩, ⟨q21_12⟩⟩
               ·
                replace c123 := Bool.eq_false_iff.mpr c123; subst c123
                rw [if_neg (show ¬ (false = true) by decide)] at H
                have H' := Aside0.mk H; clear H
                try go_wp2
                have n0_ := Aside0.mk (Kd.R_drew HO_550001.out); have n1_ := Aside0.mk (blk_drew BK549.out); have n2_ := Aside0.mk (below_drew1 HB.out); clear HO_550001; clear BK549; clear HB; have HO_550001 := n0_; have BK549 := n1_; have HB := n2_; clear n0_ n1_ n2_
                refine start_ (n := 32) (S := fun w' => w'.cell? ⟨gb549, 0, none⟩ = some (.int .i64 t543) ∧ w'.cell? ⟨gb549, 1, none⟩ = some (.slice Ao15 t544.length co15)) (ds := []) (tb_ 32 0) s13_ rfl rfl ⟨(blk_cell BK549.out 0).trans rfl, (blk_cell BK549.out 1).trans rfl⟩ (fun hHeld => ?_); refine with_tabW laws_FnLattice.tab23 laws_FnLattice.bits23 (fun HT_ HW_ => ?_)
                generalize wr.drew = w132 at HO_550001 BK549 HB hHeld ⊢
                refine pl_ 1 165 (tb_ 32 2) ?_; refine pl_ 2 166 (tb_ 32 6) ?_; refine tk_ 0 164 (tb_ 32 7) hHeld ?_
                refine on_ 3 167 (tb_ 32 15) (fun K hK => ?_)
                refine goes_ Tryz.func18 s13_ rfl #[.agg #[.int .i64 t543, .slice _ t544.length _], .int .i64 x15_4, .int .i64 t547] (by rfl) rfl rfl s1_ ?_
                with_reducible refine (spec_IsBelow.calls k4 t543 _ _ t544 x15_4 t547 false _ ?side1 ?side2 A100.out).mono ?_
                (case side1 => exact q21_6)
                (case side2 => exact (Kd.R_reads' HO_550001.out).2.1)
                rintro e w133 ⟨rfl, hb⟩
                refine ⟨_, rfl, ?_⟩
                have n0_ := Aside0.mk (Kd.R_below q21_20 hb); have n1_ := Aside0.mk (blk_below (g := gb549) (o := .cells #[.int .i64 t543, .slice Ao15 t544.length co15] 26 (0, 0)) q21_17 hb); have n2_ := Aside0.mk (below_step q21_12 hb); clear HO_550001; clear BK549; clear HB; have HO_550001 := n0_; have BK549 := n1_; have HB := n2_; clear n0_ n1_ n2_
                (try clear hb)
                (try clear hb2)
                (try clear hk)
                (try clear hi)
                refine hK.out _ _ ⟨(blk_cell BK549.out 0).trans rfl, (blk_cell BK549.out 1).trans rfl⟩ (fun hHeld => ?_)
                clear hK K
                refine norm_ (a' := ?_) ?_ ?_
                rotate_left
                ·
                 show Act.put _ (some 167) _ = _
                 exact s8_
                refine pl_ 4 168 (tb_ 32 31) ?_; refine pr_ 5 169 (tb_ 32 63) ?_; refine pr_ 6 170 (tb_ 32 127) ?_; refine pr_ 7 171 (tb_ 32 255) ?_; refine pr_ 8 172 (tb_ 32 511) ?_; refine pr_ 9 173 (tb_ 32 1023) ?_; refine pr_ 10 174 (tb_ 32 2047) ?_; refine pr_ 11 175 (tb_ 32 4095) ?_; refine pr_ 12 176 (tb_ 32 8191) ?_; refine pr_ 13 177 (tb_ 32 16383) ?_; refine pl_ 14 178 (tb_ 32 32767) ?_; refine pl_ 15 179 (tb_ 32 65535) ?_; refine pl_ 17 181 (tb_ 32 196607) ?_; refine pl_ 18 182 (tb_ 32 458751) ?_; refine tk_ 16 180 (tb_ 32 524287) hHeld ?_
                refine on_ 19 183 (tb_ 32 1048575) (fun K hK => ?_)
                refine goes_ Tryz.func18 s13_ rfl #[.agg #[.int .i64 t543, .slice _ t544.length _], .int .i64 t547, .int .i64 x15_4] (by rfl) rfl rfl s1_ ?_
                with_reducible refine (spec_IsBelow.calls k4 t543 _ _ t544 t547 x15_4 false _ ?side1 ?side2 A122.out).mono ?_
                (case side1 => exact q21_6)
                (case side2 => exact (Kd.R_reads' HO_550001.out).2.1)
                rintro e w134 ⟨rfl, hb⟩
                refine ⟨_, rfl, ?_⟩
                have n0_ := Aside0.mk (Kd.R_below q21_20 hb); have n1_ := Aside0.mk (blk_below (g := gb549) (o := .cells #[.int .i64 t543, .slice Ao15 t544.length co15] 26 (0, 0)) q21_17 hb); have n2_ := Aside0.mk (below_step q21_12 hb); clear HO_550001; clear BK549; clear HB; have HO_550001 := n0_; have BK549 := n1_; have HB := n2_; clear n0_ n1_ n2_
                (try clear hb)
                (try clear hb2)
                (try clear hk)
                (try clear hi)
                refine hK.out _ _ ⟨(blk_cell BK549.out 0).trans rfl, (blk_cell BK549.out 1).trans rfl⟩ (fun hHeld => ?_)
                clear hK K
                refine norm_ (a' := ?_) ?_ ?_
                rotate_left
                ·
                 show Act.put _ (some 183) _ = _
                 exact s8_
                refine pl_ 20 184 (tb_ 32 2097151) ?_; refine pr_ 21 185 (tb_ 32 4194303) ?_; refine pr_ 22 186 (tb_ 32 8388607) ?_; refine pr_ 23 187 (tb_ 32 16777215) ?_; refine pr_ 24 188 (tb_ 32 33554431) ?_; refine pr_ 25 189 (tb_ 32 67108863) ?_; refine pr_ 26 190 (tb_ 32 134217727) ?_; refine pr_ 27 191 (tb_ 32 268435455) ?_; refine pr_ 28 192 (tb_ 32 536870911) ?_; refine pr_ 29 193 (tb_ 32 1073741823) ?_; refine pl_ 30 194 (tb_ 32 2147483647) ?_; refine pl_ 31 195 (tb_ 32 4294967295) ?_
                refine done_ (done_of HT_.out s13_) ?_
                try go_wp2
                go_roundg k4
                case measure => have := HJ10.out; have := HK2.out; have := HJ90.out; have := HK4.out; omega
                case rel => exact ⟨(wrap64 (x15_4 + 1)), s3_, H', ⟨by have := HJ10.out; have := HK2.out; have := HJ90.out; have := HK4.out; omega⟩, ⟨q21_20⟩, ⟨q21_17⟩, ⟨q21_12⟩⟩
             ·
              rw [if_neg c99] at H; have c99b0 : decide (x15_4 < (t597.length : Int)) = false := decide_eq_false c99; clear c99; obtain ⟨t609, A135, H⟩ := bnd21_ H
              by_cases c136 : t609 = true
              ·
               subst c136; rw [if_pos rfl] at H; obtain ⟨t610, A137, H⟩ := bnd21_ H
               by_cases c138 : t610 = true
               ·
                subst c138; rw [if_pos rfl] at H; obtain ⟨t611, A139, H⟩ := bnd21_ H
                by_cases c140 : t611 = true
                ·
                 subst c140; rw [if_pos rfl] at H; obtain ⟨t612, A141, H⟩ := bnd21_ H; obtain rfl := Option.some.inj H; have hcz142_0 : wr.cell? ⟨gb549, 0, none⟩ = some (.int .i64 t543) := (blk_cell BK549.out 0).trans rfl; have hcz142_1 : wr.cell? ⟨gb549, 1, none⟩ = some (.slice Ao15 t544.length co15) := (blk_cell BK549.out 1).trans rfl; have hfz142_0 := blk_frozen BK549.out 0; have hfz142_1 := blk_frozen BK549.out 1
                 go_wp2_with (first | ((with_reducible refine gate_callee (f := 17) rfl ?_); refine gL_ 17 199 Tryz.func17 #[.agg #[.int .i64 t543, .slice Ao15 t544.length co15], .int .i64 t550, .int .i64 t547] ?_; (with_reducible refine (impl_IsBelow.calls k4 t543 _ _ t544 t550 t547 true _ ?side1 ?side2 ?tab A135.out).mono ?_); (case tab => first | exact HTB.out | (refine Tab64.below HTB.out ?_; repeat (first | (with_reducible first | exact HB.out | apply below_alloc | apply pw_below_drewN | apply below_drew1 | refine below_set ?_ GE549.out | refine below_set ?_ GE557.out | refine below_set ?_ GE568.out) | exact HB.out)) | (repeat (first | exact HTB.out | apply Tab64.drewN | apply Tab64.drew | apply Tab64.alloc))); (case side1 => exact q21_6); (case side2 => exact (Kd.R_reads' HO_550001.out).2.1); rintro e w143 ⟨rfl, hb⟩; refine ⟨_, rfl, ?_⟩; have n_ := ac_ (Kd.R_below q21_20 hb) <| ac_ (blk_below (g := gb549) (o := .cells #[.int .i64 t543, .slice Ao15 t544.length co15] 26 (0, 0)) q21_17 hb) <| Aside0.mk (below_step q21_12 hb); clear HO_550001 BK549 HB; obtain ⟨HO_550001, BK549, HB⟩ := n_; (try clear hb); have hcz144_0 : w143.cell? ⟨gb549, 0, none⟩ = some (.int .i64 t543) := (blk_cell BK549.out 0).trans rfl; have hcz144_1 : w143.cell? ⟨gb549, 1, none⟩ = some (.slice Ao15 t544.length co15) := (blk_cell BK549.out 1).trans rfl; have hfz144_0 := blk_frozen BK549.out 0; have hfz144_1 := blk_frozen BK549.out 1) | (go_at_call 17; (with_reducible refine (impl_IsBelow.calls k4 t543 _ _ t544 t550 t548 true _ ?side1 ?side2 ?tab A137.out).mono ?_); (case tab => first | exact HTB.out | (refine Tab64.below HTB.out ?_; repeat (first | (with_reducible first | exact HB.out | apply below_alloc | apply pw_below_drewN | apply below_drew1 | refine below_set ?_ GE549.out | refine below_set ?_ GE557.out | refine below_set ?_ GE568.out) | exact HB.out)) | (repeat (first | exact HTB.out | apply Tab64.drewN | apply Tab64.drew | apply Tab64.alloc))); (case side1 => exact q21_6); (case side2 => exact (Kd.R_reads' HO_550001.out).2.1); rintro e w145 ⟨rfl, hb⟩; have n_ := ac_ (Kd.R_below q21_20 hb) <| ac_ (blk_below (g := gb549) (o := .cells #[.int .i64 t543, .slice Ao15 t544.length co15] 26 (0, 0)) q21_17 hb) <| Aside0.mk (below_step q21_12 hb); clear HO_550001 BK549 HB; obtain ⟨HO_550001, BK549, HB⟩ := n_; (try clear hb); have hcz146_0 : w145.cell? ⟨gb549, 0, none⟩ = some (.int .i64 t543) := (blk_cell BK549.out 0).trans rfl; have hcz146_1 : w145.cell? ⟨gb549, 1, none⟩ = some (.slice Ao15 t544.length co15) := (blk_cell BK549.out 1).trans rfl; have hfz146_0 := blk_frozen BK549.out 0; have hfz146_1 := blk_frozen BK549.out 1) | (go_at_call 17; (with_reducible refine (impl_IsBelow.calls k4 t543 _ _ t544 t547 t551 true _ ?side1 ?side2 ?tab A139.out).mono ?_); (case tab => first | exact HTB.out | (refine Tab64.below HTB.out ?_; repeat (first | (with_reducible first | exact HB.out | apply below_alloc | apply pw_below_drewN | apply below_drew1 | refine below_set ?_ GE549.out | refine below_set ?_ GE557.out | refine below_set ?_ GE568.out) | exact HB.out)) | (repeat (first | exact HTB.out | apply Tab64.drewN | apply Tab64.drew | apply Tab64.alloc))); (case side1 => exact q21_6); (case side2 => exact (Kd.R_reads' HO_550001.out).2.1); rintro e w147 ⟨rfl, hb⟩; have n_ := ac_ (Kd.R_below q21_20 hb) <| ac_ (blk_below (g := gb549) (o := .cells #[.int .i64 t543, .slice Ao15 t544.length co15] 26 (0, 0)) q21_17 hb) <| Aside0.mk (below_step q21_12 hb); clear HO_550001 BK549 HB; obtain ⟨HO_550001, BK549, HB⟩ := n_; (try clear hb); have hcz148_0 : w147.cell? ⟨gb549, 0, none⟩ = some (.int .i64 t543) := (blk_cell BK549.out 0).trans rfl; have hcz148_1 : w147.cell? ⟨gb549, 1, none⟩ = some (.slice Ao15 t544.length co15) := (blk_cell BK549.out 1).trans rfl; have hfz148_0 := blk_frozen BK549.out 0; have hfz148_1 := blk_frozen BK549.out 1) | (go_at_call 17; (with_reducible refine (impl_IsBelow.calls k4 t543 _ _ t544 t548 t551 t612 _ ?side1 ?side2 ?tab A141.out).mono ?_); (case tab => first | exact HTB.out | (refine Tab64.below HTB.out ?_; repeat (first | (with_reducible first | exact HB.out | apply below_alloc | apply pw_below_drewN | apply below_drew1 | refine below_set ?_ GE549.out | refine below_set ?_ GE557.out | refine below_set ?_ GE568.out) | exact HB.out)) | (repeat (first | exact HTB.out | apply Tab64.drewN | apply Tab64.drew | apply Tab64.alloc))); (case side1 => exact q21_6); (case side2 => exact (Kd.R_reads' HO_550001.out).2.1); rintro e w149 ⟨rfl, hb⟩; have n_ := ac_ (Kd.R_below q21_20 hb) <| ac_ (blk_below (g := gb549) (o := .cells #[.int .i64 t543, .slice Ao15 t544.length co15] 26 (0, 0)) q21_17 hb) <| Aside0.mk (below_step q21_12 hb); clear HO_550001 BK549 HB; obtain ⟨HO_550001, BK549, HB⟩ := n_; (try clear hb)))
                 go_ret
                 exact ⟨s5_, q21_12⟩
                ·
                 replace c140 := Bool.eq_false_iff.mpr c140; subst c140
                 rw [if_neg (show ¬ (false = true) by decide)] at H
                 exact absurd ((Option.some.inj H).trans HRT.out) Bool.false_ne_true
               ·
                replace c138 := Bool.eq_false_iff.mpr c138; subst c138
                rw [if_neg (show ¬ (false = true) by decide)] at H
                exact absurd ((Option.some.inj H).trans HRT.out) Bool.false_ne_true
              ·
               replace c136 := Bool.eq_false_iff.mpr c136; subst c136
               rw [if_neg (show ¬ (false = true) by decide)] at H
               exact absurd ((Option.some.inj H).trans HRT.out) Bool.false_ne_true
end Go.Proofs.YtfmpafgmcleogaaGreatDoor.Pr
