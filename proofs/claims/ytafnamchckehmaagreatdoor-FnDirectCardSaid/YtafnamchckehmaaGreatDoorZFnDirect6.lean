/- What the law needs of the program's functions as plain functions, of the proofs that their calls answer so, and of plain laws: gathered by a program of this place (pack.py) out of its printed texts. No condition beyond what each statement says. -/
import Derived.Test.YtafnamchckehmaaGreatDoorZFnDirect2
import Derived.Test.YtafnamchckehmaaGreatDoorZFnDirect5
namespace Go.Proofs.YtafnamchckehmaaGreatDoor.Pr
open Go.RowKit Go.Proofs.YtafnamchckehmaaGreatDoorW.PrintWords Go.Proofs.YtafnamchckehmaaGreatDoorW.PrintLast Go.Proofs.YtafnamchckehmaaGreatDoorW.PrintMore
attribute [local go_sem] max2_int min2_int max_two min_two max_three min_three max_four min_four
set_option linter.unusedVariables false
set_option linter.unusedSimpArgs false
theorem bnd6_ {α β : Type} {o : Option α} {f : α → Option β} {r : β} (h : o.bind f = some r) : ∃ a, Aside0 (o = some a) ∧ f a = some r := by
 obtain ⟨a, h1, h2⟩ := Option.bind_eq_some_iff.mp h
 exact ⟨a, ⟨h1⟩, h2⟩
def spec_l2Bent.f (s0_0 : List Int) (s0_1 : Int) (s0_2 : Int) : Option (Int × Int × Int) := (spec_l1Once.f s0_0 s0_1 s0_2 8).bind fun bt254 => (if bt254.1 = true then ((spec_l1PickInt.f s0_0 bt254.2.1 bt254.2.2 (([(-1), 256, 1000, (-9223372036854775808)] : List Int))).bind fun bt260 => (some (bt260.1, bt260.2.1, bt260.2.2))) else ((spec_l1Below.f s0_0 bt254.2.1 bt254.2.2 256).bind fun bt263 => (some (bt263.1, bt263.2.1, bt263.2.2))))
set_option maxHeartbeats 8000000 in
set_option maxRecDepth 100000 in
theorem spec_l2Bent.calls (g : Nat) (s0_0 : List Int) (s0_1 : Int) (s0_2 : Int) (r1 : Int) (r2 : Int) (r3 : Int) (w0 w : World) (hI : IsS152 w0 w g s0_0 s0_1 s0_2) (hB : Below w0.heap.size w0 w) (h : spec_l2Bent.f s0_0 s0_1 s0_2 = some (r1, r2, r3)) :
  Calls Tryz.prog 176 #[.pointer (some ⟨g, 0, none⟩)] w fun e w' => e = .returned (.int .i64 r1) ∧ IsS152 w0 w' g s0_0 r2 r3 ∧ Below w0.heap.size w0 w' ∧ KeepBut w w' g none := by
 have HI0 := Aside0.mk hI; have HK := Aside0.mk (KeepBut.refl w g none); have HL := Aside0.mk hB.size; clear hI; have HW0 := Aside0.mk hB.size; have HB := Aside0.mk hB; clear hB; have H := h; clear h; unfold spec_l2Bent.f at H; obtain ⟨⟨t254, t255, t256⟩, A2, H⟩ := bnd6_ H; dsimp only at H
 by_cases c3 : t254 = true
 ·
  subst c3; rw [if_pos rfl] at H; obtain ⟨y257, hy257⟩ : ∃ y_ : List Int, y_ = (([(-1), 256, 1000, (-9223372036854775808)] : List Int)) := ⟨_, rfl⟩
  replace H : ((spec_l1PickInt.f s0_0 t255 t256 y257).bind fun bt260 => (some (bt260.1, bt260.2.1, bt260.2.2))) = some (r1, r2, r3) := by first | (rw [hy257]; with_reducible exact H) | (have H2_ := (Option.bind_some _ _).symm.trans H; rw [hy257]; with_reducible exact H2_) | (have H2_ := (Option.bind_some _ _).symm.trans H; with_reducible exact H2_) | with_reducible exact H | (rw [hy257]; exact H) | exact H
  have Ny257 := Aside0.mk hy257; clear hy257; obtain ⟨⟨t260, t261, t262⟩, A4, H⟩ := bnd6_ H; dsimp only at H
  simp only [Option.some.injEq, Prod.mk.injEq] at H
  obtain ⟨rfl, rfl, rfl⟩ := H
  go_enter Tryz.func176, Tryz.ntmps176
  go_wp2_with (first | (refine gL_ 145 4 Tryz.func145 #[.pointer (some ⟨g, 0, none⟩), .int .i64 8] ?_; (with_reducible refine (spec_l1Once.calls g s0_0 s0_1 s0_2 8 true t255 t256 w0 _ ?side1 ?side2 A2.out).mono ?_); (case side1 => exact s5_); (case side2 => exact s11_); rintro e w5 ⟨rfl, hi, hb, hk⟩; refine ⟨_, rfl, ?_⟩; have n_ := ac_ (KeepBut.trans s6_ hk (.inl rfl)) <| ac_ (hb) <| Aside0.mk (hi); clear HK HB HI0; obtain ⟨HK, HB, HI0⟩ := n_; (try clear hb hk hi)) | ((with_reducible refine gate_dst (N := 6) rfl ?_); refine Kd.R_lit (Kd.int .i64) _ 3 ?hg (N := 6) ?hd (xs := ([(-1), 256, 1000, (-9223372036854775808)] : List Int)) (inner := [.int .i64 (-1), .int .i64 256, .int .i64 1000, .int .i64 (-9223372036854775808)]) (ok := fun _ => True) (okp := fun _ => True) ?hr ?hp (fun _ hk => hk) trivial (Below.refl _ _) (Nat.le_refl _) (by simp) ?_; (case hd => rfl); (case hg => rfl); (case hr => first | (go_simp; done) | (go_simp; rfl)); (case hp => exact (Reps.one (show Kd.M (Kd.int .i64) _ _ _ (-1) [.int .i64 (-1)] from rfl) (Reps.one (show Kd.M (Kd.int .i64) _ _ _ 256 [.int .i64 256] from rfl) (Reps.one (show Kd.M (Kd.int .i64) _ _ _ 1000 [.int .i64 1000] from rfl) (Reps.one (show Kd.M (Kd.int .i64) _ _ _ (-9223372036854775808) [.int .i64 (-9223372036854775808)] from rfl) (Reps.none _ _)))))); intro v258 w6 ho7 hb hg_ hnew_; clear hg_ hnew_; (first | rw [← Ny257.out] at ho7 | (simp only [Int.reduceToNat] at ho7; rw [← Ny257.out] at ho7)); have n_ := ac_ (Kd.R_lower ho7 (keep_size (w := w) (g := g) (row := none) s6_)) <| ac_ (IsS152.below s5_ hb) <| ac_ (KeepBut.trans s6_ (KeepBut.of_below hb g none) (.inl rfl)) <| Aside0.mk (below_step s11_ hb); clear HI0 HK HB; obtain ⟨HO259, HI0, HK, HB⟩ := n_; clear hb ho7; obtain ⟨Ao8, co8, eo8⟩ := Kd.R_slice HO259.out; subst eo8) | (refine gL_ 147 7 Tryz.func147 #[.pointer (some ⟨g, 0, none⟩), .slice Ao8 y257.length co8] ?_; (with_reducible refine (spec_l1PickInt.calls g s0_0 t255 t256 _ _ y257 t260 t261 t262 w0 _ ?side1 ?side2 ?side3 ?side4 ?side5 A4.out).mono ?_); (case side1 => exact s5_); (case side2 => exact s11_); (case side3 => repeat (first | exact (Kd.R_reads' HO259.out).2.2 | (with_reducible refine Kd.C_alloc ?_ _) | (with_reducible refine Kd.C_drewN ?_ _) | (with_reducible refine Kd.C_drew ?_))); (case side4 => exact (Kd.R_reads' HO259.out).2.1); (case side5 => exact far_slice (IsS152.own_ne HI0.out HO259.out (by decide))); rintro e w9 ⟨rfl, hi, hb, hk⟩; refine ⟨_, rfl, ?_⟩; have n_ := ac_ (Kd.R_mono (Kd.R_keep (IsS152.apart (show IsS152 w0 _ g s0_0 t255 t256 from s5_) (by (with_reducible repeat (first | apply Kd.R_alloc | apply Kd.R_drewN | apply Kd.R_drew)); exact HO259.out) (by decide)) hk (fun _ h => h.2)) (fun _ h => h.1)) <| ac_ (KeepBut.trans s6_ hk (.inl rfl)) <| ac_ (hb) <| Aside0.mk (hi); clear HO259 HK HB HI0; obtain ⟨HO259, HK, HB, HI0⟩ := n_; (try clear hb hk hi)))
  go_ret
  exact ⟨(by first | rfl | (simp [errW_none, errW_some] <;> rfl) | (simp [*, errW_none, errW_some] <;> rfl)), s5_, s11_, s6_⟩
 ·
  replace c3 := Bool.eq_false_iff.mpr c3; subst c3
  rw [if_neg (show ¬ (false = true) by decide)] at H
  obtain ⟨⟨t263, t264, t265⟩, A10, H⟩ := bnd6_ H; dsimp only at H
  simp only [Option.some.injEq, Prod.mk.injEq] at H
  obtain ⟨rfl, rfl, rfl⟩ := H
  go_enter Tryz.func176, Tryz.ntmps176
  go_wp2_with (first | (refine gL_ 145 4 Tryz.func145 #[.pointer (some ⟨g, 0, none⟩), .int .i64 8] ?_; (with_reducible refine (spec_l1Once.calls g s0_0 s0_1 s0_2 8 false t255 t256 w0 _ ?side1 ?side2 A2.out).mono ?_); (case side1 => exact s5_); (case side2 => exact s11_); rintro e w11 ⟨rfl, hi, hb, hk⟩; refine ⟨_, rfl, ?_⟩; have n_ := ac_ (KeepBut.trans s6_ hk (.inl rfl)) <| ac_ (hb) <| Aside0.mk (hi); clear HK HB HI0; obtain ⟨HK, HB, HI0⟩ := n_; (try clear hb hk hi)) | (refine gL_ 146 9 Tryz.func146 #[.pointer (some ⟨g, 0, none⟩), .int .i64 256] ?_; (with_reducible refine (spec_l1Below.calls g s0_0 t255 t256 256 t263 t264 t265 w0 _ ?side1 ?side2 A10.out).mono ?_); (case side1 => exact s5_); (case side2 => exact s11_); rintro e w12 ⟨rfl, hi, hb, hk⟩; refine ⟨_, rfl, ?_⟩; have n_ := ac_ (KeepBut.trans s6_ hk (.inl rfl)) <| ac_ (hb) <| Aside0.mk (hi); clear HK HB HI0; obtain ⟨HK, HB, HI0⟩ := n_; (try clear hb hk hi)))
  go_ret
  exact ⟨(by first | rfl | (simp [errW_none, errW_some] <;> rfl) | (simp [*, errW_none, errW_some] <;> rfl)), s5_, s11_, s6_⟩
theorem q6_5 {P : Prop} (h : P := by (with_reducible repeat (first | refine blk_drewN ?_ _ | refine blk_drew ?_ | refine blk_alloc ?_ _)); refine blk_put (cs := #[.int .i64 a1, u268001]) ?_ 1 _ rfl; (with_reducible repeat (first | refine blk_drewN ?_ _ | refine blk_drew ?_ | refine blk_alloc ?_ _)); exact BK267.out) : P := h
theorem q6_6 {P : Prop} (h : P := by (with_reducible repeat (first | refine blk_drewN ?_ _ | refine blk_drew ?_ | refine blk_alloc ?_ _)); refine blk_far ?_ NB266_267.out _; (with_reducible repeat (first | refine blk_drewN ?_ _ | refine blk_drew ?_ | refine blk_alloc ?_ _)); exact BK266.out) : P := h
theorem q6_7 {P : Prop} (h : P := by repeat (first | (with_reducible first | exact HI0.out | apply IsS152.alloc | apply IsS152.drewN | apply IsS152.drew | apply IsS152.set_1 | apply IsS152.set_2 | refine IsS152.far ?_ NB0_266.out _ | refine IsS152.far ?_ NB0_267.out _) | exact HI0.out)) : P := h
theorem q6_8 {P : Prop} (h : P := by repeat (first | (with_reducible first | exact HB.out | apply below_alloc | apply pw_below_drewN | apply below_drew1 | refine below_set ?_ (IsS152.ge HI0.out) | refine below_set ?_ GE266.out | refine below_set ?_ GE267.out) | exact HB.out)) : P := h
theorem q6_9 {P : Prop} (h : P := by repeat (first | (with_reducible first | exact HI0.out | apply IsS152.alloc | apply IsS152.drewN | apply IsS152.drew | apply IsS152.set_1 | apply IsS152.set_2 | refine IsS152.far ?_ NB0_266.out _) | exact HI0.out)) : P := h
theorem q6_10 {P : Prop} (h : P := by repeat (first | (with_reducible first | exact HK.out | apply KeepBut.set_ | apply keep_drewN | apply keep_drew | apply keep_alloc | refine keep_far ?_ GW266.out _ | refine keep_far ?_ GW267.out _) | exact HK.out)) : P := h
theorem q6_11 {P : Prop} (h : P := by repeat (first | (with_reducible first | exact HK.out | apply KeepBut.set_ | apply keep_drewN | apply keep_drew | apply keep_alloc | refine keep_far ?_ GW266.out _) | exact HK.out)) : P := h
theorem q6_13 {P : Prop} (h : P := by (try simp only [List.map_toArray, List.map_cons, List.map_nil]); first | done | (simp only [hji27]; rfl) | rfl | (simp only [List.length_drop, List.length_take]; rfl)) : P := h
theorem q6_16 {P : Prop} (h : P := by (with_reducible repeat (first | refine blk_drewN ?_ _ | refine blk_drew ?_ | refine blk_alloc ?_ _)); exact BK266.out) : P := h
theorem q6_17 {P : Prop} (h : P := by (with_reducible repeat (first | refine blk_drewN ?_ _ | refine blk_drew ?_ | refine blk_alloc ?_ _)); exact BK267.out) : P := h
theorem q6_18 {P : Prop} (h : P := by (with_reducible repeat (first | apply Kd.R_alloc | apply Kd.R_drewN | apply Kd.R_drew)); exact HO_268001.out) : P := h
def spec_l3Make.l0 : Nat → Int → Int → Int → List Int → Int → Int → Int → List Int → Option (Int × List Int × Int × Int)
 | 0, _, _, _, _, _, _, _, _ => none
 | k + 1, x1, x8, x9, x1000, x1001, x1002, x268000, x268001 => if x9 < x8 then ((spec_l1Once.f x1000 x1001 x1002 2).bind fun bt271 => (if bt271.1 = true then (if 0 ≤ (IntKind.u64.wrap (x1)) then ((spec_l1Below.f x1000 bt271.2.1 bt271.2.2 (shl .i64 1 (IntKind.u64.wrap (x1)))).bind fun bt274 => (if x268001.length < 17592186044416 then (spec_l3Make.l0 k x1 x8 (wrap64 (x9 + 1)) x1000 bt274.2.1 bt274.2.2 x268000 (x268001 ++ [bt274.1])) else (none))) else (none)) else (if 0 ≤ (IntKind.u64.wrap (x1)) then ((spec_l1Below.f x1000 bt271.2.1 bt271.2.2 (shl .i64 1 (IntKind.u64.wrap (x1)))).bind fun bt280 => ((spec_l1Below.f x1000 bt280.2.1 bt280.2.2 (shl .i64 1 (IntKind.u64.wrap (x1)))).bind fun bt283 => (if x268001.length < 17592186044416 then (spec_l3Make.l0 k x1 x8 (wrap64 (x9 + 1)) x1000 bt283.2.1 bt283.2.2 x268000 (x268001 ++ [Go.bits .or .i64 bt280.1 bt283.1])) else (none)))) else (none)))) else (some (x268000, x268001, x1001, x1002))
def spec_l3Make.f (k : Nat) (s0_0 : List Int) (s0_1 : Int) (s0_2 : Int) (a1 : Int) (a2 : Int) : Option (Int × List Int × Int × Int) := (spec_l1Below.f s0_0 s0_1 s0_2 (wrap64 (a2 + 1))).bind fun bt268 => (spec_l3Make.l0 k a1 bt268.1 0 s0_0 bt268.2.1 bt268.2.2 a1 ([] : List Int))
def spec_l3Make.T7 : Bool × List (List Nat × List Nat) := (true, [([], []), ([0], [0]), ([], []), ([], []), ([3], [3]), ([4], [4]), ([2, 5], [2, 5]), ([6], [6]), ([1, 7, 6], [1, 7]), ([0, 1, 2, 3, 4, 5, 6, 7, 8], []), ([9, 8, 8, 0, 1, 2, 3, 4, 5, 6, 7, 8], [8, 9])])
def spec_l3Make.B7 : List Nat := [0, 1, 0, 0, 8, 24, 60, 124, 255, 511, 1023]
theorem spec_l3Make.tab7 : rtab .any (opsOf Tryz.f245 7) = spec_l3Make.T7 := s12_
theorem spec_l3Make.bits7 : waitsOk spec_l3Make.T7.2 spec_l3Make.B7 = true := s12_
def spec_l3Make.T8 : Bool × List (List Nat × List Nat) := (true, [([], []), ([0], [0]), ([], []), ([], []), ([3], [3]), ([4], [4]), ([2, 5], [2, 5]), ([], []), ([], []), ([8], [8]), ([9], [9]), ([7, 10, 6], [7, 10]), ([6, 11], [6, 11]), ([12], [12]), ([1, 13, 11], [1, 13]), ([0, 1, 2, 3, 4, 5, 6, 7, 8, 9, 10, 11, 12, 13, 14], []), ([15, 14, 14, 0, 1, 2, 3, 4, 5, 6, 7, 8, 9, 10, 11, 12, 13, 14], [14, 15])])
def spec_l3Make.B8 : List Nat := [0, 1, 0, 0, 8, 24, 60, 0, 0, 256, 768, 2044, 4092, 8188, 16383, 32767, 65535]
theorem spec_l3Make.tab8 : rtab .any (opsOf Tryz.f245 8) = spec_l3Make.T8 := s12_
theorem spec_l3Make.bits8 : waitsOk spec_l3Make.T8.2 spec_l3Make.B8 = true := s12_
set_option maxHeartbeats 8000000 in
set_option maxRecDepth 100000 in
theorem spec_l3Make.calls (k : Nat) (g : Nat) (s0_0 : List Int) (s0_1 : Int) (s0_2 : Int) (a1 : Int) (a2 : Int) (r1 : Int) (r2 : List Int) (r3 : Int) (r4 : Int) (w0 w : World) (hI : IsS152 w0 w g s0_0 s0_1 s0_2) (hB : Below w0.heap.size w0 w) (h : spec_l3Make.f k s0_0 s0_1 s0_2 a1 a2 = some (r1, r2, r3, r4)) :
  Calls Tryz.prog 245 #[.pointer (some ⟨g, 0, none⟩), .int .i64 a1, .int .i64 a2] w fun e w' => ∃ v1_ : Value, e = .returned (.agg #[.int .i64 r1, v1_]) ∧ Kd.R (Kd.int .i64) 3 w' w.heap.size (fun _ => True) v1_ r2 ∧ IsS152 w0 w' g s0_0 r3 r4 ∧ Below w0.heap.size w0 w' ∧ KeepBut w w' g none := by
 have hu29 := Tryz.underlying29; have HI0 := Aside0.mk hI; have HK := Aside0.mk (KeepBut.refl w g none); have HL := Aside0.mk hB.size; clear hI; have HW0 := Aside0.mk hB.size; have HB := Aside0.mk hB; clear hB; have H := h; clear h; unfold spec_l3Make.f at H; obtain ⟨⟨t268, t269, t270⟩, A4, H⟩ := bnd6_ H; dsimp only at H; have H' := Aside0.mk H; clear H
 go_enter Tryz.func245, Tryz.ntmps245
 go_wp2_with (first | ((with_reducible refine gate_dst (N := 6) rfl ?_); refine box_event ?hg (N := 6) ?hd (cs := #[.int .i64 0, .slice none 0 0]) (t := 29) ?hr ?_; (case hd => rfl); (case hg => rfl); (case hr => first | (go_simp; done) | (go_simp; rfl)); intro gb266 hg w5 hbox hb; have n_ := ac_ (IsS152.below s5_ hb) <| ac_ (KeepBut.trans s6_ (KeepBut.of_below hb g none) (.inl rfl)) <| ac_ (below_step (by repeat (first | (with_reducible first | exact HB.out | apply below_alloc | apply pw_below_drewN | apply below_drew1 | refine below_set ?_ (IsS152.ge HI0.out)) | exact HB.out)) hb) <| ac_ (hbox) <| ac_ ((by rw [hg]; exact (keep_size (w := w) (g := g) (row := none) s6_) : w.heap.size ≤ gb266)) <| ac_ ((Nat.le_trans HW0.out (by rw [hg]; exact (keep_size (w := w) (g := g) (row := none) s6_) : w.heap.size ≤ gb266) : w0.heap.size ≤ gb266)) <| ac_ ((by rw [hg]; exact Nat.ne_of_lt (IsS152.lt (show IsS152 w0 _ g s0_0 s0_1 s0_2 from s5_)) : g ≠ gb266)) <| Aside0.mk ((by rw [hg]; exact Nat.ne_of_gt (IsS152.lt (show IsS152 w0 _ g s0_0 s0_1 s0_2 from s5_)) : gb266 ≠ g)); clear HI0 HK HB; obtain ⟨HI0, HK, HB, BK266, GW266, GE266, NB0_266, NB266_0⟩ := n_; clear hb hbox hg) | ((with_reducible refine gate_dst (N := 7) rfl ?_); refine box_event ?hg (N := 7) ?hd (cs := #[.int .i64 0, .slice none 0 0]) (t := 29) ?hr ?_; (case hd => rfl); (case hg => rfl); (case hr => first | (go_simp; done) | (go_simp; rfl)); intro gb267 hg w6 hbox hb; have n_ := ac_ (IsS152.below q6_9 hb) <| ac_ (blk_below (g := gb266) (o := .cells #[.int .i64 0, .slice none 0 0] 29 (0, 0)) q6_16 hb) <| ac_ (KeepBut.trans q6_11 (KeepBut.of_below hb g none) (.inl rfl)) <| ac_ (below_step (by repeat (first | (with_reducible first | exact HB.out | apply below_alloc | apply pw_below_drewN | apply below_drew1 | refine below_set ?_ (IsS152.ge HI0.out) | refine below_set ?_ GE266.out) | exact HB.out)) hb) <| ac_ (hbox) <| ac_ ((by rw [hg]; exact (keep_size (w := w) (g := g) (row := none) q6_11) : w.heap.size ≤ gb267)) <| ac_ ((Nat.le_trans HW0.out (by rw [hg]; exact (keep_size (w := w) (g := g) (row := none) q6_11) : w.heap.size ≤ gb267) : w0.heap.size ≤ gb267)) <| ac_ ((by rw [hg]; exact Nat.ne_of_lt (blk_lt (g := gb266) (o := .cells #[.int .i64 0, .slice none 0 0] 29 (0, 0)) q6_16) : gb266 ≠ gb267)) <| ac_ ((by rw [hg]; exact Nat.ne_of_gt (blk_lt (g := gb266) (o := .cells #[.int .i64 0, .slice none 0 0] 29 (0, 0)) q6_16) : gb267 ≠ gb266)) <| ac_ ((by rw [hg]; exact Nat.ne_of_lt (IsS152.lt (show IsS152 w0 _ g s0_0 s0_1 s0_2 from q6_9)) : g ≠ gb267)) <| Aside0.mk ((by rw [hg]; exact Nat.ne_of_gt (IsS152.lt (show IsS152 w0 _ g s0_0 s0_1 s0_2 from q6_9)) : gb267 ≠ g)); clear HI0 BK266 HK HB; obtain ⟨HI0, BK266, HK, HB, BK267, GW267, GE267, NB266_267, NB267_266, NB0_267, NB267_0⟩ := n_; clear hb hbox hg; have hnb7 := NB267_266.out; have hnc7 := NB266_267.out; have hnb8 := NB267_0.out; have hnc8 := NB0_267.out; have hcz9_0 : w6.cell? ⟨gb267, 0, none⟩ = some (.int .i64 0) := (blk_cell BK267.out 0).trans rfl; have hcz9_1 : w6.cell? ⟨gb267, 1, none⟩ = some (.slice none 0 0) := (blk_cell BK267.out 1).trans rfl; have hfz9_0 := blk_frozen BK267.out 0; have hfz9_1 := blk_frozen BK267.out 1) | (refine gL_ 146 15 Tryz.func146 #[.pointer (some ⟨g, 0, none⟩), .int .i64 (wrap64 (a2 + 1))] ?_; (with_reducible refine (spec_l1Below.calls g s0_0 s0_1 s0_2 (wrap64 (a2 + 1)) t268 t269 t270 w0 _ ?side1 ?side2 A4.out).mono ?_); (case side1 => exact q6_7); (case side2 => exact q6_8); rintro e w10 ⟨rfl, hi, hb, hk⟩; refine ⟨_, rfl, ?_⟩; have n_ := ac_ (KeepBut.blk hk (g' := gb266) (o := .cells #[.int .i64 0, .slice none 0 0] 29 (0, 0)) (by (with_reducible repeat (first | refine blk_drewN ?_ _ | refine blk_drew ?_ | refine blk_alloc ?_ _)); refine blk_far ?_ NB266_267.out _; (with_reducible repeat (first | refine blk_drewN ?_ _ | refine blk_drew ?_ | refine blk_alloc ?_ _)); refine blk_far ?_ NB266_267.out _; (with_reducible repeat (first | refine blk_drewN ?_ _ | refine blk_drew ?_ | refine blk_alloc ?_ _)); exact BK266.out) NB266_0.out (by simp)) <| ac_ (KeepBut.blk hk (g' := gb267) (o := .cells #[.int .i64 a1, .slice none 0 0] 29 (0, 0)) (by (with_reducible repeat (first | refine blk_drewN ?_ _ | refine blk_drew ?_ | refine blk_alloc ?_ _)); refine blk_put (cs := #[.int .i64 a1, .slice none 0 0]) ?_ 1 _ rfl; (with_reducible repeat (first | refine blk_drewN ?_ _ | refine blk_drew ?_ | refine blk_alloc ?_ _)); refine blk_put (cs := #[.int .i64 0, .slice none 0 0]) ?_ 0 _ rfl; (with_reducible repeat (first | refine blk_drewN ?_ _ | refine blk_drew ?_ | refine blk_alloc ?_ _)); exact BK267.out) NB267_0.out (by simp)) <| ac_ (KeepBut.trans q6_10 hk (.inl rfl)) <| ac_ (hb) <| Aside0.mk (hi); clear BK266 BK267 HK HB HI0; obtain ⟨BK266, BK267, HK, HB, HI0⟩ := n_; (try clear hb hk hi)))
 go_loopg [9] k (fun kq v9 w' => ∃ (x9_1 : Int) (x1001_1 : Int) (x1002_1 : Int) (x268001_1 : List Int) (u268001 : Value), v9 = .int .i64 x9_1 ∧ Aside0 (spec_l3Make.l0 kq a1 t268 x9_1 s0_0 x1001_1 x1002_1 a1 x268001_1 = some (r1, r2, r3, r4)) ∧ Aside0 (kq ≤ k) ∧ Aside0 (Kd.R (Kd.int .i64) 3 w' w.heap.size (fun _ => True) u268001 x268001_1) ∧ Aside0 (w'.heap[gb266]? = some (.cells #[.int .i64 0, (.slice none 0 0)] 29 (0, 0))) ∧ Aside0 (w'.heap[gb267]? = some (.cells #[.int .i64 a1, u268001] 29 (0, 0))) ∧ Aside0 (IsS152 w0 w' g s0_0 x1001_1 x1002_1) ∧ Aside0 (KeepBut w w' g none) ∧ Aside0 (Below w0.heap.size w0 w'))
 case atStart => exact ⟨(0), (t269), (t270), (([] : List Int)), (.slice none 0 0), s2_, H', ⟨Nat.le_refl _⟩, ⟨(by first | exact Kd.R_nil _ _ _ _ _ | exact Kd.N_nil _ _ _ _ _ | exact Kd.V_nil _ _ _ _ _ | exact Kd.Q_nil _ _ _ _ _ | exact Kd.S_nil _ _ _ _ _)⟩, ⟨q6_16⟩, ⟨q6_17⟩, ⟨q6_7⟩, ⟨q6_10⟩, ⟨q6_8⟩⟩
 case round =>
  clear H'
  try clear c1
  try clear c2
  try clear p2
  try clear p6
  try clear c7
  try clear c8
  try clear hcz9_0
  try clear hcz9_1
  try clear hfz9_0
  try clear hfz9_1
  obtain ⟨x9_1, x1001_1, x1002_1, x268001_1, u268001, rfl, HA, HK1, HO_268001, BK266, BK267, HI0, HK, HB⟩ := hrel
  cases gk with
  | zero => exact absurd HA.out (by simp [spec_l3Make.l0])
  | succ k1 =>
   have H := HA.out; clear HA
   simp only [spec_l3Make.l0] at H
   by_cases c11 : x9_1 < t268
   ·
    rw [if_pos c11] at H; have c11b0 : decide (x9_1 < t268) = true := decide_eq_true c11; clear c11; obtain ⟨⟨t271, t272, t273⟩, A12, H⟩ := bnd6_ H; dsimp only at H
    by_cases c13 : t271 = true
    ·
     subst c13; rw [if_pos rfl] at H; obtain ⟨ji14, hji14⟩ : ∃ j_ : Int, (IntKind.u64.wrap (a1)) = j_ := ⟨_, rfl⟩
     replace H : (if 0 ≤ (ji14) then ((spec_l1Below.f s0_0 t272 t273 (shl .i64 1 (ji14))).bind fun bt274 => (if x268001_1.length < 17592186044416 then (spec_l3Make.l0 k1 a1 t268 (wrap64 (x9_1 + 1)) s0_0 bt274.2.1 bt274.2.2 a1 (x268001_1 ++ [bt274.1])) else (none))) else (none)) = some (r1, r2, r3, r4) := by first | (rw [hji14] at H; exact H) | (simp only [hji14] at H ⊢; exact H)
     (try rw [hji14] at A12)
     by_cases c15 : 0 ≤ (ji14)
     ·
      rw [if_pos c15] at H; have c15b0 := eq_true c15; have c15b1 : decide (0 ≤ (ji14)) = true := decide_eq_true c15; clear c15; obtain ⟨ji16, hji16⟩ : ∃ j_ : Int, (shl .i64 1 (ji14)) = j_ := ⟨_, rfl⟩
      replace H : ((spec_l1Below.f s0_0 t272 t273 (ji16)).bind fun bt274 => (if x268001_1.length < 17592186044416 then (spec_l3Make.l0 k1 a1 t268 (wrap64 (x9_1 + 1)) s0_0 bt274.2.1 bt274.2.2 a1 (x268001_1 ++ [bt274.1])) else (none))) = some (r1, r2, r3, r4) := by first | (rw [hji16] at H; exact H) | (simp only [hji16] at H ⊢; exact H)
      (try rw [hji16] at A12)
      have hji16_ : (IntKind.i64.wrap (1 * 2 ^ min (ji14).toNat 64)) = ji16 := hji16; have hji16z : (ji14) ≤ 64 → (IntKind.i64.wrap (1 * 2 ^ (ji14).toNat)) = ji16 := shl_small hji16
      have hji16u : (IntKind.i64.wrap (2 ^ min (ji14).toNat 64)) = ji16 := by have h_ := hji16_; rw [Int.one_mul] at h_; exact h_
      have hji16v : (ji14) ≤ 64 → (IntKind.i64.wrap (2 ^ (ji14).toNat)) = ji16 := fun hle_ => by have h_ := hji16z hle_; rw [Int.one_mul] at h_; exact h_
      have hji16y : (wrap64 (1 * 2 ^ min (ji14).toNat 64)) = ji16 := (i64_w _).symm.trans hji16_
      have hji16x : (ji14) ≤ 64 → (wrap64 (1 * 2 ^ (ji14).toNat)) = ji16 := fun h_ => (i64_w _).symm.trans (hji16z h_)
      obtain ⟨⟨t274, t275, t276⟩, A17, H⟩ := bnd6_ H; dsimp only at H
      by_cases c18 : x268001_1.length < 17592186044416
      ·
       rw [if_pos c18] at H; have LMc18 := Aside0.mk c18; clear c18; obtain ⟨y277, hy277⟩ : ∃ y_ : List Int, y_ = (x268001_1 ++ [t274]) := ⟨_, rfl⟩
       replace H : (spec_l3Make.l0 k1 a1 t268 (wrap64 (x9_1 + 1)) s0_0 t275 t276 a1 y277) = some (r1, r2, r3, r4) := by first | (rw [hy277]; with_reducible exact H) | (have H2_ := (Option.bind_some _ _).symm.trans H; rw [hy277]; with_reducible exact H2_) | (have H2_ := (Option.bind_some _ _).symm.trans H; with_reducible exact H2_) | with_reducible exact H | (rw [hy277]; exact H) | exact H
       have Ny277 := Aside0.mk hy277; clear hy277; have H' := Aside0.mk H; clear H
       try go_wp2_with (first | (refine gL_ 145 22 Tryz.func145 #[.pointer (some ⟨g, 0, none⟩), .int .i64 2] ?_; (with_reducible refine (spec_l1Once.calls g s0_0 x1001_1 x1002_1 2 true t272 t273 w0 _ ?side1 ?side2 A12.out).mono ?_); (case side1 => exact q6_7); (case side2 => exact q6_8); rintro e w19 ⟨rfl, hi, hb, hk⟩; refine ⟨_, rfl, ?_⟩; have n_ := ac_ (Kd.R_mono (Kd.R_keep (IsS152.apart (show IsS152 w0 _ g s0_0 x1001_1 x1002_1 from q6_7) q6_18 s15_) hk (fun _ h => h.2)) (fun _ h => h.1)) <| ac_ (KeepBut.blk hk (g' := gb266) (o := .cells #[.int .i64 0, .slice none 0 0] 29 (0, 0)) q6_16 NB266_0.out (by simp)) <| ac_ (KeepBut.blk hk (g' := gb267) (o := .cells #[.int .i64 a1, u268001] 29 (0, 0)) q6_17 NB267_0.out (by simp)) <| ac_ (KeepBut.trans q6_10 hk (.inl rfl)) <| ac_ (hb) <| Aside0.mk (hi); clear HO_268001 BK266 BK267 HK HB HI0; obtain ⟨HO_268001, BK266, BK267, HK, HB, HI0⟩ := n_; (try clear hb hk hi)))
       have n0_ := Aside0.mk (Kd.R_drew HO_268001.out); have n1_ := Aside0.mk (blk_drew BK266.out); have n2_ := Aside0.mk (blk_drew BK267.out); have n3_ := Aside0.mk (IsS152.drew HI0.out); have n4_ := Aside0.mk (keep_drew HK.out); have n5_ := Aside0.mk (below_drew1 HB.out); clear HO_268001; clear BK266; clear BK267; clear HI0; clear HK; clear HB; have HO_268001 := n0_; have BK266 := n1_; have BK267 := n2_; have HI0 := n3_; have HK := n4_; have HB := n5_; clear n0_ n1_ n2_ n3_ n4_ n5_
       refine start_ (n := 11) (S := fun w' => w'.cell? ⟨gb267, 0, none⟩ = some (.int .i64 a1) ∧ w'.cell? ⟨gb267, 1, none⟩ = some (u268001)) (ds := [10]) (tb_ 11 0) s12_ rfl rfl ⟨(blk_cell BK267.out 0).trans rfl, (blk_cell BK267.out 1).trans rfl⟩ (fun hHeld => ?_); refine with_tabW spec_l3Make.tab7 spec_l3Make.bits7 (fun HT_ HW_ => ?_)
       generalize w19.drew = w20 at HO_268001 BK266 BK267 HI0 HK HB hHeld ⊢
       refine pl_ 0 23 (tb_ 11 1) ?_; refine pl_ 2 25 (tb_ 11 5) ?_; refine pl_ 3 26 (tb_ 11 13) ?_; refine pl_ 4 27 (tb_ 11 29) ?_; refine pl_ 5 28 (tb_ 11 61) ?_
       refine take_ (i := 1) (N := some 24) (v := ?_) (a' := ?_) (tb_ 11 63) rfl rfl (take_ofW HT_.out HW_.out s12_) (fun _ _ _ h => h) (Or.inl ⟨by rfl, ?_⟩) hHeld ?_ ?_
       rotate_left
       ·
        rintro w' ⟨s0, s1⟩
        go_simp; with_reducible rfl
       rotate_left
       ·
        exact s10_
       refine one_ (i := 6) (N := some 29) (tb_ 11 127) rfl rfl (one_of HT_.out s12_) s15_ (fun K hK => ?_)
       refine goes_ Tryz.func146 s12_ rfl #[.pointer (some ⟨g, 0, none⟩), .int .i64 ji16] (by rfl) rfl rfl (by (try simp only [List.map_toArray, List.map_cons, List.map_nil]); first | done | (simp only [hji16]; rfl) | rfl | (simp only [List.length_drop, List.length_take]; rfl)) ?_
       with_reducible refine (spec_l1Below.calls g s0_0 t272 t273 ji16 t274 t275 t276 w0 _ ?side1 ?side2 A17.out).mono ?_
       (case side1 => exact q6_7)
       (case side2 => exact q6_8)
       rintro e w21 ⟨rfl, hi, hb, hk⟩
       refine ⟨_, rfl, ?_⟩
       have n0_ := Aside0.mk (Kd.R_mono (Kd.R_keep (IsS152.apart (show IsS152 w0 _ g s0_0 t272 t273 from q6_7) q6_18 s15_) hk (fun _ h => h.2)) (fun _ h => h.1))
       have n1_ := Aside0.mk (KeepBut.blk hk (g' := gb266) (o := .cells #[.int .i64 0, .slice none 0 0] 29 (0, 0)) q6_16 NB266_0.out (by simp))
       have n2_ := Aside0.mk (KeepBut.blk hk (g' := gb267) (o := .cells #[.int .i64 a1, u268001] 29 (0, 0)) q6_17 NB267_0.out (by simp))
       have n3_ := Aside0.mk (KeepBut.trans q6_10 hk (.inl rfl)); have n4_ := Aside0.mk (hb); have n5_ := Aside0.mk (hi); clear HO_268001; clear BK266; clear BK267; clear HK; clear HB; clear HI0; have HO_268001 := n0_; have BK266 := n1_; have BK267 := n2_; have HK := n3_; have HB := n4_; have HI0 := n5_; clear n0_ n1_ n2_ n3_ n4_ n5_
       (try clear hb)
       (try clear hb2)
       (try clear hk)
       (try clear hi)
       refine hK.out _ _ ⟨(blk_cell BK267.out 0).trans rfl, (blk_cell BK267.out 1).trans rfl⟩ (fun hHeld => ?_)
       clear hK K
       refine norm_ (a' := ?_) ?_ ?_
       rotate_left
       ·
        show Act.put _ (some 29) _ = _
        exact s10_
       refine one_ (i := 7) (N := some 30) (tb_ 11 255) rfl rfl (one_of HT_.out s12_) s15_ (fun K hK => ?_)
       refine value_ (w1 := ?_) (v := ?_) (by rfl) rfl ?_ ?_
       rotate_left 2
       ·
        go_simp
        constructor
        ·
         rfl
        ·
         rfl
       refine hK.out _ _ ⟨(blk_cell (blk_alloc BK267.out _) 0).trans rfl, (blk_cell (blk_alloc BK267.out _) 1).trans rfl⟩ (fun hHeld => ?_)
       clear hK K
       refine norm_ (a' := ?_) ?_ ?_
       rotate_left
       ·
        show Act.put _ (some 30) _ = _
        exact s10_
       refine one_ (i := 8) (N := some 31) (tb_ 11 511) rfl rfl (one_of HT_.out s12_) s15_ (fun K hK => ?_)
       refine Kd.R_append_step (Kd.int .i64) w.heap.size (by rfl) (.tmp 24) (.tmp 30) 27 3 (.int .i64 0) 8 rfl Tryz.underlying27 info3 rfl s15_ (by omega) u268001 x268001_1 t274 [.int .i64 t274] (fun _ => True) (fun _ => False) rfl rfl ?aP (fun _ hk => hk.elim) ?aF ?aO (Below.refl _ _) ?aS ?aL ?_
       (case aP => exact rfl)
       (case aF => exact (fun _ _ => trivial))
       (case aO => exact q6_18)
       (case aS => exact (keep_size (w := w) (g := g) (row := none) q6_10))
       (case aL => have := LMc18.out; omega)
       intro v278 w22 ho hb hg hat
       rw [← Ny277.out] at ho; have n0_ := Aside0.mk (blk_grown (g := gb266) (o := .cells #[.int .i64 0, .slice none 0 0] 29 (0, 0)) q6_16 hg (Kd.R_ne HO_268001.out BK266.out s15_)); have n1_ := Aside0.mk (blk_grown (g := gb267) (o := .cells #[.int .i64 a1, u268001] 29 (0, 0)) q6_17 hg (Kd.R_ne HO_268001.out BK267.out s15_)); have n2_ := Aside0.mk (IsS152.grown q6_7 hg (IsS152.own_ne HI0.out HO_268001.out s15_)); have n3_ := Aside0.mk (below_weaken q6_8 HL.out hb); have n4_ := Aside0.mk (KeepBut.trans q6_10 (KeepBut.of_grown hg g) (Kd.R_base2 HO_268001.out)); have n5_ := Aside0.mk (ho); clear BK266; clear BK267; clear HI0; clear HB; clear HK; clear HO_268001; have BK266 := n0_; have BK267 := n1_; have HI0 := n2_; have HB := n3_; have HK := n4_; have HO279 := n5_; clear n0_ n1_ n2_ n3_ n4_ n5_; clear ho hb hg hat; obtain ⟨Ao23, co23, eo23⟩ := Kd.R_slice HO279.out
       (first | subst eo23 | (injection eo23 with f1_ f2_ f3_; have f4_ := f1_.symm; have f5_ := f3_.symm; clear f1_ f2_ f3_; subst f4_; subst f5_))
       refine hK.out _ _ ⟨(blk_cell BK267.out 0).trans rfl, (blk_cell BK267.out 1).trans rfl⟩ (fun hHeld => ?_)
       clear hK K
       refine norm_ (a' := ?_) ?_ ?_
       rotate_left
       ·
        show Act.put _ (some 31) _ = _
        exact s10_
       refine pl_ 9 32 (tb_ 11 1023) ?_
       refine last_ (i := 10) (N := none) (tb_ 11 2047) rfl rfl (one_of HT_.out s12_) s15_ (fun K hK => ?_)
       have hs24 : w22.cell? ⟨gb267, 1, none⟩ = some (u268001) := (blk_cell BK267.out 1).trans rfl; have hfs24 := blk_frozen BK267.out 1; have hns24_0 := NB266_267.out; have hms24_0 := NB267_266.out
       refine skip_ (w1 := ?_) (by rfl) rfl ?_ ?_
       rotate_left
       ·
        go_simp
        rfl
       refine hK.out _ _ ?_
       clear hK K
       refine done_ (done_of HT_.out s12_) ?_
       try go_wp2
       go_roundg k1
       case measure => have := HK1.out; omega
       case rel => exact ⟨(wrap64 (x9_1 + 1)), (t275), (t276), (y277), (.slice Ao23 y277.length co23), s2_, H', ⟨by have := HK1.out; omega⟩, ⟨(by (with_reducible repeat (first | apply Kd.R_alloc | apply Kd.R_drewN | apply Kd.R_drew)); exact Kd.R_mono (Kd.R_far (p := ⟨gb267, 1, none⟩) (Kd.R_types HO279.out BK267.out s15_) (fun _ hk => hk.2) (.slice Ao23 y277.length co23)) (fun _ hk => trivial))⟩, ⟨q6_6⟩, ⟨q6_5⟩, ⟨q6_7⟩, ⟨q6_10⟩, ⟨q6_8⟩⟩
      ·
       rw [if_neg c18] at H
       exact absurd H (by simp)
     ·
      rw [if_neg c15] at H
      exact absurd H (by simp)
    ·
     replace c13 := Bool.eq_false_iff.mpr c13; subst c13
     rw [if_neg (show ¬ (false = true) by decide)] at H
     obtain ⟨ji25, hji25⟩ : ∃ j_ : Int, (IntKind.u64.wrap (a1)) = j_ := ⟨_, rfl⟩
     replace H : (if 0 ≤ (ji25) then ((spec_l1Below.f s0_0 t272 t273 (shl .i64 1 (ji25))).bind fun bt280 => ((spec_l1Below.f s0_0 bt280.2.1 bt280.2.2 (shl .i64 1 (ji25))).bind fun bt283 => (if x268001_1.length < 17592186044416 then (spec_l3Make.l0 k1 a1 t268 (wrap64 (x9_1 + 1)) s0_0 bt283.2.1 bt283.2.2 a1 (x268001_1 ++ [Go.bits .or .i64 bt280.1 bt283.1])) else (none)))) else (none)) = some (r1, r2, r3, r4) := by first | (rw [hji25] at H; exact H) | (simp only [hji25] at H ⊢; exact H)
     (try rw [hji25] at A12)
     by_cases c26 : 0 ≤ (ji25)
     ·
      rw [if_pos c26] at H; have c26b0 := eq_true c26; have c26b1 : decide (0 ≤ (ji25)) = true := decide_eq_true c26; clear c26; obtain ⟨ji27, hji27⟩ : ∃ j_ : Int, (shl .i64 1 (ji25)) = j_ := ⟨_, rfl⟩
      replace H : ((spec_l1Below.f s0_0 t272 t273 (ji27)).bind fun bt280 => ((spec_l1Below.f s0_0 bt280.2.1 bt280.2.2 (ji27)).bind fun bt283 => (if x268001_1.length < 17592186044416 then (spec_l3Make.l0 k1 a1 t268 (wrap64 (x9_1 + 1)) s0_0 bt283.2.1 bt283.2.2 a1 (x268001_1 ++ [Go.bits .or .i64 bt280.1 bt283.1])) else (none)))) = some (r1, r2, r3, r4) := by first | (rw [hji27] at H; exact H) | (simp only [hji27] at H ⊢; exact H)
      (try rw [hji27] at A12)
      have hji27_ : (IntKind.i64.wrap (1 * 2 ^ min (ji25).toNat 64)) = ji27 := hji27; have hji27z : (ji25) ≤ 64 → (IntKind.i64.wrap (1 * 2 ^ (ji25).toNat)) = ji27 := shl_small hji27
      have hji27u : (IntKind.i64.wrap (2 ^ min (ji25).toNat 64)) = ji27 := by have h_ := hji27_; rw [Int.one_mul] at h_; exact h_
      have hji27v : (ji25) ≤ 64 → (IntKind.i64.wrap (2 ^ (ji25).toNat)) = ji27 := fun hle_ => by have h_ := hji27z hle_; rw [Int.one_mul] at h_; exact h_
      have hji27y : (wrap64 (1 * 2 ^ min (ji25).toNat 64)) = ji27 := (i64_w _).symm.trans hji27_
      have hji27x : (ji25) ≤ 64 → (wrap64 (1 * 2 ^ (ji25).toNat)) = ji27 := fun h_ => (i64_w _).symm.trans (hji27z h_)
      obtain ⟨⟨t280, t281, t282⟩, A28, H⟩ := bnd6_ H; dsimp only at H
      have c29b0 := eq_true (of_decide_eq_true (by first | (with_reducible assumption) | assumption) : 0 ≤ (ji25))
      obtain ⟨⟨t283, t284, t285⟩, A30, H⟩ := bnd6_ H; dsimp only at H
      by_cases c31 : x268001_1.length < 17592186044416
      ·
       rw [if_pos c31] at H; have LMc31 := Aside0.mk c31; clear c31; obtain ⟨y286, hy286⟩ : ∃ y_ : List Int, y_ = (x268001_1 ++ [Go.bits .or .i64 t280 t283]) := ⟨_, rfl⟩
       replace H : (spec_l3Make.l0 k1 a1 t268 (wrap64 (x9_1 + 1)) s0_0 t284 t285 a1 y286) = some (r1, r2, r3, r4) := by first | (rw [hy286]; with_reducible exact H) | (have H2_ := (Option.bind_some _ _).symm.trans H; rw [hy286]; with_reducible exact H2_) | (have H2_ := (Option.bind_some _ _).symm.trans H; with_reducible exact H2_) | with_reducible exact H | (rw [hy286]; exact H) | exact H
       have Ny286 := Aside0.mk hy286; clear hy286; have H' := Aside0.mk H; clear H
       try go_wp2_with (first | (refine gL_ 145 22 Tryz.func145 #[.pointer (some ⟨g, 0, none⟩), .int .i64 2] ?_; (with_reducible refine (spec_l1Once.calls g s0_0 x1001_1 x1002_1 2 false t272 t273 w0 _ ?side1 ?side2 A12.out).mono ?_); (case side1 => exact q6_7); (case side2 => exact q6_8); rintro e w32 ⟨rfl, hi, hb, hk⟩; refine ⟨_, rfl, ?_⟩; have n_ := ac_ (Kd.R_mono (Kd.R_keep (IsS152.apart (show IsS152 w0 _ g s0_0 x1001_1 x1002_1 from q6_7) q6_18 s15_) hk (fun _ h => h.2)) (fun _ h => h.1)) <| ac_ (KeepBut.blk hk (g' := gb266) (o := .cells #[.int .i64 0, .slice none 0 0] 29 (0, 0)) q6_16 NB266_0.out (by simp)) <| ac_ (KeepBut.blk hk (g' := gb267) (o := .cells #[.int .i64 a1, u268001] 29 (0, 0)) q6_17 NB267_0.out (by simp)) <| ac_ (KeepBut.trans q6_10 hk (.inl rfl)) <| ac_ (hb) <| Aside0.mk (hi); clear HO_268001 BK266 BK267 HK HB HI0; obtain ⟨HO_268001, BK266, BK267, HK, HB, HI0⟩ := n_; (try clear hb hk hi)))
       have n0_ := Aside0.mk (Kd.R_drew HO_268001.out); have n1_ := Aside0.mk (blk_drew BK266.out); have n2_ := Aside0.mk (blk_drew BK267.out); have n3_ := Aside0.mk (IsS152.drew HI0.out); have n4_ := Aside0.mk (keep_drew HK.out); have n5_ := Aside0.mk (below_drew1 HB.out); clear HO_268001; clear BK266; clear BK267; clear HI0; clear HK; clear HB; have HO_268001 := n0_; have BK266 := n1_; have BK267 := n2_; have HI0 := n3_; have HK := n4_; have HB := n5_; clear n0_ n1_ n2_ n3_ n4_ n5_
       refine start_ (n := 17) (S := fun w' => w'.cell? ⟨gb267, 0, none⟩ = some (.int .i64 a1) ∧ w'.cell? ⟨gb267, 1, none⟩ = some (u268001)) (ds := [16]) (tb_ 17 0) s12_ rfl rfl ⟨(blk_cell BK267.out 0).trans rfl, (blk_cell BK267.out 1).trans rfl⟩ (fun hHeld => ?_); refine with_tabW spec_l3Make.tab8 spec_l3Make.bits8 (fun HT_ HW_ => ?_)
       generalize w32.drew = w33 at HO_268001 BK266 BK267 HI0 HK HB hHeld ⊢
       refine pl_ 0 33 (tb_ 17 1) ?_; refine pl_ 2 35 (tb_ 17 5) ?_; refine pl_ 3 36 (tb_ 17 13) ?_; refine pl_ 4 37 (tb_ 17 29) ?_; refine pl_ 5 38 (tb_ 17 61) ?_; refine pl_ 7 40 (tb_ 17 189) ?_; refine pl_ 8 41 (tb_ 17 445) ?_; refine pl_ 9 42 (tb_ 17 957) ?_; refine pl_ 10 43 (tb_ 17 1981) ?_
       refine take_ (i := 1) (N := some 34) (v := ?_) (a' := ?_) (tb_ 17 1983) rfl rfl (take_ofW HT_.out HW_.out s12_) (fun _ _ _ h => h) (Or.inl ⟨by rfl, ?_⟩) hHeld ?_ ?_
       rotate_left
       ·
        rintro w' ⟨s0, s1⟩
        go_simp; with_reducible rfl
       rotate_left
       ·
        exact s10_
       refine one_ (i := 6) (N := some 39) (tb_ 17 2047) rfl rfl (one_of HT_.out s12_) s15_ (fun K hK => ?_)
       refine goes_ Tryz.func146 s12_ rfl #[.pointer (some ⟨g, 0, none⟩), .int .i64 ji27] (by rfl) rfl rfl q6_13 ?_
       with_reducible refine (spec_l1Below.calls g s0_0 t272 t273 ji27 t280 t281 t282 w0 _ ?side1 ?side2 A28.out).mono ?_
       (case side1 => exact q6_7)
       (case side2 => exact q6_8)
       rintro e w34 ⟨rfl, hi, hb, hk⟩
       refine ⟨_, rfl, ?_⟩
       have n0_ := Aside0.mk (Kd.R_mono (Kd.R_keep (IsS152.apart (show IsS152 w0 _ g s0_0 t272 t273 from q6_7) q6_18 s15_) hk (fun _ h => h.2)) (fun _ h => h.1))
       have n1_ := Aside0.mk (KeepBut.blk hk (g' := gb266) (o := .cells #[.int .i64 0, .slice none 0 0] 29 (0, 0)) q6_16 NB266_0.out (by simp))
       have n2_ := Aside0.mk (KeepBut.blk hk (g' := gb267) (o := .cells #[.int .i64 a1, u268001] 29 (0, 0)) q6_17 NB267_0.out (by simp))
       have n3_ := Aside0.mk (KeepBut.trans q6_10 hk (.inl rfl)); have n4_ := Aside0.mk (hb); have n5_ := Aside0.mk (hi); clear HO_268001; clear BK266; clear BK267; clear HK; clear HB; clear HI0; have HO_268001 := n0_; have BK266 := n1_; have BK267 := n2_; have HK := n3_; have HB := n4_; have HI0 := n5_; clear n0_ n1_ n2_ n3_ n4_ n5_
       (try clear hb)
       (try clear hb2)
       (try clear hk)
       (try clear hi)
       refine hK.out _ _ ⟨(blk_cell BK267.out 0).trans rfl, (blk_cell BK267.out 1).trans rfl⟩ (fun hHeld => ?_)
       clear hK K
       refine norm_ (a' := ?_) ?_ ?_
       rotate_left
       ·
        show Act.put _ (some 39) _ = _
        exact s10_
       refine one_ (i := 11) (N := some 44) (tb_ 17 4095) rfl rfl (one_of HT_.out s12_) s15_ (fun K hK => ?_)
       refine goes_ Tryz.func146 s12_ rfl #[.pointer (some ⟨g, 0, none⟩), .int .i64 ji27] (by rfl) rfl rfl q6_13 ?_
       with_reducible refine (spec_l1Below.calls g s0_0 t281 t282 ji27 t283 t284 t285 w0 _ ?side1 ?side2 A30.out).mono ?_
       (case side1 => exact q6_7)
       (case side2 => exact q6_8)
       rintro e w35 ⟨rfl, hi, hb, hk⟩
       refine ⟨_, rfl, ?_⟩
       have n0_ := Aside0.mk (Kd.R_mono (Kd.R_keep (IsS152.apart (show IsS152 w0 _ g s0_0 t281 t282 from q6_7) q6_18 s15_) hk (fun _ h => h.2)) (fun _ h => h.1))
       have n1_ := Aside0.mk (KeepBut.blk hk (g' := gb266) (o := .cells #[.int .i64 0, .slice none 0 0] 29 (0, 0)) q6_16 NB266_0.out (by simp))
       have n2_ := Aside0.mk (KeepBut.blk hk (g' := gb267) (o := .cells #[.int .i64 a1, u268001] 29 (0, 0)) q6_17 NB267_0.out (by simp))
       have n3_ := Aside0.mk (KeepBut.trans q6_10 hk (.inl rfl)); have n4_ := Aside0.mk (hb); have n5_ := Aside0.mk (hi); clear HO_268001; clear BK266; clear BK267; clear HK; clear HB; clear HI0; have HO_268001 := n0_; have BK266 := n1_; have BK267 := n2_; have HK := n3_; have HB := n4_; have HI0 := n5_; clear n0_ n1_ n2_ n3_ n4_ n5_
       (try clear hb)
       (try clear hb2)
       (try clear hk)
       (try clear hi)
       refine hK.out _ _ ⟨(blk_cell BK267.out 0).trans rfl, (blk_cell BK267.out 1).trans rfl⟩ (fun hHeld => ?_)
       clear hK K
       refine norm_ (a' := ?_) ?_ ?_
       rotate_left
       ·
        show Act.put _ (some 44) _ = _
        exact s10_
       refine pl_ 12 45 (tb_ 17 8191) ?_
       refine one_ (i := 13) (N := some 46) (tb_ 17 16383) rfl rfl (one_of HT_.out s12_) s15_ (fun K hK => ?_)
       refine value_ (w1 := ?_) (v := ?_) (by rfl) rfl ?_ ?_
       rotate_left 2
       ·
        go_simp
        constructor
        ·
         rfl
        ·
         rfl
       refine hK.out _ _ ⟨(blk_cell (blk_alloc BK267.out _) 0).trans rfl, (blk_cell (blk_alloc BK267.out _) 1).trans rfl⟩ (fun hHeld => ?_)
       clear hK K
       refine norm_ (a' := ?_) ?_ ?_
       rotate_left
       ·
        show Act.put _ (some 46) _ = _
        exact s10_
       refine one_ (i := 14) (N := some 47) (tb_ 17 32767) rfl rfl (one_of HT_.out s12_) s15_ (fun K hK => ?_)
       refine Kd.R_append_step (Kd.int .i64) w.heap.size (by rfl) (.tmp 34) (.tmp 46) 27 3 (.int .i64 0) 8 rfl Tryz.underlying27 info3 rfl s15_ (by omega) u268001 x268001_1 (Go.bits .or .i64 t280 t283) [.int .i64 (Go.bits .or .i64 t280 t283)] (fun _ => True) (fun _ => False) rfl rfl ?aP (fun _ hk => hk.elim) ?aF ?aO (Below.refl _ _) ?aS ?aL ?_
       (case aP => exact rfl)
       (case aF => exact (fun _ _ => trivial))
       (case aO => exact q6_18)
       (case aS => exact (keep_size (w := w) (g := g) (row := none) q6_10))
       (case aL => have := LMc31.out; omega)
       intro v287 w36 ho hb hg hat
       rw [← Ny286.out] at ho; have n0_ := Aside0.mk (blk_grown (g := gb266) (o := .cells #[.int .i64 0, .slice none 0 0] 29 (0, 0)) q6_16 hg (Kd.R_ne HO_268001.out BK266.out s15_)); have n1_ := Aside0.mk (blk_grown (g := gb267) (o := .cells #[.int .i64 a1, u268001] 29 (0, 0)) q6_17 hg (Kd.R_ne HO_268001.out BK267.out s15_)); have n2_ := Aside0.mk (IsS152.grown q6_7 hg (IsS152.own_ne HI0.out HO_268001.out s15_)); have n3_ := Aside0.mk (below_weaken q6_8 HL.out hb); have n4_ := Aside0.mk (KeepBut.trans q6_10 (KeepBut.of_grown hg g) (Kd.R_base2 HO_268001.out)); have n5_ := Aside0.mk (ho); clear BK266; clear BK267; clear HI0; clear HB; clear HK; clear HO_268001; have BK266 := n0_; have BK267 := n1_; have HI0 := n2_; have HB := n3_; have HK := n4_; have HO288 := n5_; clear n0_ n1_ n2_ n3_ n4_ n5_; clear ho hb hg hat; obtain ⟨Ao37, co37, eo37⟩ := Kd.R_slice HO288.out
       (first | subst eo37 | (injection eo37 with f1_ f2_ f3_; have f4_ := f1_.symm; have f5_ := f3_.symm; clear f1_ f2_ f3_; subst f4_; subst f5_))
       refine hK.out _ _ ⟨(blk_cell BK267.out 0).trans rfl, (blk_cell BK267.out 1).trans rfl⟩ (fun hHeld => ?_)
       clear hK K
       refine norm_ (a' := ?_) ?_ ?_
       rotate_left
       ·
        show Act.put _ (some 47) _ = _
        exact s10_
       refine pl_ 15 48 (tb_ 17 65535) ?_
       refine last_ (i := 16) (N := none) (tb_ 17 131071) rfl rfl (one_of HT_.out s12_) s15_ (fun K hK => ?_)
       have hs38 : w36.cell? ⟨gb267, 1, none⟩ = some (u268001) := (blk_cell BK267.out 1).trans rfl; have hfs38 := blk_frozen BK267.out 1; have hns38_0 := NB266_267.out; have hms38_0 := NB267_266.out
       refine skip_ (w1 := ?_) (by rfl) rfl ?_ ?_
       rotate_left
       ·
        go_simp
        rfl
       refine hK.out _ _ ?_
       clear hK K
       refine done_ (done_of HT_.out s12_) ?_
       try go_wp2
       go_roundg k1
       case measure => have := HK1.out; omega
       case rel => exact ⟨(wrap64 (x9_1 + 1)), (t284), (t285), (y286), (.slice Ao37 y286.length co37), s2_, H', ⟨by have := HK1.out; omega⟩, ⟨(by (with_reducible repeat (first | apply Kd.R_alloc | apply Kd.R_drewN | apply Kd.R_drew)); exact Kd.R_mono (Kd.R_far (p := ⟨gb267, 1, none⟩) (Kd.R_types HO288.out BK267.out s15_) (fun _ hk => hk.2) (.slice Ao37 y286.length co37)) (fun _ hk => trivial))⟩, ⟨q6_6⟩, ⟨q6_5⟩, ⟨q6_7⟩, ⟨q6_10⟩, ⟨q6_8⟩⟩
      ·
       rw [if_neg c31] at H
       exact absurd H (by simp)
     ·
      rw [if_neg c26] at H
      exact absurd H (by simp)
   ·
    rw [if_neg c11] at H; have c11b0 : decide (x9_1 < t268) = false := decide_eq_false c11; clear c11
    simp only [Option.some.injEq, Prod.mk.injEq] at H
    obtain ⟨rfl, rfl, rfl, rfl⟩ := H; have hnb39 := NB267_266.out; have hnc39 := NB266_267.out; have hnb40 := NB267_0.out; have hnc40 := NB0_267.out; have hcz41_0 : wr.cell? ⟨gb267, 0, none⟩ = some (.int .i64 a1) := (blk_cell BK267.out 0).trans rfl; have hcz41_1 : wr.cell? ⟨gb267, 1, none⟩ = some (u268001) := (blk_cell BK267.out 1).trans rfl; have hfz41_0 := blk_frozen BK267.out 0; have hfz41_1 := blk_frozen BK267.out 1; have hnb42 := NB266_0.out; have hnc42 := NB0_266.out; have hcz43_0 : wr.cell? ⟨gb266, 0, none⟩ = some (.int .i64 0) := (blk_cell BK266.out 0).trans rfl; have hcz43_1 : wr.cell? ⟨gb266, 1, none⟩ = some (.slice none 0 0) := (blk_cell BK266.out 1).trans rfl; have hfz43_0 := blk_frozen BK266.out 0; have hfz43_1 := blk_frozen BK266.out 1; obtain ⟨Ao44, co44, eo44⟩ := Kd.R_slice HO_268001.out; subst eo44
    go_wp2
    refine bodyPost_ret (results_cell_row rfl _ _ gb266 29 #[.int .i64 a1, .slice Ao44 x268001_1.length co44] (0, 0) _ rfl (by (with_reducible repeat (first | refine blk_drewN ?_ _ | refine blk_drew ?_ | refine blk_alloc ?_ _)); refine blk_put (cs := #[.int .i64 a1, .slice none 0 0]) ?_ 1 _ rfl; (with_reducible repeat (first | refine blk_drewN ?_ _ | refine blk_drew ?_ | refine blk_alloc ?_ _)); refine blk_put (cs := #[.int .i64 0, .slice none 0 0]) ?_ 0 _ rfl; (with_reducible repeat (first | refine blk_drewN ?_ _ | refine blk_drew ?_ | refine blk_alloc ?_ _)); exact BK266.out) Tryz.underlying29 rfl s12_) rfl ?_
    exact ⟨_, (by first | rfl | (simp [errW_none, errW_some] <;> rfl) | (simp [*, errW_none, errW_some] <;> rfl)), (by (with_reducible repeat (first | apply Kd.R_alloc | apply Kd.R_drewN | apply Kd.R_drew)); exact Kd.R_mono (Kd.R_far (p := ⟨gb266, 1, none⟩) (Kd.R_far (p := ⟨gb266, 0, none⟩) (Kd.R_types HO_268001.out BK266.out s15_) (fun _ hk => hk.2) (.int .i64 a1)) (fun _ hk => hk.2) (.slice Ao44 x268001_1.length co44)) (fun _ hk => trivial)), q6_7, q6_8, q6_10⟩
theorem q6_22 {P : Prop} (h : P := by repeat (first | (with_reducible first | exact HI0.out | apply IsS152.alloc | apply IsS152.drewN | apply IsS152.drew | apply IsS152.set_1 | apply IsS152.set_2 | refine IsS152.far ?_ NB0_289.out _) | exact HI0.out)) : P := h
theorem q6_23 {P : Prop} (h : P := by repeat (first | (with_reducible first | exact HB.out | apply below_alloc | apply pw_below_drewN | apply below_drew1 | refine below_set ?_ (IsS152.ge HI0.out) | refine below_set ?_ GE289.out) | exact HB.out)) : P := h
theorem q6_24 {P : Prop} (h : P := by repeat (first | (with_reducible first | exact HK.out | apply KeepBut.set_ | apply keep_drewN | apply keep_drew | apply keep_alloc | refine keep_far ?_ GW289.out _) | exact HK.out)) : P := h
theorem q6_28 {P : Prop} (h : P := by (with_reducible repeat (first | refine blk_drewN ?_ _ | refine blk_drew ?_ | refine blk_alloc ?_ _)); exact BK289.out) : P := h
theorem q6_29 {P : Prop} (h : P := by (with_reducible repeat (first | apply Kd.R_alloc | apply Kd.R_drewN | apply Kd.R_drew)); exact HO292.out) : P := h
def spec_l3Draw.f (k : Nat) (s0_0 : List Int) (s0_1 : Int) (s0_2 : Int) : Option (Int × List Int × Int × Int) := (spec_l1PickInt.f s0_0 s0_1 s0_2 (([0, 1, 2, 3, 3, 4, 4, 5, 5] : List Int))).bind fun bt293 => ((spec_l3Make.f k s0_0 bt293.2.1 bt293.2.2 bt293.1 6).bind fun bt296 => (some (bt296.1, bt296.2.1, bt296.2.2.1, bt296.2.2.2)))
set_option maxHeartbeats 8000000 in
set_option maxRecDepth 100000 in
theorem spec_l3Draw.calls (k : Nat) (g : Nat) (s0_0 : List Int) (s0_1 : Int) (s0_2 : Int) (r1 : Int) (r2 : List Int) (r3 : Int) (r4 : Int) (w0 w : World) (hI : IsS152 w0 w g s0_0 s0_1 s0_2) (hB : Below w0.heap.size w0 w) (h : spec_l3Draw.f k s0_0 s0_1 s0_2 = some (r1, r2, r3, r4)) :
  Calls Tryz.prog 205 #[.pointer (some ⟨g, 0, none⟩)] w fun e w' => ∃ v1_ : Value, e = .returned (.agg #[.int .i64 r1, v1_]) ∧ Kd.R (Kd.int .i64) 3 w' w.heap.size (fun _ => True) v1_ r2 ∧ IsS152 w0 w' g s0_0 r3 r4 ∧ Below w0.heap.size w0 w' ∧ KeepBut w w' g none := by
 have hu29 := Tryz.underlying29; have HI0 := Aside0.mk hI; have HK := Aside0.mk (KeepBut.refl w g none); have HL := Aside0.mk hB.size; clear hI; have HW0 := Aside0.mk hB.size; have HB := Aside0.mk hB; clear hB; have H := h; clear h; unfold spec_l3Draw.f at H; obtain ⟨y290, hy290⟩ : ∃ y_ : List Int, y_ = (([0, 1, 2, 3, 3, 4, 4, 5, 5] : List Int)) := ⟨_, rfl⟩
 replace H : ((spec_l1PickInt.f s0_0 s0_1 s0_2 y290).bind fun bt293 => ((spec_l3Make.f k s0_0 bt293.2.1 bt293.2.2 bt293.1 6).bind fun bt296 => (some (bt296.1, bt296.2.1, bt296.2.2.1, bt296.2.2.2)))) = some (r1, r2, r3, r4) := by first | (rw [hy290]; with_reducible exact H) | (have H2_ := (Option.bind_some _ _).symm.trans H; rw [hy290]; with_reducible exact H2_) | (have H2_ := (Option.bind_some _ _).symm.trans H; with_reducible exact H2_) | with_reducible exact H | (rw [hy290]; exact H) | exact H
 have Ny290 := Aside0.mk hy290; clear hy290; obtain ⟨⟨t293, t294, t295⟩, A2, H⟩ := bnd6_ H; dsimp only at H; obtain ⟨⟨t296, t297, t300, t301⟩, A3, H⟩ := bnd6_ H; dsimp only at H
 simp only [Option.some.injEq, Prod.mk.injEq] at H
 obtain ⟨rfl, rfl, rfl, rfl⟩ := H
 go_enter Tryz.func205, Tryz.ntmps205
 go_wp2_with (first | ((with_reducible refine gate_dst (N := 2) rfl ?_); refine box_event ?hg (N := 2) ?hd (cs := #[.int .i64 0, .slice none 0 0]) (t := 29) ?hr ?_; (case hd => rfl); (case hg => rfl); (case hr => first | (go_simp; done) | (go_simp; rfl)); intro gb289 hg w4 hbox hb; have n_ := ac_ (IsS152.below s5_ hb) <| ac_ (KeepBut.trans s6_ (KeepBut.of_below hb g none) (.inl rfl)) <| ac_ (below_step (by repeat (first | (with_reducible first | exact HB.out | apply below_alloc | apply pw_below_drewN | apply below_drew1 | refine below_set ?_ (IsS152.ge HI0.out)) | exact HB.out)) hb) <| ac_ (hbox) <| ac_ ((by rw [hg]; exact (keep_size (w := w) (g := g) (row := none) s6_) : w.heap.size ≤ gb289)) <| ac_ ((Nat.le_trans HW0.out (by rw [hg]; exact (keep_size (w := w) (g := g) (row := none) s6_) : w.heap.size ≤ gb289) : w0.heap.size ≤ gb289)) <| ac_ ((by rw [hg]; exact Nat.ne_of_lt (IsS152.lt (show IsS152 w0 _ g s0_0 s0_1 s0_2 from s5_)) : g ≠ gb289)) <| Aside0.mk ((by rw [hg]; exact Nat.ne_of_gt (IsS152.lt (show IsS152 w0 _ g s0_0 s0_1 s0_2 from s5_)) : gb289 ≠ g)); clear HI0 HK HB; obtain ⟨HI0, HK, HB, BK289, GW289, GE289, NB0_289, NB289_0⟩ := n_; clear hb hbox hg) | ((with_reducible refine gate_dst (N := 5) rfl ?_); refine Kd.R_lit (Kd.int .i64) _ 3 ?hg (N := 5) ?hd (xs := ([0, 1, 2, 3, 3, 4, 4, 5, 5] : List Int)) (inner := [.int .i64 0, .int .i64 1, .int .i64 2, .int .i64 3, .int .i64 3, .int .i64 4, .int .i64 4, .int .i64 5, .int .i64 5]) (ok := fun _ => True) (okp := fun _ => True) ?hr ?hp (fun _ hk => hk) trivial (Below.refl _ _) (Nat.le_refl _) (by simp) ?_; (case hd => rfl); (case hg => rfl); (case hr => first | (go_simp; done) | (go_simp; rfl)); (case hp => exact (Reps.one (show Kd.M (Kd.int .i64) _ _ _ 0 [.int .i64 0] from rfl) (Reps.one (show Kd.M (Kd.int .i64) _ _ _ 1 [.int .i64 1] from rfl) (Reps.one (show Kd.M (Kd.int .i64) _ _ _ 2 [.int .i64 2] from rfl) (Reps.one (show Kd.M (Kd.int .i64) _ _ _ 3 [.int .i64 3] from rfl) (Reps.one (show Kd.M (Kd.int .i64) _ _ _ 3 [.int .i64 3] from rfl) (Reps.one (show Kd.M (Kd.int .i64) _ _ _ 4 [.int .i64 4] from rfl) (Reps.one (show Kd.M (Kd.int .i64) _ _ _ 4 [.int .i64 4] from rfl) (Reps.one (show Kd.M (Kd.int .i64) _ _ _ 5 [.int .i64 5] from rfl) (Reps.one (show Kd.M (Kd.int .i64) _ _ _ 5 [.int .i64 5] from rfl) (Reps.none _ _))))))))))); intro v291 w5 ho6 hb hg_ hnew_; clear hg_ hnew_; (first | rw [← Ny290.out] at ho6 | (simp only [Int.reduceToNat] at ho6; rw [← Ny290.out] at ho6)); have n_ := ac_ (Kd.R_lower ho6 (keep_size (w := w) (g := g) (row := none) q6_24)) <| ac_ (IsS152.below q6_22 hb) <| ac_ (blk_below (g := gb289) (o := .cells #[.int .i64 0, .slice none 0 0] 29 (0, 0)) q6_28 hb) <| ac_ (KeepBut.trans q6_24 (KeepBut.of_below hb g none) (.inl rfl)) <| Aside0.mk (below_step q6_23 hb); clear HI0 BK289 HK HB; obtain ⟨HO292, HI0, BK289, HK, HB⟩ := n_; clear hb ho6; obtain ⟨Ao7, co7, eo7⟩ := Kd.R_slice HO292.out; subst eo7) | (refine gL_ 147 6 Tryz.func147 #[.pointer (some ⟨g, 0, none⟩), .slice Ao7 y290.length co7] ?_; (with_reducible refine (spec_l1PickInt.calls g s0_0 s0_1 s0_2 _ _ y290 t293 t294 t295 w0 _ ?side1 ?side2 ?side3 ?side4 ?side5 A2.out).mono ?_); (case side1 => exact q6_22); (case side2 => exact q6_23); (case side3 => repeat (first | exact (Kd.R_reads' HO292.out).2.2 | (with_reducible refine Kd.C_alloc ?_ _) | (with_reducible refine Kd.C_drewN ?_ _) | (with_reducible refine Kd.C_drew ?_))); (case side4 => exact (Kd.R_reads' HO292.out).2.1); (case side5 => exact far_slice (IsS152.own_ne HI0.out HO292.out (by decide))); rintro e w8 ⟨rfl, hi, hb, hk⟩; refine ⟨_, rfl, ?_⟩; have n_ := ac_ (KeepBut.blk hk (g' := gb289) (o := .cells #[.int .i64 0, .slice none 0 0] 29 (0, 0)) q6_28 NB289_0.out (by simp)) <| ac_ (Kd.R_mono (Kd.R_keep (IsS152.apart (show IsS152 w0 _ g s0_0 s0_1 s0_2 from q6_22) q6_29 (by decide)) hk (fun _ h => h.2)) (fun _ h => h.1)) <| ac_ (KeepBut.trans q6_24 hk (.inl rfl)) <| ac_ (hb) <| Aside0.mk (hi); clear BK289 HO292 HK HB HI0; obtain ⟨BK289, HO292, HK, HB, HI0⟩ := n_; (try clear hb hk hi)) | (refine gL_ 245 9 Tryz.func245 #[.pointer (some ⟨g, 0, none⟩), .int .i64 t293, .int .i64 6] ?_; (with_reducible refine (spec_l3Make.calls k g s0_0 t294 t295 t293 6 t296 t297 t300 t301 w0 _ ?side1 ?side2 A3.out).mono ?_); (case side1 => exact q6_22); (case side2 => exact q6_23); rintro e w9 ⟨v298, rfl, ho0, hi, hb, hk⟩; refine ⟨_, rfl, ?_⟩; have n_ := ac_ (KeepBut.blk hk (g' := gb289) (o := .cells #[.int .i64 0, .slice none 0 0] 29 (0, 0)) q6_28 NB289_0.out (by simp)) <| ac_ (Kd.R_mono (Kd.R_told (Kd.R_oldK (IsS152.apart (show IsS152 w0 _ g s0_0 t294 t295 from q6_22) q6_29 (by decide)) hk) (Kd.R_base ho0)) (fun _ h_ => h_.1)) <| ac_ (Kd.R_lower (Kd.R_new' ho0 (Kd.R_lt q6_29)) (keep_size (w := w) (g := g) (row := none) q6_24)) <| ac_ (KeepBut.trans q6_24 hk (.inl rfl)) <| ac_ (hb) <| Aside0.mk (hi); clear BK289 HO292 HK HB HI0; obtain ⟨BK289, HO292, HO299, HK, HB, HI0⟩ := n_; (try clear hb hk hi ho0); have hnb10 := NB289_0.out; have hnc10 := NB0_289.out; have hcz11_0 : w9.cell? ⟨gb289, 0, none⟩ = some (.int .i64 0) := (blk_cell BK289.out 0).trans rfl; have hcz11_1 : w9.cell? ⟨gb289, 1, none⟩ = some (.slice none 0 0) := (blk_cell BK289.out 1).trans rfl; have hfz11_0 := blk_frozen BK289.out 0; have hfz11_1 := blk_frozen BK289.out 1; obtain ⟨Ao12, co12, eo12⟩ := Kd.R_slice HO299.out; subst eo12))
 refine bodyPost_ret (results_cell_row rfl _ _ gb289 29 #[.int .i64 t296, .slice Ao12 t297.length co12] (0, 0) _ rfl (by (with_reducible repeat (first | refine blk_drewN ?_ _ | refine blk_drew ?_ | refine blk_alloc ?_ _)); refine blk_put (cs := #[.int .i64 t296, .slice none 0 0]) ?_ 1 _ rfl; (with_reducible repeat (first | refine blk_drewN ?_ _ | refine blk_drew ?_ | refine blk_alloc ?_ _)); refine blk_put (cs := #[.int .i64 0, .slice none 0 0]) ?_ 0 _ rfl; (with_reducible repeat (first | refine blk_drewN ?_ _ | refine blk_drew ?_ | refine blk_alloc ?_ _)); exact BK289.out) Tryz.underlying29 rfl (by kernel_rfl)) rfl ?_
 exact ⟨_, (by first | rfl | (simp [errW_none, errW_some] <;> rfl) | (simp [*, errW_none, errW_some] <;> rfl)), (by (with_reducible repeat (first | apply Kd.R_alloc | apply Kd.R_drewN | apply Kd.R_drew)); exact Kd.R_mono (Kd.R_far (p := ⟨gb289, 1, none⟩) (Kd.R_far (p := ⟨gb289, 0, none⟩) (Kd.R_types HO299.out BK289.out (by decide)) (fun _ hk => hk.2) (.int .i64 t296)) (fun _ hk => hk.2) (.slice Ao12 t297.length co12)) (fun _ hk => trivial)), q6_22, q6_23, q6_24⟩
end Go.Proofs.YtafnamchckehmaaGreatDoor.Pr
namespace Go.Proofs.YtafnamchckehmaaGreatDoor.Pr
open Go.RowKit Go.Proofs.YtafnamchckehmaaGreatDoorW.PrintWords Go.Proofs.YtafnamchckehmaaGreatDoorW.PrintLast Go.Proofs.YtafnamchckehmaaGreatDoorW.PrintMore
attribute [local go_sem] max2_int min2_int max_two min_two max_three min_three max_four min_four
set_option linter.unusedVariables false
set_option linter.unusedSimpArgs false
theorem bnd7_ {α β : Type} {o : Option α} {f : α → Option β} {r : β} (h : o.bind f = some r) : ∃ a, Aside0 (o = some a) ∧ f a = some r := by
 obtain ⟨a, h1, h2⟩ := Option.bind_eq_some_iff.mp h
 exact ⟨a, ⟨h1⟩, h2⟩
theorem q7_1 {P : Prop} (h : P := by (with_reducible repeat (first | refine blk_drewN ?_ _ | refine blk_drew ?_ | refine blk_alloc ?_ _)); refine blk_put (cs := #[.int .i64 t303, .slice none 0 0]) ?_ 1 _ rfl; (with_reducible repeat (first | refine blk_drewN ?_ _ | refine blk_drew ?_ | refine blk_alloc ?_ _)); refine blk_put (cs := #[.int .i64 0, .slice none 0 0]) ?_ 0 _ rfl; (with_reducible repeat (first | refine blk_drewN ?_ _ | refine blk_drew ?_ | refine blk_alloc ?_ _)); exact BK302.out) : P := h
theorem q7_2 {P : Prop} (h : P := by (with_reducible repeat (first | refine blk_drewN ?_ _ | refine blk_drew ?_ | refine blk_alloc ?_ _)); refine blk_put (cs := #[.int .i64 t303, .slice none 0 0]) ?_ 1 _ rfl; (with_reducible repeat (first | refine blk_drewN ?_ _ | refine blk_drew ?_ | refine blk_alloc ?_ _)); refine blk_put (cs := #[.int .i64 0, .slice none 0 0]) ?_ 0 _ rfl; (with_reducible repeat (first | refine blk_drewN ?_ _ | refine blk_drew ?_ | refine blk_alloc ?_ _)); exact BK309.out) : P := h
theorem q7_3 {P : Prop} (h : P := by (with_reducible repeat (first | refine blk_drewN ?_ _ | refine blk_drew ?_ | refine blk_alloc ?_ _)); refine blk_far ?_ NB302_309.out _; (with_reducible repeat (first | refine blk_drewN ?_ _ | refine blk_drew ?_ | refine blk_alloc ?_ _)); refine blk_far ?_ NB302_309.out _; (with_reducible repeat (first | refine blk_drewN ?_ _ | refine blk_drew ?_ | refine blk_alloc ?_ _)); exact BK302.out) : P := h
theorem q7_4 {P : Prop} (h : P := by repeat (first | (with_reducible first | exact HI0.out | apply IsS152.alloc | apply IsS152.drewN | apply IsS152.drew | apply IsS152.set_1 | apply IsS152.set_2 | refine IsS152.far ?_ NB0_302.out _ | refine IsS152.far ?_ NB0_309.out _) | exact HI0.out)) : P := h
theorem q7_5 {P : Prop} (h : P := by repeat (first | (with_reducible first | exact HB.out | apply below_alloc | apply pw_below_drewN | apply below_drew1 | refine below_set ?_ (IsS152.ge HI0.out) | refine below_set ?_ GE302.out | refine below_set ?_ GE309.out) | exact HB.out)) : P := h
theorem q7_6 {P : Prop} (h : P := by repeat (first | (with_reducible first | exact HI0.out | apply IsS152.alloc | apply IsS152.drewN | apply IsS152.drew | apply IsS152.set_1 | apply IsS152.set_2 | refine IsS152.far ?_ NB0_302.out _) | exact HI0.out)) : P := h
theorem q7_7 {P : Prop} (h : P := by repeat (first | (with_reducible first | exact HK.out | apply KeepBut.set_ | apply keep_drewN | apply keep_drew | apply keep_alloc | refine keep_far ?_ GW302.out _ | refine keep_far ?_ GW309.out _) | exact HK.out)) : P := h
theorem q7_8 {P : Prop} (h : P := by repeat (first | (with_reducible first | exact HB.out | apply below_alloc | apply pw_below_drewN | apply below_drew1 | refine below_set ?_ (IsS152.ge HI0.out) | refine below_set ?_ GE302.out) | exact HB.out)) : P := h
theorem q7_9 {P : Prop} (h : P := by repeat (first | (with_reducible first | exact HK.out | apply KeepBut.set_ | apply keep_drewN | apply keep_drew | apply keep_alloc | refine keep_far ?_ GW302.out _) | exact HK.out)) : P := h
theorem q7_14 {P : Prop} (h : P := by (with_reducible repeat (first | refine blk_drewN ?_ _ | refine blk_drew ?_ | refine blk_alloc ?_ _)); exact BK302.out) : P := h
theorem q7_15 {P : Prop} (h : P := by (with_reducible repeat (first | refine blk_drewN ?_ _ | refine blk_drew ?_ | refine blk_alloc ?_ _)); exact BK309.out) : P := h
theorem q7_16 {P : Prop} (h : P := by (with_reducible repeat (first | apply Kd.R_alloc | apply Kd.R_drewN | apply Kd.R_drew)); exact HO306.out) : P := h
def spec_l3Bent.l0 : Nat → List Int → Int → Int → Int → List Int → Option (Int × List Int × Int × Int)
 | 0, _, _, _, _, _ => none
 | k + 1, x1000, x1001, x1002, x310000, x310001 => if (x310001.length : Int) < 9 then (if x310001.length < 17592186044416 then (spec_l3Bent.l0 k x1000 x1001 x1002 x310000 (x310001 ++ [0])) else (none)) else (some (x310000, x310001, x1001, x1002))
def spec_l3Bent.f (k : Nat) (s0_0 : List Int) (s0_1 : Int) (s0_2 : Int) : Option (Int × List Int × Int × Int) := (spec_l3Draw.f k s0_0 s0_1 s0_2).bind fun bt303 => ((spec_l1Below.f s0_0 bt303.2.2.1 bt303.2.2.2 14).bind fun bt310 => (if bt310.1 = 0 then ((spec_l1PickInt.f s0_0 bt310.2.1 bt310.2.2 (([(-1), 0, 2, 7] : List Int))).bind fun bt316 => (some (bt316.1, bt303.2.1, bt316.2.1, bt316.2.2))) else (if bt310.1 = 1 then ((spec_l2Bent.f s0_0 bt310.2.1 bt310.2.2).bind fun bt319 => (if bt303.2.1.length < 17592186044416 then (some (bt303.1, (bt303.2.1 ++ [bt319.1]), bt319.2.1, bt319.2.2)) else (none))) else (if bt310.1 = 2 then (spec_l3Bent.l0 k s0_0 bt310.2.1 bt310.2.2 bt303.1 bt303.2.1) else (some (bt303.1, bt303.2.1, bt310.2.1, bt310.2.2))))))
def spec_l3Bent.T6 : Bool × List (List Nat × List Nat) := (true, [([], []), ([0], [0]), ([], []), ([2], [2]), ([3], [3]), ([1, 4, 3], [1, 4]), ([0, 1, 2, 3, 4, 5], []), ([6, 5, 5, 0, 1, 2, 3, 4, 5], [5, 6])])
def spec_l3Bent.B6 : List Nat := [0, 1, 0, 4, 12, 31, 63, 127]
theorem spec_l3Bent.tab6 : rtab .any (opsOf Tryz.f161 6) = spec_l3Bent.T6 := s12_
theorem spec_l3Bent.bits6 : waitsOk spec_l3Bent.T6.2 spec_l3Bent.B6 = true := s12_
set_option maxHeartbeats 8000000 in
set_option maxRecDepth 100000 in
theorem spec_l3Bent.calls (k : Nat) (g : Nat) (s0_0 : List Int) (s0_1 : Int) (s0_2 : Int) (r1 : Int) (r2 : List Int) (r3 : Int) (r4 : Int) (w0 w : World) (hI : IsS152 w0 w g s0_0 s0_1 s0_2) (hB : Below w0.heap.size w0 w) (h : spec_l3Bent.f k s0_0 s0_1 s0_2 = some (r1, r2, r3, r4)) :
  Calls Tryz.prog 161 #[.pointer (some ⟨g, 0, none⟩)] w fun e w' => ∃ v1_ : Value, e = .returned (.agg #[.int .i64 r1, v1_]) ∧ Kd.R (Kd.int .i64) 3 w' w.heap.size (fun _ => True) v1_ r2 ∧ IsS152 w0 w' g s0_0 r3 r4 ∧ Below w0.heap.size w0 w' ∧ KeepBut w w' g none := by
 have hu29 := Tryz.underlying29; have HI0 := Aside0.mk hI; have HK := Aside0.mk (KeepBut.refl w g none); have HL := Aside0.mk hB.size; clear hI; have HW0 := Aside0.mk hB.size; have HB := Aside0.mk hB; clear hB; have H := h; clear h; unfold spec_l3Bent.f at H; obtain ⟨⟨t303, t304, t307, t308⟩, A2, H⟩ := bnd7_ H; dsimp only at H; obtain ⟨⟨t310, t311, t312⟩, A3, H⟩ := bnd7_ H; dsimp only at H
 by_cases c4 : t310 = 0
 ·
  rw [if_pos c4] at H; have c4b0 : (t310 == 0) = true := beq_iff_eq.mpr c4; have c4b1 : (t310 != 0) = false := bne_eq_false_iff_eq.mpr c4; clear c4; obtain ⟨y313, hy313⟩ : ∃ y_ : List Int, y_ = (([(-1), 0, 2, 7] : List Int)) := ⟨_, rfl⟩
  replace H : ((spec_l1PickInt.f s0_0 t311 t312 y313).bind fun bt316 => (some (bt316.1, t304, bt316.2.1, bt316.2.2))) = some (r1, r2, r3, r4) := by first | (rw [hy313]; with_reducible exact H) | (have H2_ := (Option.bind_some _ _).symm.trans H; rw [hy313]; with_reducible exact H2_) | (have H2_ := (Option.bind_some _ _).symm.trans H; with_reducible exact H2_) | with_reducible exact H | (rw [hy313]; exact H) | exact H
  have Ny313 := Aside0.mk hy313; clear hy313; obtain ⟨⟨t316, t317, t318⟩, A5, H⟩ := bnd7_ H; dsimp only at H
  simp only [Option.some.injEq, Prod.mk.injEq] at H
  obtain ⟨rfl, rfl, rfl, rfl⟩ := H
  go_enter Tryz.func161, Tryz.ntmps161
  go_wp2_with (first | ((with_reducible refine gate_dst (N := 2) rfl ?_); refine box_event ?hg (N := 2) ?hd (cs := #[.int .i64 0, .slice none 0 0]) (t := 29) ?hr ?_; (case hd => rfl); (case hg => rfl); (case hr => first | (go_simp; done) | (go_simp; rfl)); intro gb302 hg w6 hbox hb; have n_ := ac_ (IsS152.below s5_ hb) <| ac_ (KeepBut.trans s6_ (KeepBut.of_below hb g none) (.inl rfl)) <| ac_ (below_step s11_ hb) <| ac_ (hbox) <| ac_ ((by rw [hg]; exact (keep_size (w := w) (g := g) (row := none) s6_) : w.heap.size ≤ gb302)) <| ac_ ((Nat.le_trans HW0.out (by rw [hg]; exact (keep_size (w := w) (g := g) (row := none) s6_) : w.heap.size ≤ gb302) : w0.heap.size ≤ gb302)) <| ac_ ((by rw [hg]; exact Nat.ne_of_lt (IsS152.lt (show IsS152 w0 _ g s0_0 s0_1 s0_2 from s5_)) : g ≠ gb302)) <| Aside0.mk ((by rw [hg]; exact Nat.ne_of_gt (IsS152.lt (show IsS152 w0 _ g s0_0 s0_1 s0_2 from s5_)) : gb302 ≠ g)); clear HI0 HK HB; obtain ⟨HI0, HK, HB, BK302, GW302, GE302, NB0_302, NB302_0⟩ := n_; clear hb hbox hg) | (refine gL_ 205 5 Tryz.func205 #[.pointer (some ⟨g, 0, none⟩)] ?_; (with_reducible refine (spec_l3Draw.calls k g s0_0 s0_1 s0_2 t303 t304 t307 t308 w0 _ ?side1 ?side2 A2.out).mono ?_); (case side1 => exact q7_6); (case side2 => exact q7_8); rintro e w7 ⟨v305, rfl, ho0, hi, hb, hk⟩; refine ⟨_, rfl, ?_⟩; have n_ := ac_ (KeepBut.blk hk (g' := gb302) (o := .cells #[.int .i64 0, .slice none 0 0] 29 (0, 0)) q7_14 NB302_0.out (by simp)) <| ac_ (Kd.R_lower ho0 (keep_size (w := w) (g := g) (row := none) q7_9)) <| ac_ (KeepBut.trans q7_9 hk (.inl rfl)) <| ac_ (hb) <| Aside0.mk (hi); clear BK302 HK HB HI0; obtain ⟨BK302, HO306, HK, HB, HI0⟩ := n_; (try clear hb hk hi ho0)) | ((with_reducible refine gate_dst (N := 3) rfl ?_); refine box_event ?hg (N := 3) ?hd (cs := #[.int .i64 0, .slice none 0 0]) (t := 29) ?hr ?_; (case hd => rfl); (case hg => rfl); (case hr => first | (go_simp; done) | (go_simp; rfl)); intro gb309 hg w8 hbox hb; have n_ := ac_ (Kd.R_below q7_16 hb) <| ac_ (IsS152.below q7_6 hb) <| ac_ (blk_below (g := gb302) (o := .cells #[.int .i64 0, .slice none 0 0] 29 (0, 0)) q7_14 hb) <| ac_ (KeepBut.trans q7_9 (KeepBut.of_below hb g none) (.inl rfl)) <| ac_ (below_step q7_8 hb) <| ac_ (hbox) <| ac_ ((by rw [hg]; exact (keep_size (w := w) (g := g) (row := none) q7_9) : w.heap.size ≤ gb309)) <| ac_ ((Nat.le_trans HW0.out (by rw [hg]; exact (keep_size (w := w) (g := g) (row := none) q7_9) : w.heap.size ≤ gb309) : w0.heap.size ≤ gb309)) <| ac_ ((by rw [hg]; exact Nat.ne_of_lt (blk_lt (g := gb302) (o := .cells #[.int .i64 0, .slice none 0 0] 29 (0, 0)) q7_14) : gb302 ≠ gb309)) <| ac_ ((by rw [hg]; exact Nat.ne_of_gt (blk_lt (g := gb302) (o := .cells #[.int .i64 0, .slice none 0 0] 29 (0, 0)) q7_14) : gb309 ≠ gb302)) <| ac_ ((by rw [hg]; exact Nat.ne_of_lt (IsS152.lt (show IsS152 w0 _ g s0_0 t307 t308 from q7_6)) : g ≠ gb309)) <| Aside0.mk ((by rw [hg]; exact Nat.ne_of_gt (IsS152.lt (show IsS152 w0 _ g s0_0 t307 t308 from q7_6)) : gb309 ≠ g)); clear HO306 HI0 BK302 HK HB; obtain ⟨HO306, HI0, BK302, HK, HB, BK309, GW309, GE309, NB302_309, NB309_302, NB0_309, NB309_0⟩ := n_; clear hb hbox hg; have hnb9 := NB309_302.out; have hnc9 := NB302_309.out; have hnb10 := NB309_0.out; have hnc10 := NB0_309.out; have hcz11_0 : w8.cell? ⟨gb309, 0, none⟩ = some (.int .i64 0) := (blk_cell BK309.out 0).trans rfl; have hcz11_1 : w8.cell? ⟨gb309, 1, none⟩ = some (.slice none 0 0) := (blk_cell BK309.out 1).trans rfl; have hfz11_0 := blk_frozen BK309.out 0; have hfz11_1 := blk_frozen BK309.out 1; obtain ⟨Ao12, co12, eo12⟩ := Kd.R_slice HO306.out; subst eo12) | (refine gL_ 146 7 Tryz.func146 #[.pointer (some ⟨g, 0, none⟩), .int .i64 14] ?_; (with_reducible refine (spec_l1Below.calls g s0_0 t307 t308 14 t310 t311 t312 w0 _ ?side1 ?side2 A3.out).mono ?_); (case side1 => exact q7_4); (case side2 => exact q7_5); rintro e w13 ⟨rfl, hi, hb, hk⟩; refine ⟨_, rfl, ?_⟩; have n_ := ac_ (KeepBut.blk hk (g' := gb302) (o := .cells #[.int .i64 0, .slice none 0 0] 29 (0, 0)) q7_3 NB302_0.out (by simp)) <| ac_ (Kd.R_mono (Kd.R_keep (IsS152.apart (show IsS152 w0 _ g s0_0 t307 t308 from q7_4) (by (with_reducible repeat (first | apply Kd.R_alloc | apply Kd.R_drewN | apply Kd.R_drew)); exact (Kd.R_mono (Kd.R_far (p := ⟨gb309, 1, none⟩) (Kd.R_far (p := ⟨gb309, 0, none⟩) (Kd.R_types HO306.out BK309.out s15_) (fun _ hk => hk.2) (.int .i64 t303)) (fun _ hk => hk.2) (.slice Ao12 t304.length co12)) (fun _ h_ => h_.1))) s15_) hk (fun _ h => h.2)) (fun _ h => h.1)) <| ac_ (KeepBut.blk hk (g' := gb309) (o := .cells #[.int .i64 t303, .slice Ao12 t304.length co12] 29 (0, 0)) q7_2 NB309_0.out (by simp)) <| ac_ (KeepBut.trans q7_7 hk (.inl rfl)) <| ac_ (hb) <| Aside0.mk (hi); clear BK302 HO306 BK309 HK HB HI0; obtain ⟨BK302, HO306, BK309, HK, HB, HI0⟩ := n_; (try clear hb hk hi)) | ((with_reducible refine gate_dst (N := 11) rfl ?_); refine Kd.R_lit (Kd.int .i64) _ 3 ?hg (N := 11) ?hd (xs := ([(-1), 0, 2, 7] : List Int)) (inner := [.int .i64 (-1), .int .i64 0, .int .i64 2, .int .i64 7]) (ok := fun _ => True) (okp := fun _ => True) ?hr ?hp (fun _ hk => hk) trivial (Below.refl _ _) (Nat.le_refl _) (by simp) ?_; (case hd => rfl); (case hg => rfl); (case hr => first | (go_simp; done) | (go_simp; rfl)); (case hp => exact (Reps.one (show Kd.M (Kd.int .i64) _ _ _ (-1) [.int .i64 (-1)] from rfl) (Reps.one (show Kd.M (Kd.int .i64) _ _ _ 0 [.int .i64 0] from rfl) (Reps.one (show Kd.M (Kd.int .i64) _ _ _ 2 [.int .i64 2] from rfl) (Reps.one (show Kd.M (Kd.int .i64) _ _ _ 7 [.int .i64 7] from rfl) (Reps.none _ _)))))); intro v314 w14 ho15 hb hg_ hnew_; clear hg_ hnew_; (first | rw [← Ny313.out] at ho15 | (simp only [Int.reduceToNat] at ho15; rw [← Ny313.out] at ho15)); have n_ := ac_ (Kd.R_elder' q7_16 (Kd.R_base ho15) hb) <| ac_ (Kd.R_lower (Kd.R_new' ho15 (Kd.R_lt q7_16)) (keep_size (w := w) (g := g) (row := none) q7_7)) <| ac_ (IsS152.below q7_4 hb) <| ac_ (blk_below (g := gb302) (o := .cells #[.int .i64 0, .slice none 0 0] 29 (0, 0)) q7_14 hb) <| ac_ (blk_below (g := gb309) (o := .cells #[.int .i64 t303, .slice Ao12 t304.length co12] 29 (0, 0)) q7_15 hb) <| ac_ (KeepBut.trans q7_7 (KeepBut.of_below hb g none) (.inl rfl)) <| Aside0.mk (below_step q7_5 hb); clear HO306 HI0 BK302 BK309 HK HB; obtain ⟨HO306, HO315, HI0, BK302, BK309, HK, HB⟩ := n_; clear hb ho15; obtain ⟨Ao16, co16, eo16⟩ := Kd.R_slice HO315.out; subst eo16) | (refine gL_ 147 12 Tryz.func147 #[.pointer (some ⟨g, 0, none⟩), .slice Ao16 y313.length co16] ?_; (with_reducible refine (spec_l1PickInt.calls g s0_0 t311 t312 _ _ y313 t316 t317 t318 w0 _ ?side1 ?side2 ?side3 ?side4 ?side5 A5.out).mono ?_); (case side1 => exact q7_4); (case side2 => exact q7_5); (case side3 => repeat (first | exact (Kd.R_reads' HO315.out).2.2 | (with_reducible refine Kd.C_alloc ?_ _) | (with_reducible refine Kd.C_drewN ?_ _) | (with_reducible refine Kd.C_drew ?_))); (case side4 => exact (Kd.R_reads' HO315.out).2.1); (case side5 => exact far_slice (IsS152.own_ne HI0.out HO315.out s15_)); rintro e w17 ⟨rfl, hi, hb, hk⟩; refine ⟨_, rfl, ?_⟩; have n_ := ac_ (KeepBut.blk hk (g' := gb302) (o := .cells #[.int .i64 0, .slice none 0 0] 29 (0, 0)) q7_14 NB302_0.out (by simp)) <| ac_ (Kd.R_mono (Kd.R_keep (IsS152.apart (show IsS152 w0 _ g s0_0 t311 t312 from q7_4) q7_16 s15_) hk (fun _ h => h.2)) (fun _ h => h.1)) <| ac_ (KeepBut.blk hk (g' := gb309) (o := .cells #[.int .i64 t303, .slice Ao12 t304.length co12] 29 (0, 0)) q7_15 NB309_0.out (by simp)) <| ac_ (Kd.R_mono (Kd.R_keep (IsS152.apart (show IsS152 w0 _ g s0_0 t311 t312 from q7_4) (by (with_reducible repeat (first | apply Kd.R_alloc | apply Kd.R_drewN | apply Kd.R_drew)); exact HO315.out) s15_) hk (fun _ h => h.2)) (fun _ h => h.1)) <| ac_ (KeepBut.trans q7_7 hk (.inl rfl)) <| ac_ (hb) <| Aside0.mk (hi); clear BK302 HO306 BK309 HO315 HK HB HI0; obtain ⟨BK302, HO306, BK309, HO315, HK, HB, HI0⟩ := n_; (try clear hb hk hi); have hcz18_0 : w17.cell? ⟨gb309, 0, none⟩ = some (.int .i64 t303) := (blk_cell BK309.out 0).trans rfl; have hcz18_1 : w17.cell? ⟨gb309, 1, none⟩ = some (.slice Ao12 t304.length co12) := (blk_cell BK309.out 1).trans rfl; have hfz18_0 := blk_frozen BK309.out 0; have hfz18_1 := blk_frozen BK309.out 1; have hnb19 := NB302_0.out; have hnc19 := NB0_302.out; have hcz20_0 : w17.cell? ⟨gb302, 0, none⟩ = some (.int .i64 0) := (blk_cell BK302.out 0).trans rfl; have hcz20_1 : w17.cell? ⟨gb302, 1, none⟩ = some (.slice none 0 0) := (blk_cell BK302.out 1).trans rfl; have hfz20_0 := blk_frozen BK302.out 0; have hfz20_1 := blk_frozen BK302.out 1))
  refine bodyPost_ret (results_cell_row rfl _ _ gb302 29 #[.int .i64 t316, .slice Ao12 t304.length co12] (0, 0) _ rfl (by (with_reducible repeat (first | refine blk_drewN ?_ _ | refine blk_drew ?_ | refine blk_alloc ?_ _)); refine blk_put (cs := #[.int .i64 t316, .slice none 0 0]) ?_ 1 _ rfl; (with_reducible repeat (first | refine blk_drewN ?_ _ | refine blk_drew ?_ | refine blk_alloc ?_ _)); refine blk_put (cs := #[.int .i64 0, .slice none 0 0]) ?_ 0 _ rfl; (with_reducible repeat (first | refine blk_drewN ?_ _ | refine blk_drew ?_ | refine blk_alloc ?_ _)); refine blk_far ?_ NB302_309.out _; (with_reducible repeat (first | refine blk_drewN ?_ _ | refine blk_drew ?_ | refine blk_alloc ?_ _)); exact BK302.out) Tryz.underlying29 rfl s12_) rfl ?_
  exact ⟨_, s8_, (by (with_reducible repeat (first | apply Kd.R_alloc | apply Kd.R_drewN | apply Kd.R_drew)); exact Kd.R_mono (Kd.R_far (p := ⟨gb302, 1, none⟩) (Kd.R_far (p := ⟨gb302, 0, none⟩) (Kd.R_far (p := ⟨gb309, 0, none⟩) (Kd.R_types (Kd.R_types HO306.out BK309.out s15_) BK302.out s15_) (fun _ hk => hk.1.2) (.int .i64 t316)) (fun _ hk => hk.2) (.int .i64 t316)) (fun _ hk => hk.2) (.slice Ao12 t304.length co12)) (fun _ hk => trivial)), q7_4, q7_5, q7_7⟩
 ·
  rw [if_neg c4] at H; have c4b0 : (t310 == 0) = false := beq_eq_false_iff_ne.mpr c4; have c4b1 : (t310 != 0) = true := bne_iff_ne.mpr c4
  by_cases c21 : t310 = 1
  ·
   rw [if_pos c21] at H; have c21b0 : (t310 == 1) = true := beq_iff_eq.mpr c21; have c21b1 : (t310 != 1) = false := bne_eq_false_iff_eq.mpr c21; clear c21; obtain ⟨⟨t319, t320, t321⟩, A22, H⟩ := bnd7_ H; dsimp only at H
   by_cases c23 : t304.length < 17592186044416
   ·
    rw [if_pos c23] at H; have LMc23 := Aside0.mk c23; clear c23; obtain ⟨y322, hy322⟩ : ∃ y_ : List Int, y_ = (t304 ++ [t319]) := ⟨_, rfl⟩
    replace H : (some (t303, y322, t320, t321)) = some (r1, r2, r3, r4) := by first | (rw [hy322]; with_reducible exact H) | (have H2_ := (Option.bind_some _ _).symm.trans H; rw [hy322]; with_reducible exact H2_) | (have H2_ := (Option.bind_some _ _).symm.trans H; with_reducible exact H2_) | with_reducible exact H | (rw [hy322]; exact H) | exact H
    have Ny322 := Aside0.mk hy322; clear hy322
    simp only [Option.some.injEq, Prod.mk.injEq] at H
    obtain ⟨rfl, rfl, rfl, rfl⟩ := H
    go_enter Tryz.func161, Tryz.ntmps161
    try go_wp2_with (first | ((with_reducible refine gate_dst (N := 2) rfl ?_); refine box_event ?hg (N := 2) ?hd (cs := #[.int .i64 0, .slice none 0 0]) (t := 29) ?hr ?_; (case hd => rfl); (case hg => rfl); (case hr => first | (go_simp; done) | (go_simp; rfl)); intro gb302 hg w24 hbox hb; have n_ := ac_ (IsS152.below s5_ hb) <| ac_ (KeepBut.trans s6_ (KeepBut.of_below hb g none) (.inl rfl)) <| ac_ (below_step s11_ hb) <| ac_ (hbox) <| ac_ ((by rw [hg]; exact (keep_size (w := w) (g := g) (row := none) s6_) : w.heap.size ≤ gb302)) <| ac_ ((Nat.le_trans HW0.out (by rw [hg]; exact (keep_size (w := w) (g := g) (row := none) s6_) : w.heap.size ≤ gb302) : w0.heap.size ≤ gb302)) <| ac_ ((by rw [hg]; exact Nat.ne_of_lt (IsS152.lt (show IsS152 w0 _ g s0_0 s0_1 s0_2 from s5_)) : g ≠ gb302)) <| Aside0.mk ((by rw [hg]; exact Nat.ne_of_gt (IsS152.lt (show IsS152 w0 _ g s0_0 s0_1 s0_2 from s5_)) : gb302 ≠ g)); clear HI0 HK HB; obtain ⟨HI0, HK, HB, BK302, GW302, GE302, NB0_302, NB302_0⟩ := n_; clear hb hbox hg) | (refine gL_ 205 5 Tryz.func205 #[.pointer (some ⟨g, 0, none⟩)] ?_; (with_reducible refine (spec_l3Draw.calls k g s0_0 s0_1 s0_2 t303 t304 t307 t308 w0 _ ?side1 ?side2 A2.out).mono ?_); (case side1 => exact q7_6); (case side2 => exact q7_8); rintro e w25 ⟨v305, rfl, ho0, hi, hb, hk⟩; refine ⟨_, rfl, ?_⟩; have n_ := ac_ (KeepBut.blk hk (g' := gb302) (o := .cells #[.int .i64 0, .slice none 0 0] 29 (0, 0)) q7_14 NB302_0.out (by simp)) <| ac_ (Kd.R_lower ho0 (keep_size (w := w) (g := g) (row := none) q7_9)) <| ac_ (KeepBut.trans q7_9 hk (.inl rfl)) <| ac_ (hb) <| Aside0.mk (hi); clear BK302 HK HB HI0; obtain ⟨BK302, HO306, HK, HB, HI0⟩ := n_; (try clear hb hk hi ho0)) | ((with_reducible refine gate_dst (N := 3) rfl ?_); refine box_event ?hg (N := 3) ?hd (cs := #[.int .i64 0, .slice none 0 0]) (t := 29) ?hr ?_; (case hd => rfl); (case hg => rfl); (case hr => first | (go_simp; done) | (go_simp; rfl)); intro gb309 hg w26 hbox hb; have n_ := ac_ (Kd.R_below q7_16 hb) <| ac_ (IsS152.below q7_6 hb) <| ac_ (blk_below (g := gb302) (o := .cells #[.int .i64 0, .slice none 0 0] 29 (0, 0)) q7_14 hb) <| ac_ (KeepBut.trans q7_9 (KeepBut.of_below hb g none) (.inl rfl)) <| ac_ (below_step q7_8 hb) <| ac_ (hbox) <| ac_ ((by rw [hg]; exact (keep_size (w := w) (g := g) (row := none) q7_9) : w.heap.size ≤ gb309)) <| ac_ ((Nat.le_trans HW0.out (by rw [hg]; exact (keep_size (w := w) (g := g) (row := none) q7_9) : w.heap.size ≤ gb309) : w0.heap.size ≤ gb309)) <| ac_ ((by rw [hg]; exact Nat.ne_of_lt (blk_lt (g := gb302) (o := .cells #[.int .i64 0, .slice none 0 0] 29 (0, 0)) q7_14) : gb302 ≠ gb309)) <| ac_ ((by rw [hg]; exact Nat.ne_of_gt (blk_lt (g := gb302) (o := .cells #[.int .i64 0, .slice none 0 0] 29 (0, 0)) q7_14) : gb309 ≠ gb302)) <| ac_ ((by rw [hg]; exact Nat.ne_of_lt (IsS152.lt (show IsS152 w0 _ g s0_0 t307 t308 from q7_6)) : g ≠ gb309)) <| Aside0.mk ((by rw [hg]; exact Nat.ne_of_gt (IsS152.lt (show IsS152 w0 _ g s0_0 t307 t308 from q7_6)) : gb309 ≠ g)); clear HO306 HI0 BK302 HK HB; obtain ⟨HO306, HI0, BK302, HK, HB, BK309, GW309, GE309, NB302_309, NB309_302, NB0_309, NB309_0⟩ := n_; clear hb hbox hg; have hnb27 := NB309_302.out; have hnc27 := NB302_309.out; have hnb28 := NB309_0.out; have hnc28 := NB0_309.out; have hcz29_0 : w26.cell? ⟨gb309, 0, none⟩ = some (.int .i64 0) := (blk_cell BK309.out 0).trans rfl; have hcz29_1 : w26.cell? ⟨gb309, 1, none⟩ = some (.slice none 0 0) := (blk_cell BK309.out 1).trans rfl; have hfz29_0 := blk_frozen BK309.out 0; have hfz29_1 := blk_frozen BK309.out 1; obtain ⟨Ao30, co30, eo30⟩ := Kd.R_slice HO306.out; subst eo30) | (refine gL_ 146 7 Tryz.func146 #[.pointer (some ⟨g, 0, none⟩), .int .i64 14] ?_; (with_reducible refine (spec_l1Below.calls g s0_0 t307 t308 14 t310 t311 t312 w0 _ ?side1 ?side2 A3.out).mono ?_); (case side1 => exact q7_4); (case side2 => exact q7_5); rintro e w31 ⟨rfl, hi, hb, hk⟩; refine ⟨_, rfl, ?_⟩; have n_ := ac_ (KeepBut.blk hk (g' := gb302) (o := .cells #[.int .i64 0, .slice none 0 0] 29 (0, 0)) q7_3 NB302_0.out (by simp)) <| ac_ (Kd.R_mono (Kd.R_keep (IsS152.apart (show IsS152 w0 _ g s0_0 t307 t308 from q7_4) (by (with_reducible repeat (first | apply Kd.R_alloc | apply Kd.R_drewN | apply Kd.R_drew)); exact (Kd.R_mono (Kd.R_far (p := ⟨gb309, 1, none⟩) (Kd.R_far (p := ⟨gb309, 0, none⟩) (Kd.R_types HO306.out BK309.out s15_) (fun _ hk => hk.2) (.int .i64 t303)) (fun _ hk => hk.2) (.slice Ao30 t304.length co30)) (fun _ h_ => h_.1))) s15_) hk (fun _ h => h.2)) (fun _ h => h.1)) <| ac_ (KeepBut.blk hk (g' := gb309) (o := .cells #[.int .i64 t303, .slice Ao30 t304.length co30] 29 (0, 0)) q7_2 NB309_0.out (by simp)) <| ac_ (KeepBut.trans q7_7 hk (.inl rfl)) <| ac_ (hb) <| Aside0.mk (hi); clear BK302 HO306 BK309 HK HB HI0; obtain ⟨BK302, HO306, BK309, HK, HB, HI0⟩ := n_; (try clear hb hk hi)))
    have n0_ := Aside0.mk (Kd.R_drew HO306.out); have n1_ := Aside0.mk (blk_drew BK302.out); have n2_ := Aside0.mk (blk_drew BK309.out); have n3_ := Aside0.mk (IsS152.drew HI0.out); have n4_ := Aside0.mk (keep_drew HK.out); have n5_ := Aside0.mk (below_drew1 HB.out); clear HO306; clear BK302; clear BK309; clear HI0; clear HK; clear HB; have HO306 := n0_; have BK302 := n1_; have BK309 := n2_; have HI0 := n3_; have HK := n4_; have HB := n5_; clear n0_ n1_ n2_ n3_ n4_ n5_
    refine start_ (n := 8) (S := fun w' => w'.cell? ⟨gb309, 0, none⟩ = some (.int .i64 t303) ∧ w'.cell? ⟨gb309, 1, none⟩ = some (.slice Ao30 t304.length co30)) (ds := [7]) (tb_ 8 0) s12_ rfl rfl ⟨(blk_cell BK309.out 0).trans rfl, (blk_cell BK309.out 1).trans rfl⟩ (fun hHeld => ?_); refine with_tabW spec_l3Bent.tab6 spec_l3Bent.bits6 (fun HT_ HW_ => ?_)
    generalize w31.drew = w32 at HO306 BK302 BK309 HI0 HK HB hHeld ⊢
    refine pl_ 0 16 (tb_ 8 1) ?_; refine pl_ 2 18 (tb_ 8 5) ?_
    refine take_ (i := 1) (N := some 17) (v := ?_) (a' := ?_) (tb_ 8 7) rfl rfl (take_ofW HT_.out HW_.out s12_) (fun _ _ _ h => h) (Or.inl ⟨by rfl, ?_⟩) hHeld ?_ ?_
    rotate_left
    ·
     rintro w' ⟨s0, s1⟩
     go_simp; with_reducible rfl
    rotate_left
    ·
     exact s10_
    refine one_ (i := 3) (N := some 19) (tb_ 8 15) rfl rfl (one_of HT_.out s12_) s15_ (fun K hK => ?_)
    refine goes_ Tryz.func176 s12_ rfl #[.pointer (some ⟨g, 0, none⟩)] (by rfl) rfl rfl s0_ ?_
    with_reducible refine (spec_l2Bent.calls g s0_0 t311 t312 t319 t320 t321 w0 _ ?side1 ?side2 A22.out).mono ?_
    (case side1 => exact q7_4)
    (case side2 => exact q7_5)
    rintro e w33 ⟨rfl, hi, hb, hk⟩
    refine ⟨_, rfl, ?_⟩
    have n0_ := Aside0.mk (KeepBut.blk hk (g' := gb302) (o := .cells #[.int .i64 0, .slice none 0 0] 29 (0, 0)) q7_14 NB302_0.out (by simp))
    have n1_ := Aside0.mk (Kd.R_mono (Kd.R_keep (IsS152.apart (show IsS152 w0 _ g s0_0 t311 t312 from q7_4) q7_16 s15_) hk (fun _ h => h.2)) (fun _ h => h.1))
    have n2_ := Aside0.mk (KeepBut.blk hk (g' := gb309) (o := .cells #[.int .i64 t303, .slice Ao30 t304.length co30] 29 (0, 0)) q7_15 NB309_0.out (by simp))
    have n3_ := Aside0.mk (KeepBut.trans q7_7 hk (.inl rfl)); have n4_ := Aside0.mk (hb); have n5_ := Aside0.mk (hi); clear BK302; clear HO306; clear BK309; clear HK; clear HB; clear HI0; have BK302 := n0_; have HO306 := n1_; have BK309 := n2_; have HK := n3_; have HB := n4_; have HI0 := n5_; clear n0_ n1_ n2_ n3_ n4_ n5_
    (try clear hb)
    (try clear hb2)
    (try clear hk)
    (try clear hi)
    refine hK.out _ _ ⟨(blk_cell BK309.out 0).trans rfl, (blk_cell BK309.out 1).trans rfl⟩ (fun hHeld => ?_)
    clear hK K
    refine norm_ (a' := ?_) ?_ ?_
    rotate_left
    ·
     show Act.put _ (some 19) _ = _
     exact s10_
    refine one_ (i := 4) (N := some 20) (tb_ 8 31) rfl rfl (one_of HT_.out s12_) s15_ (fun K hK => ?_)
    refine value_ (w1 := ?_) (v := ?_) (by rfl) rfl ?_ ?_
    rotate_left 2
    ·
     go_simp
     constructor
     ·
      rfl
     ·
      rfl
    refine hK.out _ _ ⟨(blk_cell (blk_alloc BK309.out _) 0).trans rfl, (blk_cell (blk_alloc BK309.out _) 1).trans rfl⟩ (fun hHeld => ?_)
    clear hK K
    refine norm_ (a' := ?_) ?_ ?_
    rotate_left
    ·
     show Act.put _ (some 20) _ = _
     exact s10_
    refine one_ (i := 5) (N := some 21) (tb_ 8 63) rfl rfl (one_of HT_.out s12_) s15_ (fun K hK => ?_)
    refine Kd.R_append_step (Kd.int .i64) w.heap.size (by rfl) (.tmp 17) (.tmp 20) 27 3 (.int .i64 0) 8 rfl Tryz.underlying27 info3 rfl s15_ (by omega) (.slice Ao30 t304.length co30) t304 t319 [.int .i64 t319] (fun _ => True) (fun _ => False) rfl rfl ?aP (fun _ hk => hk.elim) ?aF ?aO (Below.refl _ _) ?aS ?aL ?_
    (case aP => exact rfl)
    (case aF => exact (fun _ _ => trivial))
    (case aO => exact q7_16)
    (case aS => exact (keep_size (w := w) (g := g) (row := none) q7_7))
    (case aL => have := LMc23.out; omega)
    intro v323 w34 ho hb hg hat
    rw [← Ny322.out] at ho; have n0_ := Aside0.mk (IsS152.grown q7_4 hg (IsS152.own_ne HI0.out HO306.out s15_)); have n1_ := Aside0.mk (blk_grown (g := gb302) (o := .cells #[.int .i64 0, .slice none 0 0] 29 (0, 0)) q7_14 hg (Kd.R_ne HO306.out BK302.out s15_)); have n2_ := Aside0.mk (blk_grown (g := gb309) (o := .cells #[.int .i64 t303, .slice Ao30 t304.length co30] 29 (0, 0)) q7_15 hg (Kd.R_ne HO306.out BK309.out s15_)); have n3_ := Aside0.mk (below_weaken q7_5 HL.out hb); have n4_ := Aside0.mk (KeepBut.trans q7_7 (KeepBut.of_grown hg g) (Kd.R_base2 HO306.out)); have n5_ := Aside0.mk (ho); clear HI0; clear BK302; clear BK309; clear HB; clear HK; clear HO306; have HI0 := n0_; have BK302 := n1_; have BK309 := n2_; have HB := n3_; have HK := n4_; have HO324 := n5_; clear n0_ n1_ n2_ n3_ n4_ n5_; clear ho hb hg hat; obtain ⟨Ao35, co35, eo35⟩ := Kd.R_slice HO324.out
    (first | subst eo35 | (injection eo35 with f1_ f2_ f3_; have f4_ := f1_.symm; have f5_ := f3_.symm; clear f1_ f2_ f3_; subst f4_; subst f5_))
    refine hK.out _ _ ⟨(blk_cell BK309.out 0).trans rfl, (blk_cell BK309.out 1).trans rfl⟩ (fun hHeld => ?_)
    clear hK K
    refine norm_ (a' := ?_) ?_ ?_
    rotate_left
    ·
     show Act.put _ (some 21) _ = _
     exact s10_
    refine pl_ 6 22 (tb_ 8 127) ?_
    refine last_ (i := 7) (N := none) (tb_ 8 255) rfl rfl (one_of HT_.out s12_) s15_ (fun K hK => ?_)
    have hs36 : w34.cell? ⟨gb309, 1, none⟩ = some (.slice Ao30 t304.length co30) := (blk_cell BK309.out 1).trans rfl; have hfs36 := blk_frozen BK309.out 1; have hns36_0 := NB302_309.out; have hms36_0 := NB309_302.out
    refine skip_ (w1 := ?_) (by rfl) rfl ?_ ?_
    rotate_left
    ·
     go_simp
     rfl
    refine hK.out _ _ ?_
    clear hK K
    refine done_ (done_of HT_.out s12_) ?_
    have hcz37_0 : w34.cell? ⟨gb309, 0, none⟩ = some (.int .i64 t303) := (blk_cell BK309.out 0).trans rfl; have hcz37_1 : w34.cell? ⟨gb309, 1, none⟩ = some (.slice Ao30 t304.length co30) := (blk_cell BK309.out 1).trans rfl; have hfz37_0 := blk_frozen BK309.out 0; have hfz37_1 := blk_frozen BK309.out 1; have hnb38 := NB302_0.out; have hnc38 := NB0_302.out; have hcz39_0 : w34.cell? ⟨gb302, 0, none⟩ = some (.int .i64 0) := (blk_cell BK302.out 0).trans rfl; have hcz39_1 : w34.cell? ⟨gb302, 1, none⟩ = some (.slice none 0 0) := (blk_cell BK302.out 1).trans rfl; have hfz39_0 := blk_frozen BK302.out 0; have hfz39_1 := blk_frozen BK302.out 1
    try go_wp2
    refine bodyPost_ret (results_cell_row rfl _ _ gb302 29 #[.int .i64 t303, .slice Ao35 y322.length co35] (0, 0) _ rfl (by (with_reducible repeat (first | refine blk_drewN ?_ _ | refine blk_drew ?_ | refine blk_alloc ?_ _)); refine blk_put (cs := #[.int .i64 t303, .slice none 0 0]) ?_ 1 _ rfl; (with_reducible repeat (first | refine blk_drewN ?_ _ | refine blk_drew ?_ | refine blk_alloc ?_ _)); refine blk_put (cs := #[.int .i64 0, .slice none 0 0]) ?_ 0 _ rfl; (with_reducible repeat (first | refine blk_drewN ?_ _ | refine blk_drew ?_ | refine blk_alloc ?_ _)); refine blk_far ?_ NB302_309.out _; (with_reducible repeat (first | refine blk_drewN ?_ _ | refine blk_drew ?_ | refine blk_alloc ?_ _)); exact BK302.out) Tryz.underlying29 rfl s12_) rfl ?_
    exact ⟨_, s8_, (by (with_reducible repeat (first | apply Kd.R_alloc | apply Kd.R_drewN | apply Kd.R_drew)); exact Kd.R_mono (Kd.R_far (p := ⟨gb302, 1, none⟩) (Kd.R_far (p := ⟨gb302, 0, none⟩) (Kd.R_far (p := ⟨gb309, 1, none⟩) (Kd.R_types (Kd.R_types HO324.out BK309.out s15_) BK302.out s15_) (fun _ hk => hk.1.2) (.slice Ao35 y322.length co35)) (fun _ hk => hk.2) (.int .i64 t303)) (fun _ hk => hk.2) (.slice Ao35 y322.length co35)) (fun _ hk => trivial)), q7_4, q7_5, q7_7⟩
   ·
    rw [if_neg c23] at H
    exact absurd H (by simp)
  ·
   rw [if_neg c21] at H; have c21b0 : (t310 == 1) = false := beq_eq_false_iff_ne.mpr c21; have c21b1 : (t310 != 1) = true := bne_iff_ne.mpr c21
   by_cases c40 : t310 = 2
   ·
    rw [if_pos c40] at H; have c40b0 : (t310 == 2) = true := beq_iff_eq.mpr c40; have c40b1 : (t310 != 2) = false := bne_eq_false_iff_eq.mpr c40; clear c40; have H' := Aside0.mk H; clear H
    go_enter Tryz.func161, Tryz.ntmps161
    go_wp2_with (first | ((with_reducible refine gate_dst (N := 2) rfl ?_); refine box_event ?hg (N := 2) ?hd (cs := #[.int .i64 0, .slice none 0 0]) (t := 29) ?hr ?_; (case hd => rfl); (case hg => rfl); (case hr => first | (go_simp; done) | (go_simp; rfl)); intro gb302 hg w41 hbox hb; have n_ := ac_ (IsS152.below s5_ hb) <| ac_ (KeepBut.trans s6_ (KeepBut.of_below hb g none) (.inl rfl)) <| ac_ (below_step s11_ hb) <| ac_ (hbox) <| ac_ ((by rw [hg]; exact (keep_size (w := w) (g := g) (row := none) s6_) : w.heap.size ≤ gb302)) <| ac_ ((Nat.le_trans HW0.out (by rw [hg]; exact (keep_size (w := w) (g := g) (row := none) s6_) : w.heap.size ≤ gb302) : w0.heap.size ≤ gb302)) <| ac_ ((by rw [hg]; exact Nat.ne_of_lt (IsS152.lt (show IsS152 w0 _ g s0_0 s0_1 s0_2 from s5_)) : g ≠ gb302)) <| Aside0.mk ((by rw [hg]; exact Nat.ne_of_gt (IsS152.lt (show IsS152 w0 _ g s0_0 s0_1 s0_2 from s5_)) : gb302 ≠ g)); clear HI0 HK HB; obtain ⟨HI0, HK, HB, BK302, GW302, GE302, NB0_302, NB302_0⟩ := n_; clear hb hbox hg) | (refine gL_ 205 5 Tryz.func205 #[.pointer (some ⟨g, 0, none⟩)] ?_; (with_reducible refine (spec_l3Draw.calls k g s0_0 s0_1 s0_2 t303 t304 t307 t308 w0 _ ?side1 ?side2 A2.out).mono ?_); (case side1 => exact q7_6); (case side2 => exact q7_8); rintro e w42 ⟨v305, rfl, ho0, hi, hb, hk⟩; refine ⟨_, rfl, ?_⟩; have n_ := ac_ (KeepBut.blk hk (g' := gb302) (o := .cells #[.int .i64 0, .slice none 0 0] 29 (0, 0)) q7_14 NB302_0.out (by simp)) <| ac_ (Kd.R_lower ho0 (keep_size (w := w) (g := g) (row := none) q7_9)) <| ac_ (KeepBut.trans q7_9 hk (.inl rfl)) <| ac_ (hb) <| Aside0.mk (hi); clear BK302 HK HB HI0; obtain ⟨BK302, HO306, HK, HB, HI0⟩ := n_; (try clear hb hk hi ho0)) | ((with_reducible refine gate_dst (N := 3) rfl ?_); refine box_event ?hg (N := 3) ?hd (cs := #[.int .i64 0, .slice none 0 0]) (t := 29) ?hr ?_; (case hd => rfl); (case hg => rfl); (case hr => first | (go_simp; done) | (go_simp; rfl)); intro gb309 hg w43 hbox hb; have n_ := ac_ (Kd.R_below q7_16 hb) <| ac_ (IsS152.below q7_6 hb) <| ac_ (blk_below (g := gb302) (o := .cells #[.int .i64 0, .slice none 0 0] 29 (0, 0)) q7_14 hb) <| ac_ (KeepBut.trans q7_9 (KeepBut.of_below hb g none) (.inl rfl)) <| ac_ (below_step q7_8 hb) <| ac_ (hbox) <| ac_ ((by rw [hg]; exact (keep_size (w := w) (g := g) (row := none) q7_9) : w.heap.size ≤ gb309)) <| ac_ ((Nat.le_trans HW0.out (by rw [hg]; exact (keep_size (w := w) (g := g) (row := none) q7_9) : w.heap.size ≤ gb309) : w0.heap.size ≤ gb309)) <| ac_ ((by rw [hg]; exact Nat.ne_of_lt (blk_lt (g := gb302) (o := .cells #[.int .i64 0, .slice none 0 0] 29 (0, 0)) q7_14) : gb302 ≠ gb309)) <| ac_ ((by rw [hg]; exact Nat.ne_of_gt (blk_lt (g := gb302) (o := .cells #[.int .i64 0, .slice none 0 0] 29 (0, 0)) q7_14) : gb309 ≠ gb302)) <| ac_ ((by rw [hg]; exact Nat.ne_of_lt (IsS152.lt (show IsS152 w0 _ g s0_0 t307 t308 from q7_6)) : g ≠ gb309)) <| Aside0.mk ((by rw [hg]; exact Nat.ne_of_gt (IsS152.lt (show IsS152 w0 _ g s0_0 t307 t308 from q7_6)) : gb309 ≠ g)); clear HO306 HI0 BK302 HK HB; obtain ⟨HO306, HI0, BK302, HK, HB, BK309, GW309, GE309, NB302_309, NB309_302, NB0_309, NB309_0⟩ := n_; clear hb hbox hg; have hnb44 := NB309_302.out; have hnc44 := NB302_309.out; have hnb45 := NB309_0.out; have hnc45 := NB0_309.out; have hcz46_0 : w43.cell? ⟨gb309, 0, none⟩ = some (.int .i64 0) := (blk_cell BK309.out 0).trans rfl; have hcz46_1 : w43.cell? ⟨gb309, 1, none⟩ = some (.slice none 0 0) := (blk_cell BK309.out 1).trans rfl; have hfz46_0 := blk_frozen BK309.out 0; have hfz46_1 := blk_frozen BK309.out 1; obtain ⟨Ao47, co47, eo47⟩ := Kd.R_slice HO306.out; subst eo47) | (refine gL_ 146 7 Tryz.func146 #[.pointer (some ⟨g, 0, none⟩), .int .i64 14] ?_; (with_reducible refine (spec_l1Below.calls g s0_0 t307 t308 14 t310 t311 t312 w0 _ ?side1 ?side2 A3.out).mono ?_); (case side1 => exact q7_4); (case side2 => exact q7_5); rintro e w48 ⟨rfl, hi, hb, hk⟩; refine ⟨_, rfl, ?_⟩; have n_ := ac_ (KeepBut.blk hk (g' := gb302) (o := .cells #[.int .i64 0, .slice none 0 0] 29 (0, 0)) q7_3 NB302_0.out (by simp)) <| ac_ (Kd.R_mono (Kd.R_keep (IsS152.apart (show IsS152 w0 _ g s0_0 t307 t308 from q7_4) (by (with_reducible repeat (first | apply Kd.R_alloc | apply Kd.R_drewN | apply Kd.R_drew)); exact (Kd.R_mono (Kd.R_far (p := ⟨gb309, 1, none⟩) (Kd.R_far (p := ⟨gb309, 0, none⟩) (Kd.R_types HO306.out BK309.out s15_) (fun _ hk => hk.2) (.int .i64 t303)) (fun _ hk => hk.2) (.slice Ao47 t304.length co47)) (fun _ h_ => h_.1))) s15_) hk (fun _ h => h.2)) (fun _ h => h.1)) <| ac_ (KeepBut.blk hk (g' := gb309) (o := .cells #[.int .i64 t303, .slice Ao47 t304.length co47] 29 (0, 0)) q7_2 NB309_0.out (by simp)) <| ac_ (KeepBut.trans q7_7 hk (.inl rfl)) <| ac_ (hb) <| Aside0.mk (hi); clear BK302 HO306 BK309 HK HB HI0; obtain ⟨BK302, HO306, BK309, HK, HB, HI0⟩ := n_; (try clear hb hk hi)))
    go_loopg [] k (fun kq w' => ∃ (x310001_1 : List Int) (u310001 : Value), Aside0 (spec_l3Bent.l0 kq s0_0 t311 t312 t303 x310001_1 = some (r1, r2, r3, r4)) ∧ Aside0 (kq ≤ k) ∧ Aside0 (Kd.R (Kd.int .i64) 3 w' w.heap.size (fun _ => True) u310001 x310001_1) ∧ Aside0 (w'.heap[gb302]? = some (.cells #[.int .i64 0, (.slice none 0 0)] 29 (0, 0))) ∧ Aside0 (w'.heap[gb309]? = some (.cells #[.int .i64 t303, u310001] 29 (0, 0))) ∧ Aside0 (IsS152 w0 w' g s0_0 t311 t312) ∧ Aside0 (KeepBut w w' g none) ∧ Aside0 (Below w0.heap.size w0 w'))
    case atStart => exact ⟨(t304), (.slice Ao47 t304.length co47), H', ⟨Nat.le_refl _⟩, ⟨q7_16⟩, ⟨q7_14⟩, ⟨q7_15⟩, ⟨q7_4⟩, ⟨q7_7⟩, ⟨q7_5⟩⟩
    case round =>
     clear H'
     try clear c1
     try clear c2
     try clear p2
     try clear c3
     try clear c4
     try clear c4b0
     try clear c4b1
     try clear c9
     try clear c10
     try clear c14
     try clear c16
     try clear c17
     try clear c19
     try clear c20
     try clear c21
     try clear c21b0
     try clear c21b1
     try clear c23
     try clear c27
     try clear c28
     try clear c38
     try clear c40
     try clear c40b0
     try clear c40b1
     try clear c44
     try clear c45
     try clear hcz11_0
     try clear hcz11_1
     try clear hcz18_0
     try clear hcz18_1
     try clear hcz20_0
     try clear hcz20_1
     try clear hcz29_0
     try clear hcz29_1
     try clear hcz37_0
     try clear hcz37_1
     try clear hcz39_0
     try clear hcz39_1
     try clear hcz46_0
     try clear hcz46_1
     try clear hfz11_0
     try clear hfz11_1
     try clear hfz18_0
     try clear hfz18_1
     try clear hfz20_0
     try clear hfz20_1
     try clear hfz29_0
     try clear hfz29_1
     try clear hfz37_0
     try clear hfz37_1
     try clear hfz39_0
     try clear hfz39_1
     try clear hfz46_0
     try clear hfz46_1
     obtain ⟨x310001_1, u310001, HA, HK1, HO_310001, BK302, BK309, HI0, HK, HB⟩ := hrel
     cases gk with
     | zero => exact absurd HA.out (by simp [spec_l3Bent.l0])
     | succ k1 =>
      have H := HA.out; clear HA
      simp only [spec_l3Bent.l0] at H
      by_cases c49 : (x310001_1.length : Int) < 9
      ·
       rw [if_pos c49] at H; have c49b0 : decide ((x310001_1.length : Int) < 9) = true := decide_eq_true c49
       have c49b1 : decide (x310001_1.length < 9) = true := decide_eq_true (by omega)
       clear c49
       by_cases c50 : x310001_1.length < 17592186044416
       ·
        rw [if_pos c50] at H; have LMc50 := Aside0.mk c50; clear c50; obtain ⟨y325, hy325⟩ : ∃ y_ : List Int, y_ = (x310001_1 ++ [0]) := ⟨_, rfl⟩
        replace H : (spec_l3Bent.l0 k1 s0_0 t311 t312 t303 y325) = some (r1, r2, r3, r4) := by first | (rw [hy325]; with_reducible exact H) | (have H2_ := (Option.bind_some _ _).symm.trans H; rw [hy325]; with_reducible exact H2_) | (have H2_ := (Option.bind_some _ _).symm.trans H; with_reducible exact H2_) | with_reducible exact H | (rw [hy325]; exact H) | exact H
        have Ny325 := Aside0.mk hy325; clear hy325; have H' := Aside0.mk H; clear H; have hnb51 := NB309_302.out; have hnc51 := NB302_309.out; have hnb52 := NB309_0.out; have hnc52 := NB0_309.out; have hcz53_0 : wr.cell? ⟨gb309, 0, none⟩ = some (.int .i64 t303) := (blk_cell BK309.out 0).trans rfl; have hcz53_1 : wr.cell? ⟨gb309, 1, none⟩ = some (u310001) := (blk_cell BK309.out 1).trans rfl; have hfz53_0 := blk_frozen BK309.out 0; have hfz53_1 := blk_frozen BK309.out 1; obtain ⟨Ao54, co54, eo54⟩ := Kd.R_slice HO_310001.out; subst eo54
        go_wp2_with (first | ((with_reducible refine gate_builtin (b := .append) (xs := #[.tmp 30, .tmp 31]) rfl ?_); at_builtin; refine Kd.R_append (Kd.int .i64) w.heap.size rfl (.tmp 30) (.tmp 31) 27 3 (.int .i64 0) 8 rfl Tryz.underlying27 info3 rfl s15_ (by omega) (.slice Ao54 x310001_1.length co54) x310001_1 0 [.int .i64 0] (fun _ => True) (fun _ => False) rfl rfl ?aP (fun _ hk => hk.elim) ?aF ?aO (Below.refl _ _) ?aS ?aL ?_; (case aP => exact rfl); (case aF => exact (fun _ _ => trivial)); (case aO => exact (by (with_reducible repeat (first | apply Kd.R_alloc | apply Kd.R_drewN | apply Kd.R_drew)); exact HO_310001.out)); (case aS => exact (keep_size (w := w) (g := g) (row := none) q7_7)); (case aL => have := LMc50.out; omega); intro v326 w55 ho hb hg hat; rw [← Ny325.out] at ho; have n_ := ac_ (blk_grown (g := gb302) (o := .cells #[.int .i64 0, .slice none 0 0] 29 (0, 0)) q7_14 hg (Kd.R_ne HO_310001.out BK302.out s15_)) <| ac_ (blk_grown (g := gb309) (o := .cells #[.int .i64 t303, .slice Ao54 x310001_1.length co54] 29 (0, 0)) q7_15 hg (Kd.R_ne HO_310001.out BK309.out s15_)) <| ac_ (IsS152.grown q7_4 hg (IsS152.own_ne HI0.out HO_310001.out s15_)) <| ac_ (below_weaken q7_5 HL.out hb) <| ac_ (KeepBut.trans q7_7 (KeepBut.of_grown hg g) (Kd.R_base2 HO_310001.out)) <| Aside0.mk (ho); clear BK302 BK309 HI0 HB HK HO_310001; obtain ⟨BK302, BK309, HI0, HB, HK, HO327⟩ := n_; clear ho hb hg hat; obtain ⟨Ao56, co56, eo56⟩ := Kd.R_slice HO327.out; subst eo56; have hcz57_0 : w55.cell? ⟨gb309, 0, none⟩ = some (.int .i64 t303) := (blk_cell BK309.out 0).trans rfl; have hcz57_1 : w55.cell? ⟨gb309, 1, none⟩ = some (.slice Ao54 x310001_1.length co54) := (blk_cell BK309.out 1).trans rfl; have hfz57_0 := blk_frozen BK309.out 0; have hfz57_1 := blk_frozen BK309.out 1))
        go_roundg k1
        case measure => have := HK1.out; omega
        case rel => exact ⟨(y325), (.slice Ao56 y325.length co56), H', ⟨by have := HK1.out; omega⟩, ⟨(by (with_reducible repeat (first | apply Kd.R_alloc | apply Kd.R_drewN | apply Kd.R_drew)); exact Kd.R_mono (Kd.R_far (p := ⟨gb309, 1, none⟩) (Kd.R_types HO327.out BK309.out s15_) (fun _ hk => hk.2) (.slice Ao56 y325.length co56)) (fun _ hk => trivial))⟩, ⟨(by (with_reducible repeat (first | refine blk_drewN ?_ _ | refine blk_drew ?_ | refine blk_alloc ?_ _)); refine blk_far ?_ NB302_309.out _; (with_reducible repeat (first | refine blk_drewN ?_ _ | refine blk_drew ?_ | refine blk_alloc ?_ _)); exact BK302.out)⟩, ⟨(by (with_reducible repeat (first | refine blk_drewN ?_ _ | refine blk_drew ?_ | refine blk_alloc ?_ _)); refine blk_put (cs := #[.int .i64 t303, .slice Ao54 x310001_1.length co54]) ?_ 1 _ rfl; (with_reducible repeat (first | refine blk_drewN ?_ _ | refine blk_drew ?_ | refine blk_alloc ?_ _)); exact BK309.out)⟩, ⟨q7_4⟩, ⟨q7_7⟩, ⟨q7_5⟩⟩
       ·
        rw [if_neg c50] at H
        exact absurd H (by simp)
      ·
       rw [if_neg c49] at H; have c49b0 : decide ((x310001_1.length : Int) < 9) = false := decide_eq_false c49
       have c49b1 : decide (x310001_1.length < 9) = false := decide_eq_false (by omega)
       clear c49
       simp only [Option.some.injEq, Prod.mk.injEq] at H
       obtain ⟨rfl, rfl, rfl, rfl⟩ := H; have hnb58 := NB309_302.out; have hnc58 := NB302_309.out; have hnb59 := NB309_0.out; have hnc59 := NB0_309.out; have hcz60_0 : wr.cell? ⟨gb309, 0, none⟩ = some (.int .i64 t303) := (blk_cell BK309.out 0).trans rfl; have hcz60_1 : wr.cell? ⟨gb309, 1, none⟩ = some (u310001) := (blk_cell BK309.out 1).trans rfl; have hfz60_0 := blk_frozen BK309.out 0; have hfz60_1 := blk_frozen BK309.out 1; obtain ⟨Ao61, co61, eo61⟩ := Kd.R_slice HO_310001.out; subst eo61; have hnb62 := NB302_0.out; have hnc62 := NB0_302.out; have hcz63_0 : wr.cell? ⟨gb302, 0, none⟩ = some (.int .i64 0) := (blk_cell BK302.out 0).trans rfl; have hcz63_1 : wr.cell? ⟨gb302, 1, none⟩ = some (.slice none 0 0) := (blk_cell BK302.out 1).trans rfl; have hfz63_0 := blk_frozen BK302.out 0; have hfz63_1 := blk_frozen BK302.out 1
       go_wp2
       refine bodyPost_ret (results_cell_row rfl _ _ gb302 29 #[.int .i64 t303, .slice Ao61 x310001_1.length co61] (0, 0) _ rfl q7_1 Tryz.underlying29 rfl s12_) rfl ?_
       exact ⟨_, s8_, (by (with_reducible repeat (first | apply Kd.R_alloc | apply Kd.R_drewN | apply Kd.R_drew)); exact Kd.R_mono (Kd.R_far (p := ⟨gb302, 1, none⟩) (Kd.R_far (p := ⟨gb302, 0, none⟩) (Kd.R_types HO_310001.out BK302.out s15_) (fun _ hk => hk.2) (.int .i64 t303)) (fun _ hk => hk.2) (.slice Ao61 x310001_1.length co61)) (fun _ hk => trivial)), q7_4, q7_5, q7_7⟩
   ·
    rw [if_neg c40] at H; have c40b0 : (t310 == 2) = false := beq_eq_false_iff_ne.mpr c40; have c40b1 : (t310 != 2) = true := bne_iff_ne.mpr c40
    simp only [Option.some.injEq, Prod.mk.injEq] at H
    obtain ⟨rfl, rfl, rfl, rfl⟩ := H
    go_enter Tryz.func161, Tryz.ntmps161
    go_wp2_with (first | ((with_reducible refine gate_dst (N := 2) rfl ?_); refine box_event ?hg (N := 2) ?hd (cs := #[.int .i64 0, .slice none 0 0]) (t := 29) ?hr ?_; (case hd => rfl); (case hg => rfl); (case hr => first | (go_simp; done) | (go_simp; rfl)); intro gb302 hg w64 hbox hb; have n_ := ac_ (IsS152.below s5_ hb) <| ac_ (KeepBut.trans s6_ (KeepBut.of_below hb g none) (.inl rfl)) <| ac_ (below_step s11_ hb) <| ac_ (hbox) <| ac_ ((by rw [hg]; exact (keep_size (w := w) (g := g) (row := none) s6_) : w.heap.size ≤ gb302)) <| ac_ ((Nat.le_trans HW0.out (by rw [hg]; exact (keep_size (w := w) (g := g) (row := none) s6_) : w.heap.size ≤ gb302) : w0.heap.size ≤ gb302)) <| ac_ ((by rw [hg]; exact Nat.ne_of_lt (IsS152.lt (show IsS152 w0 _ g s0_0 s0_1 s0_2 from s5_)) : g ≠ gb302)) <| Aside0.mk ((by rw [hg]; exact Nat.ne_of_gt (IsS152.lt (show IsS152 w0 _ g s0_0 s0_1 s0_2 from s5_)) : gb302 ≠ g)); clear HI0 HK HB; obtain ⟨HI0, HK, HB, BK302, GW302, GE302, NB0_302, NB302_0⟩ := n_; clear hb hbox hg) | (refine gL_ 205 5 Tryz.func205 #[.pointer (some ⟨g, 0, none⟩)] ?_; (with_reducible refine (spec_l3Draw.calls k g s0_0 s0_1 s0_2 t303 t304 t307 t308 w0 _ ?side1 ?side2 A2.out).mono ?_); (case side1 => exact q7_6); (case side2 => exact q7_8); rintro e w65 ⟨v305, rfl, ho0, hi, hb, hk⟩; refine ⟨_, rfl, ?_⟩; have n_ := ac_ (KeepBut.blk hk (g' := gb302) (o := .cells #[.int .i64 0, .slice none 0 0] 29 (0, 0)) q7_14 NB302_0.out (by simp)) <| ac_ (Kd.R_lower ho0 (keep_size (w := w) (g := g) (row := none) q7_9)) <| ac_ (KeepBut.trans q7_9 hk (.inl rfl)) <| ac_ (hb) <| Aside0.mk (hi); clear BK302 HK HB HI0; obtain ⟨BK302, HO306, HK, HB, HI0⟩ := n_; (try clear hb hk hi ho0)) | ((with_reducible refine gate_dst (N := 3) rfl ?_); refine box_event ?hg (N := 3) ?hd (cs := #[.int .i64 0, .slice none 0 0]) (t := 29) ?hr ?_; (case hd => rfl); (case hg => rfl); (case hr => first | (go_simp; done) | (go_simp; rfl)); intro gb309 hg w66 hbox hb; have n_ := ac_ (Kd.R_below q7_16 hb) <| ac_ (IsS152.below q7_6 hb) <| ac_ (blk_below (g := gb302) (o := .cells #[.int .i64 0, .slice none 0 0] 29 (0, 0)) q7_14 hb) <| ac_ (KeepBut.trans q7_9 (KeepBut.of_below hb g none) (.inl rfl)) <| ac_ (below_step q7_8 hb) <| ac_ (hbox) <| ac_ ((by rw [hg]; exact (keep_size (w := w) (g := g) (row := none) q7_9) : w.heap.size ≤ gb309)) <| ac_ ((Nat.le_trans HW0.out (by rw [hg]; exact (keep_size (w := w) (g := g) (row := none) q7_9) : w.heap.size ≤ gb309) : w0.heap.size ≤ gb309)) <| ac_ ((by rw [hg]; exact Nat.ne_of_lt (blk_lt (g := gb302) (o := .cells #[.int .i64 0, .slice none 0 0] 29 (0, 0)) q7_14) : gb302 ≠ gb309)) <| ac_ ((by rw [hg]; exact Nat.ne_of_gt (blk_lt (g := gb302) (o := .cells #[.int .i64 0, .slice none 0 0] 29 (0, 0)) q7_14) : gb309 ≠ gb302)) <| ac_ ((by rw [hg]; exact Nat.ne_of_lt (IsS152.lt (show IsS152 w0 _ g s0_0 t307 t308 from q7_6)) : g ≠ gb309)) <| Aside0.mk ((by rw [hg]; exact Nat.ne_of_gt (IsS152.lt (show IsS152 w0 _ g s0_0 t307 t308 from q7_6)) : gb309 ≠ g)); clear HO306 HI0 BK302 HK HB; obtain ⟨HO306, HI0, BK302, HK, HB, BK309, GW309, GE309, NB302_309, NB309_302, NB0_309, NB309_0⟩ := n_; clear hb hbox hg; have hnb67 := NB309_302.out; have hnc67 := NB302_309.out; have hnb68 := NB309_0.out; have hnc68 := NB0_309.out; have hcz69_0 : w66.cell? ⟨gb309, 0, none⟩ = some (.int .i64 0) := (blk_cell BK309.out 0).trans rfl; have hcz69_1 : w66.cell? ⟨gb309, 1, none⟩ = some (.slice none 0 0) := (blk_cell BK309.out 1).trans rfl; have hfz69_0 := blk_frozen BK309.out 0; have hfz69_1 := blk_frozen BK309.out 1; obtain ⟨Ao70, co70, eo70⟩ := Kd.R_slice HO306.out; subst eo70) | (refine gL_ 146 7 Tryz.func146 #[.pointer (some ⟨g, 0, none⟩), .int .i64 14] ?_; (with_reducible refine (spec_l1Below.calls g s0_0 t307 t308 14 t310 t311 t312 w0 _ ?side1 ?side2 A3.out).mono ?_); (case side1 => exact q7_4); (case side2 => exact q7_5); rintro e w71 ⟨rfl, hi, hb, hk⟩; refine ⟨_, rfl, ?_⟩; have n_ := ac_ (KeepBut.blk hk (g' := gb302) (o := .cells #[.int .i64 0, .slice none 0 0] 29 (0, 0)) q7_3 NB302_0.out (by simp)) <| ac_ (Kd.R_mono (Kd.R_keep (IsS152.apart (show IsS152 w0 _ g s0_0 t307 t308 from q7_4) (by (with_reducible repeat (first | apply Kd.R_alloc | apply Kd.R_drewN | apply Kd.R_drew)); exact (Kd.R_mono (Kd.R_far (p := ⟨gb309, 1, none⟩) (Kd.R_far (p := ⟨gb309, 0, none⟩) (Kd.R_types HO306.out BK309.out s15_) (fun _ hk => hk.2) (.int .i64 t303)) (fun _ hk => hk.2) (.slice Ao70 t304.length co70)) (fun _ h_ => h_.1))) s15_) hk (fun _ h => h.2)) (fun _ h => h.1)) <| ac_ (KeepBut.blk hk (g' := gb309) (o := .cells #[.int .i64 t303, .slice Ao70 t304.length co70] 29 (0, 0)) q7_2 NB309_0.out (by simp)) <| ac_ (KeepBut.trans q7_7 hk (.inl rfl)) <| ac_ (hb) <| Aside0.mk (hi); clear BK302 HO306 BK309 HK HB HI0; obtain ⟨BK302, HO306, BK309, HK, HB, HI0⟩ := n_; (try clear hb hk hi); have hcz72_0 : w71.cell? ⟨gb309, 0, none⟩ = some (.int .i64 t303) := (blk_cell BK309.out 0).trans rfl; have hcz72_1 : w71.cell? ⟨gb309, 1, none⟩ = some (.slice Ao70 t304.length co70) := (blk_cell BK309.out 1).trans rfl; have hfz72_0 := blk_frozen BK309.out 0; have hfz72_1 := blk_frozen BK309.out 1; have hnb73 := NB302_0.out; have hnc73 := NB0_302.out; have hcz74_0 : w71.cell? ⟨gb302, 0, none⟩ = some (.int .i64 0) := (blk_cell BK302.out 0).trans rfl; have hcz74_1 : w71.cell? ⟨gb302, 1, none⟩ = some (.slice none 0 0) := (blk_cell BK302.out 1).trans rfl; have hfz74_0 := blk_frozen BK302.out 0; have hfz74_1 := blk_frozen BK302.out 1))
    refine bodyPost_ret (results_cell_row rfl _ _ gb302 29 #[.int .i64 t303, .slice Ao70 t304.length co70] (0, 0) _ rfl q7_1 Tryz.underlying29 rfl s12_) rfl ?_
    exact ⟨_, s8_, (by (with_reducible repeat (first | apply Kd.R_alloc | apply Kd.R_drewN | apply Kd.R_drew)); exact Kd.R_mono (Kd.R_far (p := ⟨gb302, 1, none⟩) (Kd.R_far (p := ⟨gb302, 0, none⟩) (Kd.R_types HO306.out BK302.out s15_) (fun _ hk => hk.2) (.int .i64 t303)) (fun _ hk => hk.2) (.slice Ao70 t304.length co70)) (fun _ hk => trivial)), q7_4, q7_5, q7_7⟩
def impl_within.f (a0 : Int) (a1 : Int) (a2 : Int) : Option (Bool) := if a1 ≤ a0 then (some (decide (a0 ≤ a2))) else (some false)
set_option maxHeartbeats 8000000 in
set_option maxRecDepth 100000 in
theorem impl_within.calls (a0 : Int) (a1 : Int) (a2 : Int) (r : Bool) (w : World) (h : impl_within.f a0 a1 a2 = some r) :
  Calls Tryz.prog 127 #[.int .i64 a0, .int .i64 a1, .int .i64 a2] w fun e w' => e = .returned (.bool r) ∧ Drawn0 w w' := by
 have H := h; clear h; unfold impl_within.f at H
 by_cases c4 : a1 ≤ a0
 ·
  rw [if_pos c4] at H; have c4b0 : decide (a1 ≤ a0) = true := decide_eq_true c4; clear c4; obtain rfl := Option.some.inj H
  go_enter Tryz.func127, Tryz.ntmps127
  go_wp2
  go_ret
  exact ⟨(by first | rfl | (simp; done) | (simp [*]; done) | (simp [i64_w, i32_w]; done)), (by repeat (first | exact Drawn0.refl _ | apply Drawn0.step))⟩
 ·
  rw [if_neg c4] at H; have c4b0 : decide (a1 ≤ a0) = false := decide_eq_false c4; clear c4; obtain rfl := Option.some.inj H
  go_enter Tryz.func127, Tryz.ntmps127
  go_wp2
  go_ret
  exact ⟨(by first | rfl | (simp; done) | (simp [*]; done) | (simp [i64_w, i32_w]; done)), (by repeat (first | exact Drawn0.refl _ | apply Drawn0.step))⟩
def impl_IsSet.f (a0 : Int) (a1 : Int) : Option (Bool) := (impl_within.f a0 0 8).bind fun t339 => (if t339 = true then (if 0 ≤ a0 then ((impl_within.f a1 0 (wrap64 ((shl .i64 1 a0) - 1))).bind fun t340 => (some t340)) else (none)) else (some false))
set_option maxHeartbeats 8000000 in
set_option maxRecDepth 100000 in
theorem impl_IsSet.calls (a0 : Int) (a1 : Int) (r : Bool) (w : World) (h : impl_IsSet.f a0 a1 = some r) :
  Calls Tryz.prog 130 #[.int .i64 a0, .int .i64 a1] w fun e w' => e = .returned (.bool r) ∧ Drawn0 w w' := by
 have H := h; clear h; unfold impl_IsSet.f at H; obtain ⟨t339, A3, H⟩ := bnd7_ H
 by_cases c4 : t339 = true
 ·
  subst c4; rw [if_pos rfl] at H
  by_cases c5 : 0 ≤ a0
  ·
   rw [if_pos c5] at H; have c5b0 := eq_true c5; have c5b1 : decide (0 ≤ a0) = true := decide_eq_true c5; clear c5; obtain ⟨ji6, hji6⟩ : ∃ j_ : Int, (shl .i64 1 a0) = j_ := ⟨_, rfl⟩
   replace H : ((impl_within.f a1 0 (wrap64 ((ji6) - 1))).bind fun t340 => (some t340)) = some r := by first | (rw [hji6] at H; exact H) | (simp only [hji6] at H ⊢; exact H)
   (try rw [hji6] at A3)
   have hji6_ : (IntKind.i64.wrap (1 * 2 ^ min a0.toNat 64)) = ji6 := hji6; have hji6z : a0 ≤ 64 → (IntKind.i64.wrap (1 * 2 ^ a0.toNat)) = ji6 := shl_small hji6
   have hji6u : (IntKind.i64.wrap (2 ^ min a0.toNat 64)) = ji6 := by have h_ := hji6_; rw [Int.one_mul] at h_; exact h_
   have hji6v : a0 ≤ 64 → (IntKind.i64.wrap (2 ^ a0.toNat)) = ji6 := fun hle_ => by have h_ := hji6z hle_; rw [Int.one_mul] at h_; exact h_
   have hji6y : (wrap64 (1 * 2 ^ min a0.toNat 64)) = ji6 := (i64_w _).symm.trans hji6_
   have hji6x : a0 ≤ 64 → (wrap64 (1 * 2 ^ a0.toNat)) = ji6 := fun h_ => (i64_w _).symm.trans (hji6z h_)
   obtain ⟨t340, A7, H⟩ := bnd7_ H; obtain rfl := Option.some.inj H
   go_enter Tryz.func130, Tryz.ntmps130
   go_wp2_with (first | (refine gL_ 127 6 Tryz.func127 #[.int .i64 a0, .int .i64 0, .int .i64 8] ?_; (with_reducible refine (impl_within.calls a0 0 8 true _ A3.out).mono ?_); rintro e w' ⟨rfl, ⟨nd, rfl⟩⟩; refine ⟨_, rfl, ?_⟩) | (go_at_call 127; (with_reducible refine (impl_within.calls a1 0 (wrap64 ((ji6) - 1)) t340 _ A7.out).mono ?_); rintro e w' ⟨rfl, ⟨nd, rfl⟩⟩))
   go_ret
   exact ⟨(by first | rfl | (simp; done) | (simp only [← hji6] <;> (first | rfl | simp)) | (simp [*]; done)), (by repeat (first | exact Drawn0.refl _ | apply Drawn0.step))⟩
  ·
   rw [if_neg c5] at H
   exact absurd H (by simp)
 ·
  replace c4 := Bool.eq_false_iff.mpr c4; subst c4
  rw [if_neg (show ¬ (false = true) by decide)] at H
  obtain rfl := Option.some.inj H
  go_enter Tryz.func130, Tryz.ntmps130
  go_wp2_with (first | (refine gL_ 127 6 Tryz.func127 #[.int .i64 a0, .int .i64 0, .int .i64 8] ?_; (with_reducible refine (impl_within.calls a0 0 8 false _ A3.out).mono ?_); rintro e w' ⟨rfl, ⟨nd, rfl⟩⟩; refine ⟨_, rfl, ?_⟩))
  go_ret
  exact ⟨(by first | rfl | (simp; done) | (simp [*]; done) | (simp [i64_w, i32_w]; done)), (by repeat (first | exact Drawn0.refl _ | apply Drawn0.step))⟩
def impl_isAnySet.f (a0 : Int) : Option (Bool) := (impl_IsSet.f 8 a0).bind fun t341 => (some t341)
set_option maxHeartbeats 8000000 in
set_option maxRecDepth 100000 in
theorem impl_isAnySet.calls (a0 : Int) (r : Bool) (w : World) (h : impl_isAnySet.f a0 = some r) :
  Calls Tryz.prog 177 #[.int .i64 a0] w fun e w' => e = .returned (.bool r) ∧ Drawn0 w w' := by
 have H := h; clear h; unfold impl_isAnySet.f at H; obtain ⟨t341, A2, H⟩ := bnd7_ H; obtain rfl := Option.some.inj H
 go_enter Tryz.func177, Tryz.ntmps177
 go_wp2_with (first | ((with_reducible refine gate_callee (f := 130) rfl ?_); refine goesL_ (some 4) rfl rfl Tryz.func130 (by kernel_rfl) rfl #[.int .i64 8, .int .i64 a0] rfl (by (try simp only [List.map_toArray, List.map_cons, List.map_nil]); first | done | rfl | (simp only [List.length_drop, List.length_take]; rfl)) ?_; (with_reducible refine (impl_IsSet.calls 8 a0 t341 _ A2.out).mono ?_); rintro e w' ⟨rfl, ⟨nd, rfl⟩⟩; refine ⟨_, rfl, ?_⟩))
 go_ret
 exact ⟨(by first | rfl | (simp; done) | (simp [*]; done) | (simp [i64_w, i32_w]; done)), (by repeat (first | exact Drawn0.refl _ | apply Drawn0.step))⟩
def impl_SortLectic_1.f (a0 : Int) : Option (Bool) := (impl_isAnySet.f a0).bind fun t342 => (some (!t342))
set_option maxHeartbeats 8000000 in
set_option maxRecDepth 100000 in
theorem impl_SortLectic_1.calls (a0 : Int) (r : Bool) (w : World) (h : impl_SortLectic_1.f a0 = some r) :
  Calls Tryz.prog 246 #[.int .i64 a0] w fun e w' => e = .returned (.bool r) ∧ Drawn0 w w' := by
 have H := h; clear h; unfold impl_SortLectic_1.f at H; obtain ⟨t342, A2, H⟩ := bnd7_ H; obtain rfl := Option.some.inj H
 go_enter Tryz.func246, Tryz.ntmps246
 go_wp2_with (first | ((with_reducible refine gate_callee (f := 177) rfl ?_); refine goesL_ (some 4) rfl rfl Tryz.func177 (by kernel_rfl) rfl #[.int .i64 a0] rfl (by (try simp only [List.map_toArray, List.map_cons, List.map_nil]); first | done | rfl | (simp only [List.length_drop, List.length_take]; rfl)) ?_; (with_reducible refine (impl_isAnySet.calls a0 t342 _ A2.out).mono ?_); rintro e w' ⟨rfl, ⟨nd, rfl⟩⟩; refine ⟨_, rfl, ?_⟩))
 go_ret
 exact ⟨(by first | rfl | (simp; done) | (simp [*]; done) | (simp [i64_w, i32_w]; done)), (by repeat (first | exact Drawn0.refl _ | apply Drawn0.step))⟩
def impl_HasElement.f (a0 : Int) (a1 : Int) : Option (Bool) := (impl_isAnySet.f a0).bind fun t343 => (if t343 = true then ((impl_within.f a1 0 7).bind fun t344 => (if t344 = true then (if 0 ≤ a1 then (some ((Go.bits .and .i64 (shr .i64 a0 a1) 1) == 1)) else (none)) else (some false))) else (some false))
set_option maxHeartbeats 8000000 in
set_option maxRecDepth 100000 in
theorem impl_HasElement.calls (a0 : Int) (a1 : Int) (r : Bool) (w : World) (h : impl_HasElement.f a0 a1 = some r) :
  Calls Tryz.prog 212 #[.int .i64 a0, .int .i64 a1] w fun e w' => e = .returned (.bool r) ∧ Drawn0 w w' := by
 have H := h; clear h; unfold impl_HasElement.f at H; obtain ⟨t343, A3, H⟩ := bnd7_ H
 by_cases c4 : t343 = true
 ·
  subst c4; rw [if_pos rfl] at H; obtain ⟨t344, A5, H⟩ := bnd7_ H
  by_cases c6 : t344 = true
  ·
   subst c6; rw [if_pos rfl] at H
   by_cases c7 : 0 ≤ a1
   ·
    rw [if_pos c7] at H; have c7b0 := eq_true c7; have c7b1 : decide (0 ≤ a1) = true := decide_eq_true c7; clear c7; obtain ⟨ji8, hji8⟩ : ∃ j_ : Int, (shr .i64 a0 a1) = j_ := ⟨_, rfl⟩
    replace H : (some ((Go.bits .and .i64 (ji8) 1) == 1)) = some r := by first | (rw [hji8] at H; exact H) | (simp only [hji8] at H ⊢; exact H)
    (try rw [hji8] at A3)
    (try rw [hji8] at A5)
    have hji8_ : (a0 / 2 ^ min a1.toNat 64) = ji8 := hji8; have hji8z : a1 ≤ 64 → (a0 / 2 ^ a1.toNat) = ji8 := shr_small hji8; obtain rfl := Option.some.inj H
    go_enter Tryz.func212, Tryz.ntmps212
    go_wp2_with (first | (refine gL_ 177 6 Tryz.func177 #[.int .i64 a0] ?_; (with_reducible refine (impl_isAnySet.calls a0 true _ A3.out).mono ?_); rintro e w' ⟨rfl, ⟨nd, rfl⟩⟩; refine ⟨_, rfl, ?_⟩) | (go_at_call 127; (with_reducible refine (impl_within.calls a1 0 7 true _ A5.out).mono ?_); rintro e w' ⟨rfl, ⟨nd, rfl⟩⟩))
    go_ret
    exact ⟨(by first | rfl | (simp; done) | (simp only [← hji8] <;> (first | rfl | simp)) | (simp [*]; done)), (by repeat (first | exact Drawn0.refl _ | apply Drawn0.step))⟩
   ·
    rw [if_neg c7] at H
    exact absurd H (by simp)
  ·
   replace c6 := Bool.eq_false_iff.mpr c6; subst c6
   rw [if_neg (show ¬ (false = true) by decide)] at H
   obtain rfl := Option.some.inj H
   go_enter Tryz.func212, Tryz.ntmps212
   go_wp2_with (first | (refine gL_ 177 6 Tryz.func177 #[.int .i64 a0] ?_; (with_reducible refine (impl_isAnySet.calls a0 true _ A3.out).mono ?_); rintro e w' ⟨rfl, ⟨nd, rfl⟩⟩; refine ⟨_, rfl, ?_⟩) | (go_at_call 127; (with_reducible refine (impl_within.calls a1 0 7 false _ A5.out).mono ?_); rintro e w' ⟨rfl, ⟨nd, rfl⟩⟩))
   go_ret
   exact ⟨(by first | rfl | (simp; done) | (simp [*]; done) | (simp [i64_w, i32_w]; done)), (by repeat (first | exact Drawn0.refl _ | apply Drawn0.step))⟩
 ·
  replace c4 := Bool.eq_false_iff.mpr c4; subst c4
  rw [if_neg (show ¬ (false = true) by decide)] at H
  obtain rfl := Option.some.inj H
  go_enter Tryz.func212, Tryz.ntmps212
  go_wp2_with (first | (refine gL_ 177 6 Tryz.func177 #[.int .i64 a0] ?_; (with_reducible refine (impl_isAnySet.calls a0 false _ A3.out).mono ?_); rintro e w' ⟨rfl, ⟨nd, rfl⟩⟩; refine ⟨_, rfl, ?_⟩))
  go_ret
  exact ⟨(by first | rfl | (simp; done) | (simp [*]; done) | (simp [i64_w, i32_w]; done)), (by repeat (first | exact Drawn0.refl _ | apply Drawn0.step))⟩
def impl_inSet.f (a0 : Int) (a1 : Int) : Option (Bool) := some ((Go.bits .andNot .i64 a0 a1) == 0)
set_option maxHeartbeats 8000000 in
set_option maxRecDepth 100000 in
theorem impl_inSet.calls (a0 : Int) (a1 : Int) (r : Bool) (w : World) (h : impl_inSet.f a0 a1 = some r) :
  Calls Tryz.prog 141 #[.int .i64 a0, .int .i64 a1] w fun e w' => e = .returned (.bool r) ∧ Drawn0 w w' := by
 have H := h; clear h; unfold impl_inSet.f at H; obtain rfl := Option.some.inj H
 go_enter Tryz.func141, Tryz.ntmps141
 go_wp2
 go_ret
 exact ⟨(by first | rfl | (simp; done) | (simp [*]; done) | (simp [i64_w, i32_w]; done)), (by repeat (first | exact Drawn0.refl _ | apply Drawn0.step))⟩
def impl_FullSet.f (a0 : Int) : Option (Int) := (impl_within.f a0 0 8).bind fun t363 => (if t363 = true then (if 0 ≤ a0 then (some (wrap64 ((shl .i64 1 a0) - 1))) else (none)) else (some 0))
set_option maxHeartbeats 8000000 in
set_option maxRecDepth 100000 in
theorem impl_FullSet.calls (a0 : Int) (r : Int) (w : World) (h : impl_FullSet.f a0 = some r) :
  Calls Tryz.prog 129 #[.int .i64 a0] w fun e w' => e = .returned (.int .i64 r) ∧ Drawn0 w w' := by
 have H := h; clear h; unfold impl_FullSet.f at H; obtain ⟨t363, A2, H⟩ := bnd7_ H
 by_cases c3 : t363 = true
 ·
  subst c3; rw [if_pos rfl] at H
  by_cases c4 : 0 ≤ a0
  ·
   rw [if_pos c4] at H; have c4b0 := eq_true c4; have c4b1 : decide (0 ≤ a0) = true := decide_eq_true c4; clear c4; obtain ⟨ji5, hji5⟩ : ∃ j_ : Int, (shl .i64 1 a0) = j_ := ⟨_, rfl⟩
   replace H : (some (wrap64 ((ji5) - 1))) = some r := by first | (rw [hji5] at H; exact H) | (simp only [hji5] at H ⊢; exact H)
   (try rw [hji5] at A2)
   have hji5_ : (IntKind.i64.wrap (1 * 2 ^ min a0.toNat 64)) = ji5 := hji5; have hji5z : a0 ≤ 64 → (IntKind.i64.wrap (1 * 2 ^ a0.toNat)) = ji5 := shl_small hji5
   have hji5u : (IntKind.i64.wrap (2 ^ min a0.toNat 64)) = ji5 := by have h_ := hji5_; rw [Int.one_mul] at h_; exact h_
   have hji5v : a0 ≤ 64 → (IntKind.i64.wrap (2 ^ a0.toNat)) = ji5 := fun hle_ => by have h_ := hji5z hle_; rw [Int.one_mul] at h_; exact h_
   have hji5y : (wrap64 (1 * 2 ^ min a0.toNat 64)) = ji5 := (i64_w _).symm.trans hji5_
   have hji5x : a0 ≤ 64 → (wrap64 (1 * 2 ^ a0.toNat)) = ji5 := fun h_ => (i64_w _).symm.trans (hji5z h_)
   obtain rfl := Option.some.inj H
   go_enter Tryz.func129, Tryz.ntmps129
   go_wp2_with (first | (refine gL_ 127 4 Tryz.func127 #[.int .i64 a0, .int .i64 0, .int .i64 8] ?_; (with_reducible refine (impl_within.calls a0 0 8 true _ A2.out).mono ?_); rintro e w' ⟨rfl, ⟨nd, rfl⟩⟩; refine ⟨_, rfl, ?_⟩))
   go_ret
   exact ⟨(by first | rfl | (simp; done) | (simp only [← hji5] <;> (first | rfl | simp)) | (simp [*]; done)), (by repeat (first | exact Drawn0.refl _ | apply Drawn0.step))⟩
  ·
   rw [if_neg c4] at H
   exact absurd H (by simp)
 ·
  replace c3 := Bool.eq_false_iff.mpr c3; subst c3
  rw [if_neg (show ¬ (false = true) by decide)] at H
  obtain rfl := Option.some.inj H
  go_enter Tryz.func129, Tryz.ntmps129
  go_wp2_with (first | (refine gL_ 127 4 Tryz.func127 #[.int .i64 a0, .int .i64 0, .int .i64 8] ?_; (with_reducible refine (impl_within.calls a0 0 8 false _ A2.out).mono ?_); rintro e w' ⟨rfl, ⟨nd, rfl⟩⟩; refine ⟨_, rfl, ?_⟩))
  go_ret
  exact ⟨(by first | rfl | (simp; done) | (simp [*]; done) | (simp [i64_w, i32_w]; done)), (by repeat (first | exact Drawn0.refl _ | apply Drawn0.step))⟩
end Go.Proofs.YtafnamchckehmaaGreatDoor.Pr
