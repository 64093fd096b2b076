/- What the law needs of the program's functions as plain functions, of the proofs that their calls answer so, and of plain laws: gathered by a program of this place (pack.py) out of its printed texts. No condition beyond what each statement says. -/
import Derived.Test.YtbflblmkdnhboaaGreatDoorZXIsBase2
import Derived.Test.YtbflblmkdnhboaaGreatDoorZXIsBase8
import Derived.Test.YtbflblmkdnhboaaGreatDoorZXIsBase16
import Derived.Test.YtbflblmkdnhboaaGreatDoorZXIsBase12
import Derived.Test.YtbflblmkdnhboaaGreatDoorZXIsBase13
import Derived.Test.YtbflblmkdnhboaaGreatDoorZXIsBase14
namespace Go.Proofs.YtbflblmkdnhboaaGreatDoor.Pr
open Go.RowKit Go.Proofs.YtbflblmkdnhboaaGreatDoorW.PrintWords Go.Proofs.YtbflblmkdnhboaaGreatDoorW.PrintLast Go.Proofs.YtbflblmkdnhboaaGreatDoorW.PrintMore
attribute [local go_sem] max2_int min2_int max_two min_two max_three min_three max_four min_four   -- for this text's walks alone
set_option linter.unusedVariables false
set_option linter.unusedSimpArgs false
theorem bnd9_ {α β : Type} {o : Option α} {f : α → Option β} {r : β} (h : o.bind f = some r) : ∃ a, Aside0 (o = some a) ∧ f a = some r := by
 obtain ⟨a, h1, h2⟩ := Option.bind_eq_some_iff.mp h
 exact ⟨a, ⟨h1⟩, h2⟩
theorem put9_ {P : Prop} (h : P := by simp only [Act.put, List.setIfInBounds_toArray, List.set_cons_zero, List.set_cons_succ, i64_w, i32_w]; rfl) : P := h
theorem q9_1 {P : Prop} (h : P := by repeat (first | (with_reducible first | exact HB.out | apply below_alloc | apply pw_below_drewN | apply below_drew1 | refine below_set ?_ GE350.out | refine below_set ?_ GE351.out) | exact HB.out)) : P := h
theorem q9_2 {P : Prop} (h : P := by repeat (first | exact (Kd.C_below HR0_1.out HB.out) | (with_reducible refine Kd.C_alloc ?_ _) | (with_reducible refine Kd.C_drewN ?_ _) | (with_reducible refine Kd.C_drew ?_))) : P := h
theorem q9_3 {P : Prop} (h : P := by repeat (first | (with_reducible first | exact HB.out | apply below_alloc | apply pw_below_drewN | apply below_drew1 | refine below_set ?_ GE350.out) | exact HB.out)) : P := h
theorem q9_4 {P : Prop} (h : P := by (try simp only [List.map_toArray, List.map_cons, List.map_nil]); first | done | rfl | (simp only [List.length_drop, List.length_take]; rfl)) : P := h
theorem q9_5 {P : Prop} (h : P := by repeat (first | (with_reducible first | exact HB.out | apply below_alloc | apply pw_below_drewN | apply below_drew1) | exact HB.out)) : P := h
theorem q9_6 {P : Prop} (h : P := by (with_reducible repeat (first | refine blk_drewN ?_ _ | refine blk_drew ?_ | refine blk_alloc ?_ _)); exact BK350.out) : P := h
theorem q9_7 {P : Prop} (h : P := by (with_reducible repeat (first | refine blk_drewN ?_ _ | refine blk_drew ?_ | refine blk_alloc ?_ _)); exact BK351.out) : P := h
theorem q9_8 {P : Prop} (h : P := by first | rfl | (simp [errW_none, errW_some] <;> rfl) | (simp [*, errW_none, errW_some] <;> rfl)) : P := h
theorem q9_9 {P : Prop} (h : P := by kernel_rfl) : P := h
def impl_HoldsIn.f (k : Nat) (a0_0 : Int) (l0_1 : List Int) (a1_0 : Int) (a1_1 : Int) : Option (Bool) := (impl_areAttributes.f a0_0 l0_1 a1_0).bind fun t352 => (if t352 = true then ((impl_areAttributes.f a0_0 l0_1 a1_1).bind fun t353 => (if t353 = true then ((impl_ClosureOf.f k a0_0 l0_1 a1_0).bind fun t354 => ((impl_inSet.f a1_1 t354).bind fun t355 => (some t355))) else (some false))) else (some false))
def impl_HoldsIn.T1 : Bool × List (List Nat × List Nat) := (true, [([], []), ([], []), ([1], [1]), ([0, 2], [0, 2]), ([3, 3], [3]), ([4], [4]), ([4], [4]), ([6, 4], [4, 6]), ([5, 7, 4, 4], [4, 5, 7]), ([4, 8], [4, 8]), ([9, 8], [9]), ([10], [10]), ([11, 10], [10, 11]), ([10], [10]), ([10], [10]), ([14, 10], [10, 14]), ([13, 15, 10, 10], [10, 13, 15]), ([12, 16, 16, 10], [10, 12, 16]), ([10, 17], [10, 17]), ([18, 17, 0, 1, 2, 3, 4, 5, 6, 7, 8, 9, 10, 11, 12, 13, 14, 15, 16, 17, 18], [18])])
def impl_HoldsIn.B1 : List Nat := [0, 0, 2, 7, 15, 31, 31, 95, 255, 511, 1023, 2047, 4095, 2047, 2047, 18431, 59391, 131071, 262143, 524287]
theorem impl_HoldsIn.tab1 : rtab .any (opsOf Tryz.f27 1) = impl_HoldsIn.T1 := q9_9
theorem impl_HoldsIn.bits1 : waitsOk impl_HoldsIn.T1.2 impl_HoldsIn.B1 = true := q9_9
set_option maxHeartbeats 8000000 in
set_option maxRecDepth 100000 in
theorem impl_HoldsIn.calls (k : Nat) (a0_0 : Int) (A0_1 : Option Addr) (c0_1 : Nat) (l0_1 : List Int) (a1_0 : Int) (a1_1 : Int) (r : Bool) (w : World) (hr0_1 : Kd.C (Kd.int .i64) w A0_1 l0_1.length l0_1) (hc0_1 : l0_1.length ≤ c0_1) (h : impl_HoldsIn.f k a0_0 l0_1 a1_0 a1_1 = some r) :
  Calls Tryz.prog 27 #[.agg #[.int .i64 a0_0, .slice A0_1 l0_1.length c0_1], .agg #[.int .i64 a1_0, .int .i64 a1_1]] w fun e w' => e = .returned (.bool r) ∧ Below w.heap.size w w' := by
 have hu29 := Tryz.underlying29; have hu41 := Tryz.underlying41; have HR0_1 := Aside0.mk hr0_1; have HC0_1 := Aside0.mk hc0_1; clear hr0_1 hc0_1; have HB := Aside0.mk (Below.refl w.heap.size w); have H := h; clear h; unfold impl_HoldsIn.f at H; obtain ⟨t352, A3, H⟩ := bnd9_ H
 by_cases c4 : t352 = true
 ·
  subst c4; rw [if_pos rfl] at H; obtain ⟨t353, A5, H⟩ := bnd9_ H
  by_cases c6 : t353 = true
  ·
   subst c6; rw [if_pos rfl] at H; obtain ⟨t354, A7, H⟩ := bnd9_ H; obtain ⟨t355, A8, H⟩ := bnd9_ H; obtain rfl := Option.some.inj H
   go_enter Tryz.func27, Tryz.ntmps27
   try go_wp2_with (first | ((with_reducible refine gate_dst (N := 2) rfl ?_); refine box_event ?hg (N := 2) ?hd (cs := #[.int .i64 a0_0, .slice A0_1 l0_1.length c0_1]) (t := 29) ?hr ?_; (case hd => rfl); (case hg => rfl); (case hr => first | (go_simp; done) | (go_simp; rfl)); intro gb350 hg w9 hbox hb; have n_ := ac_ (below_step q9_5 hb) <| ac_ (hbox) <| ac_ ((by rw [hg]; exact (below_size q9_5) : w.heap.size ≤ gb350)) <| Aside0.mk ((by rw [hg]; exact (below_size q9_5) : w.heap.size ≤ gb350)); clear HB; obtain ⟨HB, BK350, GW350, GE350⟩ := n_; clear hb hbox hg) | ((with_reducible refine gate_dst (N := 3) rfl ?_); refine box_event ?hg (N := 3) ?hd (cs := #[.int .i64 a1_0, .int .i64 a1_1]) (t := 41) ?hr ?_; (case hd => rfl); (case hg => rfl); (case hr => first | (go_simp; done) | (go_simp; rfl)); intro gb351 hg w10 hbox hb; have n_ := ac_ (blk_below (g := gb350) (o := .cells #[.int .i64 a0_0, .slice A0_1 l0_1.length c0_1] 29 (0, 0)) q9_6 hb) <| ac_ (below_step q9_3 hb) <| ac_ (hbox) <| ac_ ((by rw [hg]; exact (below_size q9_3) : w.heap.size ≤ gb351)) <| ac_ ((by rw [hg]; exact (below_size q9_3) : w.heap.size ≤ gb351)) <| ac_ ((by rw [hg]; exact Nat.ne_of_lt (blk_lt (g := gb350) (o := .cells #[.int .i64 a0_0, .slice A0_1 l0_1.length c0_1] 29 (0, 0)) q9_6) : gb350 ≠ gb351)) <| Aside0.mk ((by rw [hg]; exact Nat.ne_of_gt (blk_lt (g := gb350) (o := .cells #[.int .i64 a0_0, .slice A0_1 l0_1.length c0_1] 29 (0, 0)) q9_6) : gb351 ≠ gb350)); clear BK350 HB; obtain ⟨BK350, HB, BK351, GW351, GE351, NB350_351, NB351_350⟩ := n_; clear hb hbox hg))
   have n0_ := Aside0.mk (blk_drew BK350.out); have n1_ := Aside0.mk (blk_drew BK351.out); have n2_ := Aside0.mk (below_drew1 HB.out); clear BK350; clear BK351; clear HB; have BK350 := n0_; have BK351 := n1_; have HB := n2_; clear n0_ n1_ n2_
   refine start_ (n := 20) (S := fun w' => w'.cell? ⟨gb350, 0, none⟩ = some (.int .i64 a0_0) ∧ w'.cell? ⟨gb350, 1, none⟩ = some (.slice A0_1 l0_1.length c0_1) ∧ w'.cell? ⟨gb351, 0, none⟩ = some (.int .i64 a1_0) ∧ w'.cell? ⟨gb351, 1, none⟩ = some (.int .i64 a1_1)) (ds := []) (tb_ 20 0) q9_9 rfl rfl ⟨(blk_cell BK350.out 0).trans rfl, (blk_cell BK350.out 1).trans rfl, (blk_cell BK351.out 0).trans rfl, (blk_cell BK351.out 1).trans rfl⟩ (fun hHeld => ?_); refine with_tabW impl_HoldsIn.tab1 impl_HoldsIn.bits1 (fun HT_ HW_ => ?_)
   generalize w10.drew = w11 at BK350 BK351 HB hHeld ⊢
   refine pl_ 1 6 (tb_ 20 2) ?_
   refine take_ (i := 0) (N := some 5) (v := ?_) (a' := ?_) (tb_ 20 3) rfl rfl (take_ofW HT_.out HW_.out q9_9) (fun _ _ _ h => h) (Or.inl ⟨by rfl, ?_⟩) hHeld ?_ ?_
   rotate_left
   ·
    rintro w' ⟨s0, s1, s2, s3⟩
    go_simp; with_reducible rfl
   rotate_left
   ·
    exact put9_
   refine take_ (i := 2) (N := some 7) (v := ?_) (a' := ?_) (tb_ 20 7) rfl rfl (take_ofW HT_.out HW_.out q9_9) (fun _ _ _ h => h) (Or.inl ⟨by rfl, ?_⟩) hHeld ?_ ?_
   rotate_left
   ·
    rintro w' ⟨s0, s1, s2, s3⟩
    go_simp; with_reducible rfl
   rotate_left
   ·
    exact put9_
   refine one_ (i := 3) (N := some 8) (tb_ 20 15) rfl rfl (one_of HT_.out q9_9) (by decide) (fun K hK => ?_)
   refine goes_ Tryz.func44 q9_9 rfl #[.agg #[.int .i64 a0_0, .slice A0_1 l0_1.length c0_1], .int .i64 a1_0] (by rfl) rfl rfl q9_4 ?_
   with_reducible refine (impl_areAttributes.calls a0_0 _ _ l0_1 a1_0 true _ ?side1 ?side2 A3.out).mono ?_
   (case side1 => exact q9_2)
   (case side2 => exact HC0_1.out)
   rintro e w12 ⟨rfl, hb⟩
   refine ⟨_, rfl, ?_⟩
   have n0_ := Aside0.mk (blk_below (g := gb350) (o := .cells #[.int .i64 a0_0, .slice A0_1 l0_1.length c0_1] 29 (0, 0)) q9_6 hb); have n1_ := Aside0.mk (blk_below (g := gb351) (o := .cells #[.int .i64 a1_0, .int .i64 a1_1] 41 (0, 0)) q9_7 hb); have n2_ := Aside0.mk (below_step q9_1 hb); clear BK350; clear BK351; clear HB; have BK350 := n0_; have BK351 := n1_; have HB := n2_; clear n0_ n1_ n2_
   (try clear hb)
   (try clear hb2)
   (try clear hk)
   (try clear hi)
   refine hK.out _ _ ⟨(blk_cell BK350.out 0).trans rfl, (blk_cell BK350.out 1).trans rfl, (blk_cell BK351.out 0).trans rfl, (blk_cell BK351.out 1).trans rfl⟩ (fun hHeld => ?_)
   clear hK K
   refine norm_ (a' := ?_) ?_ ?_
   rotate_left
   ·
    show Act.put _ (some 8) _ = _
    exact put9_
   refine pl_ 4 9 (tb_ 20 31) ?_; refine pl_ 6 11 (tb_ 20 95) ?_
   refine take_ (i := 5) (N := some 10) (v := ?_) (a' := ?_) (tb_ 20 127) rfl rfl (take_ofW HT_.out HW_.out q9_9) (fun _ _ _ h => h) (Or.inl ⟨by rfl, ?_⟩) hHeld ?_ ?_
   rotate_left
   ·
    rintro w' ⟨s0, s1, s2, s3⟩
    go_simp; with_reducible rfl
   rotate_left
   ·
    exact put9_
   refine take_ (i := 7) (N := some 12) (v := ?_) (a' := ?_) (tb_ 20 255) rfl rfl (take_ofW HT_.out HW_.out q9_9) (fun _ _ _ h => h) (Or.inl ⟨by rfl, ?_⟩) hHeld ?_ ?_
   rotate_left
   ·
    rintro w' ⟨s0, s1, s2, s3⟩
    go_simp; with_reducible rfl
   rotate_left
   ·
    exact put9_
   refine one_ (i := 8) (N := some 13) (tb_ 20 511) rfl rfl (one_of HT_.out q9_9) (by decide) (fun K hK => ?_)
   refine goes_ Tryz.func44 q9_9 rfl #[.agg #[.int .i64 a0_0, .slice A0_1 l0_1.length c0_1], .int .i64 a1_1] (by rfl) rfl rfl q9_4 ?_
   with_reducible refine (impl_areAttributes.calls a0_0 _ _ l0_1 a1_1 true _ ?side1 ?side2 A5.out).mono ?_
   (case side1 => exact q9_2)
   (case side2 => exact HC0_1.out)
   rintro e w13 ⟨rfl, hb⟩
   refine ⟨_, rfl, ?_⟩
   have n0_ := Aside0.mk (blk_below (g := gb350) (o := .cells #[.int .i64 a0_0, .slice A0_1 l0_1.length c0_1] 29 (0, 0)) q9_6 hb); have n1_ := Aside0.mk (blk_below (g := gb351) (o := .cells #[.int .i64 a1_0, .int .i64 a1_1] 41 (0, 0)) q9_7 hb); have n2_ := Aside0.mk (below_step q9_1 hb); clear BK350; clear BK351; clear HB; have BK350 := n0_; have BK351 := n1_; have HB := n2_; clear n0_ n1_ n2_
   (try clear hb)
   (try clear hb2)
   (try clear hk)
   (try clear hi)
   refine hK.out _ _ ⟨(blk_cell BK350.out 0).trans rfl, (blk_cell BK350.out 1).trans rfl, (blk_cell BK351.out 0).trans rfl, (blk_cell BK351.out 1).trans rfl⟩ (fun hHeld => ?_)
   clear hK K
   refine norm_ (a' := ?_) ?_ ?_
   rotate_left
   ·
    show Act.put _ (some 13) _ = _
    exact put9_
   refine pl_ 9 14 (tb_ 20 1023) ?_; refine pl_ 10 15 (tb_ 20 2047) ?_; refine pl_ 11 16 (tb_ 20 4095) ?_; refine pl_ 14 19 (tb_ 20 20479) ?_
   refine take_ (i := 12) (N := some 17) (v := ?_) (a' := ?_) (tb_ 20 24575) rfl rfl (take_ofW HT_.out HW_.out q9_9) (fun _ _ _ h => h) (Or.inl ⟨by rfl, ?_⟩) hHeld ?_ ?_
   rotate_left
   ·
    rintro w' ⟨s0, s1, s2, s3⟩
    go_simp; with_reducible rfl
   rotate_left
   ·
    exact put9_
   refine take_ (i := 13) (N := some 18) (v := ?_) (a' := ?_) (tb_ 20 32767) rfl rfl (take_ofW HT_.out HW_.out q9_9) (fun _ _ _ h => h) (Or.inl ⟨by rfl, ?_⟩) hHeld ?_ ?_
   rotate_left
   ·
    rintro w' ⟨s0, s1, s2, s3⟩
    go_simp; with_reducible rfl
   rotate_left
   ·
    exact put9_
   refine take_ (i := 15) (N := some 20) (v := ?_) (a' := ?_) (tb_ 20 65535) rfl rfl (take_ofW HT_.out HW_.out q9_9) (fun _ _ _ h => h) (Or.inl ⟨by rfl, ?_⟩) hHeld ?_ ?_
   rotate_left
   ·
    rintro w' ⟨s0, s1, s2, s3⟩
    go_simp; with_reducible rfl
   rotate_left
   ·
    exact put9_
   refine one_ (i := 16) (N := some 21) (tb_ 20 131071) rfl rfl (one_of HT_.out q9_9) (by decide) (fun K hK => ?_)
   refine goes_ Tryz.func46 q9_9 rfl #[.agg #[.int .i64 a0_0, .slice A0_1 l0_1.length c0_1], .int .i64 a1_0] (by rfl) rfl rfl q9_4 ?_
   with_reducible refine (impl_ClosureOf.calls k a0_0 _ _ l0_1 a1_0 t354 _ ?side1 ?side2 A7.out).mono ?_
   (case side1 => exact q9_2)
   (case side2 => exact HC0_1.out)
   rintro e w14 ⟨rfl, hb⟩
   refine ⟨_, rfl, ?_⟩
   have n0_ := Aside0.mk (blk_below (g := gb350) (o := .cells #[.int .i64 a0_0, .slice A0_1 l0_1.length c0_1] 29 (0, 0)) q9_6 hb); have n1_ := Aside0.mk (blk_below (g := gb351) (o := .cells #[.int .i64 a1_0, .int .i64 a1_1] 41 (0, 0)) q9_7 hb); have n2_ := Aside0.mk (below_step q9_1 hb); clear BK350; clear BK351; clear HB; have BK350 := n0_; have BK351 := n1_; have HB := n2_; clear n0_ n1_ n2_
   (try clear hb)
   (try clear hb2)
   (try clear hk)
   (try clear hi)
   refine hK.out _ _ ⟨(blk_cell BK350.out 0).trans rfl, (blk_cell BK350.out 1).trans rfl, (blk_cell BK351.out 0).trans rfl, (blk_cell BK351.out 1).trans rfl⟩ (fun hHeld => ?_)
   clear hK K
   refine norm_ (a' := ?_) ?_ ?_
   rotate_left
   ·
    show Act.put _ (some 21) _ = _
    exact put9_
   refine one_ (i := 17) (N := some 22) (tb_ 20 262143) rfl rfl (one_of HT_.out q9_9) (by decide) (fun K hK => ?_)
   refine goes_ Tryz.func45 q9_9 rfl #[.int .i64 a1_1, .int .i64 t354] (by rfl) rfl rfl q9_4 ?_
   with_reducible refine (impl_inSet.calls a1_1 t354 t355 _ A8.out).mono ?_
   rintro e w' ⟨rfl, ⟨nd, rfl⟩⟩
   refine ⟨_, rfl, ?_⟩
   refine hK.out _ _ ⟨(blk_cell BK350.out 0).trans rfl, (blk_cell BK350.out 1).trans rfl, (blk_cell BK351.out 0).trans rfl, (blk_cell BK351.out 1).trans rfl⟩ (fun hHeld => ?_)
   clear hK K
   refine norm_ (a' := ?_) ?_ ?_
   rotate_left
   ·
    show Act.put _ (some 22) _ = _
    exact put9_
   refine pl_ 18 23 (tb_ 20 524287) ?_; refine pl_ 19 4 (tb_ 20 1048575) ?_
   refine done_ (done_of HT_.out q9_9) ?_
   try go_wp2
   go_ret
   exact ⟨q9_8, q9_1⟩
  ·
   replace c6 := Bool.eq_false_iff.mpr c6; subst c6
   rw [if_neg (show ¬ (false = true) by decide)] at H
   obtain rfl := Option.some.inj H
   go_enter Tryz.func27, Tryz.ntmps27
   try go_wp2_with (first | ((with_reducible refine gate_dst (N := 2) rfl ?_); refine box_event ?hg (N := 2) ?hd (cs := #[.int .i64 a0_0, .slice A0_1 l0_1.length c0_1]) (t := 29) ?hr ?_; (case hd => rfl); (case hg => rfl); (case hr => first | (go_simp; done) | (go_simp; rfl)); intro gb350 hg w15 hbox hb; have n_ := ac_ (below_step q9_5 hb) <| ac_ (hbox) <| ac_ ((by rw [hg]; exact (below_size q9_5) : w.heap.size ≤ gb350)) <| Aside0.mk ((by rw [hg]; exact (below_size q9_5) : w.heap.size ≤ gb350)); clear HB; obtain ⟨HB, BK350, GW350, GE350⟩ := n_; clear hb hbox hg) | ((with_reducible refine gate_dst (N := 3) rfl ?_); refine box_event ?hg (N := 3) ?hd (cs := #[.int .i64 a1_0, .int .i64 a1_1]) (t := 41) ?hr ?_; (case hd => rfl); (case hg => rfl); (case hr => first | (go_simp; done) | (go_simp; rfl)); intro gb351 hg w16 hbox hb; have n_ := ac_ (blk_below (g := gb350) (o := .cells #[.int .i64 a0_0, .slice A0_1 l0_1.length c0_1] 29 (0, 0)) q9_6 hb) <| ac_ (below_step q9_3 hb) <| ac_ (hbox) <| ac_ ((by rw [hg]; exact (below_size q9_3) : w.heap.size ≤ gb351)) <| ac_ ((by rw [hg]; exact (below_size q9_3) : w.heap.size ≤ gb351)) <| ac_ ((by rw [hg]; exact Nat.ne_of_lt (blk_lt (g := gb350) (o := .cells #[.int .i64 a0_0, .slice A0_1 l0_1.length c0_1] 29 (0, 0)) q9_6) : gb350 ≠ gb351)) <| Aside0.mk ((by rw [hg]; exact Nat.ne_of_gt (blk_lt (g := gb350) (o := .cells #[.int .i64 a0_0, .slice A0_1 l0_1.length c0_1] 29 (0, 0)) q9_6) : gb351 ≠ gb350)); clear BK350 HB; obtain ⟨BK350, HB, BK351, GW351, GE351, NB350_351, NB351_350⟩ := n_; clear hb hbox hg))
   have n0_ := Aside0.mk (blk_drew BK350.out); have n1_ := Aside0.mk (blk_drew BK351.out); have n2_ := Aside0.mk (below_drew1 HB.out); clear BK350; clear BK351; clear HB; have BK350 := n0_; have BK351 := n1_; have HB := n2_; clear n0_ n1_ n2_
   refine start_ (n := 20) (S := fun w' => w'.cell? ⟨gb350, 0, none⟩ = some (.int .i64 a0_0) ∧ w'.cell? ⟨gb350, 1, none⟩ = some (.slice A0_1 l0_1.length c0_1) ∧ w'.cell? ⟨gb351, 0, none⟩ = some (.int .i64 a1_0) ∧ w'.cell? ⟨gb351, 1, none⟩ = some (.int .i64 a1_1)) (ds := []) (tb_ 20 0) q9_9 rfl rfl ⟨(blk_cell BK350.out 0).trans rfl, (blk_cell BK350.out 1).trans rfl, (blk_cell BK351.out 0).trans rfl, (blk_cell BK351.out 1).trans rfl⟩ (fun hHeld => ?_); refine with_tabW impl_HoldsIn.tab1 impl_HoldsIn.bits1 (fun HT_ HW_ => ?_)
   generalize w16.drew = w17 at BK350 BK351 HB hHeld ⊢
   refine pl_ 1 6 (tb_ 20 2) ?_
   refine take_ (i := 0) (N := some 5) (v := ?_) (a' := ?_) (tb_ 20 3) rfl rfl (take_ofW HT_.out HW_.out q9_9) (fun _ _ _ h => h) (Or.inl ⟨by rfl, ?_⟩) hHeld ?_ ?_
   rotate_left
   ·
    rintro w' ⟨s0, s1, s2, s3⟩
    go_simp; with_reducible rfl
   rotate_left
   ·
    exact put9_
   refine take_ (i := 2) (N := some 7) (v := ?_) (a' := ?_) (tb_ 20 7) rfl rfl (take_ofW HT_.out HW_.out q9_9) (fun _ _ _ h => h) (Or.inl ⟨by rfl, ?_⟩) hHeld ?_ ?_
   rotate_left
   ·
    rintro w' ⟨s0, s1, s2, s3⟩
    go_simp; with_reducible rfl
   rotate_left
   ·
    exact put9_
   refine one_ (i := 3) (N := some 8) (tb_ 20 15) rfl rfl (one_of HT_.out q9_9) (by decide) (fun K hK => ?_)
   refine goes_ Tryz.func44 q9_9 rfl #[.agg #[.int .i64 a0_0, .slice A0_1 l0_1.length c0_1], .int .i64 a1_0] (by rfl) rfl rfl q9_4 ?_
   with_reducible refine (impl_areAttributes.calls a0_0 _ _ l0_1 a1_0 true _ ?side1 ?side2 A3.out).mono ?_
   (case side1 => exact q9_2)
   (case side2 => exact HC0_1.out)
   rintro e w18 ⟨rfl, hb⟩
   refine ⟨_, rfl, ?_⟩
   have n0_ := Aside0.mk (blk_below (g := gb350) (o := .cells #[.int .i64 a0_0, .slice A0_1 l0_1.length c0_1] 29 (0, 0)) q9_6 hb); have n1_ := Aside0.mk (blk_below (g := gb351) (o := .cells #[.int .i64 a1_0, .int .i64 a1_1] 41 (0, 0)) q9_7 hb); have n2_ := Aside0.mk (below_step q9_1 hb); clear BK350; clear BK351; clear HB; have BK350 := n0_; have BK351 := n1_; have HB := n2_; clear n0_ n1_ n2_
   (try clear hb)
   (try clear hb2)
   (try clear hk)
   (try clear hi)
   refine hK.out _ _ ⟨(blk_cell BK350.out 0).trans rfl, (blk_cell BK350.out 1).trans rfl, (blk_cell BK351.out 0).trans rfl, (blk_cell BK351.out 1).trans rfl⟩ (fun hHeld => ?_)
   clear hK K
   refine norm_ (a' := ?_) ?_ ?_
   rotate_left
   ·
    show Act.put _ (some 8) _ = _
    exact put9_
   refine pl_ 4 9 (tb_ 20 31) ?_; refine pl_ 6 11 (tb_ 20 95) ?_
   refine take_ (i := 5) (N := some 10) (v := ?_) (a' := ?_) (tb_ 20 127) rfl rfl (take_ofW HT_.out HW_.out q9_9) (fun _ _ _ h => h) (Or.inl ⟨by rfl, ?_⟩) hHeld ?_ ?_
   rotate_left
   ·
    rintro w' ⟨s0, s1, s2, s3⟩
    go_simp; with_reducible rfl
   rotate_left
   ·
    exact put9_
   refine take_ (i := 7) (N := some 12) (v := ?_) (a' := ?_) (tb_ 20 255) rfl rfl (take_ofW HT_.out HW_.out q9_9) (fun _ _ _ h => h) (Or.inl ⟨by rfl, ?_⟩) hHeld ?_ ?_
   rotate_left
   ·
    rintro w' ⟨s0, s1, s2, s3⟩
    go_simp; with_reducible rfl
   rotate_left
   ·
    exact put9_
   refine one_ (i := 8) (N := some 13) (tb_ 20 511) rfl rfl (one_of HT_.out q9_9) (by decide) (fun K hK => ?_)
   refine goes_ Tryz.func44 q9_9 rfl #[.agg #[.int .i64 a0_0, .slice A0_1 l0_1.length c0_1], .int .i64 a1_1] (by rfl) rfl rfl q9_4 ?_
   with_reducible refine (impl_areAttributes.calls a0_0 _ _ l0_1 a1_1 false _ ?side1 ?side2 A5.out).mono ?_
   (case side1 => exact q9_2)
   (case side2 => exact HC0_1.out)
   rintro e w19 ⟨rfl, hb⟩
   refine ⟨_, rfl, ?_⟩
   have n0_ := Aside0.mk (blk_below (g := gb350) (o := .cells #[.int .i64 a0_0, .slice A0_1 l0_1.length c0_1] 29 (0, 0)) q9_6 hb); have n1_ := Aside0.mk (blk_below (g := gb351) (o := .cells #[.int .i64 a1_0, .int .i64 a1_1] 41 (0, 0)) q9_7 hb); have n2_ := Aside0.mk (below_step q9_1 hb); clear BK350; clear BK351; clear HB; have BK350 := n0_; have BK351 := n1_; have HB := n2_; clear n0_ n1_ n2_
   (try clear hb)
   (try clear hb2)
   (try clear hk)
   (try clear hi)
   refine hK.out _ _ ⟨(blk_cell BK350.out 0).trans rfl, (blk_cell BK350.out 1).trans rfl, (blk_cell BK351.out 0).trans rfl, (blk_cell BK351.out 1).trans rfl⟩ (fun hHeld => ?_)
   clear hK K
   refine norm_ (a' := ?_) ?_ ?_
   rotate_left
   ·
    show Act.put _ (some 13) _ = _
    exact put9_
   refine pl_ 9 14 (tb_ 20 1023) ?_; refine pl_ 10 15 (tb_ 20 2047) ?_; refine pr_ 11 16 (tb_ 20 4095) ?_; refine pr_ 12 17 (tb_ 20 8191) ?_; refine pr_ 13 18 (tb_ 20 16383) ?_; refine pr_ 14 19 (tb_ 20 32767) ?_; refine pr_ 15 20 (tb_ 20 65535) ?_; refine pr_ 16 21 (tb_ 20 131071) ?_; refine pr_ 17 22 (tb_ 20 262143) ?_; refine pl_ 18 23 (tb_ 20 524287) ?_; refine pl_ 19 4 (tb_ 20 1048575) ?_
   refine done_ (done_of HT_.out q9_9) ?_
   try go_wp2
   go_ret
   exact ⟨q9_8, q9_1⟩
 ·
  replace c4 := Bool.eq_false_iff.mpr c4; subst c4
  rw [if_neg (show ¬ (false = true) by decide)] at H
  obtain rfl := Option.some.inj H
  go_enter Tryz.func27, Tryz.ntmps27
  try go_wp2_with (first | ((with_reducible refine gate_dst (N := 2) rfl ?_); refine box_event ?hg (N := 2) ?hd (cs := #[.int .i64 a0_0, .slice A0_1 l0_1.length c0_1]) (t := 29) ?hr ?_; (case hd => rfl); (case hg => rfl); (case hr => first | (go_simp; done) | (go_simp; rfl)); intro gb350 hg w20 hbox hb; have n_ := ac_ (below_step q9_5 hb) <| ac_ (hbox) <| ac_ ((by rw [hg]; exact (below_size q9_5) : w.heap.size ≤ gb350)) <| Aside0.mk ((by rw [hg]; exact (below_size q9_5) : w.heap.size ≤ gb350)); clear HB; obtain ⟨HB, BK350, GW350, GE350⟩ := n_; clear hb hbox hg) | ((with_reducible refine gate_dst (N := 3) rfl ?_); refine box_event ?hg (N := 3) ?hd (cs := #[.int .i64 a1_0, .int .i64 a1_1]) (t := 41) ?hr ?_; (case hd => rfl); (case hg => rfl); (case hr => first | (go_simp; done) | (go_simp; rfl)); intro gb351 hg w21 hbox hb; have n_ := ac_ (blk_below (g := gb350) (o := .cells #[.int .i64 a0_0, .slice A0_1 l0_1.length c0_1] 29 (0, 0)) q9_6 hb) <| ac_ (below_step q9_3 hb) <| ac_ (hbox) <| ac_ ((by rw [hg]; exact (below_size q9_3) : w.heap.size ≤ gb351)) <| ac_ ((by rw [hg]; exact (below_size q9_3) : w.heap.size ≤ gb351)) <| ac_ ((by rw [hg]; exact Nat.ne_of_lt (blk_lt (g := gb350) (o := .cells #[.int .i64 a0_0, .slice A0_1 l0_1.length c0_1] 29 (0, 0)) q9_6) : gb350 ≠ gb351)) <| Aside0.mk ((by rw [hg]; exact Nat.ne_of_gt (blk_lt (g := gb350) (o := .cells #[.int .i64 a0_0, .slice A0_1 l0_1.length c0_1] 29 (0, 0)) q9_6) : gb351 ≠ gb350)); clear BK350 HB; obtain ⟨BK350, HB, BK351, GW351, GE351, NB350_351, NB351_350⟩ := n_; clear hb hbox hg))
  have n0_ := Aside0.mk (blk_drew BK350.out); have n1_ := Aside0.mk (blk_drew BK351.out); have n2_ := Aside0.mk (below_drew1 HB.out); clear BK350; clear BK351; clear HB; have BK350 := n0_; have BK351 := n1_; have HB := n2_; clear n0_ n1_ n2_
  refine start_ (n := 20) (S := fun w' => w'.cell? ⟨gb350, 0, none⟩ = some (.int .i64 a0_0) ∧ w'.cell? ⟨gb350, 1, none⟩ = some (.slice A0_1 l0_1.length c0_1) ∧ w'.cell? ⟨gb351, 0, none⟩ = some (.int .i64 a1_0) ∧ w'.cell? ⟨gb351, 1, none⟩ = some (.int .i64 a1_1)) (ds := []) (tb_ 20 0) q9_9 rfl rfl ⟨(blk_cell BK350.out 0).trans rfl, (blk_cell BK350.out 1).trans rfl, (blk_cell BK351.out 0).trans rfl, (blk_cell BK351.out 1).trans rfl⟩ (fun hHeld => ?_); refine with_tabW impl_HoldsIn.tab1 impl_HoldsIn.bits1 (fun HT_ HW_ => ?_)
  generalize w21.drew = w22 at BK350 BK351 HB hHeld ⊢
  refine pl_ 1 6 (tb_ 20 2) ?_
  refine take_ (i := 0) (N := some 5) (v := ?_) (a' := ?_) (tb_ 20 3) rfl rfl (take_ofW HT_.out HW_.out q9_9) (fun _ _ _ h => h) (Or.inl ⟨by rfl, ?_⟩) hHeld ?_ ?_
  rotate_left
  ·
   rintro w' ⟨s0, s1, s2, s3⟩
   go_simp; with_reducible rfl
  rotate_left
  ·
   exact put9_
  refine take_ (i := 2) (N := some 7) (v := ?_) (a' := ?_) (tb_ 20 7) rfl rfl (take_ofW HT_.out HW_.out q9_9) (fun _ _ _ h => h) (Or.inl ⟨by rfl, ?_⟩) hHeld ?_ ?_
  rotate_left
  ·
   rintro w' ⟨s0, s1, s2, s3⟩
   go_simp; with_reducible rfl
  rotate_left
  ·
   exact put9_
  refine one_ (i := 3) (N := some 8) (tb_ 20 15) rfl rfl (one_of HT_.out q9_9) (by decide) (fun K hK => ?_)
  refine goes_ Tryz.func44 q9_9 rfl #[.agg #[.int .i64 a0_0, .slice A0_1 l0_1.length c0_1], .int .i64 a1_0] (by rfl) rfl rfl q9_4 ?_
  with_reducible refine (impl_areAttributes.calls a0_0 _ _ l0_1 a1_0 false _ ?side1 ?side2 A3.out).mono ?_
  (case side1 => exact q9_2)
  (case side2 => exact HC0_1.out)
  rintro e w23 ⟨rfl, hb⟩
  refine ⟨_, rfl, ?_⟩
  have n0_ := Aside0.mk (blk_below (g := gb350) (o := .cells #[.int .i64 a0_0, .slice A0_1 l0_1.length c0_1] 29 (0, 0)) q9_6 hb); have n1_ := Aside0.mk (blk_below (g := gb351) (o := .cells #[.int .i64 a1_0, .int .i64 a1_1] 41 (0, 0)) q9_7 hb); have n2_ := Aside0.mk (below_step q9_1 hb); clear BK350; clear BK351; clear HB; have BK350 := n0_; have BK351 := n1_; have HB := n2_; clear n0_ n1_ n2_
  (try clear hb)
  (try clear hb2)
  (try clear hk)
  (try clear hi)
  refine hK.out _ _ ⟨(blk_cell BK350.out 0).trans rfl, (blk_cell BK350.out 1).trans rfl, (blk_cell BK351.out 0).trans rfl, (blk_cell BK351.out 1).trans rfl⟩ (fun hHeld => ?_)
  clear hK K
  refine norm_ (a' := ?_) ?_ ?_
  rotate_left
  ·
   show Act.put _ (some 8) _ = _
   exact put9_
  refine pl_ 4 9 (tb_ 20 31) ?_; refine pr_ 5 10 (tb_ 20 63) ?_; refine pr_ 6 11 (tb_ 20 127) ?_; refine pr_ 7 12 (tb_ 20 255) ?_; refine pr_ 8 13 (tb_ 20 511) ?_; refine pl_ 9 14 (tb_ 20 1023) ?_; refine pl_ 10 15 (tb_ 20 2047) ?_; refine pr_ 11 16 (tb_ 20 4095) ?_; refine pr_ 12 17 (tb_ 20 8191) ?_; refine pr_ 13 18 (tb_ 20 16383) ?_; refine pr_ 14 19 (tb_ 20 32767) ?_; refine pr_ 15 20 (tb_ 20 65535) ?_; refine pr_ 16 21 (tb_ 20 131071) ?_; refine pr_ 17 22 (tb_ 20 262143) ?_; refine pl_ 18 23 (tb_ 20 524287) ?_; refine pl_ 19 4 (tb_ 20 1048575) ?_
  refine done_ (done_of HT_.out q9_9) ?_
  try go_wp2
  go_ret
  exact ⟨q9_8, q9_1⟩
end Go.Proofs.YtbflblmkdnhboaaGreatDoor.Pr
namespace Go.Proofs.YtbflblmkdnhboaaGreatDoor.Pr
open Go.RowKit Go.Proofs.YtbflblmkdnhboaaGreatDoorW.PrintWords Go.Proofs.YtbflblmkdnhboaaGreatDoorW.PrintLast Go.Proofs.YtbflblmkdnhboaaGreatDoorW.PrintMore
set_option linter.unusedVariables false
def impl_areAnyRules.f (l0 : List S41) : Option Bool := some (l0.all Pu.anyR)
theorem areAny1_val (r : S41) : impl_areAnyRules_1.f r.f0 r.f1 = some (!Pu.anyR r) := by
  unfold impl_areAnyRules_1.f
  rw [Pu.any_val, Option.bind_some]
  unfold Pu.anyR
  cases Pu.isAny r.f0 with
  | false => rfl
  | true => simp [Pu.any_val]
theorem impl_areAnyRules.calls (A0 : Option Addr) (c0 : Nat) (l0 : List S41) (r : Bool) (w : World) (hr0 : Kd.C k41 w A0 l0.length l0) (hc0 : l0.length ≤ c0) (h : impl_areAnyRules.f l0 = some r) :
    Calls Tryz.prog 59 #[.slice A0 l0.length c0] w fun e w' => e = .returned (.bool r) ∧ Below w.heap.size w w' := by
  obtain rfl := Option.some.inj h
  clear h
  have eg : ∀ args w, (callFunc 71 args).run Tryz.prog w = .ok (.enter 71 args) w := enters_of Tryz.func71 (by kernel_rfl) rfl
  have h0 := ContainsFunc_rule 71 #[] eg A0 c0 l0 (fun r => !Pu.anyR r) w hr0 (fun W x hb => (impl_areAnyRules_1.calls x.f0 x.f1 _ W (areAny1_val x)).mono fun e w' ⟨he, hb'⟩ => ⟨he, hb'⟩)
  have h1 : Aside0 ((!(l0.any fun r => !Pu.anyR r)) = l0.all Pu.anyR) := ⟨by rw [List.all_eq_not_any_not]⟩
  clear hr0
  go_enter Tryz.func59, Tryz.ntmps59
  go_wp2_with (go_at_call 25; refine h0.mono ?_; rintro e w' ⟨rfl, hb⟩)
  go_ret
  exact ⟨by rw [← h1.out]; rfl, hb⟩
end Go.Proofs.YtbflblmkdnhboaaGreatDoor.Pr
