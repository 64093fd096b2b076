/- What the law needs of the program's functions as plain functions, of the proofs that their calls answer so, and of plain laws: gathered by a program of this place (pack.py) out of its printed texts. No condition beyond what each statement says. -/
import Derived.Test.YtbflblmkdnhboaaGreatDoorZXIsShortest2
import Derived.Test.YtbflblmkdnhboaaGreatDoorZXIsShortest6
import Derived.Test.YtbflblmkdnhboaaGreatDoorZXIsShortest9
import Derived.Test.YtbflblmkdnhboaaGreatDoorZXIsShortest7
import Derived.Test.YtbflblmkdnhboaaGreatDoorZXIsShortest8
import Derived.Test.YtbflblmkdnhboaaGreatDoorZXIsShortest5
namespace Go.Proofs.YtbflblmkdnhboaaGreatDoor.Pr
open Go.RowKit Go.Proofs.YtbflblmkdnhboaaGreatDoorW.PrintWords Go.Proofs.YtbflblmkdnhboaaGreatDoorW.PrintLast Go.Proofs.YtbflblmkdnhboaaGreatDoorW.PrintMore
attribute [local go_sem] max2_int min2_int max_two min_two max_three min_three max_four min_four
set_option linter.unusedVariables false
set_option linter.unusedSimpArgs false
theorem bnd9_ {α β : Type} {o : Option α} {f : α → Option β} {r : β} (h : o.bind f = some r) : ∃ a, Aside0 (o = some a) ∧ f a = some r := by
 obtain ⟨a, h1, h2⟩ := Option.bind_eq_some_iff.mp h
 exact ⟨a, ⟨h1⟩, h2⟩
theorem q9_1 {P : Prop} (h : P := by repeat (first | (with_reducible first | exact HB.out | apply below_alloc | apply pw_below_drewN | apply below_drew1 | refine below_set ?_ GE350.out | refine below_set ?_ GE351.out) | exact HB.out)) : P := h
theorem q9_3 {P : Prop} (h : P := by repeat (first | (with_reducible first | exact HB.out | apply below_alloc | apply pw_below_drewN | apply below_drew1 | refine below_set ?_ GE350.out) | exact HB.out)) : P := h
theorem q9_6 {P : Prop} (h : P := by (with_reducible repeat (first | refine blk_drewN ?_ _ | refine blk_drew ?_ | refine blk_alloc ?_ _)); exact BK350.out) : P := h
theorem q9_7 {P : Prop} (h : P := by (with_reducible repeat (first | refine blk_drewN ?_ _ | refine blk_drew ?_ | refine blk_alloc ?_ _)); exact BK351.out) : P := h
def impl_HoldsIn.f (k : Nat) (a0_0 : Int) (l0_1 : List Int) (a1_0 : Int) (a1_1 : Int) : Option (Bool) := (impl_areAttributes.f a0_0 l0_1 a1_0).bind fun t352 => (if t352 = true then ((impl_areAttributes.f a0_0 l0_1 a1_1).bind fun t353 => (if t353 = true then ((impl_ClosureOf.f k a0_0 l0_1 a1_0).bind fun t354 => ((impl_inSet.f a1_1 t354).bind fun t355 => (some t355))) else (some false))) else (some false))
def impl_HoldsIn.T1 : Bool × List (List Nat × List Nat) := (true, [([], []), ([], []), ([1], [1]), ([0, 2], [0, 2]), ([3, 3], [3]), ([4], [4]), ([4], [4]), ([6, 4], [4, 6]), ([5, 7, 4, 4], [4, 5, 7]), ([4, 8], [4, 8]), ([9, 8], [9]), ([10], [10]), ([11, 10], [10, 11]), ([10], [10]), ([10], [10]), ([14, 10], [10, 14]), ([13, 15, 10, 10], [10, 13, 15]), ([12, 16, 16, 10], [10, 12, 16]), ([10, 17], [10, 17]), ([18, 17, 0, 1, 2, 3, 4, 5, 6, 7, 8, 9, 10, 11, 12, 13, 14, 15, 16, 17, 18], [18])])
def impl_HoldsIn.B1 : List Nat := [0, 0, 2, 7, 15, 31, 31, 95, 255, 511, 1023, 2047, 4095, 2047, 2047, 18431, 59391, 131071, 262143, 524287]
theorem impl_HoldsIn.tab1 : rtab .any (opsOf Tryz.f27 1) = impl_HoldsIn.T1 := s9_
theorem impl_HoldsIn.bits1 : waitsOk impl_HoldsIn.T1.2 impl_HoldsIn.B1 = true := s9_
set_option maxHeartbeats 8000000 in
set_option maxRecDepth 100000 in
theorem impl_HoldsIn.calls (k : Nat) (a0_0 : Int) (A0_1 : Option Addr) (c0_1 : Nat) (l0_1 : List Int) (a1_0 : Int) (a1_1 : Int) (r : Bool) (w : World) (hr0_1 : Kd.C (Kd.int .i64) w A0_1 l0_1.length l0_1) (hc0_1 : l0_1.length ≤ c0_1) (h : impl_HoldsIn.f k a0_0 l0_1 a1_0 a1_1 = some r) :
  Calls Tryz.prog 27 #[.agg #[.int .i64 a0_0, .slice A0_1 l0_1.length c0_1], .agg #[.int .i64 a1_0, .int .i64 a1_1]] w fun e w' => e = .returned (.bool r) ∧ Below w.heap.size w w' := by
 have hu29 := Tryz.underlying29; have hu41 := Tryz.underlying41; have HR0_1 := Aside0.mk hr0_1; have HC0_1 := Aside0.mk hc0_1; clear hr0_1 hc0_1; have HB := Aside0.mk (Below.refl w.heap.size w); have H := h; clear h; unfold impl_HoldsIn.f at H; obtain ⟨t352, A3, H⟩ := bnd9_ H
 by_cases c4 : t352 = true
 ·
  subst c4; rw [if_pos rfl] at H; obtain ⟨t353, A5, H⟩ := bnd9_ H
  by_cases c6 : t353 = true
  ·
   subst c6; rw [if_pos rfl] at H; obtain ⟨t354, A7, H⟩ := bnd9_ H; obtain ⟨t355, A8, H⟩ := bnd9_ H; obtain rfl := Option.some.inj H
   go_enter Tryz.func27, Tryz.ntmps27
   try go_wp2_with (first | ((with_reducible refine gate_dst (N := 2) rfl ?_); refine box_event ?hg (N := 2) ?hd (cs := #[.int .i64 a0_0, .slice A0_1 l0_1.length c0_1]) (t := 29) ?hr ?_; (case hd => rfl); (case hg => rfl); (case hr => first | (go_simp; done) | (go_simp; rfl)); intro gb350 hg w9 hbox hb; have n_ := ac_ (below_step s1_ hb) <| ac_ (hbox) <| ac_ ((by rw [hg]; exact (below_size s1_) : w.heap.size ≤ gb350)) <| Aside0.mk ((by rw [hg]; exact (below_size s1_) : w.heap.size ≤ gb350)); clear HB; obtain ⟨HB, BK350, GW350, GE350⟩ := n_; clear hb hbox hg) | ((with_reducible refine gate_dst (N := 3) rfl ?_); refine box_event ?hg (N := 3) ?hd (cs := #[.int .i64 a1_0, .int .i64 a1_1]) (t := 41) ?hr ?_; (case hd => rfl); (case hg => rfl); (case hr => first | (go_simp; done) | (go_simp; rfl)); intro gb351 hg w10 hbox hb; have n_ := ac_ (blk_below (g := gb350) (o := .cells #[.int .i64 a0_0, .slice A0_1 l0_1.length c0_1] 29 (0, 0)) q9_6 hb) <| ac_ (below_step q9_3 hb) <| ac_ (hbox) <| ac_ ((by rw [hg]; exact (below_size q9_3) : w.heap.size ≤ gb351)) <| ac_ ((by rw [hg]; exact (below_size q9_3) : w.heap.size ≤ gb351)) <| ac_ ((by rw [hg]; exact Nat.ne_of_lt (blk_lt (g := gb350) (o := .cells #[.int .i64 a0_0, .slice A0_1 l0_1.length c0_1] 29 (0, 0)) q9_6) : gb350 ≠ gb351)) <| Aside0.mk ((by rw [hg]; exact Nat.ne_of_gt (blk_lt (g := gb350) (o := .cells #[.int .i64 a0_0, .slice A0_1 l0_1.length c0_1] 29 (0, 0)) q9_6) : gb351 ≠ gb350)); clear BK350 HB; obtain ⟨BK350, HB, BK351, GW351, GE351, NB350_351, NB351_350⟩ := n_; clear hb hbox hg))
   have n0_ := Aside0.mk (blk_drew BK350.out); have n1_ := Aside0.mk (blk_drew BK351.out); have n2_ := Aside0.mk (below_drew1 HB.out); clear BK350; clear BK351; clear HB; have BK350 := n0_; have BK351 := n1_; have HB := n2_; clear n0_ n1_ n2_
   refine start_ (n := 20) (S := fun w' => w'.cell? ⟨gb350, 0, none⟩ = some (.int .i64 a0_0) ∧ w'.cell? ⟨gb350, 1, none⟩ = some (.slice A0_1 l0_1.length c0_1) ∧ w'.cell? ⟨gb351, 0, none⟩ = some (.int .i64 a1_0) ∧ w'.cell? ⟨gb351, 1, none⟩ = some (.int .i64 a1_1)) (ds := []) (tb_ 20 0) s9_ rfl rfl ⟨(blk_cell BK350.out 0).trans rfl, (blk_cell BK350.out 1).trans rfl, (blk_cell BK351.out 0).trans rfl, (blk_cell BK351.out 1).trans rfl⟩ (fun hHeld => ?_); refine with_tabW impl_HoldsIn.tab1 impl_HoldsIn.bits1 (fun HT_ HW_ => ?_)
   generalize w10.drew = w11 at BK350 BK351 HB hHeld ⊢
   refine pl_ 1 6 (tb_ 20 2) ?_
   refine take_ (i := 0) (N := some 5) (v := ?_) (a' := ?_) (tb_ 20 3) rfl rfl (take_ofW HT_.out HW_.out s9_) (fun _ _ _ h => h) (Or.inl ⟨by rfl, ?_⟩) hHeld ?_ ?_
   rotate_left
   ·
    rintro w' ⟨s0, s1, s2, s3⟩
    go_simp; with_reducible rfl
   rotate_left
   ·
    exact s6_
   refine take_ (i := 2) (N := some 7) (v := ?_) (a' := ?_) (tb_ 20 7) rfl rfl (take_ofW HT_.out HW_.out s9_) (fun _ _ _ h => h) (Or.inl ⟨by rfl, ?_⟩) hHeld ?_ ?_
   rotate_left
   ·
    rintro w' ⟨s0, s1, s2, s3⟩
    go_simp; with_reducible rfl
   rotate_left
   ·
    exact s6_
   refine one_ (i := 3) (N := some 8) (tb_ 20 15) rfl rfl (one_of HT_.out s9_) (by decide) (fun K hK => ?_)
   refine goes_ Tryz.func44 s9_ rfl #[.agg #[.int .i64 a0_0, .slice A0_1 l0_1.length c0_1], .int .i64 a1_0] (by rfl) rfl rfl s0_ ?_
   with_reducible refine (impl_areAttributes.calls a0_0 _ _ l0_1 a1_0 true _ ?side1 ?side2 A3.out).mono ?_
   (case side1 => exact s2_)
   (case side2 => exact HC0_1.out)
   rintro e w12 ⟨rfl, hb⟩
   refine ⟨_, rfl, ?_⟩
   have n0_ := Aside0.mk (blk_below (g := gb350) (o := .cells #[.int .i64 a0_0, .slice A0_1 l0_1.length c0_1] 29 (0, 0)) q9_6 hb); have n1_ := Aside0.mk (blk_below (g := gb351) (o := .cells #[.int .i64 a1_0, .int .i64 a1_1] 41 (0, 0)) q9_7 hb); have n2_ := Aside0.mk (below_step q9_1 hb); clear BK350; clear BK351; clear HB; have BK350 := n0_; have BK351 := n1_; have HB := n2_; clear n0_ n1_ n2_
   (try clear hb)
   (try clear hb2)
   (try clear hk)
   (try clear hi)
   refine hK.out _ _ ⟨(blk_cell BK350.out 0).trans rfl, (blk_cell BK350.out 1).trans rfl, (blk_cell BK351.out 0).trans rfl, (blk_cell BK351.out 1).trans rfl⟩ (fun hHeld => ?_)
   clear hK K
   refine norm_ (a' := ?_) ?_ ?_
   rotate_left
   ·
    show Act.put _ (some 8) _ = _
    exact s6_
   refine pl_ 4 9 (tb_ 20 31) ?_; refine pl_ 6 11 (tb_ 20 95) ?_
   refine take_ (i := 5) (N := some 10) (v := ?_) (a' := ?_) (tb_ 20 127) rfl rfl (take_ofW HT_.out HW_.out s9_) (fun _ _ _ h => h) (Or.inl ⟨by rfl, ?_⟩) hHeld ?_ ?_
   rotate_left
   ·
    rintro w' ⟨s0, s1, s2, s3⟩
    go_simp; with_reducible rfl
   rotate_left
   ·
    exact s6_
   refine take_ (i := 7) (N := some 12) (v := ?_) (a' := ?_) (tb_ 20 255) rfl rfl (take_ofW HT_.out HW_.out s9_) (fun _ _ _ h => h) (Or.inl ⟨by rfl, ?_⟩) hHeld ?_ ?_
   rotate_left
   ·
    rintro w' ⟨s0, s1, s2, s3⟩
    go_simp; with_reducible rfl
   rotate_left
   ·
    exact s6_
   refine one_ (i := 8) (N := some 13) (tb_ 20 511) rfl rfl (one_of HT_.out s9_) (by decide) (fun K hK => ?_)
   refine goes_ Tryz.func44 s9_ rfl #[.agg #[.int .i64 a0_0, .slice A0_1 l0_1.length c0_1], .int .i64 a1_1] (by rfl) rfl rfl s0_ ?_
   with_reducible refine (impl_areAttributes.calls a0_0 _ _ l0_1 a1_1 true _ ?side1 ?side2 A5.out).mono ?_
   (case side1 => exact s2_)
   (case side2 => exact HC0_1.out)
   rintro e w13 ⟨rfl, hb⟩
   refine ⟨_, rfl, ?_⟩
   have n0_ := Aside0.mk (blk_below (g := gb350) (o := .cells #[.int .i64 a0_0, .slice A0_1 l0_1.length c0_1] 29 (0, 0)) q9_6 hb); have n1_ := Aside0.mk (blk_below (g := gb351) (o := .cells #[.int .i64 a1_0, .int .i64 a1_1] 41 (0, 0)) q9_7 hb); have n2_ := Aside0.mk (below_step q9_1 hb); clear BK350; clear BK351; clear HB; have BK350 := n0_; have BK351 := n1_; have HB := n2_; clear n0_ n1_ n2_
   (try clear hb)
   (try clear hb2)
   (try clear hk)
   (try clear hi)
   refine hK.out _ _ ⟨(blk_cell BK350.out 0).trans rfl, (blk_cell BK350.out 1).trans rfl, (blk_cell BK351.out 0).trans rfl, (blk_cell BK351.out 1).trans rfl⟩ (fun hHeld => ?_)
   clear hK K
   refine norm_ (a' := ?_) ?_ ?_
   rotate_left
   ·
    show Act.put _ (some 13) _ = _
    exact s6_
   refine pl_ 9 14 (tb_ 20 1023) ?_; refine pl_ 10 15 (tb_ 20 2047) ?_; refine pl_ 11 16 (tb_ 20 4095) ?_; refine pl_ 14 19 (tb_ 20 20479) ?_
   refine take_ (i := 12) (N := some 17) (v := ?_) (a' := ?_) (tb_ 20 24575) rfl rfl (take_ofW HT_.out HW_.out s9_) (fun _ _ _ h => h) (Or.inl ⟨by rfl, ?_⟩) hHeld ?_ ?_
   rotate_left
   ·
    rintro w' ⟨s0, s1, s2, s3⟩
    go_simp; with_reducible rfl
   rotate_left
   ·
    exact s6_
   refine take_ (i := 13) (N := some 18) (v := ?_) (a' := ?_) (tb_ 20 32767) rfl rfl (take_ofW HT_.out HW_.out s9_) (fun _ _ _ h => h) (Or.inl ⟨by rfl, ?_⟩) hHeld ?_ ?_
   rotate_left
   ·
    rintro w' ⟨s0, s1, s2, s3⟩
    go_simp; with_reducible rfl
   rotate_left
   ·
    exact s6_
   refine take_ (i := 15) (N := some 20) (v := ?_) (a' := ?_) (tb_ 20 65535) rfl rfl (take_ofW HT_.out HW_.out s9_) (fun _ _ _ h => h) (Or.inl ⟨by rfl, ?_⟩) hHeld ?_ ?_
   rotate_left
   ·
    rintro w' ⟨s0, s1, s2, s3⟩
    go_simp; with_reducible rfl
   rotate_left
   ·
    exact s6_
   refine one_ (i := 16) (N := some 21) (tb_ 20 131071) rfl rfl (one_of HT_.out s9_) (by decide) (fun K hK => ?_)
   refine goes_ Tryz.func46 s9_ rfl #[.agg #[.int .i64 a0_0, .slice A0_1 l0_1.length c0_1], .int .i64 a1_0] (by rfl) rfl rfl s0_ ?_
   with_reducible refine (impl_ClosureOf.calls k a0_0 _ _ l0_1 a1_0 t354 _ ?side1 ?side2 A7.out).mono ?_
   (case side1 => exact s2_)
   (case side2 => exact HC0_1.out)
   rintro e w14 ⟨rfl, hb⟩
   refine ⟨_, rfl, ?_⟩
   have n0_ := Aside0.mk (blk_below (g := gb350) (o := .cells #[.int .i64 a0_0, .slice A0_1 l0_1.length c0_1] 29 (0, 0)) q9_6 hb); have n1_ := Aside0.mk (blk_below (g := gb351) (o := .cells #[.int .i64 a1_0, .int .i64 a1_1] 41 (0, 0)) q9_7 hb); have n2_ := Aside0.mk (below_step q9_1 hb); clear BK350; clear BK351; clear HB; have BK350 := n0_; have BK351 := n1_; have HB := n2_; clear n0_ n1_ n2_
   (try clear hb)
   (try clear hb2)
   (try clear hk)
   (try clear hi)
   refine hK.out _ _ ⟨(blk_cell BK350.out 0).trans rfl, (blk_cell BK350.out 1).trans rfl, (blk_cell BK351.out 0).trans rfl, (blk_cell BK351.out 1).trans rfl⟩ (fun hHeld => ?_)
   clear hK K
   refine norm_ (a' := ?_) ?_ ?_
   rotate_left
   ·
    show Act.put _ (some 21) _ = _
    exact s6_
   refine one_ (i := 17) (N := some 22) (tb_ 20 262143) rfl rfl (one_of HT_.out s9_) (by decide) (fun K hK => ?_)
   refine goes_ Tryz.func45 s9_ rfl #[.int .i64 a1_1, .int .i64 t354] (by rfl) rfl rfl s0_ ?_
   with_reducible refine (impl_inSet.calls a1_1 t354 t355 _ A8.out).mono ?_
   rintro e w' ⟨rfl, ⟨nd, rfl⟩⟩
   refine ⟨_, rfl, ?_⟩
   refine hK.out _ _ ⟨(blk_cell BK350.out 0).trans rfl, (blk_cell BK350.out 1).trans rfl, (blk_cell BK351.out 0).trans rfl, (blk_cell BK351.out 1).trans rfl⟩ (fun hHeld => ?_)
   clear hK K
   refine norm_ (a' := ?_) ?_ ?_
   rotate_left
   ·
    show Act.put _ (some 22) _ = _
    exact s6_
   refine pl_ 18 23 (tb_ 20 524287) ?_; refine pl_ 19 4 (tb_ 20 1048575) ?_
   refine done_ (done_of HT_.out s9_) ?_
   try go_wp2
   go_ret
   exact ⟨s5_, q9_1⟩
  ·
   replace c6 := Bool.eq_false_iff.mpr c6; subst c6
   rw [if_neg (show ¬ (false = true) by decide)] at H
   obtain rfl := Option.some.inj H
   go_enter Tryz.func27, Tryz.ntmps27
   try go_wp2_with (first | ((with_reducible refine gate_dst (N := 2) rfl ?_); refine box_event ?hg (N := 2) ?hd (cs := #[.int .i64 a0_0, .slice A0_1 l0_1.length c0_1]) (t := 29) ?hr ?_; (case hd => rfl); (case hg => rfl); (case hr => first | (go_simp; done) | (go_simp; rfl)); intro gb350 hg w15 hbox hb; have n_ := ac_ (below_step s1_ hb) <| ac_ (hbox) <| ac_ ((by rw [hg]; exact (below_size s1_) : w.heap.size ≤ gb350)) <| Aside0.mk ((by rw [hg]; exact (below_size s1_) : w.heap.size ≤ gb350)); clear HB; obtain ⟨HB, BK350, GW350, GE350⟩ := n_; clear hb hbox hg) | ((with_reducible refine gate_dst (N := 3) rfl ?_); refine box_event ?hg (N := 3) ?hd (cs := #[.int .i64 a1_0, .int .i64 a1_1]) (t := 41) ?hr ?_; (case hd => rfl); (case hg => rfl); (case hr => first | (go_simp; done) | (go_simp; rfl)); intro gb351 hg w16 hbox hb; have n_ := ac_ (blk_below (g := gb350) (o := .cells #[.int .i64 a0_0, .slice A0_1 l0_1.length c0_1] 29 (0, 0)) q9_6 hb) <| ac_ (below_step q9_3 hb) <| ac_ (hbox) <| ac_ ((by rw [hg]; exact (below_size q9_3) : w.heap.size ≤ gb351)) <| ac_ ((by rw [hg]; exact (below_size q9_3) : w.heap.size ≤ gb351)) <| ac_ ((by rw [hg]; exact Nat.ne_of_lt (blk_lt (g := gb350) (o := .cells #[.int .i64 a0_0, .slice A0_1 l0_1.length c0_1] 29 (0, 0)) q9_6) : gb350 ≠ gb351)) <| Aside0.mk ((by rw [hg]; exact Nat.ne_of_gt (blk_lt (g := gb350) (o := .cells #[.int .i64 a0_0, .slice A0_1 l0_1.length c0_1] 29 (0, 0)) q9_6) : gb351 ≠ gb350)); clear BK350 HB; obtain ⟨BK350, HB, BK351, GW351, GE351, NB350_351, NB351_350⟩ := n_; clear hb hbox hg))
   have n0_ := Aside0.mk (blk_drew BK350.out); have n1_ := Aside0.mk (blk_drew BK351.out); have n2_ := Aside0.mk (below_drew1 HB.out); clear BK350; clear BK351; clear HB; have BK350 := n0_; have BK351 := n1_; have HB := n2_; clear n0_ n1_ n2_
   refine start_ (n := 20) (S := fun w' => w'.cell? ⟨gb350, 0, none⟩ = some (.int .i64 a0_0) ∧ w'.cell? ⟨gb350, 1, none⟩ = some (.slice A0_1 l0_1.length c0_1) ∧ w'.cell? ⟨gb351, 0, none⟩ = some (.int .i64 a1_0) ∧ w'.cell? ⟨gb351, 1, none⟩ = some (.int .i64 a1_1)) (ds := []) (tb_ 20 0) s9_ rfl rfl ⟨(blk_cell BK350.out 0).trans rfl, (blk_cell BK350.out 1).trans rfl, (blk_cell BK351.out 0).trans rfl, (blk_cell BK351.out 1).trans rfl⟩ (fun hHeld => ?_); refine with_tabW impl_HoldsIn.tab1 impl_HoldsIn.bits1 (fun HT_ HW_ => ?_)
   generalize w16.drew = w17 at BK350 BK351 HB hHeld ⊢
   refine pl_ 1 6 (tb_ 20 2) ?_
   refine take_ (i := 0) (N := some 5) (v := ?_) (a' := ?_) (tb_ 20 3) rfl rfl (take_ofW HT_.out HW_.out s9_) (fun _ _ _ h => h) (Or.inl ⟨by rfl, ?_⟩) hHeld ?_ ?_
   rotate_left
   ·
    rintro w' ⟨s0, s1, s2, s3⟩
    go_simp; with_reducible rfl
   rotate_left
   ·
    exact s6_
   refine take_ (i := 2) (N := some 7) (v := ?_) (a' := ?_) (tb_ 20 7) rfl rfl (take_ofW HT_.out HW_.out s9_) (fun _ _ _ h => h) (Or.inl ⟨by rfl, ?_⟩) hHeld ?_ ?_
   rotate_left
   ·
    rintro w' ⟨s0, s1, s2, s3⟩
    go_simp; with_reducible rfl
   rotate_left
   ·
    exact s6_
   refine one_ (i := 3) (N := some 8) (tb_ 20 15) rfl rfl (one_of HT_.out s9_) (by decide) (fun K hK => ?_)
   refine goes_ Tryz.func44 s9_ rfl #[.agg #[.int .i64 a0_0, .slice A0_1 l0_1.length c0_1], .int .i64 a1_0] (by rfl) rfl rfl s0_ ?_
   with_reducible refine (impl_areAttributes.calls a0_0 _ _ l0_1 a1_0 true _ ?side1 ?side2 A3.out).mono ?_
   (case side1 => exact s2_)
   (case side2 => exact HC0_1.out)
   rintro e w18 ⟨rfl, hb⟩
   refine ⟨_, rfl, ?_⟩
   have n0_ := Aside0.mk (blk_below (g := gb350) (o := .cells #[.int .i64 a0_0, .slice A0_1 l0_1.length c0_1] 29 (0, 0)) q9_6 hb); have n1_ := Aside0.mk (blk_below (g := gb351) (o := .cells #[.int .i64 a1_0, .int .i64 a1_1] 41 (0, 0)) q9_7 hb); have n2_ := Aside0.mk (below_step q9_1 hb); clear BK350; clear BK351; clear HB; have BK350 := n0_; have BK351 := n1_; have HB := n2_; clear n0_ n1_ n2_
   (try clear hb)
   (try clear hb2)
   (try clear hk)
   (try clear hi)
   refine hK.out _ _ ⟨(blk_cell BK350.out 0).trans rfl, (blk_cell BK350.out 1).trans rfl, (blk_cell BK351.out 0).trans rfl, (blk_cell BK351.out 1).trans rfl⟩ (fun hHeld => ?_)
   clear hK K
   refine norm_ (a' := ?_) ?_ ?_
   rotate_left
   ·
    show Act.put _ (some 8) _ = _
    exact s6_
   refine pl_ 4 9 (tb_ 20 31) ?_; refine pl_ 6 11 (tb_ 20 95) ?_
   refine take_ (i := 5) (N := some 10) (v := ?_) (a' := ?_) (tb_ 20 127) rfl rfl (take_ofW HT_.out HW_.out s9_) (fun _ _ _ h => h) (Or.inl ⟨by rfl, ?_⟩) hHeld ?_ ?_
   rotate_left
   ·
    rintro w' ⟨s0, s1, s2, s3⟩
    go_simp; with_reducible rfl
   rotate_left
   ·
    exact s6_
   refine take_ (i := 7) (N := some 12) (v := ?_) (a' := ?_) (tb_ 20 255) rfl rfl (take_ofW HT_.out HW_.out s9_) (fun _ _ _ h => h) (Or.inl ⟨by rfl, ?_⟩) hHeld ?_ ?_
   rotate_left
   ·
    rintro w' ⟨s0, s1, s2, s3⟩
    go_simp; with_reducible rfl
   rotate_left
   ·
    exact s6_
   refine one_ (i := 8) (N := some 13) (tb_ 20 511) rfl rfl (one_of HT_.out s9_) (by decide) (fun K hK => ?_)
   refine goes_ Tryz.func44 s9_ rfl #[.agg #[.int .i64 a0_0, .slice A0_1 l0_1.length c0_1], .int .i64 a1_1] (by rfl) rfl rfl s0_ ?_
   with_reducible refine (impl_areAttributes.calls a0_0 _ _ l0_1 a1_1 false _ ?side1 ?side2 A5.out).mono ?_
   (case side1 => exact s2_)
   (case side2 => exact HC0_1.out)
   rintro e w19 ⟨rfl, hb⟩
   refine ⟨_, rfl, ?_⟩
   have n0_ := Aside0.mk (blk_below (g := gb350) (o := .cells #[.int .i64 a0_0, .slice A0_1 l0_1.length c0_1] 29 (0, 0)) q9_6 hb); have n1_ := Aside0.mk (blk_below (g := gb351) (o := .cells #[.int .i64 a1_0, .int .i64 a1_1] 41 (0, 0)) q9_7 hb); have n2_ := Aside0.mk (below_step q9_1 hb); clear BK350; clear BK351; clear HB; have BK350 := n0_; have BK351 := n1_; have HB := n2_; clear n0_ n1_ n2_
   (try clear hb)
   (try clear hb2)
   (try clear hk)
   (try clear hi)
   refine hK.out _ _ ⟨(blk_cell BK350.out 0).trans rfl, (blk_cell BK350.out 1).trans rfl, (blk_cell BK351.out 0).trans rfl, (blk_cell BK351.out 1).trans rfl⟩ (fun hHeld => ?_)
   clear hK K
   refine norm_ (a' := ?_) ?_ ?_
   rotate_left
   ·
    show Act.put _ (some 13) _ = _
    exact s6_
   refine pl_ 9 14 (tb_ 20 1023) ?_; refine pl_ 10 15 (tb_ 20 2047) ?_; refine pr_ 11 16 (tb_ 20 4095) ?_; refine pr_ 12 17 (tb_ 20 8191) ?_; refine pr_ 13 18 (tb_ 20 16383) ?_; refine pr_ 14 19 (tb_ 20 32767) ?_; refine pr_ 15 20 (tb_ 20 65535) ?_; refine pr_ 16 21 (tb_ 20 131071) ?_; refine pr_ 17 22 (tb_ 20 262143) ?_; refine pl_ 18 23 (tb_ 20 524287) ?_; refine pl_ 19 4 (tb_ 20 1048575) ?_
   refine done_ (done_of HT_.out s9_) ?_
   try go_wp2
   go_ret
   exact ⟨s5_, q9_1⟩
 ·
  replace c4 := Bool.eq_false_iff.mpr c4; subst c4
  rw [if_neg (show ¬ (false = true) by decide)] at H
  obtain rfl := Option.some.inj H
  go_enter Tryz.func27, Tryz.ntmps27
  try go_wp2_with (first | ((with_reducible refine gate_dst (N := 2) rfl ?_); refine box_event ?hg (N := 2) ?hd (cs := #[.int .i64 a0_0, .slice A0_1 l0_1.length c0_1]) (t := 29) ?hr ?_; (case hd => rfl); (case hg => rfl); (case hr => first | (go_simp; done) | (go_simp; rfl)); intro gb350 hg w20 hbox hb; have n_ := ac_ (below_step s1_ hb) <| ac_ (hbox) <| ac_ ((by rw [hg]; exact (below_size s1_) : w.heap.size ≤ gb350)) <| Aside0.mk ((by rw [hg]; exact (below_size s1_) : w.heap.size ≤ gb350)); clear HB; obtain ⟨HB, BK350, GW350, GE350⟩ := n_; clear hb hbox hg) | ((with_reducible refine gate_dst (N := 3) rfl ?_); refine box_event ?hg (N := 3) ?hd (cs := #[.int .i64 a1_0, .int .i64 a1_1]) (t := 41) ?hr ?_; (case hd => rfl); (case hg => rfl); (case hr => first | (go_simp; done) | (go_simp; rfl)); intro gb351 hg w21 hbox hb; have n_ := ac_ (blk_below (g := gb350) (o := .cells #[.int .i64 a0_0, .slice A0_1 l0_1.length c0_1] 29 (0, 0)) q9_6 hb) <| ac_ (below_step q9_3 hb) <| ac_ (hbox) <| ac_ ((by rw [hg]; exact (below_size q9_3) : w.heap.size ≤ gb351)) <| ac_ ((by rw [hg]; exact (below_size q9_3) : w.heap.size ≤ gb351)) <| ac_ ((by rw [hg]; exact Nat.ne_of_lt (blk_lt (g := gb350) (o := .cells #[.int .i64 a0_0, .slice A0_1 l0_1.length c0_1] 29 (0, 0)) q9_6) : gb350 ≠ gb351)) <| Aside0.mk ((by rw [hg]; exact Nat.ne_of_gt (blk_lt (g := gb350) (o := .cells #[.int .i64 a0_0, .slice A0_1 l0_1.length c0_1] 29 (0, 0)) q9_6) : gb351 ≠ gb350)); clear BK350 HB; obtain ⟨BK350, HB, BK351, GW351, GE351, NB350_351, NB351_350⟩ := n_; clear hb hbox hg))
  have n0_ := Aside0.mk (blk_drew BK350.out); have n1_ := Aside0.mk (blk_drew BK351.out); have n2_ := Aside0.mk (below_drew1 HB.out); clear BK350; clear BK351; clear HB; have BK350 := n0_; have BK351 := n1_; have HB := n2_; clear n0_ n1_ n2_
  refine start_ (n := 20) (S := fun w' => w'.cell? ⟨gb350, 0, none⟩ = some (.int .i64 a0_0) ∧ w'.cell? ⟨gb350, 1, none⟩ = some (.slice A0_1 l0_1.length c0_1) ∧ w'.cell? ⟨gb351, 0, none⟩ = some (.int .i64 a1_0) ∧ w'.cell? ⟨gb351, 1, none⟩ = some (.int .i64 a1_1)) (ds := []) (tb_ 20 0) s9_ rfl rfl ⟨(blk_cell BK350.out 0).trans rfl, (blk_cell BK350.out 1).trans rfl, (blk_cell BK351.out 0).trans rfl, (blk_cell BK351.out 1).trans rfl⟩ (fun hHeld => ?_); refine with_tabW impl_HoldsIn.tab1 impl_HoldsIn.bits1 (fun HT_ HW_ => ?_)
  generalize w21.drew = w22 at BK350 BK351 HB hHeld ⊢
  refine pl_ 1 6 (tb_ 20 2) ?_
  refine take_ (i := 0) (N := some 5) (v := ?_) (a' := ?_) (tb_ 20 3) rfl rfl (take_ofW HT_.out HW_.out s9_) (fun _ _ _ h => h) (Or.inl ⟨by rfl, ?_⟩) hHeld ?_ ?_
  rotate_left
  ·
   rintro w' ⟨s0, s1, s2, s3⟩
   go_simp; with_reducible rfl
  rotate_left
  ·
   exact s6_
  refine take_ (i := 2) (N := some 7) (v := ?_) (a' := ?_) (tb_ 20 7) rfl rfl (take_ofW HT_.out HW_.out s9_) (fun _ _ _ h => h) (Or.inl ⟨by rfl, ?_⟩) hHeld ?_ ?_
  rotate_left
  ·
   rintro w' ⟨s0, s1, s2, s3⟩
   go_simp; with_reducible rfl
  rotate_left
  ·
   exact s6_
  refine one_ (i := 3) (N := some 8) (tb_ 20 15) rfl rfl (one_of HT_.out s9_) (by decide) (fun K hK => ?_)
  refine goes_ Tryz.func44 s9_ rfl #[.agg #[.int .i64 a0_0, .slice A0_1 l0_1.length c0_1], .int .i64 a1_0] (by rfl) rfl rfl s0_ ?_
  with_reducible refine (impl_areAttributes.calls a0_0 _ _ l0_1 a1_0 false _ ?side1 ?side2 A3.out).mono ?_
  (case side1 => exact s2_)
  (case side2 => exact HC0_1.out)
  rintro e w23 ⟨rfl, hb⟩
  refine ⟨_, rfl, ?_⟩
  have n0_ := Aside0.mk (blk_below (g := gb350) (o := .cells #[.int .i64 a0_0, .slice A0_1 l0_1.length c0_1] 29 (0, 0)) q9_6 hb); have n1_ := Aside0.mk (blk_below (g := gb351) (o := .cells #[.int .i64 a1_0, .int .i64 a1_1] 41 (0, 0)) q9_7 hb); have n2_ := Aside0.mk (below_step q9_1 hb); clear BK350; clear BK351; clear HB; have BK350 := n0_; have BK351 := n1_; have HB := n2_; clear n0_ n1_ n2_
  (try clear hb)
  (try clear hb2)
  (try clear hk)
  (try clear hi)
  refine hK.out _ _ ⟨(blk_cell BK350.out 0).trans rfl, (blk_cell BK350.out 1).trans rfl, (blk_cell BK351.out 0).trans rfl, (blk_cell BK351.out 1).trans rfl⟩ (fun hHeld => ?_)
  clear hK K
  refine norm_ (a' := ?_) ?_ ?_
  rotate_left
  ·
   show Act.put _ (some 8) _ = _
   exact s6_
  refine pl_ 4 9 (tb_ 20 31) ?_; refine pr_ 5 10 (tb_ 20 63) ?_; refine pr_ 6 11 (tb_ 20 127) ?_; refine pr_ 7 12 (tb_ 20 255) ?_; refine pr_ 8 13 (tb_ 20 511) ?_; refine pl_ 9 14 (tb_ 20 1023) ?_; refine pl_ 10 15 (tb_ 20 2047) ?_; refine pr_ 11 16 (tb_ 20 4095) ?_; refine pr_ 12 17 (tb_ 20 8191) ?_; refine pr_ 13 18 (tb_ 20 16383) ?_; refine pr_ 14 19 (tb_ 20 32767) ?_; refine pr_ 15 20 (tb_ 20 65535) ?_; refine pr_ 16 21 (tb_ 20 131071) ?_; refine pr_ 17 22 (tb_ 20 262143) ?_; refine pl_ 18 23 (tb_ 20 524287) ?_; refine pl_ 19 4 (tb_ 20 1048575) ?_
  refine done_ (done_of HT_.out s9_) ?_
  try go_wp2
  go_ret
  exact ⟨s5_, q9_1⟩
end Go.Proofs.YtbflblmkdnhboaaGreatDoor.Pr
namespace Go.Proofs.YtbflblmkdnhboaaGreatDoor.Pr
open Go.RowKit Go.Proofs.YtbflblmkdnhboaaGreatDoorW.PrintWords Go.Proofs.YtbflblmkdnhboaaGreatDoorW.PrintLast Go.Proofs.YtbflblmkdnhboaaGreatDoorW.PrintMore
set_option linter.unusedVariables false
def impl_areAnyRules.f (l0 : List S41) : Option Bool := some (l0.all Pu.anyR)
theorem areAny1_val (r : S41) : impl_areAnyRules_1.f r.f0 r.f1 = some (!Pu.anyR r) := by
  unfold impl_areAnyRules_1.f
  rw [Pu.any_val, Option.bind_some]
  unfold Pu.anyR
  cases Pu.isAny r.f0 with
  | false => rfl
  | true => simp [Pu.any_val]
theorem impl_areAnyRules.calls (A0 : Option Addr) (c0 : Nat) (l0 : List S41) (r : Bool) (w : World) (hr0 : Kd.C k41 w A0 l0.length l0) (hc0 : l0.length ≤ c0) (h : impl_areAnyRules.f l0 = some r) :
    Calls Tryz.prog 59 #[.slice A0 l0.length c0] w fun e w' => e = .returned (.bool r) ∧ Below w.heap.size w w' := by
  obtain rfl := Option.some.inj h
  clear h
  have eg : ∀ args w, (callFunc 71 args).run Tryz.prog w = .ok (.enter 71 args) w := enters_of Tryz.func71 (by kernel_rfl) rfl
  have h0 := ContainsFunc_rule 71 #[] eg A0 c0 l0 (fun r => !Pu.anyR r) w hr0 (fun W x hb => (impl_areAnyRules_1.calls x.f0 x.f1 _ W (areAny1_val x)).mono fun e w' ⟨he, hb'⟩ => ⟨he, hb'⟩)
  have h1 : Aside0 ((!(l0.any fun r => !Pu.anyR r)) = l0.all Pu.anyR) := ⟨by rw [List.all_eq_not_any_not]⟩
  clear hr0
  go_enter Tryz.func59, Tryz.ntmps59
  go_wp2_with (go_at_call 25; refine h0.mono ?_; rintro e w' ⟨rfl, hb⟩)
  go_ret
  exact ⟨by rw [← h1.out]; rfl, hb⟩
end Go.Proofs.YtbflblmkdnhboaaGreatDoor.Pr
namespace Go.Proofs.YtbflblmkdnhboaaGreatDoor.Pr
open Go.RowKit Go.Proofs.YtbflblmkdnhboaaGreatDoorW.PrintWords Go.Proofs.YtbflblmkdnhboaaGreatDoorW.PrintLast Go.Proofs.YtbflblmkdnhboaaGreatDoorW.PrintMore
attribute [local go_sem] max2_int min2_int max_two min_two max_three min_three max_four min_four
set_option linter.unusedVariables false
set_option linter.unusedSimpArgs false
theorem bnd10_ {α β : Type} {o : Option α} {f : α → Option β} {r : β} (h : o.bind f = some r) : ∃ a, Aside0 (o = some a) ∧ f a = some r := by
 obtain ⟨a, h1, h2⟩ := Option.bind_eq_some_iff.mp h
 exact ⟨a, ⟨h1⟩, h2⟩
theorem q10_1 {P : Prop} (h : P := by repeat (first | (with_reducible first | exact HB.out | apply below_alloc | apply pw_below_drewN | apply below_drew1 | refine below_set ?_ GE263.out) | exact HB.out)) : P := h
mutual
def impl_OneStep.j0 : Nat → List (S41) → Int → Bool → Option (Int)
 | 0, _, _, _ => none
 | k + 1, x0, x1, x15 => if x15 = true then (some x1) else (impl_OneStep.l0 k x1 x1 x0 (x0.length : Int) 0)
def impl_OneStep.l0 : Nat → Int → Int → List (S41) → Int → Int → Option (Int)
 | 0, _, _, _, _, _ => none
 | k + 1, x1, x5, x18, x19, x20 => if x20 < x19 then (if 0 ≤ x20 then (if x20 < (x18.length : Int) then ((impl_inSet.f ((rd_T41 x18 x20).f0) x1).bind fun t264 => (if t264 = true then (impl_OneStep.l0 k x1 (Go.bits .or .i64 x5 ((rd_T41 x18 x20).f1)) x18 x19 (wrap64 (x20 + 1))) else (impl_OneStep.l0 k x1 x5 x18 x19 (wrap64 (x20 + 1))))) else (none)) else (none)) else (some x5)
end
def impl_OneStep.f (k : Nat) (l0 : List (S41)) (a1 : Int) : Option (Int) := (impl_isAnySet.f a1).bind fun t260 => (if t260 = true then ((impl_areAnyRules.f l0).bind fun t261 => (impl_OneStep.j0 k l0 a1 (!t261))) else (impl_OneStep.j0 k l0 a1 true))
set_option maxHeartbeats 8000000 in
set_option maxRecDepth 100000 in
theorem impl_OneStep.calls (k : Nat) (A0 : Option Addr) (c0 : Nat) (l0 : List (S41)) (a1 : Int) (r : Int) (w : World) (hr0 : Kd.C k41 w A0 l0.length l0) (hc0 : l0.length ≤ c0) (h : impl_OneStep.f k l0 a1 = some r) :
  Calls Tryz.prog 73 #[.slice A0 l0.length c0, .int .i64 a1] w fun e w' => e = .returned (.int .i64 r) ∧ Below w.heap.size w w' := by
 have hu41 := Tryz.underlying41; have HR0 := Aside0.mk hr0; have HC0 := Aside0.mk hc0; clear hr0 hc0; have HB := Aside0.mk (Below.refl w.heap.size w); have H := h; clear h; unfold impl_OneStep.f at H; have HC3 := Aside0.mk H; clear H
 go_enter Tryz.func73, Tryz.ntmps73
 go_upto_region 1 with (fail)
 go_cut [15] (fun v15 wc => ∃ (kq : Nat) (x15_2 : Bool), v15 = .bool x15_2 ∧ Aside0 (impl_OneStep.j0 kq l0 a1 x15_2 = some r) ∧ Aside0 (kq ≤ k) ∧ Aside0 (Below w.heap.size w wc))
 case first =>
  have H := HC3.out; clear HC3; obtain ⟨t260, A4, H⟩ := bnd10_ H
  by_cases c5 : t260 = true
  ·
   subst c5; rw [if_pos rfl] at H; obtain ⟨t261, A6, H⟩ := bnd10_ H; have H' := Aside0.mk H; clear H
   go_wp2_with (first | (refine gL_ 72 9 Tryz.func72 #[.int .i64 a1] ?_; (with_reducible refine (impl_isAnySet.calls a1 true _ A4.out).mono ?_); rintro e w' ⟨rfl, ⟨nd, rfl⟩⟩; refine ⟨_, rfl, ?_⟩) | (go_at_call 59; (with_reducible refine (impl_areAnyRules.calls _ _ l0 t261 _ ?side1 ?side2 A6.out).mono ?_); (case side1 => repeat (first | exact (Kd.C_below HR0.out s1_) | (with_reducible refine Kd.C_alloc ?_ _) | (with_reducible refine Kd.C_drewN ?_ _) | (with_reducible refine Kd.C_drew ?_))); (case side2 => exact HC0.out); rintro e w7 ⟨rfl, hb⟩; have n_ := Aside0.mk (below_step s1_ hb); clear HB; have HB := n_; clear n_; (try clear hb)))
   go_meet
   case rel => exact ⟨_, (!t261), s4_, H', ⟨(by first | omega | exact Nat.le_refl _)⟩, ⟨s1_⟩⟩
  ·
   replace c5 := Bool.eq_false_iff.mpr c5; subst c5
   rw [if_neg (show ¬ (false = true) by decide)] at H
   have H' := Aside0.mk H; clear H
   go_wp2_with (first | (refine gL_ 72 9 Tryz.func72 #[.int .i64 a1] ?_; (with_reducible refine (impl_isAnySet.calls a1 false _ A4.out).mono ?_); rintro e w' ⟨rfl, ⟨nd, rfl⟩⟩; refine ⟨_, rfl, ?_⟩))
   go_meet
   case rel => exact ⟨_, (true), s4_, H', ⟨(by first | omega | exact Nat.le_refl _)⟩, ⟨s1_⟩⟩
 case rest =>
  clear HC3
  try clear p2
  try clear c5
  try clear c7
  obtain ⟨kq, x15_2, rfl, HA, HJ2, HB⟩ := hcut
  cases kq with
  | zero => exact absurd HA.out (by simp [impl_OneStep.j0])
  | succ kj2 =>
   have H := HA.out; clear HA
   simp only [impl_OneStep.j0] at H
   by_cases c8 : x15_2 = true
   ·
    subst c8; rw [if_pos rfl] at H; obtain rfl := Option.some.inj H
    go_wp2
    go_ret
    exact ⟨(by first | rfl | (simp [errW_none, errW_some] <;> rfl) | (simp [*, errW_none, errW_some] <;> rfl)), s1_⟩
   ·
    replace c8 := Bool.eq_false_iff.mpr c8; subst c8
    rw [if_neg (show ¬ (false = true) by decide)] at H
    have H' := Aside0.mk H; clear H
    go_wp2
    go_loopg [5, 20] kj2 (fun kq v5 v20 w' => ∃ (x5_2 : Int) (x20_2 : Int), v5 = .int .i64 x5_2 ∧ v20 = .int .i64 x20_2 ∧ Aside0 (impl_OneStep.l0 kq a1 x5_2 l0 (l0.length : Int) x20_2 = some r) ∧ Aside0 (kq ≤ kj2) ∧ Aside0 (Below w.heap.size w w'))
    case atStart => exact ⟨(a1), (0), s4_, s4_, H', ⟨Nat.le_refl _⟩, ⟨s1_⟩⟩
    case round =>
     clear H'
     try clear p2
     try clear c5
     try clear c7
     try clear c8
     try clear p2
     obtain ⟨x5_2, x20_2, rfl, rfl, HA, HK2, HB⟩ := hrel
     cases gk with
     | zero => exact absurd HA.out (by simp [impl_OneStep.l0])
     | succ k2 =>
      have H := HA.out; clear HA
      simp only [impl_OneStep.l0] at H
      by_cases c9 : x20_2 < (l0.length : Int)
      ·
       rw [if_pos c9] at H; have c9b0 : decide (x20_2 < (l0.length : Int)) = true := decide_eq_true c9; clear c9
       by_cases c10 : 0 ≤ x20_2
       ·
        rw [if_pos c10] at H; have c10b0 : decide (0 ≤ x20_2) = true := decide_eq_true c10; clear c10
        by_cases c11 : x20_2 < (l0.length : Int)
        ·
         rw [if_pos c11] at H; have c11b0 : decide (x20_2 < (l0.length : Int)) = true := decide_eq_true c11; clear c11; obtain ⟨t264, A12, H⟩ := bnd10_ H
         by_cases c13 : t264 = true
         ·
          subst c13; rw [if_pos rfl] at H; have H' := Aside0.mk H; clear H; have p262 : 0 ≤ (x20_2 : Int) := of_decide_eq_true s3_; have q262 : x20_2 < (l0.length : Int) := of_decide_eq_true s3_; obtain ⟨ad262, e262, hx262_0, hx262_1⟩ := at_T41 HR0.out x20_2 p262 q262
          cases e262
          replace hx262_0 := (HB.out.cell (World.block_lt_of_cell? w _ hx262_0)).trans hx262_0; replace hx262_1 := (HB.out.cell (World.block_lt_of_cell? w _ hx262_1)).trans hx262_1; replace p262 := eq_true p262; replace q262 := eq_true q262
          go_wp2_with (first | ((with_reducible refine gate_dst (N := 7) rfl ?_); refine box_event ?hg (N := 7) ?hd (cs := #[.int .i64 0, .int .i64 0]) (t := 41) ?hr ?_; (case hd => rfl); (case hg => rfl); (case hr => first | (go_simp; done) | (go_simp; rfl)); intro gb263 hg w14 hbox hb; have n_ := ac_ (below_step s1_ hb) <| ac_ (hbox) <| ac_ ((by rw [hg]; exact (below_size s1_) : w.heap.size ≤ gb263)) <| Aside0.mk ((by rw [hg]; exact (below_size s1_) : w.heap.size ≤ gb263)); clear HB; obtain ⟨HB, BK263, GW263, GE263⟩ := n_; clear hb hbox hg; have hcz15_0 : w14.cell? ⟨gb263, 0, none⟩ = some (.int .i64 0) := (blk_cell BK263.out 0).trans rfl; have hcz15_1 : w14.cell? ⟨gb263, 1, none⟩ = some (.int .i64 0) := (blk_cell BK263.out 1).trans rfl; have hfz15_0 := blk_frozen BK263.out 0; have hfz15_1 := blk_frozen BK263.out 1) | (refine gL_ 45 27 Tryz.func45 #[.int .i64 ((rd_T41 l0 x20_2).f0), .int .i64 a1] ?_; (with_reducible refine (impl_inSet.calls ((rd_T41 l0 x20_2).f0) a1 true _ A12.out).mono ?_); rintro e w' ⟨rfl, ⟨nd, rfl⟩⟩; refine ⟨_, rfl, ?_⟩))
          go_roundg k2
          case measure => have := HJ2.out; have := HK2.out; omega
          case rel => exact ⟨(Go.bits .or .i64 x5_2 ((rd_T41 l0 x20_2).f1)), (wrap64 (x20_2 + 1)), s4_, s4_, H', ⟨by have := HJ2.out; have := HK2.out; omega⟩, ⟨q10_1⟩⟩
         ·
          replace c13 := Bool.eq_false_iff.mpr c13; subst c13
          rw [if_neg (show ¬ (false = true) by decide)] at H
          have H' := Aside0.mk H; clear H; have p262 : 0 ≤ (x20_2 : Int) := of_decide_eq_true s3_; have q262 : x20_2 < (l0.length : Int) := of_decide_eq_true s3_; obtain ⟨ad262, e262, hx262_0, hx262_1⟩ := at_T41 HR0.out x20_2 p262 q262
          cases e262
          replace hx262_0 := (HB.out.cell (World.block_lt_of_cell? w _ hx262_0)).trans hx262_0; replace hx262_1 := (HB.out.cell (World.block_lt_of_cell? w _ hx262_1)).trans hx262_1; replace p262 := eq_true p262; replace q262 := eq_true q262
          go_wp2_with (first | ((with_reducible refine gate_dst (N := 7) rfl ?_); refine box_event ?hg (N := 7) ?hd (cs := #[.int .i64 0, .int .i64 0]) (t := 41) ?hr ?_; (case hd => rfl); (case hg => rfl); (case hr => first | (go_simp; done) | (go_simp; rfl)); intro gb263 hg w16 hbox hb; have n_ := ac_ (below_step s1_ hb) <| ac_ (hbox) <| ac_ ((by rw [hg]; exact (below_size s1_) : w.heap.size ≤ gb263)) <| Aside0.mk ((by rw [hg]; exact (below_size s1_) : w.heap.size ≤ gb263)); clear HB; obtain ⟨HB, BK263, GW263, GE263⟩ := n_; clear hb hbox hg; have hcz17_0 : w16.cell? ⟨gb263, 0, none⟩ = some (.int .i64 0) := (blk_cell BK263.out 0).trans rfl; have hcz17_1 : w16.cell? ⟨gb263, 1, none⟩ = some (.int .i64 0) := (blk_cell BK263.out 1).trans rfl; have hfz17_0 := blk_frozen BK263.out 0; have hfz17_1 := blk_frozen BK263.out 1) | (refine gL_ 45 27 Tryz.func45 #[.int .i64 ((rd_T41 l0 x20_2).f0), .int .i64 a1] ?_; (with_reducible refine (impl_inSet.calls ((rd_T41 l0 x20_2).f0) a1 false _ A12.out).mono ?_); rintro e w' ⟨rfl, ⟨nd, rfl⟩⟩; refine ⟨_, rfl, ?_⟩))
          go_roundg k2
          case measure => have := HJ2.out; have := HK2.out; omega
          case rel => exact ⟨(x5_2), (wrap64 (x20_2 + 1)), s4_, s4_, H', ⟨by have := HJ2.out; have := HK2.out; omega⟩, ⟨q10_1⟩⟩
        ·
         rw [if_neg c11] at H
         exact absurd H (by simp)
       ·
        rw [if_neg c10] at H
        exact absurd H (by simp)
      ·
       rw [if_neg c9] at H; have c9b0 : decide (x20_2 < (l0.length : Int)) = false := decide_eq_false c9; clear c9; obtain rfl := Option.some.inj H
       go_wp2
       go_ret
       exact ⟨(by first | rfl | (simp [errW_none, errW_some] <;> rfl) | (simp [*, errW_none, errW_some] <;> rfl)), s1_⟩
mutual
def impl_ClosedBy.j0 : Nat → List (S41) → Int → Bool → Option (Int)
 | 0, _, _, _ => none
 | k + 1, x0, x1, x13 => if x13 = true then (some x1) else ((impl_OneStep.f k x0 x1).bind fun t267 => (impl_ClosedBy.l0 k x0 x1 t267))
def impl_ClosedBy.l0 : Nat → List (S41) → Int → Int → Option (Int)
 | 0, _, _, _ => none
 | k + 1, x0, x1, x5 => if x5 = x1 then (some x1) else ((impl_OneStep.f k x0 x5).bind fun t268 => (impl_ClosedBy.l0 k x0 x5 t268))
end
def impl_ClosedBy.f (k : Nat) (l0 : List (S41)) (a1 : Int) : Option (Int) := (impl_isAnySet.f a1).bind fun t265 => (if t265 = true then ((impl_areAnyRules.f l0).bind fun t266 => (impl_ClosedBy.j0 k l0 a1 (!t266))) else (impl_ClosedBy.j0 k l0 a1 true))
set_option maxHeartbeats 8000000 in
set_option maxRecDepth 100000 in
theorem impl_ClosedBy.calls (k : Nat) (A0 : Option Addr) (c0 : Nat) (l0 : List (S41)) (a1 : Int) (r : Int) (w : World) (hr0 : Kd.C k41 w A0 l0.length l0) (hc0 : l0.length ≤ c0) (h : impl_ClosedBy.f k l0 a1 = some r) :
  Calls Tryz.prog 60 #[.slice A0 l0.length c0, .int .i64 a1] w fun e w' => e = .returned (.int .i64 r) ∧ Below w.heap.size w w' := by
 have HR0 := Aside0.mk hr0; have HC0 := Aside0.mk hc0; clear hr0 hc0; have HB := Aside0.mk (Below.refl w.heap.size w); have H := h; clear h; unfold impl_ClosedBy.f at H; have HC3 := Aside0.mk H; clear H
 go_enter Tryz.func60, Tryz.ntmps60
 go_upto_region 1 with (fail)
 go_cut [13] (fun v13 wc => ∃ (kq : Nat) (x13_2 : Bool), v13 = .bool x13_2 ∧ Aside0 (impl_ClosedBy.j0 kq l0 a1 x13_2 = some r) ∧ Aside0 (kq ≤ k) ∧ Aside0 (Below w.heap.size w wc))
 case first =>
  have H := HC3.out; clear HC3; obtain ⟨t265, A4, H⟩ := bnd10_ H
  by_cases c5 : t265 = true
  ·
   subst c5; rw [if_pos rfl] at H; obtain ⟨t266, A6, H⟩ := bnd10_ H; have H' := Aside0.mk H; clear H
   go_wp2_with (first | (refine gL_ 72 7 Tryz.func72 #[.int .i64 a1] ?_; (with_reducible refine (impl_isAnySet.calls a1 true _ A4.out).mono ?_); rintro e w' ⟨rfl, ⟨nd, rfl⟩⟩; refine ⟨_, rfl, ?_⟩) | (go_at_call 59; (with_reducible refine (impl_areAnyRules.calls _ _ l0 t266 _ ?side1 ?side2 A6.out).mono ?_); (case side1 => repeat (first | exact (Kd.C_below HR0.out s1_) | (with_reducible refine Kd.C_alloc ?_ _) | (with_reducible refine Kd.C_drewN ?_ _) | (with_reducible refine Kd.C_drew ?_))); (case side2 => exact HC0.out); rintro e w7 ⟨rfl, hb⟩; have n_ := Aside0.mk (below_step s1_ hb); clear HB; have HB := n_; clear n_; (try clear hb)))
   go_meet
   case rel => exact ⟨_, (!t266), s4_, H', ⟨(by first | omega | exact Nat.le_refl _)⟩, ⟨s1_⟩⟩
  ·
   replace c5 := Bool.eq_false_iff.mpr c5; subst c5
   rw [if_neg (show ¬ (false = true) by decide)] at H
   have H' := Aside0.mk H; clear H
   go_wp2_with (first | (refine gL_ 72 7 Tryz.func72 #[.int .i64 a1] ?_; (with_reducible refine (impl_isAnySet.calls a1 false _ A4.out).mono ?_); rintro e w' ⟨rfl, ⟨nd, rfl⟩⟩; refine ⟨_, rfl, ?_⟩))
   go_meet
   case rel => exact ⟨_, (true), s4_, H', ⟨(by first | omega | exact Nat.le_refl _)⟩, ⟨s1_⟩⟩
 case rest =>
  clear HC3
  try clear p2
  try clear c5
  try clear c6
  try clear c7
  obtain ⟨kq, x13_2, rfl, HA, HJ2, HB⟩ := hcut
  cases kq with
  | zero => exact absurd HA.out (by simp [impl_ClosedBy.j0])
  | succ kj2 =>
   have H := HA.out; clear HA
   simp only [impl_ClosedBy.j0] at H
   by_cases c8 : x13_2 = true
   ·
    subst c8; rw [if_pos rfl] at H; obtain rfl := Option.some.inj H
    go_wp2
    go_ret
    exact ⟨(by first | rfl | (simp [errW_none, errW_some] <;> rfl) | (simp [*, errW_none, errW_some] <;> rfl)), s1_⟩
   ·
    replace c8 := Bool.eq_false_iff.mpr c8; subst c8
    rw [if_neg (show ¬ (false = true) by decide)] at H
    obtain ⟨t267, A9, H⟩ := bnd10_ H; have H' := Aside0.mk H; clear H
    go_wp2_with (first | (refine gL_ 73 17 Tryz.func73 #[.slice A0 l0.length c0, .int .i64 a1] ?_; (with_reducible refine (impl_OneStep.calls kj2 _ _ l0 a1 t267 _ ?side1 ?side2 A9.out).mono ?_); (case side1 => exact s11_); (case side2 => exact HC0.out); rintro e w10 ⟨rfl, hb⟩; refine ⟨_, rfl, ?_⟩; have n_ := Aside0.mk (below_step s1_ hb); clear HB; have HB := n_; clear n_; (try clear hb)))
    go_loopg [1, 5] kj2 (fun kq v1 v5 w' => ∃ (x1_2 : Int) (x5_2 : Int), v1 = .int .i64 x1_2 ∧ v5 = .int .i64 x5_2 ∧ Aside0 (impl_ClosedBy.l0 kq l0 x1_2 x5_2 = some r) ∧ Aside0 (kq ≤ kj2) ∧ Aside0 (Below w.heap.size w w'))
    case atStart => exact ⟨(a1), (t267), s4_, s4_, H', ⟨Nat.le_refl _⟩, ⟨s1_⟩⟩
    case round =>
     clear H'
     try clear p2
     try clear c5
     try clear c6
     try clear c7
     try clear c8
     try clear p2
     obtain ⟨x1_2, x5_2, rfl, rfl, HA, HK2, HB⟩ := hrel
     cases gk with
     | zero => exact absurd HA.out (by simp [impl_ClosedBy.l0])
     | succ k2 =>
      have H := HA.out; clear HA
      simp only [impl_ClosedBy.l0] at H
      by_cases c11 : x5_2 = x1_2
      ·
       rw [if_pos c11] at H; have c11b0 : (x5_2 == x1_2) = true := beq_iff_eq.mpr c11; have c11b1 : (x5_2 != x1_2) = false := bne_eq_false_iff_eq.mpr c11; clear c11; obtain rfl := Option.some.inj H
       go_wp2
       go_ret
       exact ⟨(by first | rfl | (simp [errW_none, errW_some] <;> rfl) | (simp [*, errW_none, errW_some] <;> rfl)), s1_⟩
      ·
       rw [if_neg c11] at H; have c11b0 : (x5_2 == x1_2) = false := beq_eq_false_iff_ne.mpr c11; have c11b1 : (x5_2 != x1_2) = true := bne_iff_ne.mpr c11; obtain ⟨t268, A12, H⟩ := bnd10_ H; have H' := Aside0.mk H; clear H
       go_wp2_with (first | (refine gL_ 73 23 Tryz.func73 #[.slice A0 l0.length c0, .int .i64 x5_2] ?_; (with_reducible refine (impl_OneStep.calls k2 _ _ l0 x5_2 t268 _ ?side1 ?side2 A12.out).mono ?_); (case side1 => exact s11_); (case side2 => exact HC0.out); rintro e w13 ⟨rfl, hb⟩; refine ⟨_, rfl, ?_⟩; have n_ := Aside0.mk (below_step s1_ hb); clear HB; have HB := n_; clear n_; (try clear hb)))
       go_roundg k2
       case measure => have := HJ2.out; have := HK2.out; omega
       case rel => exact ⟨(x5_2), (t268), s4_, s4_, H', ⟨by have := HJ2.out; have := HK2.out; omega⟩, ⟨s1_⟩⟩
theorem q10_11 {P : Prop} (h : P := by repeat (first | exact (Kd.R_reads' HO273.out).2.2 | (with_reducible refine Kd.C_alloc ?_ _) | (with_reducible refine Kd.C_drewN ?_ _) | (with_reducible refine Kd.C_drew ?_))) : P := h
theorem q10_12 {P : Prop} (h : P := by repeat (first | (with_reducible first | exact HB.out | apply below_alloc | apply pw_below_drewN | apply below_drew1 | refine below_set ?_ GE269.out) | exact HB.out)) : P := h
theorem q10_15 {P : Prop} (h : P := by (with_reducible repeat (first | refine blk_drewN ?_ _ | refine blk_drew ?_ | refine blk_alloc ?_ _)); exact BK269.out) : P := h
theorem q10_16 {P : Prop} (h : P := by (with_reducible repeat (first | apply Kd.R_alloc | apply Kd.R_drewN | apply Kd.R_drew)); exact HO273.out) : P := h
def impl_Follows.f (k : Nat) (l0 : List (S41)) (a1_0 : Int) (a1_1 : Int) : Option (Bool) := (impl_areAnyRules.f l0).bind fun t270 => (if t270 = true then ((impl_areAnyRules.f (([(⟨a1_0, a1_1⟩ : S41)] : List (S41)))).bind fun t274 => (if t274 = true then ((impl_ClosedBy.f k l0 a1_0).bind fun t275 => ((impl_inSet.f a1_1 t275).bind fun t276 => (some t276))) else (some false))) else (some false))
def impl_Follows.T1 : Bool × List (List Nat × List Nat) := (true, [([], []), ([0], [0]), ([1, 1], [1]), ([2], [2]), ([3, 2], [2, 3]), ([4, 2, 2], [2, 4]), ([2, 5], [2, 5]), ([6, 5], [6]), ([7], [7]), ([8, 7], [7, 8]), ([7], [7]), ([7], [7]), ([11, 7], [7, 11]), ([10, 12, 7, 7], [7, 10, 12]), ([9, 13, 13, 7], [7, 9, 13]), ([7, 14], [7, 14]), ([15, 14, 0, 1, 2, 3, 4, 5, 6, 7, 8, 9, 10, 11, 12, 13, 14, 15], [15])])
def impl_Follows.B1 : List Nat := [0, 1, 3, 7, 15, 31, 63, 127, 255, 511, 255, 255, 2303, 7423, 16383, 32767, 65535]
theorem impl_Follows.tab1 : rtab .any (opsOf Tryz.f48 1) = impl_Follows.T1 := s9_
theorem impl_Follows.bits1 : waitsOk impl_Follows.T1.2 impl_Follows.B1 = true := s9_
set_option maxHeartbeats 8000000 in
set_option maxRecDepth 100000 in
theorem impl_Follows.calls (k : Nat) (A0 : Option Addr) (c0 : Nat) (l0 : List (S41)) (a1_0 : Int) (a1_1 : Int) (r : Bool) (w : World) (hr0 : Kd.C k41 w A0 l0.length l0) (hc0 : l0.length ≤ c0) (h : impl_Follows.f k l0 a1_0 a1_1 = some r) :
  Calls Tryz.prog 48 #[.slice A0 l0.length c0, .agg #[.int .i64 a1_0, .int .i64 a1_1]] w fun e w' => e = .returned (.bool r) ∧ Below w.heap.size w w' := by
 have hu41 := Tryz.underlying41; have HR0 := Aside0.mk hr0; have HC0 := Aside0.mk hc0; clear hr0 hc0; have HB := Aside0.mk (Below.refl w.heap.size w); have H := h; clear h; unfold impl_Follows.f at H; obtain ⟨t270, A3, H⟩ := bnd10_ H
 by_cases c4 : t270 = true
 ·
  subst c4; rw [if_pos rfl] at H; obtain ⟨y271, hy271⟩ : ∃ y_ : List (S41), y_ = (([(⟨a1_0, a1_1⟩ : S41)] : List (S41))) := ⟨_, rfl⟩
  replace H : ((impl_areAnyRules.f y271).bind fun t274 => (if t274 = true then ((impl_ClosedBy.f k l0 a1_0).bind fun t275 => ((impl_inSet.f a1_1 t275).bind fun t276 => (some t276))) else (some false))) = some r := by first | (rw [hy271]; with_reducible exact H) | (have H2_ := (Option.bind_some _ _).symm.trans H; rw [hy271]; with_reducible exact H2_) | (have H2_ := (Option.bind_some _ _).symm.trans H; with_reducible exact H2_) | with_reducible exact H | (rw [hy271]; exact H) | exact H
  have Ny271 := Aside0.mk hy271; clear hy271; obtain ⟨t274, A5, H⟩ := bnd10_ H
  by_cases c6 : t274 = true
  ·
   subst c6; rw [if_pos rfl] at H; obtain ⟨t275, A7, H⟩ := bnd10_ H; obtain ⟨t276, A8, H⟩ := bnd10_ H; obtain rfl := Option.some.inj H
   go_enter Tryz.func48, Tryz.ntmps48
   try go_wp2_with (first | ((with_reducible refine gate_dst (N := 3) rfl ?_); (try (refine gate_guard (by rfl) ?_; dsimp only)); refine box_event ?hg (N := 3) ?hd (cs := #[.int .i64 a1_0, .int .i64 a1_1]) (t := 41) ?hr ?_; (case hd => rfl); (case hg => rfl); (case hr => first | (go_simp; done) | (go_simp; rfl)); intro gb269 hg w9 hbox hb; have n_ := ac_ (below_step s1_ hb) <| ac_ (hbox) <| ac_ ((by rw [hg]; exact (below_size s1_) : w.heap.size ≤ gb269)) <| Aside0.mk ((by rw [hg]; exact (below_size s1_) : w.heap.size ≤ gb269)); clear HB; obtain ⟨HB, BK269, GW269, GE269⟩ := n_; clear hb hbox hg))
   have n0_ := Aside0.mk (blk_drew BK269.out); have n1_ := Aside0.mk (below_drew1 HB.out); clear BK269; clear HB; have BK269 := n0_; have HB := n1_; clear n0_ n1_
   refine start_ (n := 17) (S := fun w' => w'.cell? ⟨gb269, 0, none⟩ = some (.int .i64 a1_0) ∧ w'.cell? ⟨gb269, 1, none⟩ = some (.int .i64 a1_1)) (ds := []) (tb_ 17 0) s9_ rfl rfl ⟨(blk_cell BK269.out 0).trans rfl, (blk_cell BK269.out 1).trans rfl⟩ (fun hHeld => ?_); refine with_tabW impl_Follows.tab1 impl_Follows.bits1 (fun HT_ HW_ => ?_)
   generalize w9.drew = w10 at BK269 HB hHeld ⊢
   refine pl_ 0 5 (tb_ 17 1) ?_
   refine one_ (i := 1) (N := some 6) (tb_ 17 3) rfl rfl (one_of HT_.out s9_) (by decide) (fun K hK => ?_)
   refine goes_ Tryz.func59 s9_ rfl #[.slice A0 l0.length c0] (by rfl) rfl rfl s0_ ?_
   with_reducible refine (impl_areAnyRules.calls _ _ l0 true _ ?side1 ?side2 A3.out).mono ?_
   (case side1 => exact s11_)
   (case side2 => exact HC0.out)
   rintro e w11 ⟨rfl, hb⟩
   refine ⟨_, rfl, ?_⟩
   have n0_ := Aside0.mk (blk_below (g := gb269) (o := .cells #[.int .i64 a1_0, .int .i64 a1_1] 41 (0, 0)) q10_15 hb); have n1_ := Aside0.mk (below_step q10_12 hb); clear BK269; clear HB; have BK269 := n0_; have HB := n1_; clear n0_ n1_
   (try clear hb)
   (try clear hb2)
   (try clear hk)
   (try clear hi)
   refine hK.out _ _ ⟨(blk_cell BK269.out 0).trans rfl, (blk_cell BK269.out 1).trans rfl⟩ (fun hHeld => ?_)
   clear hK K
   refine norm_ (a' := ?_) ?_ ?_
   rotate_left
   ·
    show Act.put _ (some 6) _ = _
    exact s6_
   refine pl_ 2 7 (tb_ 17 7) ?_
   refine take_ (i := 3) (N := some 8) (v := ?_) (a' := ?_) (tb_ 17 15) rfl rfl (take_ofW HT_.out HW_.out s9_) (fun _ _ _ h => h) (Or.inl ⟨by rfl, ?_⟩) hHeld ?_ ?_
   rotate_left
   ·
    rintro w' ⟨s0, s1⟩
    go_simp; with_reducible rfl
   rotate_left
   ·
    exact s6_
   refine one_ (i := 4) (N := some 9) (tb_ 17 31) rfl rfl (one_of HT_.out s9_) (by decide) (fun K hK => ?_)
   refine Kd.R_lit_step k41 _ 41 ?hg (N := 9) ?hd (xs := ([(⟨a1_0, a1_1⟩ : S41)] : List (S41))) (inner := [.int .i64 a1_0, .int .i64 a1_1]) (ok := fun _ => True) (okp := fun _ => True) ?hr ?hp (fun _ hk => hk) trivial (Below.refl _ _) (Nat.le_refl _) (by simp) ?_; (case hd => rfl); (case hg => rfl); (case hr => first | (go_simp; done) | (go_simp; rfl)); (case hp => exact (Reps.c2 (show Kd.M k41 _ _ _ (⟨a1_0, a1_1⟩ : S41) [.int .i64 a1_0, .int .i64 a1_1] from (k41_mkM _ _ _ (⟨a1_0, a1_1⟩ : S41) )) (Reps.none _ _)))
   intro v272 w12 ho13 hb hg_ hnew_
   clear hg_ hnew_
   (first | rw [← Ny271.out] at ho13 | (simp only [Int.reduceToNat] at ho13; rw [← Ny271.out] at ho13))
   have n0_ := Aside0.mk (Kd.R_lower (Kd.R_newB ho13 (g := gb269) (o := .cells #[.int .i64 a1_0, .int .i64 a1_1] 41 (0, 0)) q10_15) (below_size q10_12)); have n1_ := Aside0.mk (blk_below (g := gb269) (o := .cells #[.int .i64 a1_0, .int .i64 a1_1] 41 (0, 0)) q10_15 hb); have n2_ := Aside0.mk (below_step q10_12 hb); clear BK269; clear HB; have HO273 := n0_; have BK269 := n1_; have HB := n2_; clear n0_ n1_ n2_; clear hb ho13; obtain ⟨Ao14, co14, eo14⟩ := Kd.R_slice HO273.out
   (first | subst eo14 | (injection eo14 with f1_ f2_ f3_; have f4_ := f1_.symm; have f5_ := f3_.symm; clear f1_ f2_ f3_; subst f4_; subst f5_))
   refine hK.out _ _ ⟨(blk_cell BK269.out 0).trans rfl, (blk_cell BK269.out 1).trans rfl⟩ (fun hHeld => ?_)
   clear hK K
   refine norm_ (a' := ?_) ?_ ?_
   rotate_left
   ·
    show Act.put _ (some 9) _ = _
    exact s6_
   refine one_ (i := 5) (N := some 10) (tb_ 17 63) rfl rfl (one_of HT_.out s9_) (by decide) (fun K hK => ?_)
   refine goes_ Tryz.func59 s9_ rfl #[.slice Ao14 y271.length co14] (by rfl) rfl rfl s0_ ?_
   with_reducible refine (impl_areAnyRules.calls _ _ y271 true _ ?side1 ?side2 A5.out).mono ?_
   (case side1 => exact q10_11)
   (case side2 => exact (Kd.R_reads' HO273.out).2.1)
   rintro e w15 ⟨rfl, hb⟩
   refine ⟨_, rfl, ?_⟩
   have n0_ := Aside0.mk (Kd.R_below q10_16 hb); have n1_ := Aside0.mk (blk_below (g := gb269) (o := .cells #[.int .i64 a1_0, .int .i64 a1_1] 41 (0, 0)) q10_15 hb); have n2_ := Aside0.mk (below_step q10_12 hb); clear HO273; clear BK269; clear HB; have HO273 := n0_; have BK269 := n1_; have HB := n2_; clear n0_ n1_ n2_
   (try clear hb)
   (try clear hb2)
   (try clear hk)
   (try clear hi)
   refine hK.out _ _ ⟨(blk_cell BK269.out 0).trans rfl, (blk_cell BK269.out 1).trans rfl⟩ (fun hHeld => ?_)
   clear hK K
   refine norm_ (a' := ?_) ?_ ?_
   rotate_left
   ·
    show Act.put _ (some 10) _ = _
    exact s6_
   refine pl_ 6 11 (tb_ 17 127) ?_; refine pl_ 7 12 (tb_ 17 255) ?_; refine pl_ 8 13 (tb_ 17 511) ?_; refine pl_ 10 15 (tb_ 17 1535) ?_; refine pl_ 11 16 (tb_ 17 3583) ?_
   refine take_ (i := 9) (N := some 14) (v := ?_) (a' := ?_) (tb_ 17 4095) rfl rfl (take_ofW HT_.out HW_.out s9_) (fun _ _ _ h => h) (Or.inl ⟨by rfl, ?_⟩) hHeld ?_ ?_
   rotate_left
   ·
    rintro w' ⟨s0, s1⟩
    go_simp; with_reducible rfl
   rotate_left
   ·
    exact s6_
   refine take_ (i := 12) (N := some 17) (v := ?_) (a' := ?_) (tb_ 17 8191) rfl rfl (take_ofW HT_.out HW_.out s9_) (fun _ _ _ h => h) (Or.inl ⟨by rfl, ?_⟩) hHeld ?_ ?_
   rotate_left
   ·
    rintro w' ⟨s0, s1⟩
    go_simp; with_reducible rfl
   rotate_left
   ·
    exact s6_
   refine one_ (i := 13) (N := some 18) (tb_ 17 16383) rfl rfl (one_of HT_.out s9_) (by decide) (fun K hK => ?_)
   refine goes_ Tryz.func60 s9_ rfl #[.slice A0 l0.length c0, .int .i64 a1_0] (by rfl) rfl rfl s0_ ?_
   with_reducible refine (impl_ClosedBy.calls k _ _ l0 a1_0 t275 _ ?side1 ?side2 A7.out).mono ?_
   (case side1 => exact s11_)
   (case side2 => exact HC0.out)
   rintro e w16 ⟨rfl, hb⟩
   refine ⟨_, rfl, ?_⟩
   have n0_ := Aside0.mk (Kd.R_below q10_16 hb); have n1_ := Aside0.mk (blk_below (g := gb269) (o := .cells #[.int .i64 a1_0, .int .i64 a1_1] 41 (0, 0)) q10_15 hb); have n2_ := Aside0.mk (below_step q10_12 hb); clear HO273; clear BK269; clear HB; have HO273 := n0_; have BK269 := n1_; have HB := n2_; clear n0_ n1_ n2_
   (try clear hb)
   (try clear hb2)
   (try clear hk)
   (try clear hi)
   refine hK.out _ _ ⟨(blk_cell BK269.out 0).trans rfl, (blk_cell BK269.out 1).trans rfl⟩ (fun hHeld => ?_)
   clear hK K
   refine norm_ (a' := ?_) ?_ ?_
   rotate_left
   ·
    show Act.put _ (some 18) _ = _
    exact s6_
   refine one_ (i := 14) (N := some 19) (tb_ 17 32767) rfl rfl (one_of HT_.out s9_) (by decide) (fun K hK => ?_)
   refine goes_ Tryz.func45 s9_ rfl #[.int .i64 a1_1, .int .i64 t275] (by rfl) rfl rfl s0_ ?_
   with_reducible refine (impl_inSet.calls a1_1 t275 t276 _ A8.out).mono ?_
   rintro e w' ⟨rfl, ⟨nd, rfl⟩⟩
   refine ⟨_, rfl, ?_⟩
   refine hK.out _ _ ⟨(blk_cell BK269.out 0).trans rfl, (blk_cell BK269.out 1).trans rfl⟩ (fun hHeld => ?_)
   clear hK K
   refine norm_ (a' := ?_) ?_ ?_
   rotate_left
   ·
    show Act.put _ (some 19) _ = _
    exact s6_
   refine pl_ 15 20 (tb_ 17 65535) ?_; refine pl_ 16 4 (tb_ 17 131071) ?_
   refine done_ (done_of HT_.out s9_) ?_
   try go_wp2
   go_ret
   exact ⟨s5_, q10_12⟩
  ·
   replace c6 := Bool.eq_false_iff.mpr c6; subst c6
   rw [if_neg (show ¬ (false = true) by decide)] at H
   obtain rfl := Option.some.inj H
   go_enter Tryz.func48, Tryz.ntmps48
   try go_wp2_with (first | ((with_reducible refine gate_dst (N := 3) rfl ?_); (try (refine gate_guard (by rfl) ?_; dsimp only)); refine box_event ?hg (N := 3) ?hd (cs := #[.int .i64 a1_0, .int .i64 a1_1]) (t := 41) ?hr ?_; (case hd => rfl); (case hg => rfl); (case hr => first | (go_simp; done) | (go_simp; rfl)); intro gb269 hg w17 hbox hb; have n_ := ac_ (below_step s1_ hb) <| ac_ (hbox) <| ac_ ((by rw [hg]; exact (below_size s1_) : w.heap.size ≤ gb269)) <| Aside0.mk ((by rw [hg]; exact (below_size s1_) : w.heap.size ≤ gb269)); clear HB; obtain ⟨HB, BK269, GW269, GE269⟩ := n_; clear hb hbox hg))
   have n0_ := Aside0.mk (blk_drew BK269.out); have n1_ := Aside0.mk (below_drew1 HB.out); clear BK269; clear HB; have BK269 := n0_; have HB := n1_; clear n0_ n1_
   refine start_ (n := 17) (S := fun w' => w'.cell? ⟨gb269, 0, none⟩ = some (.int .i64 a1_0) ∧ w'.cell? ⟨gb269, 1, none⟩ = some (.int .i64 a1_1)) (ds := []) (tb_ 17 0) s9_ rfl rfl ⟨(blk_cell BK269.out 0).trans rfl, (blk_cell BK269.out 1).trans rfl⟩ (fun hHeld => ?_); refine with_tabW impl_Follows.tab1 impl_Follows.bits1 (fun HT_ HW_ => ?_)
   generalize w17.drew = w18 at BK269 HB hHeld ⊢
   refine pl_ 0 5 (tb_ 17 1) ?_
   refine one_ (i := 1) (N := some 6) (tb_ 17 3) rfl rfl (one_of HT_.out s9_) (by decide) (fun K hK => ?_)
   refine goes_ Tryz.func59 s9_ rfl #[.slice A0 l0.length c0] (by rfl) rfl rfl s0_ ?_
   with_reducible refine (impl_areAnyRules.calls _ _ l0 true _ ?side1 ?side2 A3.out).mono ?_
   (case side1 => exact s11_)
   (case side2 => exact HC0.out)
   rintro e w19 ⟨rfl, hb⟩
   refine ⟨_, rfl, ?_⟩
   have n0_ := Aside0.mk (blk_below (g := gb269) (o := .cells #[.int .i64 a1_0, .int .i64 a1_1] 41 (0, 0)) q10_15 hb); have n1_ := Aside0.mk (below_step q10_12 hb); clear BK269; clear HB; have BK269 := n0_; have HB := n1_; clear n0_ n1_
   (try clear hb)
   (try clear hb2)
   (try clear hk)
   (try clear hi)
   refine hK.out _ _ ⟨(blk_cell BK269.out 0).trans rfl, (blk_cell BK269.out 1).trans rfl⟩ (fun hHeld => ?_)
   clear hK K
   refine norm_ (a' := ?_) ?_ ?_
   rotate_left
   ·
    show Act.put _ (some 6) _ = _
    exact s6_
   refine pl_ 2 7 (tb_ 17 7) ?_
   refine take_ (i := 3) (N := some 8) (v := ?_) (a' := ?_) (tb_ 17 15) rfl rfl (take_ofW HT_.out HW_.out s9_) (fun _ _ _ h => h) (Or.inl ⟨by rfl, ?_⟩) hHeld ?_ ?_
   rotate_left
   ·
    rintro w' ⟨s0, s1⟩
    go_simp; with_reducible rfl
   rotate_left
   ·
    exact s6_
   refine one_ (i := 4) (N := some 9) (tb_ 17 31) rfl rfl (one_of HT_.out s9_) (by decide) (fun K hK => ?_)
   refine Kd.R_lit_step k41 _ 41 ?hg (N := 9) ?hd (xs := ([(⟨a1_0, a1_1⟩ : S41)] : List (S41))) (inner := [.int .i64 a1_0, .int .i64 a1_1]) (ok := fun _ => True) (okp := fun _ => True) ?hr ?hp (fun _ hk => hk) trivial (Below.refl _ _) (Nat.le_refl _) (by simp) ?_; (case hd => rfl); (case hg => rfl); (case hr => first | (go_simp; done) | (go_simp; rfl)); (case hp => exact (Reps.c2 (show Kd.M k41 _ _ _ (⟨a1_0, a1_1⟩ : S41) [.int .i64 a1_0, .int .i64 a1_1] from (k41_mkM _ _ _ (⟨a1_0, a1_1⟩ : S41) )) (Reps.none _ _)))
   intro v272 w20 ho21 hb hg_ hnew_
   clear hg_ hnew_
   (first | rw [← Ny271.out] at ho21 | (simp only [Int.reduceToNat] at ho21; rw [← Ny271.out] at ho21))
   have n0_ := Aside0.mk (Kd.R_lower (Kd.R_newB ho21 (g := gb269) (o := .cells #[.int .i64 a1_0, .int .i64 a1_1] 41 (0, 0)) q10_15) (below_size q10_12)); have n1_ := Aside0.mk (blk_below (g := gb269) (o := .cells #[.int .i64 a1_0, .int .i64 a1_1] 41 (0, 0)) q10_15 hb); have n2_ := Aside0.mk (below_step q10_12 hb); clear BK269; clear HB; have HO273 := n0_; have BK269 := n1_; have HB := n2_; clear n0_ n1_ n2_; clear hb ho21; obtain ⟨Ao22, co22, eo22⟩ := Kd.R_slice HO273.out
   (first | subst eo22 | (injection eo22 with f1_ f2_ f3_; have f4_ := f1_.symm; have f5_ := f3_.symm; clear f1_ f2_ f3_; subst f4_; subst f5_))
   refine hK.out _ _ ⟨(blk_cell BK269.out 0).trans rfl, (blk_cell BK269.out 1).trans rfl⟩ (fun hHeld => ?_)
   clear hK K
   refine norm_ (a' := ?_) ?_ ?_
   rotate_left
   ·
    show Act.put _ (some 9) _ = _
    exact s6_
   refine one_ (i := 5) (N := some 10) (tb_ 17 63) rfl rfl (one_of HT_.out s9_) (by decide) (fun K hK => ?_)
   refine goes_ Tryz.func59 s9_ rfl #[.slice Ao22 y271.length co22] (by rfl) rfl rfl s0_ ?_
   with_reducible refine (impl_areAnyRules.calls _ _ y271 false _ ?side1 ?side2 A5.out).mono ?_
   (case side1 => exact q10_11)
   (case side2 => exact (Kd.R_reads' HO273.out).2.1)
   rintro e w23 ⟨rfl, hb⟩
   refine ⟨_, rfl, ?_⟩
   have n0_ := Aside0.mk (Kd.R_below q10_16 hb); have n1_ := Aside0.mk (blk_below (g := gb269) (o := .cells #[.int .i64 a1_0, .int .i64 a1_1] 41 (0, 0)) q10_15 hb); have n2_ := Aside0.mk (below_step q10_12 hb); clear HO273; clear BK269; clear HB; have HO273 := n0_; have BK269 := n1_; have HB := n2_; clear n0_ n1_ n2_
   (try clear hb)
   (try clear hb2)
   (try clear hk)
   (try clear hi)
   refine hK.out _ _ ⟨(blk_cell BK269.out 0).trans rfl, (blk_cell BK269.out 1).trans rfl⟩ (fun hHeld => ?_)
   clear hK K
   refine norm_ (a' := ?_) ?_ ?_
   rotate_left
   ·
    show Act.put _ (some 10) _ = _
    exact s6_
   refine pl_ 6 11 (tb_ 17 127) ?_; refine pl_ 7 12 (tb_ 17 255) ?_; refine pr_ 8 13 (tb_ 17 511) ?_; refine pr_ 9 14 (tb_ 17 1023) ?_; refine pr_ 10 15 (tb_ 17 2047) ?_; refine pr_ 11 16 (tb_ 17 4095) ?_; refine pr_ 12 17 (tb_ 17 8191) ?_; refine pr_ 13 18 (tb_ 17 16383) ?_; refine pr_ 14 19 (tb_ 17 32767) ?_; refine pl_ 15 20 (tb_ 17 65535) ?_; refine pl_ 16 4 (tb_ 17 131071) ?_
   refine done_ (done_of HT_.out s9_) ?_
   try go_wp2
   go_ret
   exact ⟨s5_, q10_12⟩
 ·
  replace c4 := Bool.eq_false_iff.mpr c4; subst c4
  rw [if_neg (show ¬ (false = true) by decide)] at H
  obtain rfl := Option.some.inj H
  go_enter Tryz.func48, Tryz.ntmps48
  try go_wp2_with (first | ((with_reducible refine gate_dst (N := 3) rfl ?_); (try (refine gate_guard (by rfl) ?_; dsimp only)); refine box_event ?hg (N := 3) ?hd (cs := #[.int .i64 a1_0, .int .i64 a1_1]) (t := 41) ?hr ?_; (case hd => rfl); (case hg => rfl); (case hr => first | (go_simp; done) | (go_simp; rfl)); intro gb269 hg w24 hbox hb; have n_ := ac_ (below_step s1_ hb) <| ac_ (hbox) <| ac_ ((by rw [hg]; exact (below_size s1_) : w.heap.size ≤ gb269)) <| Aside0.mk ((by rw [hg]; exact (below_size s1_) : w.heap.size ≤ gb269)); clear HB; obtain ⟨HB, BK269, GW269, GE269⟩ := n_; clear hb hbox hg))
  have n0_ := Aside0.mk (blk_drew BK269.out); have n1_ := Aside0.mk (below_drew1 HB.out); clear BK269; clear HB; have BK269 := n0_; have HB := n1_; clear n0_ n1_
  refine start_ (n := 17) (S := fun w' => True) (ds := []) (tb_ 17 0) s9_ rfl rfl trivial (fun hHeld => ?_); refine with_tabW impl_Follows.tab1 impl_Follows.bits1 (fun HT_ HW_ => ?_)
  generalize w24.drew = w25 at BK269 HB hHeld ⊢
  refine pl_ 0 5 (tb_ 17 1) ?_
  refine one_ (i := 1) (N := some 6) (tb_ 17 3) rfl rfl (one_of HT_.out s9_) (by decide) (fun K hK => ?_)
  refine goes_ Tryz.func59 s9_ rfl #[.slice A0 l0.length c0] (by rfl) rfl rfl s0_ ?_
  with_reducible refine (impl_areAnyRules.calls _ _ l0 false _ ?side1 ?side2 A3.out).mono ?_
  (case side1 => exact s11_)
  (case side2 => exact HC0.out)
  rintro e w26 ⟨rfl, hb⟩
  refine ⟨_, rfl, ?_⟩
  have n0_ := Aside0.mk (blk_below (g := gb269) (o := .cells #[.int .i64 a1_0, .int .i64 a1_1] 41 (0, 0)) q10_15 hb); have n1_ := Aside0.mk (below_step q10_12 hb); clear BK269; clear HB; have BK269 := n0_; have HB := n1_; clear n0_ n1_
  (try clear hb)
  (try clear hb2)
  (try clear hk)
  (try clear hi)
  refine hK.out _ _ trivial (fun hHeld => ?_)
  clear hK K
  refine norm_ (a' := ?_) ?_ ?_
  rotate_left
  ·
   show Act.put _ (some 6) _ = _
   exact s6_
  refine pl_ 2 7 (tb_ 17 7) ?_; refine pr_ 3 8 (tb_ 17 15) ?_; refine pr_ 4 9 (tb_ 17 31) ?_; refine pr_ 5 10 (tb_ 17 63) ?_; refine pl_ 6 11 (tb_ 17 127) ?_; refine pl_ 7 12 (tb_ 17 255) ?_; refine pr_ 8 13 (tb_ 17 511) ?_; refine pr_ 9 14 (tb_ 17 1023) ?_; refine pr_ 10 15 (tb_ 17 2047) ?_; refine pr_ 11 16 (tb_ 17 4095) ?_; refine pr_ 12 17 (tb_ 17 8191) ?_; refine pr_ 13 18 (tb_ 17 16383) ?_; refine pr_ 14 19 (tb_ 17 32767) ?_; refine pl_ 15 20 (tb_ 17 65535) ?_; refine pl_ 16 4 (tb_ 17 131071) ?_
  refine done_ (done_of HT_.out s9_) ?_
  try go_wp2
  go_ret
  exact ⟨s5_, q10_12⟩
end Go.Proofs.YtbflblmkdnhboaaGreatDoor.Pr
namespace Go.Proofs.YtbflblmkdnhboaaGreatDoor.Pr
open Go.RowKit Go.Proofs.YtbflblmkdnhboaaGreatDoorW.PrintWords Go.Proofs.YtbflblmkdnhboaaGreatDoorW.PrintLast Go.Proofs.YtbflblmkdnhboaaGreatDoorW.PrintMore
set_option linter.unusedVariables false
def ruleB (n : Int) (r : S41) : Bool := Pu.isSetB n r.f0 && Pu.isSetB n r.f1
def impl_AreRules.f (a0 : Int) (l1 : List S41) : Option Bool := some (decide (0 ≤ a0 ∧ a0 ≤ 6) && decide ((l1.length : Int) ≤ 40) && l1.all (ruleB a0))
set_option maxHeartbeats 4000000 in
set_option maxRecDepth 100000 in
theorem AreRules1_calls (n : Int) (b : Nat) (x : S41) (W : World) (hc : W.cell? ⟨b, 0, none⟩ = some (.int .i64 n)) :
    Calls Tryz.prog 42 #[.agg #[.int .i64 x.f0, .int .i64 x.f1], .pointer (some ⟨b, 0, none⟩)] W fun e w' => e = .returned (.bool (!ruleB n x)) ∧ Below W.heap.size W w' := by
  have hb : b < W.heap.size := World.block_lt_of_cell? W _ hc
  have hu := Tryz.underlying41
  cases h1 : Pu.isSetB n x.f0 with
  | false =>
    have H : Aside0 (ruleB n x = false) := ⟨by unfold ruleB; rw [h1]; rfl⟩
    have K1 : Aside0 (impl_IsSet.f n x.f0 = some false) := ⟨by rw [Pu.set_val, h1]⟩
    clear h1
    go_enter Tryz.func42, Tryz.ntmps42
    go_wp2_with (go_at_call 41; refine (impl_IsSet.calls n x.f0 false _ K1.out).mono ?_; rintro e w' ⟨rfl, ⟨⟨q, rfl⟩⟩⟩)
    go_ret
    exact ⟨by rw [H.out]; rfl, by repeat (first | apply below_alloc | apply pw_below_drewN | apply below_drew1 | exact Below.refl _ _)⟩
  | true =>
    cases h2 : Pu.isSetB n x.f1 with
    | false =>
      have H : Aside0 (ruleB n x = false) := ⟨by unfold ruleB; rw [h1, h2]; rfl⟩
      have K1 : Aside0 (impl_IsSet.f n x.f0 = some true) := ⟨by rw [Pu.set_val, h1]⟩
      have K2 : Aside0 (impl_IsSet.f n x.f1 = some false) := ⟨by rw [Pu.set_val, h2]⟩
      clear h1 h2
      go_enter Tryz.func42, Tryz.ntmps42
      go_wp2_with fail
      refine (impl_IsSet.calls n x.f0 true _ K1.out).mono ?_
      rintro e w' ⟨rfl, ⟨⟨q, rfl⟩⟩⟩
      go_wp2_with fail
      refine (impl_IsSet.calls n x.f1 false _ K2.out).mono ?_
      rintro e w' ⟨rfl, ⟨⟨q2, rfl⟩⟩⟩
      go_wp2
      go_ret
      exact ⟨by rw [H.out]; rfl, by repeat (first | apply below_alloc | apply pw_below_drewN | apply below_drew1 | exact Below.refl _ _)⟩
    | true =>
      have H : Aside0 (ruleB n x = true) := ⟨by unfold ruleB; rw [h1, h2]; rfl⟩
      have K1 : Aside0 (impl_IsSet.f n x.f0 = some true) := ⟨by rw [Pu.set_val, h1]⟩
      have K2 : Aside0 (impl_IsSet.f n x.f1 = some true) := ⟨by rw [Pu.set_val, h2]⟩
      clear h1 h2
      go_enter Tryz.func42, Tryz.ntmps42
      go_wp2_with fail
      refine (impl_IsSet.calls n x.f0 true _ K1.out).mono ?_
      rintro e w' ⟨rfl, ⟨⟨q, rfl⟩⟩⟩
      go_wp2_with fail
      refine (impl_IsSet.calls n x.f1 true _ K2.out).mono ?_
      rintro e w' ⟨rfl, ⟨⟨q2, rfl⟩⟩⟩
      go_wp2
      go_ret
      exact ⟨by rw [H.out]; rfl, by repeat (first | apply below_alloc | apply pw_below_drewN | apply below_drew1 | exact Below.refl _ _)⟩
theorem AreRules1_fn (n : Int) (b : Nat) (w : World) (hc : w.cell? ⟨b, 0, none⟩ = some (.int .i64 n)) : FnRb 42 #[.pointer (some ⟨b, 0, none⟩)] (fun x => !ruleB n x) w := by
  intro W x hb
  rw [show (#[.agg #[.int .i64 x.f0, .int .i64 x.f1]] ++ #[.pointer (some ⟨b, 0, none⟩)] : Array Value) = #[.agg #[.int .i64 x.f0, .int .i64 x.f1], .pointer (some ⟨b, 0, none⟩)] from rfl]
  exact AreRules1_calls n b x W ((hb.cell (p := ⟨b, 0, none⟩) (World.block_lt_of_cell? w _ hc)).trans hc)
theorem box_cell {w w1 : World} {a : Value} {t : TypeId} (h : Below (w.alloc (.cells #[a] t)).heap.size (w.alloc (.cells #[a] t)) w1) : w1.cell? ⟨w.heap.size, 0, none⟩ = some a := by
  have h0 : (w.alloc (.cells #[a] t)).cell? ⟨w.heap.size, 0, none⟩ = some a := blk_cell (heap_alloc_new w (.cells #[a] t)) 0
  exact (h.cell (p := ⟨w.heap.size, 0, none⟩) (by simp)).trans h0
set_option maxHeartbeats 4000000 in
set_option maxRecDepth 100000 in
theorem impl_AreRules.calls (a0 : Int) (A1 : Option Addr) (c1 : Nat) (l1 : List S41) (r : Bool) (w : World) (hr1 : Kd.C k41 w A1 l1.length l1) (hc1 : l1.length ≤ c1) (h : impl_AreRules.f a0 l1 = some r) :
    Calls Tryz.prog 24 #[.int .i64 a0, .slice A1 l1.length c1] w fun e w' => e = .returned (.bool r) ∧ Below w.heap.size w w' := by
  have HR := Aside0.mk hr1
  have hr := Aside0.mk (Option.some.inj h)
  clear h hr1
  have eg : ∀ args w, (callFunc 42 args).run Tryz.prog w = .ok (.enter 42 args) w := enters_of Tryz.func42 (by kernel_rfl) rfl
  cases h1 : decide (0 ≤ a0 ∧ a0 ≤ 6) with
  | false =>
    have K : Aside0 (impl_within.f a0 0 6 = some false) := ⟨by rw [Pu.within_val, h1]⟩
    have H : Aside0 (r = false) := ⟨by rw [← hr.out, h1]; rfl⟩
    clear h1
    go_enter Tryz.func24, Tryz.ntmps24
    go_wp2_with (go_at_call 38; refine (impl_within.calls a0 0 6 false _ K.out).mono ?_; rintro e w' ⟨rfl, ⟨⟨q, rfl⟩⟩⟩)
    go_ret
    exact ⟨by rw [H.out]; rfl, by repeat (first | apply below_alloc | apply pw_below_drewN | apply below_drew1 | exact Below.refl _ _)⟩
  | true =>
    have K : Aside0 (impl_within.f a0 0 6 = some true) := ⟨by rw [Pu.within_val, h1]⟩
    by_cases h2 : (l1.length : Int) ≤ 40
    · have h2b : decide ((l1.length : Int) ≤ 40) = true := decide_eq_true h2
      have H : Aside0 (r = !(l1.any fun x => !ruleB a0 x)) := ⟨by rw [← hr.out, h1, h2b, ← List.all_eq_not_any_not]; rfl⟩
      clear h1 h2
      go_enter Tryz.func24, Tryz.ntmps24
      go_wp2_with (go_at_call 38; refine (impl_within.calls a0 0 6 true _ K.out).mono ?_; rintro e w1 ⟨rfl, hd⟩; have HB1 := Aside0.mk (below_step (below_alloc (Below.refl w.heap.size w) _) hd.below); have HC1 := Aside0.mk (box_cell (a := .int .i64 a0) hd.below); clear hd)
      refine (ContainsFunc_rule 42 #[.pointer (some ⟨w.heap.size, 0, none⟩)] eg A1 c1 l1 (fun x => !ruleB a0 x) w1 (Kd.C_below HR.out HB1.out) (AreRules1_fn a0 w.heap.size w1 HC1.out)).mono ?_
      rintro e w' ⟨rfl, hb⟩
      go_wp2
      go_ret
      exact ⟨by rw [H.out]; rfl, below_step HB1.out hb⟩
    · have h2b : decide ((l1.length : Int) ≤ 40) = false := decide_eq_false h2
      have H : Aside0 (r = false) := ⟨by rw [← hr.out, h1, h2b]; rfl⟩
      clear h1 h2
      go_enter Tryz.func24, Tryz.ntmps24
      go_wp2_with (go_at_call 38; refine (impl_within.calls a0 0 6 true _ K.out).mono ?_; rintro e w' ⟨rfl, ⟨⟨q, rfl⟩⟩⟩)
      go_ret
      exact ⟨by rw [H.out]; rfl, by repeat (first | apply below_alloc | apply pw_below_drewN | apply below_drew1 | exact Below.refl _ _)⟩
end Go.Proofs.YtbflblmkdnhboaaGreatDoor.Pr
