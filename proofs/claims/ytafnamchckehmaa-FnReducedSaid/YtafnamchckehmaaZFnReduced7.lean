/- What the law needs of the program's functions as plain functions, of the proofs that their calls answer so, and of plain laws: gathered by a program of this place (pack.py) out of its printed texts. No condition beyond what each statement says. -/
import Derived.Test.YtafnamchckehmaaZFnReduced2
import Derived.Test.YtafnamchckehmaaZFnReduced3
import Derived.Test.YtafnamchckehmaaZFnReduced6
import Derived.Test.YtafnamchckehmaaZFnReduced4
namespace Go.Proofs.Ytafnamchckehmaa.Pr
open Go.RowKit Go.Proofs.YtafnamchckehmaaW.PrintWords Go.Proofs.YtafnamchckehmaaW.PrintLast Go.Proofs.YtafnamchckehmaaW.PrintMore
attribute [local go_sem] max2_int min2_int max_two min_two max_three min_three max_four min_four
set_option linter.unusedVariables false
set_option linter.unusedSimpArgs false
theorem bnd7_ {α β : Type} {o : Option α} {f : α → Option β} {r : β} (h : o.bind f = some r) : ∃ a, Aside0 (o = some a) ∧ f a = some r := by
 obtain ⟨a, h1, h2⟩ := Option.bind_eq_some_iff.mp h
 exact ⟨a, ⟨h1⟩, h2⟩
theorem q7_1 {P : Prop} (h : P := by repeat (first | (with_reducible first | exact HB.out | apply below_alloc | apply pw_below_drewN | apply below_drew1 | refine below_set ?_ GE360.out | refine below_set ?_ GE361.out | refine below_set ?_ GE364.out) | exact HB.out)) : P := h
theorem q7_2 {P : Prop} (h : P := by repeat (first | (with_reducible first | exact HB.out | apply below_alloc | apply pw_below_drewN | apply below_drew1 | refine below_set ?_ GE360.out | refine below_set ?_ GE361.out) | exact HB.out)) : P := h
theorem q7_4 {P : Prop} (h : P := by repeat (first | (with_reducible first | exact HB.out | apply below_alloc | apply pw_below_drewN | apply below_drew1 | refine below_set ?_ GE360.out) | exact HB.out)) : P := h
theorem q7_8 {P : Prop} (h : P := by (with_reducible repeat (first | refine blk_drewN ?_ _ | refine blk_drew ?_ | refine blk_alloc ?_ _)); exact BK360.out) : P := h
theorem q7_9 {P : Prop} (h : P := by (with_reducible repeat (first | refine blk_drewN ?_ _ | refine blk_drew ?_ | refine blk_alloc ?_ _)); exact BK361.out) : P := h
theorem q7_10 {P : Prop} (h : P := by (with_reducible repeat (first | refine blk_drewN ?_ _ | refine blk_drew ?_ | refine blk_alloc ?_ _)); exact BK364.out) : P := h
theorem q7_11 {P : Prop} (h : P := by (with_reducible repeat (first | apply Kd.R_alloc | apply Kd.R_drewN | apply Kd.R_drew)); exact HO_365001.out) : P := h
mutual
def spec_DropObjects.j0 : Nat → Int → Bool → Int → List Int → Option (Int × List Int × Bool)
 | 0, _, _, _, _ => none
 | k + 1, x1, x18, x361000, x361001 => if x18 = true then (some (0, ([] : List Int), false)) else (spec_DropObjects.l0 k x1 0 x361000 x361001 x361000 ([] : List Int))
def spec_DropObjects.l0 : Nat → Int → Int → Int → List Int → Int → List Int → Option (Int × List Int × Bool)
 | 0, _, _, _, _, _, _ => none
 | k + 1, x1, x7, x361000, x361001, x365000, x365001 => if x7 < (x361001.length : Int) then ((spec_l2Has.f x1 x7).bind fun t365 => (if t365 = true then (spec_DropObjects.l0 k x1 (wrap64 (x7 + 1)) x361000 x361001 x365000 x365001) else (if 0 ≤ x7 then (if x365001.length < 17592186044416 then (spec_DropObjects.l0 k x1 (wrap64 (x7 + 1)) x361000 x361001 x365000 (x365001 ++ [rd x361001 x7])) else (none)) else (none)))) else (some (x365000, x365001, true))
end
def spec_DropObjects.f (k : Nat) (a0_0 : Int) (l0_1 : List Int) (a1 : Int) : Option (Int × List Int × Bool) := (spec_IsContext.f k a0_0 l0_1).bind fun t362 => (if t362 = true then ((spec_IsSet.f (l0_1.length : Int) a1).bind fun t363 => (spec_DropObjects.j0 k a1 (!t363) a0_0 l0_1)) else (spec_DropObjects.j0 k a1 true a0_0 l0_1))
def spec_DropObjects.T8 : Bool × List (List Nat × List Nat) := (true, [([], []), ([0], [0]), ([], []), ([2], [2]), ([], []), ([3, 4], [3, 4]), ([5], [5]), ([6], [6]), ([1, 7], [1, 7]), ([0, 1, 2, 3, 4, 5, 6, 7, 8], []), ([9, 8, 8, 0, 1, 2, 3, 4, 5, 6, 7, 8], [8, 9])])
def spec_DropObjects.B8 : List Nat := [0, 1, 0, 4, 0, 28, 60, 124, 255, 511, 1023]
theorem spec_DropObjects.tab8 : rtab .any (opsOf Try.f30 8) = spec_DropObjects.T8 := by kernel_rfl
theorem spec_DropObjects.bits8 : waitsOk spec_DropObjects.T8.2 spec_DropObjects.B8 = true := by kernel_rfl
set_option maxHeartbeats 8000000 in
set_option maxRecDepth 100000 in
theorem spec_DropObjects.calls (k : Nat) (a0_0 : Int) (A0_1 : Option Addr) (c0_1 : Nat) (l0_1 : List Int) (a1 : Int) (r1 : Int) (r2 : List Int) (r3 : Bool) (w : World) (hr0_1 : Kd.C (Kd.int .i64) w A0_1 l0_1.length l0_1) (hc0_1 : l0_1.length ≤ c0_1) (h : spec_DropObjects.f k a0_0 l0_1 a1 = some (r1, r2, r3)) :
  Calls Try.prog 30 #[.agg #[.int .i64 a0_0, .slice A0_1 l0_1.length c0_1], .int .i64 a1] w fun e w' => ∃ v1_ : Value, e = .returned (.tuple #[.agg #[.int .i64 r1, v1_], .bool r3]) ∧ Kd.R (Kd.int .i64) 3 w' w.heap.size (fun _ => True) v1_ r2 ∧ Below w.heap.size w w' := by
 have hu26 := Try.underlying26; have HR0_1 := Aside0.mk hr0_1; have HC0_1 := Aside0.mk hc0_1; clear hr0_1 hc0_1; have HB := Aside0.mk (Below.refl w.heap.size w); have H := h; clear h; unfold spec_DropObjects.f at H; have HC3 := Aside0.mk H; clear H
 go_enter Try.func30, Try.ntmps30
 go_upto_region 1 with (first | ((with_reducible refine gate_dst (N := 2) rfl ?_); (try (refine gate_guard (by rfl) ?_; dsimp only)); refine box_event ?hg (N := 2) ?hd (cs := #[.int .i64 a0_0, .slice A0_1 l0_1.length c0_1]) (t := 26) ?hr ?_; (case hd => rfl); (case hg => rfl); (case hr => first | (go_simp; done) | (go_simp; rfl)); intro gb360 hg w4 hbox hb; have n_ := ac_ (below_step s1_ hb) <| ac_ (hbox) <| ac_ ((gz_ w hg s1_)) <| Aside0.mk ((gz_ w hg s1_)); clear HB; obtain ⟨HB, BK360, GW360, GE360⟩ := n_; clear hb hbox hg) | ((with_reducible refine gate_dst (N := 4) rfl ?_); (try (refine gate_guard (by rfl) ?_; dsimp only)); refine box_event ?hg (N := 4) ?hd (cs := #[.int .i64 0, .slice none 0 0]) (t := 26) ?hr ?_; (case hd => rfl); (case hg => rfl); (case hr => first | (go_simp; done) | (go_simp; rfl)); intro gb361 hg w5 hbox hb; have n_ := ac_ (blk_below (g := gb360) (o := .cells #[.int .i64 a0_0, .slice A0_1 l0_1.length c0_1] 26 (0, 0)) q7_8 hb) <| ac_ (below_step q7_4 hb) <| ac_ (hbox) <| ac_ ((gz_ w hg q7_4)) <| ac_ ((gz_ w hg q7_4)) <| ac_ ((nl_ hg (blk_lt (g := gb360) (o := .cells #[.int .i64 a0_0, .slice A0_1 l0_1.length c0_1] 26 (0, 0)) q7_8))) <| Aside0.mk ((ng_ hg (blk_lt (g := gb360) (o := .cells #[.int .i64 a0_0, .slice A0_1 l0_1.length c0_1] 26 (0, 0)) q7_8))); clear BK360 HB; obtain ⟨BK360, HB, BK361, GW361, GE361, NB360_361, NB361_360⟩ := n_; clear hb hbox hg))
 (try simp only [Act.put, List.setIfInBounds_toArray, List.set_cons_zero, List.set_cons_succ])
 go_cut [18] (fun v18 wc => ∃ (kq : Nat) (x18_2 : Bool), v18 = .bool x18_2 ∧ Aside0 (spec_DropObjects.j0 kq a1 x18_2 a0_0 l0_1 = some (r1, r2, r3)) ∧ Aside0 (kq ≤ k) ∧ Aside0 (wc.heap[gb360]? = some (.cells #[.int .i64 a0_0, (.slice A0_1 l0_1.length c0_1)] 26 (0, 0))) ∧ Aside0 (wc.heap[gb361]? = some (.cells #[.int .i64 0, (.slice none 0 0)] 26 (0, 0))) ∧ Aside0 (Below w.heap.size w wc))
 case first =>
  have H := HC3.out; clear HC3; obtain ⟨t362, A6, H⟩ := bnd7_ H
  by_cases c7 : t362 = true
  ·
   subst c7; rw [if_pos rfl] at H; obtain ⟨t363, A8, H⟩ := bnd7_ H; have H' := Aside0.mk H; clear H; have hnb9 := NB360_361.out; have hnc9 := NB361_360.out; have hcz10_0 : w5.cell? ⟨gb360, 0, none⟩ = some (.int .i64 a0_0) := (blk_cell BK360.out 0).trans rfl; have hcz10_1 : w5.cell? ⟨gb360, 1, none⟩ = some (.slice A0_1 l0_1.length c0_1) := (blk_cell BK360.out 1).trans rfl; have hfz10_0 := blk_frozen BK360.out 0; have hfz10_1 := blk_frozen BK360.out 1
   go_wp2_with (first | (refine gL_ 20 9 Try.func20 #[.agg #[.int .i64 a0_0, .slice A0_1 l0_1.length c0_1]] ?_; (with_reducible refine (spec_IsContext.calls k a0_0 _ _ l0_1 true _ ?side1 ?side2 A6.out).mono ?_); (case side1 => exact s3_); (case side2 => exact HC0_1.out); rintro e w11 ⟨rfl, hb⟩; refine ⟨_, rfl, ?_⟩; have n_ := ac_ (blk_below (g := gb360) (o := .cells #[.int .i64 a0_0, .slice A0_1 l0_1.length c0_1] 26 (0, 0)) q7_8 hb) <| ac_ (blk_below (g := gb361) (o := .cells #[.int .i64 0, .slice none 0 0] 26 (0, 0)) q7_9 hb) <| Aside0.mk (below_step q7_2 hb); clear BK360 BK361 HB; obtain ⟨BK360, BK361, HB⟩ := n_; (try clear hb); have hcz12_0 : w11.cell? ⟨gb360, 0, none⟩ = some (.int .i64 a0_0) := (blk_cell BK360.out 0).trans rfl; have hcz12_1 : w11.cell? ⟨gb360, 1, none⟩ = some (.slice A0_1 l0_1.length c0_1) := (blk_cell BK360.out 1).trans rfl; have hfz12_0 := blk_frozen BK360.out 0; have hfz12_1 := blk_frozen BK360.out 1) | (go_at_call 59; (with_reducible refine (spec_IsSet.calls (l0_1.length : Int) a1 t363 _ A8.out).mono ?_); rintro e w' ⟨rfl, ⟨nd, rfl⟩⟩))
   go_meet
   case rel => exact ⟨_, (!t363), s2_, H', ⟨(by first | omega | exact Nat.le_refl _)⟩, ⟨q7_8⟩, ⟨q7_9⟩, ⟨q7_2⟩⟩
  ·
   replace c7 := Bool.eq_false_iff.mpr c7; subst c7
   rw [if_neg (show ¬ (false = true) by decide)] at H
   have H' := Aside0.mk H; clear H; have hnb13 := NB360_361.out; have hnc13 := NB361_360.out; have hcz14_0 : w5.cell? ⟨gb360, 0, none⟩ = some (.int .i64 a0_0) := (blk_cell BK360.out 0).trans rfl; have hcz14_1 : w5.cell? ⟨gb360, 1, none⟩ = some (.slice A0_1 l0_1.length c0_1) := (blk_cell BK360.out 1).trans rfl; have hfz14_0 := blk_frozen BK360.out 0; have hfz14_1 := blk_frozen BK360.out 1
   go_wp2_with (first | (refine gL_ 20 9 Try.func20 #[.agg #[.int .i64 a0_0, .slice A0_1 l0_1.length c0_1]] ?_; (with_reducible refine (spec_IsContext.calls k a0_0 _ _ l0_1 false _ ?side1 ?side2 A6.out).mono ?_); (case side1 => exact s3_); (case side2 => exact HC0_1.out); rintro e w15 ⟨rfl, hb⟩; refine ⟨_, rfl, ?_⟩; have n_ := ac_ (blk_below (g := gb360) (o := .cells #[.int .i64 a0_0, .slice A0_1 l0_1.length c0_1] 26 (0, 0)) q7_8 hb) <| ac_ (blk_below (g := gb361) (o := .cells #[.int .i64 0, .slice none 0 0] 26 (0, 0)) q7_9 hb) <| Aside0.mk (below_step q7_2 hb); clear BK360 BK361 HB; obtain ⟨BK360, BK361, HB⟩ := n_; (try clear hb)))
   go_meet
   case rel => exact ⟨_, (true), s2_, H', ⟨(by first | omega | exact Nat.le_refl _)⟩, ⟨q7_8⟩, ⟨q7_9⟩, ⟨q7_2⟩⟩
 case rest =>
  clear HC3
  try clear c1
  try clear c2
  try clear p2
  try clear c3
  try clear c7
  try clear c9
  try clear c13
  try clear hcz10_0
  try clear hcz10_1
  try clear hcz12_0
  try clear hcz12_1
  try clear hcz14_0
  try clear hcz14_1
  try clear hfz10_0
  try clear hfz10_1
  try clear hfz12_0
  try clear hfz12_1
  try clear hfz14_0
  try clear hfz14_1
  obtain ⟨kq, x18_2, rfl, HA, HJ2, BK360, BK361, HB⟩ := hcut
  cases kq with
  | zero => exact absurd HA.out (by simp [spec_DropObjects.j0])
  | succ kj2 =>
   have H := HA.out; clear HA
   simp only [spec_DropObjects.j0] at H
   by_cases c16 : x18_2 = true
   ·
    subst c16; rw [if_pos rfl] at H
    simp only [Option.some.injEq, Prod.mk.injEq] at H
    obtain ⟨rfl, rfl, rfl⟩ := H; have hnb17 := NB361_360.out; have hnc17 := NB360_361.out; have hcz18_0 : wc.cell? ⟨gb361, 0, none⟩ = some (.int .i64 0) := (blk_cell BK361.out 0).trans rfl; have hcz18_1 : wc.cell? ⟨gb361, 1, none⟩ = some (.slice none 0 0) := (blk_cell BK361.out 1).trans rfl; have hfz18_0 := blk_frozen BK361.out 0; have hfz18_1 := blk_frozen BK361.out 1
    go_wp2
    refine bodyPost_ret (results_ct rfl _ _ gb361 26 #[.int .i64 0, .slice none 0 0] (0, 0) _ rfl (by (with_reducible repeat (first | refine blk_drewN ?_ _ | refine blk_drew ?_ | refine blk_alloc ?_ _)); refine blk_put (cs := #[.int .i64 0, .slice none 0 0]) ?_ 1 _ rfl; (with_reducible repeat (first | refine blk_drewN ?_ _ | refine blk_drew ?_ | refine blk_alloc ?_ _)); refine blk_put (cs := #[.int .i64 0, .slice none 0 0]) ?_ 0 _ rfl; (with_reducible repeat (first | refine blk_drewN ?_ _ | refine blk_drew ?_ | refine blk_alloc ?_ _)); exact BK361.out) Try.underlying26 rfl (by kernel_rfl)) rfl ?_
    exact ⟨_, (by first | rfl | (simp [errW_none, errW_some] <;> rfl) | (simp [*, errW_none, errW_some] <;> rfl)), s13_, q7_2⟩
   ·
    replace c16 := Bool.eq_false_iff.mpr c16; subst c16
    rw [if_neg (show ¬ (false = true) by decide)] at H
    have H' := Aside0.mk H; clear H; have hnb19 := NB360_361.out; have hnc19 := NB361_360.out; have hcz20_0 : wc.cell? ⟨gb360, 0, none⟩ = some (.int .i64 a0_0) := (blk_cell BK360.out 0).trans rfl; have hcz20_1 : wc.cell? ⟨gb360, 1, none⟩ = some (.slice A0_1 l0_1.length c0_1) := (blk_cell BK360.out 1).trans rfl; have hfz20_0 := blk_frozen BK360.out 0; have hfz20_1 := blk_frozen BK360.out 1
    go_wp2_with (first | ((with_reducible refine gate_dst (N := 6) rfl ?_); (try (refine gate_guard (by rfl) ?_; dsimp only)); refine box_event ?hg (N := 6) ?hd (cs := #[.int .i64 0, .slice none 0 0]) (t := 26) ?hr ?_; (case hd => rfl); (case hg => rfl); (case hr => first | (go_simp; done) | (go_simp; rfl)); intro gb364 hg w21 hbox hb; have n_ := ac_ (blk_below (g := gb360) (o := .cells #[.int .i64 a0_0, .slice A0_1 l0_1.length c0_1] 26 (0, 0)) q7_8 hb) <| ac_ (blk_below (g := gb361) (o := .cells #[.int .i64 0, .slice none 0 0] 26 (0, 0)) q7_9 hb) <| ac_ (below_step q7_2 hb) <| ac_ (hbox) <| ac_ ((gz_ w hg q7_2)) <| ac_ ((gz_ w hg q7_2)) <| ac_ ((nl_ hg (blk_lt (g := gb360) (o := .cells #[.int .i64 a0_0, .slice A0_1 l0_1.length c0_1] 26 (0, 0)) q7_8))) <| ac_ ((ng_ hg (blk_lt (g := gb360) (o := .cells #[.int .i64 a0_0, .slice A0_1 l0_1.length c0_1] 26 (0, 0)) q7_8))) <| ac_ ((nl_ hg (blk_lt (g := gb361) (o := .cells #[.int .i64 0, .slice none 0 0] 26 (0, 0)) q7_9))) <| Aside0.mk ((ng_ hg (blk_lt (g := gb361) (o := .cells #[.int .i64 0, .slice none 0 0] 26 (0, 0)) q7_9))); clear BK360 BK361 HB; obtain ⟨BK360, BK361, HB, BK364, GW364, GE364, NB360_364, NB364_360, NB361_364, NB364_361⟩ := n_; clear hb hbox hg; have hnb22 := NB364_360.out; have hnc22 := NB360_364.out; have hnb23 := NB364_361.out; have hnc23 := NB361_364.out; have hcz24_0 : w21.cell? ⟨gb364, 0, none⟩ = some (.int .i64 0) := (blk_cell BK364.out 0).trans rfl; have hcz24_1 : w21.cell? ⟨gb364, 1, none⟩ = some (.slice none 0 0) := (blk_cell BK364.out 1).trans rfl; have hfz24_0 := blk_frozen BK364.out 0; have hfz24_1 := blk_frozen BK364.out 1))
    go_loopg [7] kj2 (fun kq v7 w' => ∃ (x7_2 : Int) (x365001_2 : List Int) (u365001 : Value), v7 = .int .i64 x7_2 ∧ Aside0 (spec_DropObjects.l0 kq a1 x7_2 a0_0 l0_1 a0_0 x365001_2 = some (r1, r2, r3)) ∧ Aside0 (kq ≤ kj2) ∧ Aside0 (Kd.R (Kd.int .i64) 3 w' w.heap.size (fun _ => True) u365001 x365001_2) ∧ Aside0 (w'.heap[gb360]? = some (.cells #[.int .i64 a0_0, (.slice A0_1 l0_1.length c0_1)] 26 (0, 0))) ∧ Aside0 (w'.heap[gb361]? = some (.cells #[.int .i64 0, (.slice none 0 0)] 26 (0, 0))) ∧ Aside0 (w'.heap[gb364]? = some (.cells #[.int .i64 a0_0, u365001] 26 (0, 0))) ∧ Aside0 (Below w.heap.size w w'))
    case atStart => exact ⟨(0), (([] : List Int)), (.slice none 0 0), s2_, H', ⟨Nat.le_refl _⟩, ⟨s13_⟩, ⟨(by (with_reducible repeat (first | refine blk_drewN ?_ _ | refine blk_drew ?_ | refine blk_alloc ?_ _)); refine blk_far ?_ NB360_364.out _; (with_reducible repeat (first | refine blk_drewN ?_ _ | refine blk_drew ?_ | refine blk_alloc ?_ _)); refine blk_far ?_ NB360_364.out _; (with_reducible repeat (first | refine blk_drewN ?_ _ | refine blk_drew ?_ | refine blk_alloc ?_ _)); exact BK360.out)⟩, ⟨(by (with_reducible repeat (first | refine blk_drewN ?_ _ | refine blk_drew ?_ | refine blk_alloc ?_ _)); refine blk_far ?_ NB361_364.out _; (with_reducible repeat (first | refine blk_drewN ?_ _ | refine blk_drew ?_ | refine blk_alloc ?_ _)); refine blk_far ?_ NB361_364.out _; (with_reducible repeat (first | refine blk_drewN ?_ _ | refine blk_drew ?_ | refine blk_alloc ?_ _)); exact BK361.out)⟩, ⟨(by (with_reducible repeat (first | refine blk_drewN ?_ _ | refine blk_drew ?_ | refine blk_alloc ?_ _)); refine blk_put (cs := #[.int .i64 a0_0, .slice none 0 0]) ?_ 1 _ rfl; (with_reducible repeat (first | refine blk_drewN ?_ _ | refine blk_drew ?_ | refine blk_alloc ?_ _)); refine blk_put (cs := #[.int .i64 0, .slice none 0 0]) ?_ 0 _ rfl; (with_reducible repeat (first | refine blk_drewN ?_ _ | refine blk_drew ?_ | refine blk_alloc ?_ _)); exact BK364.out)⟩, ⟨q7_1⟩⟩
    case round =>
     clear H'
     try clear c1
     try clear c2
     try clear p2
     try clear c3
     try clear c7
     try clear c9
     try clear c13
     try clear c16
     try clear c17
     try clear c19
     try clear c20
     try clear c22
     try clear c23
     try clear hcz10_0
     try clear hcz10_1
     try clear hcz12_0
     try clear hcz12_1
     try clear hcz14_0
     try clear hcz14_1
     try clear hcz18_0
     try clear hcz18_1
     try clear hcz20_0
     try clear hcz20_1
     try clear hcz24_0
     try clear hcz24_1
     try clear hfz10_0
     try clear hfz10_1
     try clear hfz12_0
     try clear hfz12_1
     try clear hfz14_0
     try clear hfz14_1
     try clear hfz18_0
     try clear hfz18_1
     try clear hfz20_0
     try clear hfz20_1
     try clear hfz24_0
     try clear hfz24_1
     try clear p2
     obtain ⟨x7_2, x365001_2, u365001, rfl, HA, HK2, HO_365001, BK360, BK361, BK364, HB⟩ := hrel
     cases gk with
     | zero => exact absurd HA.out (by simp [spec_DropObjects.l0])
     | succ k2 =>
      have H := HA.out; clear HA
      simp only [spec_DropObjects.l0] at H
      by_cases c25 : x7_2 < (l0_1.length : Int)
      ·
       rw [if_pos c25] at H; have c25b0 : decide (x7_2 < (l0_1.length : Int)) = true := decide_eq_true c25; clear c25; obtain ⟨t365, A26, H⟩ := bnd7_ H
       by_cases c27 : t365 = true
       ·
        subst c27; rw [if_pos rfl] at H; have H' := Aside0.mk H; clear H; have hnb28 := NB360_361.out; have hnc28 := NB361_360.out; have hnb29 := NB360_364.out; have hnc29 := NB364_360.out; have hcz30_0 : wr.cell? ⟨gb360, 0, none⟩ = some (.int .i64 a0_0) := (blk_cell BK360.out 0).trans rfl; have hcz30_1 : wr.cell? ⟨gb360, 1, none⟩ = some (.slice A0_1 l0_1.length c0_1) := (blk_cell BK360.out 1).trans rfl; have hfz30_0 := blk_frozen BK360.out 0; have hfz30_1 := blk_frozen BK360.out 1
        go_wp2_with (first | (refine gL_ 57 32 Try.func57 #[.int .i64 a1, .int .i64 x7_2] ?_; (with_reducible refine (spec_l2Has.calls a1 x7_2 true _ A26.out).mono ?_); rintro e w' ⟨rfl, ⟨nd, rfl⟩⟩; refine ⟨_, rfl, ?_⟩))
        go_roundg k2
        case measure => have := HJ2.out; have := HK2.out; omega
        case rel => exact ⟨(wrap64 (x7_2 + 1)), (x365001_2), (u365001), s2_, H', ⟨by have := HJ2.out; have := HK2.out; omega⟩, ⟨q7_11⟩, ⟨q7_8⟩, ⟨q7_9⟩, ⟨q7_10⟩, ⟨q7_1⟩⟩
       ·
        replace c27 := Bool.eq_false_iff.mpr c27; subst c27
        rw [if_neg (show ¬ (false = true) by decide)] at H
        by_cases c31 : 0 ≤ x7_2
        ·
         rw [if_pos c31] at H; have c31b0 : decide (0 ≤ x7_2) = true := decide_eq_true c31; clear c31
         by_cases c32 : x365001_2.length < 17592186044416
         ·
          rw [if_pos c32] at H; have LMc32 := Aside0.mk c32; clear c32; obtain ⟨y367, hy367⟩ : ∃ y_ : List Int, y_ = (x365001_2 ++ [rd l0_1 x7_2]) := ⟨_, rfl⟩
          replace H : (spec_DropObjects.l0 k2 a1 (wrap64 (x7_2 + 1)) a0_0 l0_1 a0_0 y367) = some (r1, r2, r3) := by first | (rw [hy367]; with_reducible exact H) | (have H2_ := (Option.bind_some _ _).symm.trans H; rw [hy367]; with_reducible exact H2_) | (have H2_ := (Option.bind_some _ _).symm.trans H; with_reducible exact H2_) | with_reducible exact H | (rw [hy367]; exact H) | exact H
          have Ny367 := Aside0.mk hy367; clear hy367; have H' := Aside0.mk H; clear H; have hnb33 := NB360_361.out; have hnc33 := NB361_360.out; have hnb34 := NB360_364.out; have hnc34 := NB364_360.out; have hcz35_0 : wr.cell? ⟨gb360, 0, none⟩ = some (.int .i64 a0_0) := (blk_cell BK360.out 0).trans rfl; have hcz35_1 : wr.cell? ⟨gb360, 1, none⟩ = some (.slice A0_1 l0_1.length c0_1) := (blk_cell BK360.out 1).trans rfl; have hfz35_0 := blk_frozen BK360.out 0; have hfz35_1 := blk_frozen BK360.out 1
          try go_wp2_with (first | (refine gL_ 57 32 Try.func57 #[.int .i64 a1, .int .i64 x7_2] ?_; (with_reducible refine (spec_l2Has.calls a1 x7_2 false _ A26.out).mono ?_); rintro e w' ⟨rfl, ⟨nd, rfl⟩⟩; refine ⟨_, rfl, ?_⟩; (try (rw [drewN_self wr]; generalize hq_ : World.drewN wr _ = wr; have n0_ : Aside0 (Kd.R (Kd.int .i64) 3 wr w.heap.size (fun _ => True) u365001 x365001_2) := ⟨by rw [← hq_]; exact q7_11⟩; have n1_ : Aside0 (wr.heap[gb360]? = some (.cells #[.int .i64 a0_0, .slice A0_1 l0_1.length c0_1] 26 (0, 0))) := ⟨by rw [← hq_]; exact q7_8⟩; have n2_ : Aside0 (wr.heap[gb361]? = some (.cells #[.int .i64 0, .slice none 0 0] 26 (0, 0))) := ⟨by rw [← hq_]; exact q7_9⟩; have n3_ : Aside0 (wr.heap[gb364]? = some (.cells #[.int .i64 a0_0, u365001] 26 (0, 0))) := ⟨by rw [← hq_]; exact q7_10⟩; have n4_ : Aside0 (Below w.heap.size w wr) := ⟨by rw [← hq_]; exact q7_1⟩; clear HO_365001 BK360 BK361 BK364 HB hq_; have HO_365001 := n0_; have BK360 := n1_; have BK361 := n2_; have BK364 := n3_; have HB := n4_; clear n0_ n1_ n2_ n3_ n4_))))
          have n0_ := Aside0.mk (Kd.R_drew HO_365001.out); have n1_ := Aside0.mk (blk_drew BK360.out); have n2_ := Aside0.mk (blk_drew BK361.out); have n3_ := Aside0.mk (blk_drew BK364.out); have n4_ := Aside0.mk (below_drew1 HB.out); clear HO_365001; clear BK360; clear BK361; clear BK364; clear HB; have HO_365001 := n0_; have BK360 := n1_; have BK361 := n2_; have BK364 := n3_; have HB := n4_; clear n0_ n1_ n2_ n3_ n4_
          have p366 : 0 ≤ (x7_2 : Int) := of_decide_eq_true (by first | (with_reducible assumption) | assumption)
          have q366 : x7_2 < (l0_1.length : Int) := of_decide_eq_true (by first | (with_reducible assumption) | assumption)
          obtain ⟨ad366, e366, hx366_0⟩ := Kd.at_int HR0_1.out x7_2 p366 q366; have hw366_0 := hx366_0
          cases e366
          replace hx366_0 := (HB.out.cell (World.block_lt_of_cell? w _ hx366_0)).trans hx366_0; replace p366 := eq_true p366; replace q366 := eq_true q366
          refine start_ (n := 11) (S := fun w' => w'.cell? ⟨gb364, 0, none⟩ = some (.int .i64 a0_0) ∧ w'.cell? ⟨gb364, 1, none⟩ = some (u365001) ∧ w'.cell? ⟨gb360, 0, none⟩ = some (.int .i64 a0_0) ∧ w'.cell? ⟨gb360, 1, none⟩ = some (.slice (some ad366) l0_1.length c0_1) ∧ w'.cell? (ad366.add (x7_2).toNat) = some (.int .i64 (rd l0_1 x7_2))) (ds := [10]) (tb_ 11 0) (by kernel_rfl) rfl rfl ⟨(blk_cell BK364.out 0).trans rfl, (blk_cell BK364.out 1).trans rfl, (blk_cell BK360.out 0).trans rfl, (blk_cell BK360.out 1).trans rfl, ((HB.out.cell (World.block_lt_of_cell? w _ hw366_0)).trans hw366_0)⟩ (fun hHeld => ?_); refine with_tabW spec_DropObjects.tab8 spec_DropObjects.bits8 (fun HT_ HW_ => ?_)
          generalize wr.drew = w36 at HO_365001 BK360 BK361 BK364 HB hx366_0 hHeld ⊢
          refine pl_ 0 34 (tb_ 11 1) ?_; refine pl_ 2 36 (tb_ 11 5) ?_; refine pl_ 4 38 (tb_ 11 21) ?_; refine tk_ 1 35 (tb_ 11 23) hHeld ?_; refine tk_ 3 37 (tb_ 11 31) hHeld ?_; refine pl_ 5 39 (tb_ 11 63) ?_; refine tk_ 6 40 (tb_ 11 127) hHeld ?_
          refine on_ 7 41 (tb_ 11 255) (fun K hK => ?_)
          refine value_ (w1 := ?_) (v := ?_) (by rfl) rfl ?_ ?_
          rotate_left 2
          ·
           go_simp
           constructor
           ·
            rfl
           ·
            rfl
          refine hK.out _ _ ⟨(blk_cell (blk_alloc BK364.out _) 0).trans rfl, (blk_cell (blk_alloc BK364.out _) 1).trans rfl, (blk_cell (blk_alloc BK360.out _) 0).trans rfl, (blk_cell (blk_alloc BK360.out _) 1).trans rfl, (World.cell?_alloc_lt _ _ _ (World.block_lt_of_cell? _ _ (((HB.out.cell (World.block_lt_of_cell? w _ hw366_0)).trans hw366_0)))).trans (((HB.out.cell (World.block_lt_of_cell? w _ hw366_0)).trans hw366_0))⟩ (fun hHeld => ?_)
          clear hK K
          refine norm_ (a' := ?_) ?_ ?_
          rotate_left
          ·
           show Act.put _ (some 41) _ = _
           simp only [Act.put, List.setIfInBounds_toArray, List.set_cons_zero, List.set_cons_succ, i64_w, i32_w]
           rfl
          refine on_ 8 42 (tb_ 11 511) (fun K hK => ?_)
          refine Kd.R_append_step (Kd.int .i64) (w0 := w) w.heap.size (by rfl) (.tmp 35) (.tmp 41) 24 3 (.int .i64 0) 8 rfl Try.underlying24 info3 rfl (by decide) (by omega) u365001 x365001_2 (rd l0_1 x7_2) [.int .i64 (rd l0_1 x7_2)] (fun _ => True) (fun _ => False) rfl rfl ?aP (fun _ hk => hk.elim) ?aF ?aO ?aB ?aS ?aL ?_
          (case aP => exact rfl)
          (case aB => exact q7_1)
          (case aF => exact (fun _ _ => trivial))
          (case aO => exact q7_11)
          (case aS => exact (below_size q7_1))
          (case aL => have := LMc32.out; omega)
          intro v368 w37 ho hb hg hat
          rw [← Ny367.out] at ho
          have n0_ := Aside0.mk (blk_grown (g := gb360) (o := .cells #[.int .i64 a0_0, .slice (some ad366) l0_1.length c0_1] 26 (0, 0)) q7_8 hg (Kd.R_ne HO_365001.out BK360.out (by decide)))
          have n1_ := Aside0.mk (blk_grown (g := gb361) (o := .cells #[.int .i64 0, .slice none 0 0] 26 (0, 0)) q7_9 hg (Kd.R_ne HO_365001.out BK361.out (by decide)))
          have n2_ := Aside0.mk (blk_grown (g := gb364) (o := .cells #[.int .i64 a0_0, u365001] 26 (0, 0)) q7_10 hg (Kd.R_ne HO_365001.out BK364.out (by decide)))
          have n3_ := Aside0.mk (hb); have n4_ := Aside0.mk (ho); clear BK360; clear BK361; clear BK364; clear HB; clear HO_365001; have BK360 := n0_; have BK361 := n1_; have BK364 := n2_; have HB := n3_; have HO369 := n4_; clear n0_ n1_ n2_ n3_ n4_; clear ho hb hg hat; obtain ⟨Ao38, co38, eo38⟩ := Kd.R_slice HO369.out
          (first | subst eo38 | (injection eo38 with f1_ f2_ f3_; have f4_ := f1_.symm; have f5_ := f3_.symm; clear f1_ f2_ f3_; subst f4_; subst f5_))
          refine hK.out _ _ ⟨(blk_cell BK364.out 0).trans rfl, (blk_cell BK364.out 1).trans rfl, (blk_cell BK360.out 0).trans rfl, (blk_cell BK360.out 1).trans rfl, ((HB.out.cell (World.block_lt_of_cell? w _ hw366_0)).trans hw366_0)⟩ (fun hHeld => ?_)
          clear hK K
          refine norm_ (a' := ?_) ?_ ?_
          rotate_left
          ·
           show Act.put _ (some 42) _ = _
           simp only [Act.put, List.setIfInBounds_toArray, List.set_cons_zero, List.set_cons_succ, i64_w, i32_w]
           rfl
          refine pl_ 9 43 (tb_ 11 1023) ?_
          refine last_ (i := 10) (N := none) (tb_ 11 2047) rfl rfl (one_of HT_.out (by kernel_rfl)) (by decide) (fun K hK => ?_)
          have hs39 : w37.cell? ⟨gb364, 1, none⟩ = some (u365001) := (blk_cell BK364.out 1).trans rfl; have hfs39 := blk_frozen BK364.out 1; have hns39_0 := NB360_364.out; have hns39_1 := NB361_364.out; have hms39_0 := NB364_360.out; have hms39_1 := NB364_361.out
          refine skip_ (w1 := ?_) (by rfl) rfl ?_ ?_
          rotate_left
          ·
           go_simp
           rfl
          refine hK.out _ _ ?_
          clear hK K
          refine done_ (done_of HT_.out (by kernel_rfl)) ?_
          try go_wp2
          go_roundg k2
          case measure => have := HJ2.out; have := HK2.out; omega
          case rel => exact ⟨(wrap64 (x7_2 + 1)), (y367), (.slice Ao38 y367.length co38), s2_, H', ⟨by have := HJ2.out; have := HK2.out; omega⟩, ⟨(by (with_reducible repeat (first | apply Kd.R_alloc | apply Kd.R_drewN | apply Kd.R_drew)); exact Kd.R_mono (Kd.R_far (p := ⟨gb364, 1, none⟩) (Kd.R_types HO369.out BK364.out (by decide)) (fun _ hk => hk.2) (.slice Ao38 y367.length co38)) (fun _ hk => trivial))⟩, ⟨(by (with_reducible repeat (first | refine blk_drewN ?_ _ | refine blk_drew ?_ | refine blk_alloc ?_ _)); refine blk_far ?_ NB360_364.out _; (with_reducible repeat (first | refine blk_drewN ?_ _ | refine blk_drew ?_ | refine blk_alloc ?_ _)); exact BK360.out)⟩, ⟨(by (with_reducible repeat (first | refine blk_drewN ?_ _ | refine blk_drew ?_ | refine blk_alloc ?_ _)); refine blk_far ?_ NB361_364.out _; (with_reducible repeat (first | refine blk_drewN ?_ _ | refine blk_drew ?_ | refine blk_alloc ?_ _)); exact BK361.out)⟩, ⟨(by (with_reducible repeat (first | refine blk_drewN ?_ _ | refine blk_drew ?_ | refine blk_alloc ?_ _)); refine blk_put (cs := #[.int .i64 a0_0, u365001]) ?_ 1 _ rfl; (with_reducible repeat (first | refine blk_drewN ?_ _ | refine blk_drew ?_ | refine blk_alloc ?_ _)); exact BK364.out)⟩, ⟨q7_1⟩⟩
         ·
          rw [if_neg c32] at H
          exact absurd H (by simp)
        ·
         rw [if_neg c31] at H
         exact absurd H (by simp)
      ·
       rw [if_neg c25] at H; have c25b0 : decide (x7_2 < (l0_1.length : Int)) = false := decide_eq_false c25; clear c25
       simp only [Option.some.injEq, Prod.mk.injEq] at H
       obtain ⟨rfl, rfl, rfl⟩ := H; have hnb40 := NB360_361.out; have hnc40 := NB361_360.out; have hnb41 := NB360_364.out; have hnc41 := NB364_360.out; have hcz42_0 : wr.cell? ⟨gb360, 0, none⟩ = some (.int .i64 a0_0) := (blk_cell BK360.out 0).trans rfl; have hcz42_1 : wr.cell? ⟨gb360, 1, none⟩ = some (.slice A0_1 l0_1.length c0_1) := (blk_cell BK360.out 1).trans rfl; have hfz42_0 := blk_frozen BK360.out 0; have hfz42_1 := blk_frozen BK360.out 1; have hnb43 := NB364_361.out; have hnc43 := NB361_364.out; have hcz44_0 : wr.cell? ⟨gb364, 0, none⟩ = some (.int .i64 a0_0) := (blk_cell BK364.out 0).trans rfl; have hcz44_1 : wr.cell? ⟨gb364, 1, none⟩ = some (u365001) := (blk_cell BK364.out 1).trans rfl; have hfz44_0 := blk_frozen BK364.out 0; have hfz44_1 := blk_frozen BK364.out 1; have hcz45_0 : wr.cell? ⟨gb361, 0, none⟩ = some (.int .i64 0) := (blk_cell BK361.out 0).trans rfl; have hcz45_1 : wr.cell? ⟨gb361, 1, none⟩ = some (.slice none 0 0) := (blk_cell BK361.out 1).trans rfl
       have hfz45_0 := blk_frozen BK361.out 0; have hfz45_1 := blk_frozen BK361.out 1; obtain ⟨Ao46, co46, eo46⟩ := Kd.R_slice HO_365001.out; subst eo46
       go_wp2
       refine bodyPost_ret (results_ct rfl _ _ gb361 26 #[.int .i64 a0_0, .slice Ao46 x365001_2.length co46] (0, 0) _ rfl (by (with_reducible repeat (first | refine blk_drewN ?_ _ | refine blk_drew ?_ | refine blk_alloc ?_ _)); refine blk_put (cs := #[.int .i64 a0_0, .slice none 0 0]) ?_ 1 _ rfl; (with_reducible repeat (first | refine blk_drewN ?_ _ | refine blk_drew ?_ | refine blk_alloc ?_ _)); refine blk_put (cs := #[.int .i64 0, .slice none 0 0]) ?_ 0 _ rfl; (with_reducible repeat (first | refine blk_drewN ?_ _ | refine blk_drew ?_ | refine blk_alloc ?_ _)); exact BK361.out) Try.underlying26 rfl (by kernel_rfl)) rfl ?_
       exact ⟨_, (by first | rfl | (simp [errW_none, errW_some] <;> rfl) | (simp [*, errW_none, errW_some] <;> rfl)), (by (with_reducible repeat (first | apply Kd.R_alloc | apply Kd.R_drewN | apply Kd.R_drew)); exact Kd.R_mono (Kd.R_far (p := ⟨gb361, 1, none⟩) (Kd.R_far (p := ⟨gb361, 0, none⟩) (Kd.R_types HO_365001.out BK361.out (by decide)) (fun _ hk => hk.2) (.int .i64 a0_0)) (fun _ hk => hk.2) (.slice Ao46 x365001_2.length co46)) (fun _ hk => trivial)), q7_1⟩
theorem q7_14 {P : Prop} (h : P := by repeat (first | (with_reducible first | exact HB.out | apply below_alloc | apply pw_below_drewN | apply below_drew1 | refine below_set ?_ GE370.out) | exact HB.out)) : P := h
theorem q7_16 {P : Prop} (h : P := by (with_reducible repeat (first | refine blk_drewN ?_ _ | refine blk_drew ?_ | refine blk_alloc ?_ _)); exact BK370.out) : P := h
mutual
def spec_IsReducibleObject.j0 : Nat → Int → Bool → Int → List Int → Option (Bool)
 | 0, _, _, _, _ => none
 | k + 1, x1, x18, x371000, x371001 => if x18 = true then (some false) else ((spec_FullSet.f x371000).bind fun t373 => (spec_IsReducibleObject.l0 k x1 t373 0 x371000 x371001))
def spec_IsReducibleObject.l0 : Nat → Int → Int → Int → Int → List Int → Option (Bool)
 | 0, _, _, _, _, _ => none
 | k + 1, x1, x5, x6, x371000, x371001 => if x6 < (x371001.length : Int) then (if 0 ≤ x6 then (if 0 ≤ x1 then (if x1 < (x371001.length : Int) then (if (rd x371001 x6) = (rd x371001 x1) then (spec_IsReducibleObject.l0 k x1 x5 (wrap64 (x6 + 1)) x371000 x371001) else (if (Go.bits .and .i64 (rd x371001 x6) (rd x371001 x1)) = (rd x371001 x1) then (spec_IsReducibleObject.l0 k x1 (Go.bits .and .i64 x5 (rd x371001 x6)) (wrap64 (x6 + 1)) x371000 x371001) else (spec_IsReducibleObject.l0 k x1 x5 (wrap64 (x6 + 1)) x371000 x371001))) else (none)) else (none)) else (none)) else (if 0 ≤ x1 then (if x1 < (x371001.length : Int) then (some (x5 == (rd x371001 x1))) else (none)) else (none))
end
def spec_IsReducibleObject.f (k : Nat) (a0_0 : Int) (l0_1 : List Int) (a1 : Int) : Option (Bool) := (spec_IsContext.f k a0_0 l0_1).bind fun t371 => (if t371 = true then ((spec_l1In.f a1 0 (wrap64 ((l0_1.length : Int) - 1))).bind fun t372 => (spec_IsReducibleObject.j0 k a1 (!t372) a0_0 l0_1)) else (spec_IsReducibleObject.j0 k a1 true a0_0 l0_1))
set_option maxHeartbeats 8000000 in
set_option maxRecDepth 100000 in
theorem spec_IsReducibleObject.calls (k : Nat) (a0_0 : Int) (A0_1 : Option Addr) (c0_1 : Nat) (l0_1 : List Int) (a1 : Int) (r : Bool) (w : World) (hr0_1 : Kd.C (Kd.int .i64) w A0_1 l0_1.length l0_1) (hc0_1 : l0_1.length ≤ c0_1) (h : spec_IsReducibleObject.f k a0_0 l0_1 a1 = some r) :
  Calls Try.prog 37 #[.agg #[.int .i64 a0_0, .slice A0_1 l0_1.length c0_1], .int .i64 a1] w fun e w' => e = .returned (.bool r) ∧ Below w.heap.size w w' := by
 have hu26 := Try.underlying26; have HR0_1 := Aside0.mk hr0_1; have HC0_1 := Aside0.mk hc0_1; clear hr0_1 hc0_1; have HB := Aside0.mk (Below.refl w.heap.size w); have H := h; clear h; unfold spec_IsReducibleObject.f at H; have HC3 := Aside0.mk H; clear H
 go_enter Try.func37, Try.ntmps37
 go_upto_region 1 with (first | ((with_reducible refine gate_dst (N := 2) rfl ?_); (try (refine gate_guard (by rfl) ?_; dsimp only)); refine box_event ?hg (N := 2) ?hd (cs := #[.int .i64 a0_0, .slice A0_1 l0_1.length c0_1]) (t := 26) ?hr ?_; (case hd => rfl); (case hg => rfl); (case hr => first | (go_simp; done) | (go_simp; rfl)); intro gb370 hg w4 hbox hb; have n_ := ac_ (below_step s1_ hb) <| ac_ (hbox) <| ac_ ((gz_ w hg s1_)) <| Aside0.mk ((gz_ w hg s1_)); clear HB; obtain ⟨HB, BK370, GW370, GE370⟩ := n_; clear hb hbox hg))
 repeat (go_quiet (first | ((with_reducible refine gate_dst (N := 2) rfl ?_); (try (refine gate_guard (by rfl) ?_; dsimp only)); refine box_event ?hg (N := 2) ?hd (cs := #[.int .i64 a0_0, .slice A0_1 l0_1.length c0_1]) (t := 26) ?hr ?_; (case hd => rfl); (case hg => rfl); (case hr => first | (go_simp; done) | (go_simp; rfl)); intro gb370 hg w4 hbox hb; have n_ := ac_ (below_step s1_ hb) <| ac_ (hbox) <| ac_ ((gz_ w hg s1_)) <| Aside0.mk ((gz_ w hg s1_)); clear HB; obtain ⟨HB, BK370, GW370, GE370⟩ := n_; clear hb hbox hg)); go_upto_region 1 with (first | ((with_reducible refine gate_dst (N := 2) rfl ?_); (try (refine gate_guard (by rfl) ?_; dsimp only)); refine box_event ?hg (N := 2) ?hd (cs := #[.int .i64 a0_0, .slice A0_1 l0_1.length c0_1]) (t := 26) ?hr ?_; (case hd => rfl); (case hg => rfl); (case hr => first | (go_simp; done) | (go_simp; rfl)); intro gb370 hg w4 hbox hb; have n_ := ac_ (below_step s1_ hb) <| ac_ (hbox) <| ac_ ((gz_ w hg s1_)) <| Aside0.mk ((gz_ w hg s1_)); clear HB; obtain ⟨HB, BK370, GW370, GE370⟩ := n_; clear hb hbox hg)))
 (try simp only [Act.put, List.setIfInBounds_toArray, List.set_cons_zero, List.set_cons_succ])
 go_cut [18] (fun v18 wc => ∃ (kq : Nat) (x18_2 : Bool), v18 = .bool x18_2 ∧ Aside0 (spec_IsReducibleObject.j0 kq a1 x18_2 a0_0 l0_1 = some r) ∧ Aside0 (kq ≤ k) ∧ Aside0 (wc.heap[gb370]? = some (.cells #[.int .i64 a0_0, (.slice A0_1 l0_1.length c0_1)] 26 (0, 0))) ∧ Aside0 (Below w.heap.size w wc))
 case first =>
  have H := HC3.out; clear HC3; obtain ⟨t371, A5, H⟩ := bnd7_ H
  by_cases c6 : t371 = true
  ·
   subst c6; rw [if_pos rfl] at H; obtain ⟨t372, A7, H⟩ := bnd7_ H; have H' := Aside0.mk H; clear H; have hcz8_0 : w4.cell? ⟨gb370, 0, none⟩ = some (.int .i64 a0_0) := (blk_cell BK370.out 0).trans rfl; have hcz8_1 : w4.cell? ⟨gb370, 1, none⟩ = some (.slice A0_1 l0_1.length c0_1) := (blk_cell BK370.out 1).trans rfl; have hfz8_0 := blk_frozen BK370.out 0; have hfz8_1 := blk_frozen BK370.out 1
   go_wp2_with (first | (go_at_call 20; (with_reducible refine (spec_IsContext.calls k a0_0 _ _ l0_1 true _ ?side1 ?side2 A5.out).mono ?_); (case side1 => exact s3_); (case side2 => exact HC0_1.out); rintro e w9 ⟨rfl, hb⟩; have n_ := ac_ (blk_below (g := gb370) (o := .cells #[.int .i64 a0_0, .slice A0_1 l0_1.length c0_1] 26 (0, 0)) q7_16 hb) <| Aside0.mk (below_step q7_14 hb); clear BK370 HB; obtain ⟨BK370, HB⟩ := n_; (try clear hb); have hcz10_0 : w9.cell? ⟨gb370, 0, none⟩ = some (.int .i64 a0_0) := (blk_cell BK370.out 0).trans rfl; have hcz10_1 : w9.cell? ⟨gb370, 1, none⟩ = some (.slice A0_1 l0_1.length c0_1) := (blk_cell BK370.out 1).trans rfl; have hfz10_0 := blk_frozen BK370.out 0; have hfz10_1 := blk_frozen BK370.out 1) | (go_at_call 53; (with_reducible refine (spec_l1In.calls a1 0 (wrap64 ((l0_1.length : Int) - 1)) t372 _ A7.out).mono ?_); rintro e w' ⟨rfl, ⟨nd, rfl⟩⟩; (try first | exact ⟨rfl, _, World.drewN_drewN _ _ _⟩ | exact ⟨rfl, _, Eq.trans (World.drewN_drewN _ _ _) (congrArg (World.drewN _) (Nat.add_assoc _ _ _))⟩)))
   repeat (go_quiet (first | (go_at_call 20; (with_reducible refine (spec_IsContext.calls k a0_0 _ _ l0_1 true _ ?side1 ?side2 A5.out).mono ?_); (case side1 => exact s3_); (case side2 => exact HC0_1.out); rintro e w9 ⟨rfl, hb⟩; have n_ := ac_ (blk_below (g := gb370) (o := .cells #[.int .i64 a0_0, .slice A0_1 l0_1.length c0_1] 26 (0, 0)) q7_16 hb) <| Aside0.mk (below_step q7_14 hb); clear BK370 HB; obtain ⟨BK370, HB⟩ := n_; (try clear hb); have hcz10_0 : w9.cell? ⟨gb370, 0, none⟩ = some (.int .i64 a0_0) := (blk_cell BK370.out 0).trans rfl; have hcz10_1 : w9.cell? ⟨gb370, 1, none⟩ = some (.slice A0_1 l0_1.length c0_1) := (blk_cell BK370.out 1).trans rfl; have hfz10_0 := blk_frozen BK370.out 0; have hfz10_1 := blk_frozen BK370.out 1) | (go_at_call 53; (with_reducible refine (spec_l1In.calls a1 0 (wrap64 ((l0_1.length : Int) - 1)) t372 _ A7.out).mono ?_); rintro e w' ⟨rfl, ⟨nd, rfl⟩⟩; (try first | exact ⟨rfl, _, World.drewN_drewN _ _ _⟩ | exact ⟨rfl, _, Eq.trans (World.drewN_drewN _ _ _) (congrArg (World.drewN _) (Nat.add_assoc _ _ _))⟩))); try go_wp2_with (first | (go_at_call 20; (with_reducible refine (spec_IsContext.calls k a0_0 _ _ l0_1 true _ ?side1 ?side2 A5.out).mono ?_); (case side1 => exact s3_); (case side2 => exact HC0_1.out); rintro e w9 ⟨rfl, hb⟩; have n_ := ac_ (blk_below (g := gb370) (o := .cells #[.int .i64 a0_0, .slice A0_1 l0_1.length c0_1] 26 (0, 0)) q7_16 hb) <| Aside0.mk (below_step q7_14 hb); clear BK370 HB; obtain ⟨BK370, HB⟩ := n_; (try clear hb); have hcz10_0 : w9.cell? ⟨gb370, 0, none⟩ = some (.int .i64 a0_0) := (blk_cell BK370.out 0).trans rfl; have hcz10_1 : w9.cell? ⟨gb370, 1, none⟩ = some (.slice A0_1 l0_1.length c0_1) := (blk_cell BK370.out 1).trans rfl; have hfz10_0 := blk_frozen BK370.out 0; have hfz10_1 := blk_frozen BK370.out 1) | (go_at_call 53; (with_reducible refine (spec_l1In.calls a1 0 (wrap64 ((l0_1.length : Int) - 1)) t372 _ A7.out).mono ?_); rintro e w' ⟨rfl, ⟨nd, rfl⟩⟩; (try first | exact ⟨rfl, _, World.drewN_drewN _ _ _⟩ | exact ⟨rfl, _, Eq.trans (World.drewN_drewN _ _ _) (congrArg (World.drewN _) (Nat.add_assoc _ _ _))⟩))))
   go_meet
   case rel => exact ⟨_, (!t372), s2_, H', ⟨(by first | omega | exact Nat.le_refl _)⟩, ⟨q7_16⟩, ⟨q7_14⟩⟩
  ·
   replace c6 := Bool.eq_false_iff.mpr c6; subst c6
   rw [if_neg (show ¬ (false = true) by decide)] at H
   have H' := Aside0.mk H; clear H; have hcz11_0 : w4.cell? ⟨gb370, 0, none⟩ = some (.int .i64 a0_0) := (blk_cell BK370.out 0).trans rfl; have hcz11_1 : w4.cell? ⟨gb370, 1, none⟩ = some (.slice A0_1 l0_1.length c0_1) := (blk_cell BK370.out 1).trans rfl; have hfz11_0 := blk_frozen BK370.out 0; have hfz11_1 := blk_frozen BK370.out 1
   go_wp2_with (first | (go_at_call 20; (with_reducible refine (spec_IsContext.calls k a0_0 _ _ l0_1 false _ ?side1 ?side2 A5.out).mono ?_); (case side1 => exact s3_); (case side2 => exact HC0_1.out); rintro e w12 ⟨rfl, hb⟩; have n_ := ac_ (blk_below (g := gb370) (o := .cells #[.int .i64 a0_0, .slice A0_1 l0_1.length c0_1] 26 (0, 0)) q7_16 hb) <| Aside0.mk (below_step q7_14 hb); clear BK370 HB; obtain ⟨BK370, HB⟩ := n_; (try clear hb)))
   repeat (go_quiet (first | (go_at_call 20; (with_reducible refine (spec_IsContext.calls k a0_0 _ _ l0_1 false _ ?side1 ?side2 A5.out).mono ?_); (case side1 => exact s3_); (case side2 => exact HC0_1.out); rintro e w12 ⟨rfl, hb⟩; have n_ := ac_ (blk_below (g := gb370) (o := .cells #[.int .i64 a0_0, .slice A0_1 l0_1.length c0_1] 26 (0, 0)) q7_16 hb) <| Aside0.mk (below_step q7_14 hb); clear BK370 HB; obtain ⟨BK370, HB⟩ := n_; (try clear hb))); try go_wp2_with (first | (go_at_call 20; (with_reducible refine (spec_IsContext.calls k a0_0 _ _ l0_1 false _ ?side1 ?side2 A5.out).mono ?_); (case side1 => exact s3_); (case side2 => exact HC0_1.out); rintro e w12 ⟨rfl, hb⟩; have n_ := ac_ (blk_below (g := gb370) (o := .cells #[.int .i64 a0_0, .slice A0_1 l0_1.length c0_1] 26 (0, 0)) q7_16 hb) <| Aside0.mk (below_step q7_14 hb); clear BK370 HB; obtain ⟨BK370, HB⟩ := n_; (try clear hb))))
   go_meet
   case rel => exact ⟨_, (true), s2_, H', ⟨(by first | omega | exact Nat.le_refl _)⟩, ⟨q7_16⟩, ⟨q7_14⟩⟩
 case rest =>
  clear HC3
  try clear p2
  try clear c3
  try clear c6
  try clear p6
  try clear hcz10_0
  try clear hcz10_1
  try clear hcz11_0
  try clear hcz11_1
  try clear hcz8_0
  try clear hcz8_1
  try clear hfz10_0
  try clear hfz10_1
  try clear hfz11_0
  try clear hfz11_1
  try clear hfz8_0
  try clear hfz8_1
  obtain ⟨kq, x18_2, rfl, HA, HJ2, BK370, HB⟩ := hcut
  cases kq with
  | zero => exact absurd HA.out (by simp [spec_IsReducibleObject.j0])
  | succ kj2 =>
   have H := HA.out; clear HA
   simp only [spec_IsReducibleObject.j0] at H
   by_cases c13 : x18_2 = true
   ·
    subst c13; rw [if_pos rfl] at H; obtain rfl := Option.some.inj H
    go_wp2
    repeat (go_quiet (fail); try go_wp2)
    go_ret
    exact ⟨(by first | rfl | (simp [errW_none, errW_some] <;> rfl) | (simp [*, errW_none, errW_some] <;> rfl)), q7_14⟩
   ·
    replace c13 := Bool.eq_false_iff.mpr c13; subst c13
    rw [if_neg (show ¬ (false = true) by decide)] at H
    obtain ⟨t373, A14, H⟩ := bnd7_ H; have H' := Aside0.mk H; clear H; have hcz15_0 : wc.cell? ⟨gb370, 0, none⟩ = some (.int .i64 a0_0) := (blk_cell BK370.out 0).trans rfl; have hcz15_1 : wc.cell? ⟨gb370, 1, none⟩ = some (.slice A0_1 l0_1.length c0_1) := (blk_cell BK370.out 1).trans rfl; have hfz15_0 := blk_frozen BK370.out 0; have hfz15_1 := blk_frozen BK370.out 1
    go_wp2_with (first | (go_at_call 70; (with_reducible refine (spec_FullSet.calls a0_0 t373 _ A14.out).mono ?_); rintro e w' ⟨rfl, ⟨nd, rfl⟩⟩; (try first | exact ⟨rfl, _, World.drewN_drewN _ _ _⟩ | exact ⟨rfl, _, Eq.trans (World.drewN_drewN _ _ _) (congrArg (World.drewN _) (Nat.add_assoc _ _ _))⟩)))
    repeat (go_quiet (first | (go_at_call 70; (with_reducible refine (spec_FullSet.calls a0_0 t373 _ A14.out).mono ?_); rintro e w' ⟨rfl, ⟨nd, rfl⟩⟩; (try first | exact ⟨rfl, _, World.drewN_drewN _ _ _⟩ | exact ⟨rfl, _, Eq.trans (World.drewN_drewN _ _ _) (congrArg (World.drewN _) (Nat.add_assoc _ _ _))⟩))); try go_wp2_with (first | (go_at_call 70; (with_reducible refine (spec_FullSet.calls a0_0 t373 _ A14.out).mono ?_); rintro e w' ⟨rfl, ⟨nd, rfl⟩⟩; (try first | exact ⟨rfl, _, World.drewN_drewN _ _ _⟩ | exact ⟨rfl, _, Eq.trans (World.drewN_drewN _ _ _) (congrArg (World.drewN _) (Nat.add_assoc _ _ _))⟩))))
    go_loopg [5, 6] kj2 (fun kq v5 v6 w' => ∃ (x5_2 : Int) (x6_2 : Int), v5 = .int .i64 x5_2 ∧ v6 = .int .i64 x6_2 ∧ Aside0 (spec_IsReducibleObject.l0 kq a1 x5_2 x6_2 a0_0 l0_1 = some r) ∧ Aside0 (kq ≤ kj2) ∧ Aside0 (w'.heap[gb370]? = some (.cells #[.int .i64 a0_0, (.slice A0_1 l0_1.length c0_1)] 26 (0, 0))) ∧ Aside0 (Below w.heap.size w w'))
    case atStart => exact ⟨(t373), (0), s2_, s2_, H', ⟨Nat.le_refl _⟩, ⟨q7_16⟩, ⟨q7_14⟩⟩
    case round =>
     clear H'
     try clear c1
     try clear p2
     try clear c3
     try clear c6
     try clear p6
     try clear c13
     try clear hcz10_0
     try clear hcz10_1
     try clear hcz11_0
     try clear hcz11_1
     try clear hcz15_0
     try clear hcz15_1
     try clear hcz8_0
     try clear hcz8_1
     try clear hfz10_0
     try clear hfz10_1
     try clear hfz11_0
     try clear hfz11_1
     try clear hfz15_0
     try clear hfz15_1
     try clear hfz8_0
     try clear hfz8_1
     try clear p2
     try clear p6
     obtain ⟨x5_2, x6_2, rfl, rfl, HA, HK2, BK370, HB⟩ := hrel
     cases gk with
     | zero => exact absurd HA.out (by simp [spec_IsReducibleObject.l0])
     | succ k2 =>
      have H := HA.out; clear HA
      simp only [spec_IsReducibleObject.l0] at H
      by_cases c16 : x6_2 < (l0_1.length : Int)
      ·
       rw [if_pos c16] at H; have c16b0 : decide (x6_2 < (l0_1.length : Int)) = true := decide_eq_true c16; clear c16
       by_cases c17 : 0 ≤ x6_2
       ·
        rw [if_pos c17] at H; have c17b0 : decide (0 ≤ x6_2) = true := decide_eq_true c17; clear c17
        by_cases c18 : 0 ≤ a1
        ·
         rw [if_pos c18] at H; have c18b0 : decide (0 ≤ a1) = true := decide_eq_true c18; clear c18
         by_cases c19 : a1 < (l0_1.length : Int)
         ·
          rw [if_pos c19] at H; have c19b0 : decide (a1 < (l0_1.length : Int)) = true := decide_eq_true c19; clear c19
          by_cases c20 : (rd l0_1 x6_2) = (rd l0_1 a1)
          ·
           rw [if_pos c20] at H; have c20b0 : ((rd l0_1 x6_2) == (rd l0_1 a1)) = true := beq_iff_eq.mpr c20; have c20b1 : ((rd l0_1 x6_2) != (rd l0_1 a1)) = false := bne_eq_false_iff_eq.mpr c20; clear c20; have H' := Aside0.mk H; clear H; have hcz21_0 : wr.cell? ⟨gb370, 0, none⟩ = some (.int .i64 a0_0) := (blk_cell BK370.out 0).trans rfl; have hcz21_1 : wr.cell? ⟨gb370, 1, none⟩ = some (.slice A0_1 l0_1.length c0_1) := (blk_cell BK370.out 1).trans rfl; have hfz21_0 := blk_frozen BK370.out 0; have hfz21_1 := blk_frozen BK370.out 1; have p374 : 0 ≤ (x6_2 : Int) := of_decide_eq_true s4_; have q374 : x6_2 < (l0_1.length : Int) := of_decide_eq_true s4_; obtain ⟨ad374, e374, hx374_0⟩ := Kd.at_int HR0_1.out x6_2 p374 q374
           cases e374
           replace hx374_0 := (HB.out.cell (World.block_lt_of_cell? w _ hx374_0)).trans hx374_0; replace p374 := eq_true p374; replace q374 := eq_true q374; have p375 : 0 ≤ (a1 : Int) := of_decide_eq_true s4_; have q375 : a1 < (l0_1.length : Int) := of_decide_eq_true s4_; obtain ⟨ad375, e375, hx375_0⟩ := Kd.at_int HR0_1.out a1 p375 q375
           obtain rfl : ad374 = ad375 := (by injection e375)
           replace hx375_0 := (HB.out.cell (World.block_lt_of_cell? w _ hx375_0)).trans hx375_0; replace p375 := eq_true p375; replace q375 := eq_true q375
           go_wp2
           repeat (go_quiet (fail); try go_wp2)
           go_roundg k2
           case measure => have := HJ2.out; have := HK2.out; omega
           case rel => exact ⟨(x5_2), (wrap64 (x6_2 + 1)), s2_, s2_, H', ⟨by have := HJ2.out; have := HK2.out; omega⟩, ⟨q7_16⟩, ⟨q7_14⟩⟩
          ·
           rw [if_neg c20] at H; have c20b0 : ((rd l0_1 x6_2) == (rd l0_1 a1)) = false := beq_eq_false_iff_ne.mpr c20; have c20b1 : ((rd l0_1 x6_2) != (rd l0_1 a1)) = true := bne_iff_ne.mpr c20
           by_cases c22 : (Go.bits .and .i64 (rd l0_1 x6_2) (rd l0_1 a1)) = (rd l0_1 a1)
           ·
            rw [if_pos c22] at H; have c22b0 : ((Go.bits .and .i64 (rd l0_1 x6_2) (rd l0_1 a1)) == (rd l0_1 a1)) = true := beq_iff_eq.mpr c22; have c22b1 : ((Go.bits .and .i64 (rd l0_1 x6_2) (rd l0_1 a1)) != (rd l0_1 a1)) = false := bne_eq_false_iff_eq.mpr c22; clear c22; have H' := Aside0.mk H; clear H; have hcz23_0 : wr.cell? ⟨gb370, 0, none⟩ = some (.int .i64 a0_0) := (blk_cell BK370.out 0).trans rfl; have hcz23_1 : wr.cell? ⟨gb370, 1, none⟩ = some (.slice A0_1 l0_1.length c0_1) := (blk_cell BK370.out 1).trans rfl; have hfz23_0 := blk_frozen BK370.out 0; have hfz23_1 := blk_frozen BK370.out 1; have p374 : 0 ≤ (x6_2 : Int) := of_decide_eq_true s4_; have q374 : x6_2 < (l0_1.length : Int) := of_decide_eq_true s4_; obtain ⟨ad374, e374, hx374_0⟩ := Kd.at_int HR0_1.out x6_2 p374 q374
            cases e374
            replace hx374_0 := (HB.out.cell (World.block_lt_of_cell? w _ hx374_0)).trans hx374_0; replace p374 := eq_true p374; replace q374 := eq_true q374; have p375 : 0 ≤ (a1 : Int) := of_decide_eq_true s4_; have q375 : a1 < (l0_1.length : Int) := of_decide_eq_true s4_; obtain ⟨ad375, e375, hx375_0⟩ := Kd.at_int HR0_1.out a1 p375 q375
            obtain rfl : ad374 = ad375 := (by injection e375)
            replace hx375_0 := (HB.out.cell (World.block_lt_of_cell? w _ hx375_0)).trans hx375_0; replace p375 := eq_true p375; replace q375 := eq_true q375; have p376 : 0 ≤ (x6_2 : Int) := of_decide_eq_true s4_; have q376 : x6_2 < (l0_1.length : Int) := of_decide_eq_true s4_; obtain ⟨ad376, e376, hx376_0⟩ := Kd.at_int HR0_1.out x6_2 p376 q376
            obtain rfl : ad374 = ad376 := (by injection e376)
            replace hx376_0 := (HB.out.cell (World.block_lt_of_cell? w _ hx376_0)).trans hx376_0; replace p376 := eq_true p376; replace q376 := eq_true q376; have p377 : 0 ≤ (a1 : Int) := of_decide_eq_true s4_; have q377 : a1 < (l0_1.length : Int) := of_decide_eq_true s4_; obtain ⟨ad377, e377, hx377_0⟩ := Kd.at_int HR0_1.out a1 p377 q377
            obtain rfl : ad374 = ad377 := (by injection e377)
            replace hx377_0 := (HB.out.cell (World.block_lt_of_cell? w _ hx377_0)).trans hx377_0; replace p377 := eq_true p377; replace q377 := eq_true q377; have p378 : 0 ≤ (a1 : Int) := of_decide_eq_true s4_; have q378 : a1 < (l0_1.length : Int) := of_decide_eq_true s4_; obtain ⟨ad378, e378, hx378_0⟩ := Kd.at_int HR0_1.out a1 p378 q378
            obtain rfl : ad374 = ad378 := (by injection e378)
            replace hx378_0 := (HB.out.cell (World.block_lt_of_cell? w _ hx378_0)).trans hx378_0; replace p378 := eq_true p378; replace q378 := eq_true q378; have p379 : 0 ≤ (x6_2 : Int) := of_decide_eq_true s4_; have q379 : x6_2 < (l0_1.length : Int) := of_decide_eq_true s4_; obtain ⟨ad379, e379, hx379_0⟩ := Kd.at_int HR0_1.out x6_2 p379 q379
            obtain rfl : ad374 = ad379 := (by injection e379)
            replace hx379_0 := (HB.out.cell (World.block_lt_of_cell? w _ hx379_0)).trans hx379_0; replace p379 := eq_true p379; replace q379 := eq_true q379
            go_wp2
            repeat (go_quiet (fail); try go_wp2)
            go_roundg k2
            case measure => have := HJ2.out; have := HK2.out; omega
            case rel => exact ⟨(Go.bits .and .i64 x5_2 (rd l0_1 x6_2)), (wrap64 (x6_2 + 1)), s2_, s2_, H', ⟨by have := HJ2.out; have := HK2.out; omega⟩, ⟨q7_16⟩, ⟨q7_14⟩⟩
           ·
            rw [if_neg c22] at H; have c22b0 : ((Go.bits .and .i64 (rd l0_1 x6_2) (rd l0_1 a1)) == (rd l0_1 a1)) = false := beq_eq_false_iff_ne.mpr c22; have c22b1 : ((Go.bits .and .i64 (rd l0_1 x6_2) (rd l0_1 a1)) != (rd l0_1 a1)) = true := bne_iff_ne.mpr c22; have H' := Aside0.mk H; clear H; have hcz24_0 : wr.cell? ⟨gb370, 0, none⟩ = some (.int .i64 a0_0) := (blk_cell BK370.out 0).trans rfl; have hcz24_1 : wr.cell? ⟨gb370, 1, none⟩ = some (.slice A0_1 l0_1.length c0_1) := (blk_cell BK370.out 1).trans rfl; have hfz24_0 := blk_frozen BK370.out 0; have hfz24_1 := blk_frozen BK370.out 1; have p374 : 0 ≤ (x6_2 : Int) := of_decide_eq_true s4_; have q374 : x6_2 < (l0_1.length : Int) := of_decide_eq_true s4_; obtain ⟨ad374, e374, hx374_0⟩ := Kd.at_int HR0_1.out x6_2 p374 q374
            cases e374
            replace hx374_0 := (HB.out.cell (World.block_lt_of_cell? w _ hx374_0)).trans hx374_0; replace p374 := eq_true p374; replace q374 := eq_true q374; have p375 : 0 ≤ (a1 : Int) := of_decide_eq_true s4_; have q375 : a1 < (l0_1.length : Int) := of_decide_eq_true s4_; obtain ⟨ad375, e375, hx375_0⟩ := Kd.at_int HR0_1.out a1 p375 q375
            obtain rfl : ad374 = ad375 := (by injection e375)
            replace hx375_0 := (HB.out.cell (World.block_lt_of_cell? w _ hx375_0)).trans hx375_0; replace p375 := eq_true p375; replace q375 := eq_true q375; have p376 : 0 ≤ (x6_2 : Int) := of_decide_eq_true s4_; have q376 : x6_2 < (l0_1.length : Int) := of_decide_eq_true s4_; obtain ⟨ad376, e376, hx376_0⟩ := Kd.at_int HR0_1.out x6_2 p376 q376
            obtain rfl : ad374 = ad376 := (by injection e376)
            replace hx376_0 := (HB.out.cell (World.block_lt_of_cell? w _ hx376_0)).trans hx376_0; replace p376 := eq_true p376; replace q376 := eq_true q376; have p377 : 0 ≤ (a1 : Int) := of_decide_eq_true s4_; have q377 : a1 < (l0_1.length : Int) := of_decide_eq_true s4_; obtain ⟨ad377, e377, hx377_0⟩ := Kd.at_int HR0_1.out a1 p377 q377
            obtain rfl : ad374 = ad377 := (by injection e377)
            replace hx377_0 := (HB.out.cell (World.block_lt_of_cell? w _ hx377_0)).trans hx377_0; replace p377 := eq_true p377; replace q377 := eq_true q377; have p378 : 0 ≤ (a1 : Int) := of_decide_eq_true s4_; have q378 : a1 < (l0_1.length : Int) := of_decide_eq_true s4_; obtain ⟨ad378, e378, hx378_0⟩ := Kd.at_int HR0_1.out a1 p378 q378
            obtain rfl : ad374 = ad378 := (by injection e378)
            replace hx378_0 := (HB.out.cell (World.block_lt_of_cell? w _ hx378_0)).trans hx378_0; replace p378 := eq_true p378; replace q378 := eq_true q378
            go_wp2
            repeat (go_quiet (fail); try go_wp2)
            go_roundg k2
            case measure => have := HJ2.out; have := HK2.out; omega
            case rel => exact ⟨(x5_2), (wrap64 (x6_2 + 1)), s2_, s2_, H', ⟨by have := HJ2.out; have := HK2.out; omega⟩, ⟨q7_16⟩, ⟨q7_14⟩⟩
         ·
          rw [if_neg c19] at H
          exact absurd H (by simp)
        ·
         rw [if_neg c18] at H
         exact absurd H (by simp)
       ·
        rw [if_neg c17] at H
        exact absurd H (by simp)
      ·
       rw [if_neg c16] at H; have c16b0 : decide (x6_2 < (l0_1.length : Int)) = false := decide_eq_false c16; clear c16
       by_cases c25 : 0 ≤ a1
       ·
        rw [if_pos c25] at H; have c25b0 : decide (0 ≤ a1) = true := decide_eq_true c25; clear c25
        by_cases c26 : a1 < (l0_1.length : Int)
        ·
         rw [if_pos c26] at H; have c26b0 : decide (a1 < (l0_1.length : Int)) = true := decide_eq_true c26; clear c26; obtain rfl := Option.some.inj H; have hcz27_0 : wr.cell? ⟨gb370, 0, none⟩ = some (.int .i64 a0_0) := (blk_cell BK370.out 0).trans rfl; have hcz27_1 : wr.cell? ⟨gb370, 1, none⟩ = some (.slice A0_1 l0_1.length c0_1) := (blk_cell BK370.out 1).trans rfl; have hfz27_0 := blk_frozen BK370.out 0; have hfz27_1 := blk_frozen BK370.out 1; have p380 : 0 ≤ (a1 : Int) := of_decide_eq_true s4_; have q380 : a1 < (l0_1.length : Int) := of_decide_eq_true s4_; obtain ⟨ad380, e380, hx380_0⟩ := Kd.at_int HR0_1.out a1 p380 q380
         cases e380
         replace hx380_0 := (HB.out.cell (World.block_lt_of_cell? w _ hx380_0)).trans hx380_0; replace p380 := eq_true p380; replace q380 := eq_true q380
         go_wp2
         repeat (go_quiet (fail); try go_wp2)
         go_ret
         exact ⟨(by first | rfl | (simp [errW_none, errW_some] <;> rfl) | (simp [*, errW_none, errW_some] <;> rfl)), q7_14⟩
        ·
         rw [if_neg c26] at H
         exact absurd H (by simp)
       ·
        rw [if_neg c25] at H
        exact absurd H (by simp)
end Go.Proofs.Ytafnamchckehmaa.Pr
namespace Go.Proofs.Ytafnamchckehmaa.Pr
open Go.RowKit Go.Proofs.YtafnamchckehmaaW.PrintWords Go.Proofs.YtafnamchckehmaaW.PrintLast Go.Proofs.YtafnamchckehmaaW.PrintMore
attribute [local go_sem] max2_int min2_int max_two min_two max_three min_three max_four min_four
set_option linter.unusedVariables false
set_option linter.unusedSimpArgs false
theorem bnd8_ {α β : Type} {o : Option α} {f : α → Option β} {r : β} (h : o.bind f = some r) : ∃ a, Aside0 (o = some a) ∧ f a = some r := by
 obtain ⟨a, h1, h2⟩ := Option.bind_eq_some_iff.mp h
 exact ⟨a, ⟨h1⟩, h2⟩
theorem q8_2 {P : Prop} (h : P := by repeat (first | (with_reducible first | exact HB.out | apply below_alloc | apply pw_below_drewN | apply below_drew1 | refine below_set ?_ GE381.out) | exact HB.out)) : P := h
theorem q8_5 {P : Prop} (h : P := by (with_reducible repeat (first | refine blk_drewN ?_ _ | refine blk_drew ?_ | refine blk_alloc ?_ _)); exact BK381.out) : P := h
mutual
def spec_IsReducibleAttribute.j0 : Nat → Int → Bool → Int → List Int → Option (Bool)
 | 0, _, _, _, _ => none
 | k + 1, x1, x19, x382000, x382001 => if x19 = true then (some false) else ((spec_l3Column.f k x382000 x382001 x1).bind fun t384 => ((spec_FullSet.f (x382001.length : Int)).bind fun t385 => (spec_IsReducibleAttribute.l0 k t384 t385 0 x382000 x382001)))
def spec_IsReducibleAttribute.l0 : Nat → Int → Int → Int → Int → List Int → Option (Bool)
 | 0, _, _, _, _, _ => none
 | k + 1, x5, x6, x7, x382000, x382001 => if x7 < x382000 then ((spec_l3Column.f k x382000 x382001 x7).bind fun t386 => (if t386 = x5 then (spec_IsReducibleAttribute.l0 k x5 x6 (wrap64 (x7 + 1)) x382000 x382001) else (if (Go.bits .and .i64 t386 x5) = x5 then (spec_IsReducibleAttribute.l0 k x5 (Go.bits .and .i64 x6 t386) (wrap64 (x7 + 1)) x382000 x382001) else (spec_IsReducibleAttribute.l0 k x5 x6 (wrap64 (x7 + 1)) x382000 x382001)))) else (some (x6 == x5))
end
def spec_IsReducibleAttribute.f (k : Nat) (a0_0 : Int) (l0_1 : List Int) (a1 : Int) : Option (Bool) := (spec_IsContext.f k a0_0 l0_1).bind fun t382 => (if t382 = true then ((spec_l1In.f a1 0 (wrap64 (a0_0 - 1))).bind fun t383 => (spec_IsReducibleAttribute.j0 k a1 (!t383) a0_0 l0_1)) else (spec_IsReducibleAttribute.j0 k a1 true a0_0 l0_1))
set_option maxHeartbeats 8000000 in
set_option maxRecDepth 100000 in
theorem spec_IsReducibleAttribute.calls (k : Nat) (a0_0 : Int) (A0_1 : Option Addr) (c0_1 : Nat) (l0_1 : List Int) (a1 : Int) (r : Bool) (w : World) (hr0_1 : Kd.C (Kd.int .i64) w A0_1 l0_1.length l0_1) (hc0_1 : l0_1.length ≤ c0_1) (h : spec_IsReducibleAttribute.f k a0_0 l0_1 a1 = some r) :
  Calls Try.prog 39 #[.agg #[.int .i64 a0_0, .slice A0_1 l0_1.length c0_1], .int .i64 a1] w fun e w' => e = .returned (.bool r) ∧ Below w.heap.size w w' := by
 have hu26 := Try.underlying26; have HR0_1 := Aside0.mk hr0_1; have HC0_1 := Aside0.mk hc0_1; clear hr0_1 hc0_1; have HB := Aside0.mk (Below.refl w.heap.size w); have H := h; clear h; unfold spec_IsReducibleAttribute.f at H; have HC3 := Aside0.mk H; clear H
 go_enter Try.func39, Try.ntmps39
 go_upto_region 1 with (first | (refine be_ 2 #[.int .i64 a0_0, .slice A0_1 l0_1.length c0_1] 26 ?_; intro gb381 hg w4 hbox hb; have n_ := ac_ (below_step s1_ hb) <| ac_ (hbox) <| ac_ ((gz_ w hg s1_)) <| Aside0.mk ((gz_ w hg s1_)); clear HB; obtain ⟨HB, BK381, GW381, GE381⟩ := n_; clear hb hbox hg))
 (try simp only [Act.put, List.setIfInBounds_toArray, List.set_cons_zero, List.set_cons_succ])
 go_cut [19] (fun v19 wc => ∃ (kq : Nat) (x19_2 : Bool), v19 = .bool x19_2 ∧ Aside0 (spec_IsReducibleAttribute.j0 kq a1 x19_2 a0_0 l0_1 = some r) ∧ Aside0 (kq ≤ k) ∧ Aside0 (wc.heap[gb381]? = some (.cells #[.int .i64 a0_0, (.slice A0_1 l0_1.length c0_1)] 26 (0, 0))) ∧ Aside0 (Below w.heap.size w wc))
 case first =>
  have H := HC3.out; clear HC3; obtain ⟨t382, A5, H⟩ := bnd8_ H
  by_cases c6 : t382 = true
  ·
   subst c6; rw [if_pos rfl] at H; obtain ⟨t383, A7, H⟩ := bnd8_ H; have H' := Aside0.mk H; clear H; have hcz8_0 : w4.cell? ⟨gb381, 0, none⟩ = some (.int .i64 a0_0) := (blk_cell BK381.out 0).trans rfl; have hcz8_1 : w4.cell? ⟨gb381, 1, none⟩ = some (.slice A0_1 l0_1.length c0_1) := (blk_cell BK381.out 1).trans rfl; have hfz8_0 := blk_frozen BK381.out 0; have hfz8_1 := blk_frozen BK381.out 1
   go_wp2_with (first | (refine gL_ 20 10 Try.func20 #[.agg #[.int .i64 a0_0, .slice A0_1 l0_1.length c0_1]] ?_; (with_reducible refine (spec_IsContext.calls k a0_0 _ _ l0_1 true _ ?side1 ?side2 A5.out).mono ?_); (case side1 => exact s3_); (case side2 => exact HC0_1.out); rintro e w9 ⟨rfl, hb⟩; refine ⟨_, rfl, ?_⟩; have n_ := ac_ (blk_below (g := gb381) (o := .cells #[.int .i64 a0_0, .slice A0_1 l0_1.length c0_1] 26 (0, 0)) q8_5 hb) <| Aside0.mk (below_step q8_2 hb); clear BK381 HB; obtain ⟨BK381, HB⟩ := n_; (try clear hb); have hcz10_0 : w9.cell? ⟨gb381, 0, none⟩ = some (.int .i64 a0_0) := (blk_cell BK381.out 0).trans rfl; have hcz10_1 : w9.cell? ⟨gb381, 1, none⟩ = some (.slice A0_1 l0_1.length c0_1) := (blk_cell BK381.out 1).trans rfl; have hfz10_0 := blk_frozen BK381.out 0; have hfz10_1 := blk_frozen BK381.out 1) | (go_at_call 53; (with_reducible refine (spec_l1In.calls a1 0 (wrap64 (a0_0 - 1)) t383 _ A7.out).mono ?_); rintro e w' ⟨rfl, ⟨nd, rfl⟩⟩))
   go_meet
   case rel => exact ⟨_, (!t383), s2_, H', ⟨(by first | omega | exact Nat.le_refl _)⟩, ⟨q8_5⟩, ⟨q8_2⟩⟩
  ·
   replace c6 := Bool.eq_false_iff.mpr c6; subst c6
   rw [if_neg (show ¬ (false = true) by decide)] at H
   have H' := Aside0.mk H; clear H; have hcz11_0 : w4.cell? ⟨gb381, 0, none⟩ = some (.int .i64 a0_0) := (blk_cell BK381.out 0).trans rfl; have hcz11_1 : w4.cell? ⟨gb381, 1, none⟩ = some (.slice A0_1 l0_1.length c0_1) := (blk_cell BK381.out 1).trans rfl; have hfz11_0 := blk_frozen BK381.out 0; have hfz11_1 := blk_frozen BK381.out 1
   go_wp2_with (first | (refine gL_ 20 10 Try.func20 #[.agg #[.int .i64 a0_0, .slice A0_1 l0_1.length c0_1]] ?_; (with_reducible refine (spec_IsContext.calls k a0_0 _ _ l0_1 false _ ?side1 ?side2 A5.out).mono ?_); (case side1 => exact s3_); (case side2 => exact HC0_1.out); rintro e w12 ⟨rfl, hb⟩; refine ⟨_, rfl, ?_⟩; have n_ := ac_ (blk_below (g := gb381) (o := .cells #[.int .i64 a0_0, .slice A0_1 l0_1.length c0_1] 26 (0, 0)) q8_5 hb) <| Aside0.mk (below_step q8_2 hb); clear BK381 HB; obtain ⟨BK381, HB⟩ := n_; (try clear hb)))
   go_meet
   case rel => exact ⟨_, (true), s2_, H', ⟨(by first | omega | exact Nat.le_refl _)⟩, ⟨q8_5⟩, ⟨q8_2⟩⟩
 case rest =>
  clear HC3
  try clear c2
  try clear p2
  try clear c3
  try clear c6
  try clear p6
  try clear hcz10_0
  try clear hcz10_1
  try clear hcz11_0
  try clear hcz11_1
  try clear hcz8_0
  try clear hcz8_1
  try clear hfz10_0
  try clear hfz10_1
  try clear hfz11_0
  try clear hfz11_1
  try clear hfz8_0
  try clear hfz8_1
  obtain ⟨kq, x19_2, rfl, HA, HJ2, BK381, HB⟩ := hcut
  cases kq with
  | zero => exact absurd HA.out (by simp [spec_IsReducibleAttribute.j0])
  | succ kj2 =>
   have H := HA.out; clear HA
   simp only [spec_IsReducibleAttribute.j0] at H
   by_cases c13 : x19_2 = true
   ·
    subst c13; rw [if_pos rfl] at H; obtain rfl := Option.some.inj H
    go_wp2
    go_ret
    exact ⟨(by first | rfl | (simp [errW_none, errW_some] <;> rfl) | (simp [*, errW_none, errW_some] <;> rfl)), q8_2⟩
   ·
    replace c13 := Bool.eq_false_iff.mpr c13; subst c13
    rw [if_neg (show ¬ (false = true) by decide)] at H
    obtain ⟨t384, A14, H⟩ := bnd8_ H; obtain ⟨t385, A15, H⟩ := bnd8_ H; have H' := Aside0.mk H; clear H; have hcz16_0 : wc.cell? ⟨gb381, 0, none⟩ = some (.int .i64 a0_0) := (blk_cell BK381.out 0).trans rfl; have hcz16_1 : wc.cell? ⟨gb381, 1, none⟩ = some (.slice A0_1 l0_1.length c0_1) := (blk_cell BK381.out 1).trans rfl; have hfz16_0 := blk_frozen BK381.out 0; have hfz16_1 := blk_frozen BK381.out 1
    go_wp2_with (first | (refine gL_ 65 22 Try.func65 #[.agg #[.int .i64 a0_0, .slice A0_1 l0_1.length c0_1], .int .i64 a1] ?_; (with_reducible refine (spec_l3Column.calls kj2 a0_0 _ _ l0_1 a1 t384 _ ?side1 ?side2 A14.out).mono ?_); (case side1 => exact s3_); (case side2 => exact HC0_1.out); rintro e w17 ⟨rfl, hb⟩; refine ⟨_, rfl, ?_⟩; have n_ := ac_ (blk_below (g := gb381) (o := .cells #[.int .i64 a0_0, .slice A0_1 l0_1.length c0_1] 26 (0, 0)) q8_5 hb) <| Aside0.mk (below_step q8_2 hb); clear BK381 HB; obtain ⟨BK381, HB⟩ := n_; (try clear hb); have hcz18_0 : w17.cell? ⟨gb381, 0, none⟩ = some (.int .i64 a0_0) := (blk_cell BK381.out 0).trans rfl; have hcz18_1 : w17.cell? ⟨gb381, 1, none⟩ = some (.slice A0_1 l0_1.length c0_1) := (blk_cell BK381.out 1).trans rfl; have hfz18_0 := blk_frozen BK381.out 0; have hfz18_1 := blk_frozen BK381.out 1) | (refine gL_ 70 26 Try.func70 #[.int .i64 (l0_1.length : Int)] ?_; (with_reducible refine (spec_FullSet.calls (l0_1.length : Int) t385 _ A15.out).mono ?_); rintro e w' ⟨rfl, ⟨nd, rfl⟩⟩; refine ⟨_, rfl, ?_⟩))
    go_loopg [6, 7] kj2 (fun kq v6 v7 w' => ∃ (x6_2 : Int) (x7_2 : Int), v6 = .int .i64 x6_2 ∧ v7 = .int .i64 x7_2 ∧ Aside0 (spec_IsReducibleAttribute.l0 kq t384 x6_2 x7_2 a0_0 l0_1 = some r) ∧ Aside0 (kq ≤ kj2) ∧ Aside0 (w'.heap[gb381]? = some (.cells #[.int .i64 a0_0, (.slice A0_1 l0_1.length c0_1)] 26 (0, 0))) ∧ Aside0 (Below w.heap.size w w'))
    case atStart => exact ⟨(t385), (0), s2_, s2_, H', ⟨Nat.le_refl _⟩, ⟨q8_5⟩, ⟨q8_2⟩⟩
    case round =>
     clear H'
     try clear c1
     try clear c2
     try clear p2
     try clear c3
     try clear c6
     try clear p6
     try clear c7
     try clear c13
     try clear hcz10_0
     try clear hcz10_1
     try clear hcz11_0
     try clear hcz11_1
     try clear hcz16_0
     try clear hcz16_1
     try clear hcz18_0
     try clear hcz18_1
     try clear hcz8_0
     try clear hcz8_1
     try clear hfz10_0
     try clear hfz10_1
     try clear hfz11_0
     try clear hfz11_1
     try clear hfz16_0
     try clear hfz16_1
     try clear hfz18_0
     try clear hfz18_1
     try clear hfz8_0
     try clear hfz8_1
     try clear p2
     try clear p6
     obtain ⟨x6_2, x7_2, rfl, rfl, HA, HK2, BK381, HB⟩ := hrel
     cases gk with
     | zero => exact absurd HA.out (by simp [spec_IsReducibleAttribute.l0])
     | succ k2 =>
      have H := HA.out; clear HA
      simp only [spec_IsReducibleAttribute.l0] at H
      by_cases c19 : x7_2 < a0_0
      ·
       rw [if_pos c19] at H; have c19b0 : decide (x7_2 < a0_0) = true := decide_eq_true c19; clear c19; obtain ⟨t386, A20, H⟩ := bnd8_ H
       by_cases c21 : t386 = t384
       ·
        rw [if_pos c21] at H; have c21b0 : (t386 == t384) = true := beq_iff_eq.mpr c21; have c21b1 : (t386 != t384) = false := bne_eq_false_iff_eq.mpr c21; clear c21; have H' := Aside0.mk H; clear H; have hcz22_0 : wr.cell? ⟨gb381, 0, none⟩ = some (.int .i64 a0_0) := (blk_cell BK381.out 0).trans rfl; have hcz22_1 : wr.cell? ⟨gb381, 1, none⟩ = some (.slice A0_1 l0_1.length c0_1) := (blk_cell BK381.out 1).trans rfl; have hfz22_0 := blk_frozen BK381.out 0; have hfz22_1 := blk_frozen BK381.out 1
        go_wp2_with (first | (refine gL_ 65 35 Try.func65 #[.agg #[.int .i64 a0_0, .slice A0_1 l0_1.length c0_1], .int .i64 x7_2] ?_; (with_reducible refine (spec_l3Column.calls k2 a0_0 _ _ l0_1 x7_2 t386 _ ?side1 ?side2 A20.out).mono ?_); (case side1 => exact s3_); (case side2 => exact HC0_1.out); rintro e w23 ⟨rfl, hb⟩; refine ⟨_, rfl, ?_⟩; have n_ := ac_ (blk_below (g := gb381) (o := .cells #[.int .i64 a0_0, .slice A0_1 l0_1.length c0_1] 26 (0, 0)) q8_5 hb) <| Aside0.mk (below_step q8_2 hb); clear BK381 HB; obtain ⟨BK381, HB⟩ := n_; (try clear hb)))
        go_roundg k2
        case measure => have := HJ2.out; have := HK2.out; omega
        case rel => exact ⟨(x6_2), (wrap64 (x7_2 + 1)), s2_, s2_, H', ⟨by have := HJ2.out; have := HK2.out; omega⟩, ⟨q8_5⟩, ⟨q8_2⟩⟩
       ·
        rw [if_neg c21] at H; have c21b0 : (t386 == t384) = false := beq_eq_false_iff_ne.mpr c21; have c21b1 : (t386 != t384) = true := bne_iff_ne.mpr c21
        by_cases c24 : (Go.bits .and .i64 t386 t384) = t384
        ·
         rw [if_pos c24] at H; have c24b0 : ((Go.bits .and .i64 t386 t384) == t384) = true := beq_iff_eq.mpr c24; have c24b1 : ((Go.bits .and .i64 t386 t384) != t384) = false := bne_eq_false_iff_eq.mpr c24; clear c24; have H' := Aside0.mk H; clear H; have hcz25_0 : wr.cell? ⟨gb381, 0, none⟩ = some (.int .i64 a0_0) := (blk_cell BK381.out 0).trans rfl; have hcz25_1 : wr.cell? ⟨gb381, 1, none⟩ = some (.slice A0_1 l0_1.length c0_1) := (blk_cell BK381.out 1).trans rfl; have hfz25_0 := blk_frozen BK381.out 0; have hfz25_1 := blk_frozen BK381.out 1
         go_wp2_with (first | (refine gL_ 65 35 Try.func65 #[.agg #[.int .i64 a0_0, .slice A0_1 l0_1.length c0_1], .int .i64 x7_2] ?_; (with_reducible refine (spec_l3Column.calls k2 a0_0 _ _ l0_1 x7_2 t386 _ ?side1 ?side2 A20.out).mono ?_); (case side1 => exact s3_); (case side2 => exact HC0_1.out); rintro e w26 ⟨rfl, hb⟩; refine ⟨_, rfl, ?_⟩; have n_ := ac_ (blk_below (g := gb381) (o := .cells #[.int .i64 a0_0, .slice A0_1 l0_1.length c0_1] 26 (0, 0)) q8_5 hb) <| Aside0.mk (below_step q8_2 hb); clear BK381 HB; obtain ⟨BK381, HB⟩ := n_; (try clear hb)))
         go_roundg k2
         case measure => have := HJ2.out; have := HK2.out; omega
         case rel => exact ⟨(Go.bits .and .i64 x6_2 t386), (wrap64 (x7_2 + 1)), s2_, s2_, H', ⟨by have := HJ2.out; have := HK2.out; omega⟩, ⟨q8_5⟩, ⟨q8_2⟩⟩
        ·
         rw [if_neg c24] at H; have c24b0 : ((Go.bits .and .i64 t386 t384) == t384) = false := beq_eq_false_iff_ne.mpr c24; have c24b1 : ((Go.bits .and .i64 t386 t384) != t384) = true := bne_iff_ne.mpr c24; have H' := Aside0.mk H; clear H; have hcz27_0 : wr.cell? ⟨gb381, 0, none⟩ = some (.int .i64 a0_0) := (blk_cell BK381.out 0).trans rfl; have hcz27_1 : wr.cell? ⟨gb381, 1, none⟩ = some (.slice A0_1 l0_1.length c0_1) := (blk_cell BK381.out 1).trans rfl; have hfz27_0 := blk_frozen BK381.out 0; have hfz27_1 := blk_frozen BK381.out 1
         go_wp2_with (first | (refine gL_ 65 35 Try.func65 #[.agg #[.int .i64 a0_0, .slice A0_1 l0_1.length c0_1], .int .i64 x7_2] ?_; (with_reducible refine (spec_l3Column.calls k2 a0_0 _ _ l0_1 x7_2 t386 _ ?side1 ?side2 A20.out).mono ?_); (case side1 => exact s3_); (case side2 => exact HC0_1.out); rintro e w28 ⟨rfl, hb⟩; refine ⟨_, rfl, ?_⟩; have n_ := ac_ (blk_below (g := gb381) (o := .cells #[.int .i64 a0_0, .slice A0_1 l0_1.length c0_1] 26 (0, 0)) q8_5 hb) <| Aside0.mk (below_step q8_2 hb); clear BK381 HB; obtain ⟨BK381, HB⟩ := n_; (try clear hb)))
         go_roundg k2
         case measure => have := HJ2.out; have := HK2.out; omega
         case rel => exact ⟨(x6_2), (wrap64 (x7_2 + 1)), s2_, s2_, H', ⟨by have := HJ2.out; have := HK2.out; omega⟩, ⟨q8_5⟩, ⟨q8_2⟩⟩
      ·
       rw [if_neg c19] at H; have c19b0 : decide (x7_2 < a0_0) = false := decide_eq_false c19; clear c19; obtain rfl := Option.some.inj H; have hcz29_0 : wr.cell? ⟨gb381, 0, none⟩ = some (.int .i64 a0_0) := (blk_cell BK381.out 0).trans rfl; have hcz29_1 : wr.cell? ⟨gb381, 1, none⟩ = some (.slice A0_1 l0_1.length c0_1) := (blk_cell BK381.out 1).trans rfl; have hfz29_0 := blk_frozen BK381.out 0; have hfz29_1 := blk_frozen BK381.out 1
       go_wp2
       go_ret
       exact ⟨(by first | rfl | (simp [errW_none, errW_some] <;> rfl) | (simp [*, errW_none, errW_some] <;> rfl)), q8_2⟩
theorem q8_7 {P : Prop} (h : P := by repeat (first | (with_reducible first | exact HB.out | apply below_alloc | apply pw_below_drewN | apply below_drew1 | refine below_set ?_ GE387.out | refine below_set ?_ GE388.out | refine below_set ?_ GE394.out | refine below_set ?_ GE401.out) | exact HB.out)) : P := h
theorem q8_8 {P : Prop} (h : P := by repeat (first | (with_reducible first | exact HB.out | apply below_alloc | apply pw_below_drewN | apply below_drew1 | refine below_set ?_ GE387.out | refine below_set ?_ GE388.out | refine below_set ?_ GE394.out) | exact HB.out)) : P := h
theorem q8_9 {P : Prop} (h : P := by repeat (first | (with_reducible first | exact HB.out | apply below_alloc | apply pw_below_drewN | apply below_drew1 | refine below_set ?_ GE387.out | refine below_set ?_ GE388.out) | exact HB.out)) : P := h
theorem q8_10 {P : Prop} (h : P := by repeat (first | exact (Kd.R_reads' HO_395001.out).2.2 | (with_reducible refine Kd.C_alloc ?_ _) | (with_reducible refine Kd.C_drewN ?_ _) | (with_reducible refine Kd.C_drew ?_))) : P := h
theorem q8_11 {P : Prop} (h : P := by repeat (first | exact (Kd.R_reads' HO_402001.out).2.2 | (with_reducible refine Kd.C_alloc ?_ _) | (with_reducible refine Kd.C_drewN ?_ _) | (with_reducible refine Kd.C_drew ?_))) : P := h
theorem q8_13 {P : Prop} (h : P := by repeat (first | (with_reducible first | exact HB.out | apply below_alloc | apply pw_below_drewN | apply below_drew1 | refine below_set ?_ GE387.out) | exact HB.out)) : P := h
theorem q8_16 {P : Prop} (h : P := by (with_reducible repeat (first | refine blk_drewN ?_ _ | refine blk_drew ?_ | refine blk_alloc ?_ _)); exact BK387.out) : P := h
theorem q8_17 {P : Prop} (h : P := by (with_reducible repeat (first | refine blk_drewN ?_ _ | refine blk_drew ?_ | refine blk_alloc ?_ _)); exact BK388.out) : P := h
theorem q8_18 {P : Prop} (h : P := by (with_reducible repeat (first | refine blk_drewN ?_ _ | refine blk_drew ?_ | refine blk_alloc ?_ _)); exact BK394.out) : P := h
theorem q8_19 {P : Prop} (h : P := by (with_reducible repeat (first | refine blk_drewN ?_ _ | refine blk_drew ?_ | refine blk_alloc ?_ _)); exact BK401.out) : P := h
theorem q8_20 {P : Prop} (h : P := by (with_reducible repeat (first | apply Kd.R_alloc | apply Kd.R_drewN | apply Kd.R_drew)); exact HO_395001.out) : P := h
theorem q8_21 {P : Prop} (h : P := by (with_reducible repeat (first | apply Kd.R_alloc | apply Kd.R_drewN | apply Kd.R_drew)); exact HO_402001.out) : P := h
mutual
def spec_ReduceContext.l0 : Nat → Int → Int → Int → List Int → Option (Int × List Int × Bool)
 | 0, _, _, _, _ => none
 | k + 1, x6, x7, x395000, x395001 => if x7 < (x395001.length : Int) then ((spec_IsReducibleObject.f k x395000 x395001 x7).bind fun t395 => (if t395 = true then (if 0 ≤ (IntKind.u64.wrap (x7)) then (spec_ReduceContext.l0 k (Go.bits .or .i64 x6 (shl .i64 1 (IntKind.u64.wrap (x7)))) (wrap64 (x7 + 1)) x395000 x395001) else (none)) else (spec_ReduceContext.l0 k x6 (wrap64 (x7 + 1)) x395000 x395001))) else ((spec_DropObjects.f k x395000 x395001 x6).bind fun bt396 => (spec_ReduceContext.l1 k 0 0 bt396.1 bt396.2.1))
def spec_ReduceContext.l1 : Nat → Int → Int → Int → List Int → Option (Int × List Int × Bool)
 | 0, _, _, _, _ => none
 | k + 1, x6, x10, x402000, x402001 => if x10 < x402000 then ((spec_IsReducibleAttribute.f k x402000 x402001 x10).bind fun t402 => (if t402 = true then (if 0 ≤ (IntKind.u64.wrap (x10)) then (spec_ReduceContext.l1 k (Go.bits .or .i64 x6 (shl .i64 1 (IntKind.u64.wrap (x10)))) (wrap64 (x10 + 1)) x402000 x402001) else (none)) else (spec_ReduceContext.l1 k x6 (wrap64 (x10 + 1)) x402000 x402001))) else ((spec_DropAttributes.f k x402000 x402001 x6).bind fun bt403 => (some (bt403.1, bt403.2.1, bt403.2.2)))
end
def spec_ReduceContext.f (k : Nat) (a0_0 : Int) (l0_1 : List Int) : Option (Int × List Int × Bool) := (spec_Clarify.f k a0_0 l0_1).bind fun bt389 => (if bt389.2.2 = true then (spec_ReduceContext.l0 k 0 0 bt389.1 bt389.2.1) else (some (0, ([] : List Int), false)))
set_option maxHeartbeats 8000000 in
set_option maxRecDepth 100000 in
theorem spec_ReduceContext.calls (k : Nat) (a0_0 : Int) (A0_1 : Option Addr) (c0_1 : Nat) (l0_1 : List Int) (r1 : Int) (r2 : List Int) (r3 : Bool) (w : World) (hr0_1 : Kd.C (Kd.int .i64) w A0_1 l0_1.length l0_1) (hc0_1 : l0_1.length ≤ c0_1) (h : spec_ReduceContext.f k a0_0 l0_1 = some (r1, r2, r3)) :
  Calls Try.prog 24 #[.agg #[.int .i64 a0_0, .slice A0_1 l0_1.length c0_1]] w fun e w' => ∃ v1_ : Value, e = .returned (.tuple #[.agg #[.int .i64 r1, v1_], .bool r3]) ∧ Kd.R (Kd.int .i64) 3 w' w.heap.size (fun _ => True) v1_ r2 ∧ Below w.heap.size w w' := by
 have hu26 := Try.underlying26; have HR0_1 := Aside0.mk hr0_1; have HC0_1 := Aside0.mk hc0_1; clear hr0_1 hc0_1; have HB := Aside0.mk (Below.refl w.heap.size w); have H := h; clear h; unfold spec_ReduceContext.f at H; obtain ⟨⟨t389, t390, t393⟩, A2, H⟩ := bnd8_ H; dsimp only at H
 by_cases c3 : t393 = true
 ·
  subst c3; rw [if_pos rfl] at H; have H' := Aside0.mk H; clear H
  go_enter Try.func24, Try.ntmps24
  go_wp2_with (first | (refine be_ 1 #[.int .i64 a0_0, .slice A0_1 l0_1.length c0_1] 26 ?_; intro gb387 hg w4 hbox hb; have n_ := ac_ (below_step s1_ hb) <| ac_ (hbox) <| ac_ ((gz_ w hg s1_)) <| Aside0.mk ((gz_ w hg s1_)); clear HB; obtain ⟨HB, BK387, GW387, GE387⟩ := n_; clear hb hbox hg) | (refine be_ 2 #[.int .i64 0, .slice none 0 0] 26 ?_; intro gb388 hg w5 hbox hb; have n_ := ac_ (blk_below (g := gb387) (o := .cells #[.int .i64 a0_0, .slice A0_1 l0_1.length c0_1] 26 (0, 0)) q8_16 hb) <| ac_ (below_step q8_13 hb) <| ac_ (hbox) <| ac_ ((gz_ w hg q8_13)) <| ac_ ((gz_ w hg q8_13)) <| ac_ ((nl_ hg (blk_lt (g := gb387) (o := .cells #[.int .i64 a0_0, .slice A0_1 l0_1.length c0_1] 26 (0, 0)) q8_16))) <| Aside0.mk ((ng_ hg (blk_lt (g := gb387) (o := .cells #[.int .i64 a0_0, .slice A0_1 l0_1.length c0_1] 26 (0, 0)) q8_16))); clear BK387 HB; obtain ⟨BK387, HB, BK388, GW388, GE388, NB387_388, NB388_387⟩ := n_; clear hb hbox hg; have hnb6 := NB387_388.out; have hnc6 := NB388_387.out; have hcz7_0 : w5.cell? ⟨gb387, 0, none⟩ = some (.int .i64 a0_0) := (blk_cell BK387.out 0).trans rfl; have hcz7_1 : w5.cell? ⟨gb387, 1, none⟩ = some (.slice A0_1 l0_1.length c0_1) := (blk_cell BK387.out 1).trans rfl; have hfz7_0 := blk_frozen BK387.out 0; have hfz7_1 := blk_frozen BK387.out 1) | (refine gL_ 27 15 Try.func27 #[.agg #[.int .i64 a0_0, .slice A0_1 l0_1.length c0_1]] ?_; (with_reducible refine (spec_Clarify.calls k a0_0 _ _ l0_1 t389 t390 true _ ?side1 ?side2 A2.out).mono ?_); (case side1 => exact s3_); (case side2 => exact HC0_1.out); rintro e w8 ⟨v391, rfl, ho0, hb⟩; refine ⟨_, rfl, ?_⟩; have n_ := ac_ (Kd.R_lower ho0 (below_size q8_9)) <| ac_ (blk_below (g := gb387) (o := .cells #[.int .i64 a0_0, .slice A0_1 l0_1.length c0_1] 26 (0, 0)) q8_16 hb) <| ac_ (blk_below (g := gb388) (o := .cells #[.int .i64 0, .slice none 0 0] 26 (0, 0)) q8_17 hb) <| Aside0.mk (below_step q8_9 hb); clear BK387 BK388 HB; obtain ⟨HO392, BK387, BK388, HB⟩ := n_; (try clear hb ho0)) | (refine be_ 4 #[.int .i64 0, .slice none 0 0] 26 ?_; intro gb394 hg w9 hbox hb; have n_ := ac_ (Kd.R_below (by (with_reducible repeat (first | apply Kd.R_alloc | apply Kd.R_drewN | apply Kd.R_drew)); exact HO392.out) hb) <| ac_ (blk_below (g := gb387) (o := .cells #[.int .i64 a0_0, .slice A0_1 l0_1.length c0_1] 26 (0, 0)) q8_16 hb) <| ac_ (blk_below (g := gb388) (o := .cells #[.int .i64 0, .slice none 0 0] 26 (0, 0)) q8_17 hb) <| ac_ (below_step q8_9 hb) <| ac_ (hbox) <| ac_ ((gz_ w hg q8_9)) <| ac_ ((gz_ w hg q8_9)) <| ac_ ((nl_ hg (blk_lt (g := gb387) (o := .cells #[.int .i64 a0_0, .slice A0_1 l0_1.length c0_1] 26 (0, 0)) q8_16))) <| ac_ ((ng_ hg (blk_lt (g := gb387) (o := .cells #[.int .i64 a0_0, .slice A0_1 l0_1.length c0_1] 26 (0, 0)) q8_16))) <| ac_ ((nl_ hg (blk_lt (g := gb388) (o := .cells #[.int .i64 0, .slice none 0 0] 26 (0, 0)) q8_17))) <| Aside0.mk ((ng_ hg (blk_lt (g := gb388) (o := .cells #[.int .i64 0, .slice none 0 0] 26 (0, 0)) q8_17))); clear HO392 BK387 BK388 HB; obtain ⟨HO392, BK387, BK388, HB, BK394, GW394, GE394, NB387_394, NB394_387, NB388_394, NB394_388⟩ := n_; clear hb hbox hg; have hnb10 := NB394_387.out; have hnc10 := NB387_394.out; have hnb11 := NB394_388.out; have hnc11 := NB388_394.out; have hcz12_0 : w9.cell? ⟨gb394, 0, none⟩ = some (.int .i64 0) := (blk_cell BK394.out 0).trans rfl; have hcz12_1 : w9.cell? ⟨gb394, 1, none⟩ = some (.slice none 0 0) := (blk_cell BK394.out 1).trans rfl; have hfz12_0 := blk_frozen BK394.out 0; have hfz12_1 := blk_frozen BK394.out 1; obtain ⟨Ao13, co13, eo13⟩ := Kd.R_slice HO392.out; subst eo13))
  go_loopg [6, 7] k (fun kq v6 v7 w' => ∃ (x6_1 : Int) (x7_1 : Int), v6 = .int .i64 x6_1 ∧ v7 = .int .i64 x7_1 ∧ Aside0 (spec_ReduceContext.l0 kq x6_1 x7_1 t389 t390 = some (r1, r2, r3)) ∧ Aside0 (kq ≤ k) ∧ Aside0 (Kd.R (Kd.int .i64) 3 w' w.heap.size (fun _ => True) (.slice Ao13 t390.length co13) t390) ∧ Aside0 (w'.heap[gb387]? = some (.cells #[.int .i64 a0_0, (.slice A0_1 l0_1.length c0_1)] 26 (0, 0))) ∧ Aside0 (w'.heap[gb388]? = some (.cells #[.int .i64 0, (.slice none 0 0)] 26 (0, 0))) ∧ Aside0 (w'.heap[gb394]? = some (.cells #[.int .i64 t389, (.slice Ao13 t390.length co13)] 26 (0, 0))) ∧ Aside0 (Below w.heap.size w w'))
  case atStart => exact ⟨(0), (0), s2_, s2_, H', ⟨Nat.le_refl _⟩, ⟨(by (with_reducible repeat (first | apply Kd.R_alloc | apply Kd.R_drewN | apply Kd.R_drew)); exact Kd.R_mono (Kd.R_far (p := ⟨gb394, 1, none⟩) (Kd.R_far (p := ⟨gb394, 0, none⟩) (Kd.R_types HO392.out BK394.out (by decide)) (fun _ hk => hk.2) (.int .i64 t389)) (fun _ hk => hk.2) (.slice Ao13 t390.length co13)) (fun _ hk => trivial))⟩, ⟨(by (with_reducible repeat (first | refine blk_drewN ?_ _ | refine blk_drew ?_ | refine blk_alloc ?_ _)); refine blk_far ?_ NB387_394.out _; (with_reducible repeat (first | refine blk_drewN ?_ _ | refine blk_drew ?_ | refine blk_alloc ?_ _)); refine blk_far ?_ NB387_394.out _; (with_reducible repeat (first | refine blk_drewN ?_ _ | refine blk_drew ?_ | refine blk_alloc ?_ _)); exact BK387.out)⟩, ⟨(by (with_reducible repeat (first | refine blk_drewN ?_ _ | refine blk_drew ?_ | refine blk_alloc ?_ _)); refine blk_far ?_ NB388_394.out _; (with_reducible repeat (first | refine blk_drewN ?_ _ | refine blk_drew ?_ | refine blk_alloc ?_ _)); refine blk_far ?_ NB388_394.out _; (with_reducible repeat (first | refine blk_drewN ?_ _ | refine blk_drew ?_ | refine blk_alloc ?_ _)); exact BK388.out)⟩, ⟨(by (with_reducible repeat (first | refine blk_drewN ?_ _ | refine blk_drew ?_ | refine blk_alloc ?_ _)); refine blk_put (cs := #[.int .i64 t389, .slice none 0 0]) ?_ 1 _ rfl; (with_reducible repeat (first | refine blk_drewN ?_ _ | refine blk_drew ?_ | refine blk_alloc ?_ _)); refine blk_put (cs := #[.int .i64 0, .slice none 0 0]) ?_ 0 _ rfl; (with_reducible repeat (first | refine blk_drewN ?_ _ | refine blk_drew ?_ | refine blk_alloc ?_ _)); exact BK394.out)⟩, ⟨q8_8⟩⟩
  case round =>
   clear H'
   try clear c1
   try clear c2
   try clear p2
   try clear c3
   try clear c6
   try clear c10
   try clear c11
   try clear hcz12_0
   try clear hcz12_1
   try clear hcz7_0
   try clear hcz7_1
   try clear hfz12_0
   try clear hfz12_1
   try clear hfz7_0
   try clear hfz7_1
   obtain ⟨x6_1, x7_1, rfl, rfl, HA, HK1, HO_395001, BK387, BK388, BK394, HB⟩ := hrel
   cases gk with
   | zero => exact absurd HA.out (by simp [spec_ReduceContext.l0])
   | succ k1 =>
    have H := HA.out; clear HA
    simp only [spec_ReduceContext.l0] at H
    by_cases c14 : x7_1 < (t390.length : Int)
    ·
     rw [if_pos c14] at H; have c14b0 : decide (x7_1 < (t390.length : Int)) = true := decide_eq_true c14; clear c14; obtain ⟨t395, A15, H⟩ := bnd8_ H
     by_cases c16 : t395 = true
     ·
      subst c16; rw [if_pos rfl] at H; obtain ⟨ji17, hji17⟩ : ∃ j_ : Int, (IntKind.u64.wrap (x7_1)) = j_ := ⟨_, rfl⟩
      replace H : (if 0 ≤ (ji17) then (spec_ReduceContext.l0 k1 (Go.bits .or .i64 x6_1 (shl .i64 1 (ji17))) (wrap64 (x7_1 + 1)) t389 t390) else (none)) = some (r1, r2, r3) := by first | (rw [hji17] at H; exact H) | (simp only [hji17] at H ⊢; exact H)
      (try rw [hji17] at A15)
      by_cases c18 : 0 ≤ (ji17)
      ·
       rw [if_pos c18] at H; have c18b0 := eq_true c18; have c18b1 : decide (0 ≤ (ji17)) = true := decide_eq_true c18; clear c18; obtain ⟨ji19, hji19⟩ : ∃ j_ : Int, (shl .i64 1 (ji17)) = j_ := ⟨_, rfl⟩
       replace H : (spec_ReduceContext.l0 k1 (Go.bits .or .i64 x6_1 (ji19)) (wrap64 (x7_1 + 1)) t389 t390) = some (r1, r2, r3) := by first | (rw [hji19] at H; exact H) | (simp only [hji19] at H ⊢; exact H)
       (try rw [hji19] at A15)
       have hji19_ : (IntKind.i64.wrap (1 * 2 ^ min (ji17).toNat 64)) = ji19 := hji19; have hji19z : (ji17) ≤ 64 → (IntKind.i64.wrap (1 * 2 ^ (ji17).toNat)) = ji19 := shl_small hji19
       have hji19u : (IntKind.i64.wrap (2 ^ min (ji17).toNat 64)) = ji19 := by have h_ := hji19_; rw [Int.one_mul] at h_; exact h_
       have hji19v : (ji17) ≤ 64 → (IntKind.i64.wrap (2 ^ (ji17).toNat)) = ji19 := fun hle_ => by have h_ := hji19z hle_; rw [Int.one_mul] at h_; exact h_
       have hji19y : (wrap64 (1 * 2 ^ min (ji17).toNat 64)) = ji19 := (i64_w _).symm.trans hji19_
       have hji19x : (ji17) ≤ 64 → (wrap64 (1 * 2 ^ (ji17).toNat)) = ji19 := fun h_ => (i64_w _).symm.trans (hji19z h_)
       have H' := Aside0.mk H; clear H; have hnb20 := NB394_387.out; have hnc20 := NB387_394.out; have hnb21 := NB394_388.out; have hnc21 := NB388_394.out; have hcz22_0 : wr.cell? ⟨gb394, 0, none⟩ = some (.int .i64 t389) := (blk_cell BK394.out 0).trans rfl; have hcz22_1 : wr.cell? ⟨gb394, 1, none⟩ = some (.slice Ao13 t390.length co13) := (blk_cell BK394.out 1).trans rfl; have hfz22_0 := blk_frozen BK394.out 0; have hfz22_1 := blk_frozen BK394.out 1
       go_wp2_with (first | (refine gL_ 37 30 Try.func37 #[.agg #[.int .i64 t389, .slice Ao13 t390.length co13], .int .i64 x7_1] ?_; (with_reducible refine (spec_IsReducibleObject.calls k1 t389 _ _ t390 x7_1 true _ ?side1 ?side2 A15.out).mono ?_); (case side1 => exact q8_10); (case side2 => exact (Kd.R_reads' HO_395001.out).2.1); rintro e w23 ⟨rfl, hb⟩; refine ⟨_, rfl, ?_⟩; have n_ := ac_ (Kd.R_below q8_20 hb) <| ac_ (blk_below (g := gb387) (o := .cells #[.int .i64 a0_0, .slice A0_1 l0_1.length c0_1] 26 (0, 0)) q8_16 hb) <| ac_ (blk_below (g := gb388) (o := .cells #[.int .i64 0, .slice none 0 0] 26 (0, 0)) q8_17 hb) <| ac_ (blk_below (g := gb394) (o := .cells #[.int .i64 t389, .slice Ao13 t390.length co13] 26 (0, 0)) q8_18 hb) <| Aside0.mk (below_step q8_8 hb); clear HO_395001 BK387 BK388 BK394 HB; obtain ⟨HO_395001, BK387, BK388, BK394, HB⟩ := n_; (try clear hb)))
       go_roundg k1
       case measure => have := HK1.out; omega
       case rel => exact ⟨(Go.bits .or .i64 x6_1 (ji19)), (wrap64 (x7_1 + 1)), (by first | rfl | (simp; done) | (simp only [← hji19] <;> (first | rfl | simp)) | (simp [*]; done)), s2_, H', ⟨by have := HK1.out; omega⟩, ⟨q8_20⟩, ⟨q8_16⟩, ⟨q8_17⟩, ⟨q8_18⟩, ⟨q8_8⟩⟩
      ·
       rw [if_neg c18] at H
       exact absurd H (by simp)
     ·
      replace c16 := Bool.eq_false_iff.mpr c16; subst c16
      rw [if_neg (show ¬ (false = true) by decide)] at H
      have H' := Aside0.mk H; clear H; have hnb24 := NB394_387.out; have hnc24 := NB387_394.out; have hnb25 := NB394_388.out; have hnc25 := NB388_394.out; have hcz26_0 : wr.cell? ⟨gb394, 0, none⟩ = some (.int .i64 t389) := (blk_cell BK394.out 0).trans rfl; have hcz26_1 : wr.cell? ⟨gb394, 1, none⟩ = some (.slice Ao13 t390.length co13) := (blk_cell BK394.out 1).trans rfl; have hfz26_0 := blk_frozen BK394.out 0; have hfz26_1 := blk_frozen BK394.out 1
      go_wp2_with (first | (refine gL_ 37 30 Try.func37 #[.agg #[.int .i64 t389, .slice Ao13 t390.length co13], .int .i64 x7_1] ?_; (with_reducible refine (spec_IsReducibleObject.calls k1 t389 _ _ t390 x7_1 false _ ?side1 ?side2 A15.out).mono ?_); (case side1 => exact q8_10); (case side2 => exact (Kd.R_reads' HO_395001.out).2.1); rintro e w27 ⟨rfl, hb⟩; refine ⟨_, rfl, ?_⟩; have n_ := ac_ (Kd.R_below q8_20 hb) <| ac_ (blk_below (g := gb387) (o := .cells #[.int .i64 a0_0, .slice A0_1 l0_1.length c0_1] 26 (0, 0)) q8_16 hb) <| ac_ (blk_below (g := gb388) (o := .cells #[.int .i64 0, .slice none 0 0] 26 (0, 0)) q8_17 hb) <| ac_ (blk_below (g := gb394) (o := .cells #[.int .i64 t389, .slice Ao13 t390.length co13] 26 (0, 0)) q8_18 hb) <| Aside0.mk (below_step q8_8 hb); clear HO_395001 BK387 BK388 BK394 HB; obtain ⟨HO_395001, BK387, BK388, BK394, HB⟩ := n_; (try clear hb)))
      go_roundg k1
      case measure => have := HK1.out; omega
      case rel => exact ⟨(x6_1), (wrap64 (x7_1 + 1)), s2_, s2_, H', ⟨by have := HK1.out; omega⟩, ⟨q8_20⟩, ⟨q8_16⟩, ⟨q8_17⟩, ⟨q8_18⟩, ⟨q8_8⟩⟩
    ·
     rw [if_neg c14] at H; have c14b0 : decide (x7_1 < (t390.length : Int)) = false := decide_eq_false c14; clear c14; obtain ⟨⟨t396, t397, t400⟩, A28, H⟩ := bnd8_ H; dsimp only at H; have H' := Aside0.mk H; clear H; have hnb29 := NB394_387.out; have hnc29 := NB387_394.out; have hnb30 := NB394_388.out; have hnc30 := NB388_394.out; have hcz31_0 : wr.cell? ⟨gb394, 0, none⟩ = some (.int .i64 t389) := (blk_cell BK394.out 0).trans rfl; have hcz31_1 : wr.cell? ⟨gb394, 1, none⟩ = some (.slice Ao13 t390.length co13) := (blk_cell BK394.out 1).trans rfl; have hfz31_0 := blk_frozen BK394.out 0; have hfz31_1 := blk_frozen BK394.out 1
     go_wp2_with (first | (refine gL_ 30 39 Try.func30 #[.agg #[.int .i64 t389, .slice Ao13 t390.length co13], .int .i64 x6_1] ?_; (with_reducible refine (spec_DropObjects.calls k1 t389 _ _ t390 x6_1 t396 t397 t400 _ ?side1 ?side2 A28.out).mono ?_); (case side1 => exact q8_10); (case side2 => exact (Kd.R_reads' HO_395001.out).2.1); rintro e w32 ⟨v398, rfl, ho0, hb⟩; refine ⟨_, rfl, ?_⟩; have n_ := ac_ (Kd.R_elder' q8_20 (Kd.R_base ho0) hb) <| ac_ (Kd.R_lower (Kd.R_new' ho0 (Kd.R_lt q8_20)) (below_size q8_8)) <| ac_ (blk_below (g := gb387) (o := .cells #[.int .i64 a0_0, .slice A0_1 l0_1.length c0_1] 26 (0, 0)) q8_16 hb) <| ac_ (blk_below (g := gb388) (o := .cells #[.int .i64 0, .slice none 0 0] 26 (0, 0)) q8_17 hb) <| ac_ (blk_below (g := gb394) (o := .cells #[.int .i64 t389, .slice Ao13 t390.length co13] 26 (0, 0)) q8_18 hb) <| Aside0.mk (below_step q8_8 hb); clear HO_395001 BK387 BK388 BK394 HB; obtain ⟨HO_395001, HO399, BK387, BK388, BK394, HB⟩ := n_; (try clear hb ho0)) | (refine be_ 8 #[.int .i64 0, .slice none 0 0] 26 ?_; intro gb401 hg w33 hbox hb; have n_ := ac_ (Kd.R_below q8_20 hb) <| ac_ (Kd.R_below (by (with_reducible repeat (first | apply Kd.R_alloc | apply Kd.R_drewN | apply Kd.R_drew)); exact HO399.out) hb) <| ac_ (blk_below (g := gb387) (o := .cells #[.int .i64 a0_0, .slice A0_1 l0_1.length c0_1] 26 (0, 0)) q8_16 hb) <| ac_ (blk_below (g := gb388) (o := .cells #[.int .i64 0, .slice none 0 0] 26 (0, 0)) q8_17 hb) <| ac_ (blk_below (g := gb394) (o := .cells #[.int .i64 t389, .slice Ao13 t390.length co13] 26 (0, 0)) q8_18 hb) <| ac_ (below_step q8_8 hb) <| ac_ (hbox) <| ac_ ((gz_ w hg q8_8)) <| ac_ ((gz_ w hg q8_8)) <| ac_ ((nl_ hg (blk_lt (g := gb387) (o := .cells #[.int .i64 a0_0, .slice A0_1 l0_1.length c0_1] 26 (0, 0)) q8_16))) <| ac_ ((ng_ hg (blk_lt (g := gb387) (o := .cells #[.int .i64 a0_0, .slice A0_1 l0_1.length c0_1] 26 (0, 0)) q8_16))) <| ac_ ((nl_ hg (blk_lt (g := gb388) (o := .cells #[.int .i64 0, .slice none 0 0] 26 (0, 0)) q8_17))) <| ac_ ((ng_ hg (blk_lt (g := gb388) (o := .cells #[.int .i64 0, .slice none 0 0] 26 (0, 0)) q8_17))) <| ac_ ((nl_ hg (blk_lt (g := gb394) (o := .cells #[.int .i64 t389, .slice Ao13 t390.length co13] 26 (0, 0)) q8_18))) <| Aside0.mk ((ng_ hg (blk_lt (g := gb394) (o := .cells #[.int .i64 t389, .slice Ao13 t390.length co13] 26 (0, 0)) q8_18))); clear HO_395001 HO399 BK387 BK388 BK394 HB; obtain ⟨HO_395001, HO399, BK387, BK388, BK394, HB, BK401, GW401, GE401, NB387_401, NB401_387, NB388_401, NB401_388, NB394_401, NB401_394⟩ := n_; clear hb hbox hg; have hnb34 := NB401_387.out; have hnc34 := NB387_401.out; have hnb35 := NB401_388.out; have hnc35 := NB388_401.out; have hnb36 := NB401_394.out; have hnc36 := NB394_401.out; have hcz37_0 : w33.cell? ⟨gb401, 0, none⟩ = some (.int .i64 0) := (blk_cell BK401.out 0).trans rfl; have hcz37_1 : w33.cell? ⟨gb401, 1, none⟩ = some (.slice none 0 0) := (blk_cell BK401.out 1).trans rfl; have hfz37_0 := blk_frozen BK401.out 0; have hfz37_1 := blk_frozen BK401.out 1; obtain ⟨Ao38, co38, eo38⟩ := Kd.R_slice HO399.out; subst eo38))
     go_loopg [6, 10] k1 (fun kq v6 v10 w' => ∃ (x6_2 : Int) (x10_2 : Int), v6 = .int .i64 x6_2 ∧ v10 = .int .i64 x10_2 ∧ Aside0 (spec_ReduceContext.l1 kq x6_2 x10_2 t396 t397 = some (r1, r2, r3)) ∧ Aside0 (kq ≤ k1) ∧ Aside0 (Kd.R (Kd.int .i64) 3 w' w.heap.size (fun k_ => some k_ ≠ ((.slice Ao38 t397.length co38) : Value).ownBlock) (.slice Ao13 t390.length co13) t390) ∧ Aside0 (Kd.R (Kd.int .i64) 3 w' w.heap.size (fun k_ => some k_ ≠ ((.slice Ao13 t390.length co13) : Value).ownBlock) (.slice Ao38 t397.length co38) t397) ∧ Aside0 (w'.heap[gb387]? = some (.cells #[.int .i64 a0_0, (.slice A0_1 l0_1.length c0_1)] 26 (0, 0))) ∧ Aside0 (w'.heap[gb388]? = some (.cells #[.int .i64 0, (.slice none 0 0)] 26 (0, 0))) ∧ Aside0 (w'.heap[gb394]? = some (.cells #[.int .i64 t389, (.slice Ao13 t390.length co13)] 26 (0, 0))) ∧ Aside0 (w'.heap[gb401]? = some (.cells #[.int .i64 t396, (.slice Ao38 t397.length co38)] 26 (0, 0))) ∧ Aside0 (Below w.heap.size w w'))
     case atStart => exact ⟨(0), (0), s2_, s2_, H', ⟨Nat.le_refl _⟩, ⟨(by (with_reducible repeat (first | apply Kd.R_alloc | apply Kd.R_drewN | apply Kd.R_drew)); exact Kd.R_mono (Kd.R_far (p := ⟨gb401, 1, none⟩) (Kd.R_far (p := ⟨gb401, 0, none⟩) (Kd.R_types HO_395001.out BK401.out (by decide)) (fun _ hk => hk.2) (.int .i64 t396)) (fun _ hk => hk.2) (.slice Ao38 t397.length co38)) (fun _ hk => hk.1.2))⟩, ⟨(by (with_reducible repeat (first | apply Kd.R_alloc | apply Kd.R_drewN | apply Kd.R_drew)); exact Kd.R_mono (Kd.R_far (p := ⟨gb401, 1, none⟩) (Kd.R_far (p := ⟨gb401, 0, none⟩) (Kd.R_types HO399.out BK401.out (by decide)) (fun _ hk => hk.2) (.int .i64 t396)) (fun _ hk => hk.2) (.slice Ao38 t397.length co38)) (fun _ hk => hk.1.2))⟩, ⟨(by (with_reducible repeat (first | refine blk_drewN ?_ _ | refine blk_drew ?_ | refine blk_alloc ?_ _)); refine blk_far ?_ NB387_401.out _; (with_reducible repeat (first | refine blk_drewN ?_ _ | refine blk_drew ?_ | refine blk_alloc ?_ _)); refine blk_far ?_ NB387_401.out _; (with_reducible repeat (first | refine blk_drewN ?_ _ | refine blk_drew ?_ | refine blk_alloc ?_ _)); exact BK387.out)⟩, ⟨(by (with_reducible repeat (first | refine blk_drewN ?_ _ | refine blk_drew ?_ | refine blk_alloc ?_ _)); refine blk_far ?_ NB388_401.out _; (with_reducible repeat (first | refine blk_drewN ?_ _ | refine blk_drew ?_ | refine blk_alloc ?_ _)); refine blk_far ?_ NB388_401.out _; (with_reducible repeat (first | refine blk_drewN ?_ _ | refine blk_drew ?_ | refine blk_alloc ?_ _)); exact BK388.out)⟩, ⟨(by (with_reducible repeat (first | refine blk_drewN ?_ _ | refine blk_drew ?_ | refine blk_alloc ?_ _)); refine blk_far ?_ NB394_401.out _; (with_reducible repeat (first | refine blk_drewN ?_ _ | refine blk_drew ?_ | refine blk_alloc ?_ _)); refine blk_far ?_ NB394_401.out _; (with_reducible repeat (first | refine blk_drewN ?_ _ | refine blk_drew ?_ | refine blk_alloc ?_ _)); exact BK394.out)⟩, ⟨(by (with_reducible repeat (first | refine blk_drewN ?_ _ | refine blk_drew ?_ | refine blk_alloc ?_ _)); refine blk_put (cs := #[.int .i64 t396, .slice none 0 0]) ?_ 1 _ rfl; (with_reducible repeat (first | refine blk_drewN ?_ _ | refine blk_drew ?_ | refine blk_alloc ?_ _)); refine blk_put (cs := #[.int .i64 0, .slice none 0 0]) ?_ 0 _ rfl; (with_reducible repeat (first | refine blk_drewN ?_ _ | refine blk_drew ?_ | refine blk_alloc ?_ _)); exact BK401.out)⟩, ⟨q8_7⟩⟩
     case round =>
      clear H'
      try clear c1
      try clear c2
      try clear p2
      try clear c3
      try clear c6
      try clear p6
      try clear c10
      try clear c11
      try clear c14
      try clear c14b0
      try clear c16
      try clear c18
      try clear c18b0
      try clear c18b1
      try clear c20
      try clear c21
      try clear c24
      try clear c25
      try clear c27
      try clear c29
      try clear c30
      try clear c34
      try clear c35
      try clear c36
      try clear c37
      try clear hcz12_0
      try clear hcz12_1
      try clear hcz22_0
      try clear hcz22_1
      try clear hcz26_0
      try clear hcz26_1
      try clear hcz31_0
      try clear hcz31_1
      try clear hcz37_0
      try clear hcz37_1
      try clear hcz7_0
      try clear hcz7_1
      try clear hfz12_0
      try clear hfz12_1
      try clear hfz22_0
      try clear hfz22_1
      try clear hfz26_0
      try clear hfz26_1
      try clear hfz31_0
      try clear hfz31_1
      try clear hfz37_0
      try clear hfz37_1
      try clear hfz7_0
      try clear hfz7_1
      try clear p2
      obtain ⟨x6_2, x10_2, rfl, rfl, HA, HK2, HO_395001, HO_402001, BK387, BK388, BK394, BK401, HB⟩ := hrel
      cases gk with
      | zero => exact absurd HA.out (by simp [spec_ReduceContext.l1])
      | succ k2 =>
       have H := HA.out; clear HA
       simp only [spec_ReduceContext.l1] at H
       by_cases c39 : x10_2 < t396
       ·
        rw [if_pos c39] at H; have c39b0 : decide (x10_2 < t396) = true := decide_eq_true c39; clear c39; obtain ⟨t402, A40, H⟩ := bnd8_ H
        by_cases c41 : t402 = true
        ·
         subst c41; rw [if_pos rfl] at H; obtain ⟨ji42, hji42⟩ : ∃ j_ : Int, (IntKind.u64.wrap (x10_2)) = j_ := ⟨_, rfl⟩
         replace H : (if 0 ≤ (ji42) then (spec_ReduceContext.l1 k2 (Go.bits .or .i64 x6_2 (shl .i64 1 (ji42))) (wrap64 (x10_2 + 1)) t396 t397) else (none)) = some (r1, r2, r3) := by first | (rw [hji42] at H; exact H) | (simp only [hji42] at H ⊢; exact H)
         (try rw [hji42] at A40)
         by_cases c43 : 0 ≤ (ji42)
         ·
          rw [if_pos c43] at H; have c43b0 := eq_true c43; have c43b1 : decide (0 ≤ (ji42)) = true := decide_eq_true c43; clear c43; obtain ⟨ji44, hji44⟩ : ∃ j_ : Int, (shl .i64 1 (ji42)) = j_ := ⟨_, rfl⟩
          replace H : (spec_ReduceContext.l1 k2 (Go.bits .or .i64 x6_2 (ji44)) (wrap64 (x10_2 + 1)) t396 t397) = some (r1, r2, r3) := by first | (rw [hji44] at H; exact H) | (simp only [hji44] at H ⊢; exact H)
          (try rw [hji44] at A40)
          have hji44_ : (IntKind.i64.wrap (1 * 2 ^ min (ji42).toNat 64)) = ji44 := hji44; have hji44z : (ji42) ≤ 64 → (IntKind.i64.wrap (1 * 2 ^ (ji42).toNat)) = ji44 := shl_small hji44
          have hji44u : (IntKind.i64.wrap (2 ^ min (ji42).toNat 64)) = ji44 := by have h_ := hji44_; rw [Int.one_mul] at h_; exact h_
          have hji44v : (ji42) ≤ 64 → (IntKind.i64.wrap (2 ^ (ji42).toNat)) = ji44 := fun hle_ => by have h_ := hji44z hle_; rw [Int.one_mul] at h_; exact h_
          have hji44y : (wrap64 (1 * 2 ^ min (ji42).toNat 64)) = ji44 := (i64_w _).symm.trans hji44_
          have hji44x : (ji42) ≤ 64 → (wrap64 (1 * 2 ^ (ji42).toNat)) = ji44 := fun h_ => (i64_w _).symm.trans (hji44z h_)
          have H' := Aside0.mk H; clear H; have hnb45 := NB401_387.out; have hnc45 := NB387_401.out; have hnb46 := NB401_388.out; have hnc46 := NB388_401.out; have hnb47 := NB401_394.out; have hnc47 := NB394_401.out; have hcz48_0 : wr.cell? ⟨gb401, 0, none⟩ = some (.int .i64 t396) := (blk_cell BK401.out 0).trans rfl; have hcz48_1 : wr.cell? ⟨gb401, 1, none⟩ = some (.slice Ao38 t397.length co38) := (blk_cell BK401.out 1).trans rfl; have hfz48_0 := blk_frozen BK401.out 0; have hfz48_1 := blk_frozen BK401.out 1
          go_wp2_with (first | (refine gL_ 39 50 Try.func39 #[.agg #[.int .i64 t396, .slice Ao38 t397.length co38], .int .i64 x10_2] ?_; (with_reducible refine (spec_IsReducibleAttribute.calls k2 t396 _ _ t397 x10_2 true _ ?side1 ?side2 A40.out).mono ?_); (case side1 => exact q8_11); (case side2 => exact (Kd.R_reads' HO_402001.out).2.1); rintro e w49 ⟨rfl, hb⟩; refine ⟨_, rfl, ?_⟩; have n_ := ac_ (Kd.R_below q8_20 hb) <| ac_ (Kd.R_below q8_21 hb) <| ac_ (blk_below (g := gb387) (o := .cells #[.int .i64 a0_0, .slice A0_1 l0_1.length c0_1] 26 (0, 0)) q8_16 hb) <| ac_ (blk_below (g := gb388) (o := .cells #[.int .i64 0, .slice none 0 0] 26 (0, 0)) q8_17 hb) <| ac_ (blk_below (g := gb394) (o := .cells #[.int .i64 t389, .slice Ao13 t390.length co13] 26 (0, 0)) q8_18 hb) <| ac_ (blk_below (g := gb401) (o := .cells #[.int .i64 t396, .slice Ao38 t397.length co38] 26 (0, 0)) q8_19 hb) <| Aside0.mk (below_step q8_7 hb); clear HO_395001 HO_402001 BK387 BK388 BK394 BK401 HB; obtain ⟨HO_395001, HO_402001, BK387, BK388, BK394, BK401, HB⟩ := n_; (try clear hb)))
          go_roundg k2
          case measure => have := HK1.out; have := HK2.out; omega
          case rel => exact ⟨(Go.bits .or .i64 x6_2 (ji44)), (wrap64 (x10_2 + 1)), (by first | rfl | (simp; done) | (simp only [← hji44] <;> (first | rfl | simp)) | (simp [*]; done)), s2_, H', ⟨by have := HK1.out; have := HK2.out; omega⟩, ⟨q8_20⟩, ⟨q8_21⟩, ⟨q8_16⟩, ⟨q8_17⟩, ⟨q8_18⟩, ⟨q8_19⟩, ⟨q8_7⟩⟩
         ·
          rw [if_neg c43] at H
          exact absurd H (by simp)
        ·
         replace c41 := Bool.eq_false_iff.mpr c41; subst c41
         rw [if_neg (show ¬ (false = true) by decide)] at H
         have H' := Aside0.mk H; clear H; have hnb50 := NB401_387.out; have hnc50 := NB387_401.out; have hnb51 := NB401_388.out; have hnc51 := NB388_401.out; have hnb52 := NB401_394.out; have hnc52 := NB394_401.out; have hcz53_0 : wr.cell? ⟨gb401, 0, none⟩ = some (.int .i64 t396) := (blk_cell BK401.out 0).trans rfl; have hcz53_1 : wr.cell? ⟨gb401, 1, none⟩ = some (.slice Ao38 t397.length co38) := (blk_cell BK401.out 1).trans rfl; have hfz53_0 := blk_frozen BK401.out 0; have hfz53_1 := blk_frozen BK401.out 1
         go_wp2_with (first | (refine gL_ 39 50 Try.func39 #[.agg #[.int .i64 t396, .slice Ao38 t397.length co38], .int .i64 x10_2] ?_; (with_reducible refine (spec_IsReducibleAttribute.calls k2 t396 _ _ t397 x10_2 false _ ?side1 ?side2 A40.out).mono ?_); (case side1 => exact q8_11); (case side2 => exact (Kd.R_reads' HO_402001.out).2.1); rintro e w54 ⟨rfl, hb⟩; refine ⟨_, rfl, ?_⟩; have n_ := ac_ (Kd.R_below q8_20 hb) <| ac_ (Kd.R_below q8_21 hb) <| ac_ (blk_below (g := gb387) (o := .cells #[.int .i64 a0_0, .slice A0_1 l0_1.length c0_1] 26 (0, 0)) q8_16 hb) <| ac_ (blk_below (g := gb388) (o := .cells #[.int .i64 0, .slice none 0 0] 26 (0, 0)) q8_17 hb) <| ac_ (blk_below (g := gb394) (o := .cells #[.int .i64 t389, .slice Ao13 t390.length co13] 26 (0, 0)) q8_18 hb) <| ac_ (blk_below (g := gb401) (o := .cells #[.int .i64 t396, .slice Ao38 t397.length co38] 26 (0, 0)) q8_19 hb) <| Aside0.mk (below_step q8_7 hb); clear HO_395001 HO_402001 BK387 BK388 BK394 BK401 HB; obtain ⟨HO_395001, HO_402001, BK387, BK388, BK394, BK401, HB⟩ := n_; (try clear hb)))
         go_roundg k2
         case measure => have := HK1.out; have := HK2.out; omega
         case rel => exact ⟨(x6_2), (wrap64 (x10_2 + 1)), s2_, s2_, H', ⟨by have := HK1.out; have := HK2.out; omega⟩, ⟨q8_20⟩, ⟨q8_21⟩, ⟨q8_16⟩, ⟨q8_17⟩, ⟨q8_18⟩, ⟨q8_19⟩, ⟨q8_7⟩⟩
       ·
        rw [if_neg c39] at H; have c39b0 : decide (x10_2 < t396) = false := decide_eq_false c39; clear c39; obtain ⟨⟨t403, t404, t407⟩, A55, H⟩ := bnd8_ H; dsimp only at H
        simp only [Option.some.injEq, Prod.mk.injEq] at H
        obtain ⟨rfl, rfl, rfl⟩ := H; have hnb56 := NB401_387.out; have hnc56 := NB387_401.out; have hnb57 := NB401_388.out; have hnc57 := NB388_401.out; have hnb58 := NB401_394.out; have hnc58 := NB394_401.out; have hcz59_0 : wr.cell? ⟨gb401, 0, none⟩ = some (.int .i64 t396) := (blk_cell BK401.out 0).trans rfl; have hcz59_1 : wr.cell? ⟨gb401, 1, none⟩ = some (.slice Ao38 t397.length co38) := (blk_cell BK401.out 1).trans rfl; have hfz59_0 := blk_frozen BK401.out 0; have hfz59_1 := blk_frozen BK401.out 1
        go_wp2_with (first | (refine gL_ 33 59 Try.func33 #[.agg #[.int .i64 t396, .slice Ao38 t397.length co38], .int .i64 x6_2] ?_; (with_reducible refine (spec_DropAttributes.calls k2 t396 _ _ t397 x6_2 t403 t404 t407 _ ?side1 ?side2 A55.out).mono ?_); (case side1 => exact q8_11); (case side2 => exact (Kd.R_reads' HO_402001.out).2.1); rintro e w60 ⟨v405, rfl, ho0, hb⟩; refine ⟨_, rfl, ?_⟩; have n_ := ac_ (Kd.R_elder' q8_20 (Kd.R_base ho0) hb) <| ac_ (Kd.R_elder' q8_21 (Kd.R_base ho0) hb) <| ac_ (Kd.R_lower (Kd.R_new' (Kd.R_new' ho0 (Kd.R_lt q8_20)) (Kd.R_lt q8_21)) (below_size q8_7)) <| ac_ (blk_below (g := gb387) (o := .cells #[.int .i64 a0_0, .slice A0_1 l0_1.length c0_1] 26 (0, 0)) q8_16 hb) <| ac_ (blk_below (g := gb388) (o := .cells #[.int .i64 0, .slice none 0 0] 26 (0, 0)) q8_17 hb) <| ac_ (blk_below (g := gb394) (o := .cells #[.int .i64 t389, .slice Ao13 t390.length co13] 26 (0, 0)) q8_18 hb) <| ac_ (blk_below (g := gb401) (o := .cells #[.int .i64 t396, .slice Ao38 t397.length co38] 26 (0, 0)) q8_19 hb) <| Aside0.mk (below_step q8_7 hb); clear HO_395001 HO_402001 BK387 BK388 BK394 BK401 HB; obtain ⟨HO_395001, HO_402001, HO406, BK387, BK388, BK394, BK401, HB⟩ := n_; (try clear hb ho0)) | (refine be_ 11 #[.int .i64 0, .slice none 0 0] 26 ?_; intro gb408 hg w61 hbox hb; have n_ := ac_ (Kd.R_below q8_20 hb) <| ac_ (Kd.R_below q8_21 hb) <| ac_ (Kd.R_below (by (with_reducible repeat (first | apply Kd.R_alloc | apply Kd.R_drewN | apply Kd.R_drew)); exact HO406.out) hb) <| ac_ (blk_below (g := gb387) (o := .cells #[.int .i64 a0_0, .slice A0_1 l0_1.length c0_1] 26 (0, 0)) q8_16 hb) <| ac_ (blk_below (g := gb388) (o := .cells #[.int .i64 0, .slice none 0 0] 26 (0, 0)) q8_17 hb) <| ac_ (blk_below (g := gb394) (o := .cells #[.int .i64 t389, .slice Ao13 t390.length co13] 26 (0, 0)) q8_18 hb) <| ac_ (blk_below (g := gb401) (o := .cells #[.int .i64 t396, .slice Ao38 t397.length co38] 26 (0, 0)) q8_19 hb) <| ac_ (below_step q8_7 hb) <| ac_ (hbox) <| ac_ ((gz_ w hg q8_7)) <| ac_ ((gz_ w hg q8_7)) <| ac_ ((nl_ hg (blk_lt (g := gb387) (o := .cells #[.int .i64 a0_0, .slice A0_1 l0_1.length c0_1] 26 (0, 0)) q8_16))) <| ac_ ((ng_ hg (blk_lt (g := gb387) (o := .cells #[.int .i64 a0_0, .slice A0_1 l0_1.length c0_1] 26 (0, 0)) q8_16))) <| ac_ ((nl_ hg (blk_lt (g := gb388) (o := .cells #[.int .i64 0, .slice none 0 0] 26 (0, 0)) q8_17))) <| ac_ ((ng_ hg (blk_lt (g := gb388) (o := .cells #[.int .i64 0, .slice none 0 0] 26 (0, 0)) q8_17))) <| ac_ ((nl_ hg (blk_lt (g := gb394) (o := .cells #[.int .i64 t389, .slice Ao13 t390.length co13] 26 (0, 0)) q8_18))) <| ac_ ((ng_ hg (blk_lt (g := gb394) (o := .cells #[.int .i64 t389, .slice Ao13 t390.length co13] 26 (0, 0)) q8_18))) <| ac_ ((nl_ hg (blk_lt (g := gb401) (o := .cells #[.int .i64 t396, .slice Ao38 t397.length co38] 26 (0, 0)) q8_19))) <| Aside0.mk ((ng_ hg (blk_lt (g := gb401) (o := .cells #[.int .i64 t396, .slice Ao38 t397.length co38] 26 (0, 0)) q8_19))); clear HO_395001 HO_402001 HO406 BK387 BK388 BK394 BK401 HB; obtain ⟨HO_395001, HO_402001, HO406, BK387, BK388, BK394, BK401, HB, BK408, GW408, GE408, NB387_408, NB408_387, NB388_408, NB408_388, NB394_408, NB408_394, NB401_408, NB408_401⟩ := n_; clear hb hbox hg; have hnb62 := NB408_387.out; have hnc62 := NB387_408.out; have hnb63 := NB408_388.out; have hnc63 := NB388_408.out; have hnb64 := NB408_394.out; have hnc64 := NB394_408.out; have hnb65 := NB408_401.out; have hnc65 := NB401_408.out; have hcz66_0 : w61.cell? ⟨gb408, 0, none⟩ = some (.int .i64 0) := (blk_cell BK408.out 0).trans rfl; have hcz66_1 : w61.cell? ⟨gb408, 1, none⟩ = some (.slice none 0 0) := (blk_cell BK408.out 1).trans rfl; have hfz66_0 := blk_frozen BK408.out 0; have hfz66_1 := blk_frozen BK408.out 1; obtain ⟨Ao67, co67, eo67⟩ := Kd.R_slice HO406.out; subst eo67; have hnb68 := NB388_387.out; have hnc68 := NB387_388.out; have hnb69 := NB388_394.out; have hnc69 := NB394_388.out; have hcz70_0 : w61.cell? ⟨gb388, 0, none⟩ = some (.int .i64 0) := (blk_cell BK388.out 0).trans rfl; have hcz70_1 : w61.cell? ⟨gb388, 1, none⟩ = some (.slice none 0 0) := (blk_cell BK388.out 1).trans rfl; have hfz70_0 := blk_frozen BK388.out 0; have hfz70_1 := blk_frozen BK388.out 1))
        refine bodyPost_ret (results_ct rfl _ _ gb388 26 #[.int .i64 t403, .slice Ao67 t404.length co67] (0, 0) _ rfl (by (with_reducible repeat (first | refine blk_drewN ?_ _ | refine blk_drew ?_ | refine blk_alloc ?_ _)); refine blk_put (cs := #[.int .i64 t403, .slice none 0 0]) ?_ 1 _ rfl; (with_reducible repeat (first | refine blk_drewN ?_ _ | refine blk_drew ?_ | refine blk_alloc ?_ _)); refine blk_put (cs := #[.int .i64 0, .slice none 0 0]) ?_ 0 _ rfl; (with_reducible repeat (first | refine blk_drewN ?_ _ | refine blk_drew ?_ | refine blk_alloc ?_ _)); refine blk_far ?_ NB388_408.out _; (with_reducible repeat (first | refine blk_drewN ?_ _ | refine blk_drew ?_ | refine blk_alloc ?_ _)); refine blk_far ?_ NB388_408.out _; (with_reducible repeat (first | refine blk_drewN ?_ _ | refine blk_drew ?_ | refine blk_alloc ?_ _)); exact BK388.out) Try.underlying26 rfl (by kernel_rfl)) rfl ?_
        exact ⟨_, (by first | rfl | (simp [errW_none, errW_some] <;> rfl) | (simp [*, errW_none, errW_some] <;> rfl)), (by (with_reducible repeat (first | apply Kd.R_alloc | apply Kd.R_drewN | apply Kd.R_drew)); exact Kd.R_mono (Kd.R_far (p := ⟨gb388, 1, none⟩) (Kd.R_far (p := ⟨gb388, 0, none⟩) (Kd.R_far (p := ⟨gb408, 1, none⟩) (Kd.R_far (p := ⟨gb408, 0, none⟩) (Kd.R_types (Kd.R_types HO406.out BK408.out (by decide)) BK388.out (by decide)) (fun _ hk => hk.1.2) (.int .i64 t403)) (fun _ hk => hk.1.2) (.slice Ao67 t404.length co67)) (fun _ hk => hk.2) (.int .i64 t403)) (fun _ hk => hk.2) (.slice Ao67 t404.length co67)) (fun _ hk => trivial)), (by repeat (first | (with_reducible first | exact HB.out | apply below_alloc | apply pw_below_drewN | apply below_drew1 | refine below_set ?_ GE387.out | refine below_set ?_ GE388.out | refine below_set ?_ GE394.out | refine below_set ?_ GE401.out | refine below_set ?_ GE408.out) | exact HB.out))⟩
 ·
  replace c3 := Bool.eq_false_iff.mpr c3; subst c3
  rw [if_neg (show ¬ (false = true) by decide)] at H
  simp only [Option.some.injEq, Prod.mk.injEq] at H
  obtain ⟨rfl, rfl, rfl⟩ := H
  go_enter Try.func24, Try.ntmps24
  go_wp2_with (first | (refine be_ 1 #[.int .i64 a0_0, .slice A0_1 l0_1.length c0_1] 26 ?_; intro gb387 hg w71 hbox hb; have n_ := ac_ (below_step s1_ hb) <| ac_ (hbox) <| ac_ ((gz_ w hg s1_)) <| Aside0.mk ((gz_ w hg s1_)); clear HB; obtain ⟨HB, BK387, GW387, GE387⟩ := n_; clear hb hbox hg) | (refine be_ 2 #[.int .i64 0, .slice none 0 0] 26 ?_; intro gb388 hg w72 hbox hb; have n_ := ac_ (blk_below (g := gb387) (o := .cells #[.int .i64 a0_0, .slice A0_1 l0_1.length c0_1] 26 (0, 0)) q8_16 hb) <| ac_ (below_step q8_13 hb) <| ac_ (hbox) <| ac_ ((gz_ w hg q8_13)) <| ac_ ((gz_ w hg q8_13)) <| ac_ ((nl_ hg (blk_lt (g := gb387) (o := .cells #[.int .i64 a0_0, .slice A0_1 l0_1.length c0_1] 26 (0, 0)) q8_16))) <| Aside0.mk ((ng_ hg (blk_lt (g := gb387) (o := .cells #[.int .i64 a0_0, .slice A0_1 l0_1.length c0_1] 26 (0, 0)) q8_16))); clear BK387 HB; obtain ⟨BK387, HB, BK388, GW388, GE388, NB387_388, NB388_387⟩ := n_; clear hb hbox hg; have hnb73 := NB387_388.out; have hnc73 := NB388_387.out; have hcz74_0 : w72.cell? ⟨gb387, 0, none⟩ = some (.int .i64 a0_0) := (blk_cell BK387.out 0).trans rfl; have hcz74_1 : w72.cell? ⟨gb387, 1, none⟩ = some (.slice A0_1 l0_1.length c0_1) := (blk_cell BK387.out 1).trans rfl; have hfz74_0 := blk_frozen BK387.out 0; have hfz74_1 := blk_frozen BK387.out 1) | (refine gL_ 27 15 Try.func27 #[.agg #[.int .i64 a0_0, .slice A0_1 l0_1.length c0_1]] ?_; (with_reducible refine (spec_Clarify.calls k a0_0 _ _ l0_1 t389 t390 false _ ?side1 ?side2 A2.out).mono ?_); (case side1 => exact s3_); (case side2 => exact HC0_1.out); rintro e w75 ⟨v391, rfl, ho0, hb⟩; refine ⟨_, rfl, ?_⟩; have n_ := ac_ (Kd.R_lower ho0 (below_size q8_9)) <| ac_ (blk_below (g := gb387) (o := .cells #[.int .i64 a0_0, .slice A0_1 l0_1.length c0_1] 26 (0, 0)) q8_16 hb) <| ac_ (blk_below (g := gb388) (o := .cells #[.int .i64 0, .slice none 0 0] 26 (0, 0)) q8_17 hb) <| Aside0.mk (below_step q8_9 hb); clear BK387 BK388 HB; obtain ⟨HO392, BK387, BK388, HB⟩ := n_; (try clear hb ho0)) | (refine be_ 4 #[.int .i64 0, .slice none 0 0] 26 ?_; intro gb394 hg w76 hbox hb; have n_ := ac_ (Kd.R_below (by (with_reducible repeat (first | apply Kd.R_alloc | apply Kd.R_drewN | apply Kd.R_drew)); exact HO392.out) hb) <| ac_ (blk_below (g := gb387) (o := .cells #[.int .i64 a0_0, .slice A0_1 l0_1.length c0_1] 26 (0, 0)) q8_16 hb) <| ac_ (blk_below (g := gb388) (o := .cells #[.int .i64 0, .slice none 0 0] 26 (0, 0)) q8_17 hb) <| ac_ (below_step q8_9 hb) <| ac_ (hbox) <| ac_ ((gz_ w hg q8_9)) <| ac_ ((gz_ w hg q8_9)) <| ac_ ((nl_ hg (blk_lt (g := gb387) (o := .cells #[.int .i64 a0_0, .slice A0_1 l0_1.length c0_1] 26 (0, 0)) q8_16))) <| ac_ ((ng_ hg (blk_lt (g := gb387) (o := .cells #[.int .i64 a0_0, .slice A0_1 l0_1.length c0_1] 26 (0, 0)) q8_16))) <| ac_ ((nl_ hg (blk_lt (g := gb388) (o := .cells #[.int .i64 0, .slice none 0 0] 26 (0, 0)) q8_17))) <| Aside0.mk ((ng_ hg (blk_lt (g := gb388) (o := .cells #[.int .i64 0, .slice none 0 0] 26 (0, 0)) q8_17))); clear HO392 BK387 BK388 HB; obtain ⟨HO392, BK387, BK388, HB, BK394, GW394, GE394, NB387_394, NB394_387, NB388_394, NB394_388⟩ := n_; clear hb hbox hg; have hnb77 := NB394_387.out; have hnc77 := NB387_394.out; have hnb78 := NB394_388.out; have hnc78 := NB388_394.out; have hcz79_0 : w76.cell? ⟨gb394, 0, none⟩ = some (.int .i64 0) := (blk_cell BK394.out 0).trans rfl; have hcz79_1 : w76.cell? ⟨gb394, 1, none⟩ = some (.slice none 0 0) := (blk_cell BK394.out 1).trans rfl; have hfz79_0 := blk_frozen BK394.out 0; have hfz79_1 := blk_frozen BK394.out 1; obtain ⟨Ao80, co80, eo80⟩ := Kd.R_slice HO392.out; subst eo80; have hcz81_0 : w76.cell? ⟨gb388, 0, none⟩ = some (.int .i64 0) := (blk_cell BK388.out 0).trans rfl; have hcz81_1 : w76.cell? ⟨gb388, 1, none⟩ = some (.slice none 0 0) := (blk_cell BK388.out 1).trans rfl; have hfz81_0 := blk_frozen BK388.out 0; have hfz81_1 := blk_frozen BK388.out 1))
  refine bodyPost_ret (results_ct rfl _ _ gb388 26 #[.int .i64 0, .slice none 0 0] (0, 0) _ rfl (by (with_reducible repeat (first | refine blk_drewN ?_ _ | refine blk_drew ?_ | refine blk_alloc ?_ _)); refine blk_put (cs := #[.int .i64 0, .slice none 0 0]) ?_ 1 _ rfl; (with_reducible repeat (first | refine blk_drewN ?_ _ | refine blk_drew ?_ | refine blk_alloc ?_ _)); refine blk_put (cs := #[.int .i64 0, .slice none 0 0]) ?_ 0 _ rfl; (with_reducible repeat (first | refine blk_drewN ?_ _ | refine blk_drew ?_ | refine blk_alloc ?_ _)); refine blk_far ?_ NB388_394.out _; (with_reducible repeat (first | refine blk_drewN ?_ _ | refine blk_drew ?_ | refine blk_alloc ?_ _)); refine blk_far ?_ NB388_394.out _; (with_reducible repeat (first | refine blk_drewN ?_ _ | refine blk_drew ?_ | refine blk_alloc ?_ _)); exact BK388.out) Try.underlying26 rfl (by kernel_rfl)) rfl ?_
  exact ⟨_, (by first | rfl | (simp [errW_none, errW_some] <;> rfl) | (simp [*, errW_none, errW_some] <;> rfl)), (by first | exact Kd.R_nil _ _ _ _ _ | exact Kd.N_nil _ _ _ _ _ | exact Kd.V_nil _ _ _ _ _ | exact Kd.Q_nil _ _ _ _ _ | exact Kd.S_nil _ _ _ _ _), q8_8⟩
theorem q8_23 {P : Prop} (h : P := by repeat (first | (with_reducible first | exact HB.out | apply below_alloc | apply pw_below_drewN | apply below_drew1 | refine below_set ?_ (IsS67.ge HI413.out) | refine below_set ?_ GE409.out) | exact HB.out)) : P := h
theorem q8_26 {P : Prop} (h : P := by (with_reducible repeat (first | refine blk_drewN ?_ _ | refine blk_drew ?_ | refine blk_alloc ?_ _)); exact BK409.out) : P := h
def spec_DrawClarify.f (k : Nat) (l0 : List Int) : Option (Int × List Int) := (spec_l1New.f k l0).bind fun bt410 => ((spec_l3Bent.f k bt410.1 bt410.2.1 bt410.2.2).bind fun bt414 => (some (bt414.1, bt414.2.1)))
set_option maxHeartbeats 8000000 in
set_option maxRecDepth 100000 in
theorem spec_DrawClarify.calls (k : Nat) (A0 : Option Addr) (c0 : Nat) (l0 : List Int) (r1 : Int) (r2 : List Int) (w : World) (hr0 : Kd.C (Kd.int .u8) w A0 l0.length l0) (hc0 : l0.length ≤ c0) (h : spec_DrawClarify.f k l0 = some (r1, r2)) :
  Calls Try.prog 25 #[.slice A0 l0.length c0] w fun e w' => ∃ v1_ : Value, e = .returned (.agg #[.int .i64 r1, v1_]) ∧ Kd.R (Kd.int .i64) 3 w' w.heap.size (fun _ => True) v1_ r2 ∧ Below w.heap.size w w' := by
 have hu26 := Try.underlying26; have HR0 := Aside0.mk hr0; have HC0 := Aside0.mk hc0; clear hr0 hc0; have HB := Aside0.mk (Below.refl w.heap.size w); have H := h; clear h; unfold spec_DrawClarify.f at H; obtain ⟨⟨t410, t411, t412⟩, A2, H⟩ := bnd8_ H; dsimp only at H; obtain ⟨⟨t414, t415, t418, t419⟩, A3, H⟩ := bnd8_ H; dsimp only at H
 simp only [Option.some.injEq, Prod.mk.injEq] at H
 obtain ⟨rfl, rfl⟩ := H
 go_enter Try.func25, Try.ntmps25
 go_wp2_with (first | (refine be_ 2 #[.int .i64 0, .slice none 0 0] 26 ?_; intro gb409 hg w4 hbox hb; have n_ := ac_ (below_step s1_ hb) <| ac_ (hbox) <| ac_ ((gz_ w hg s1_)) <| Aside0.mk ((gz_ w hg s1_)); clear HB; obtain ⟨HB, BK409, GW409, GE409⟩ := n_; clear hb hbox hg) | (refine gL_ 52 4 Try.func52 #[.slice A0 l0.length c0] ?_; (with_reducible refine (spec_l1New.calls k _ _ l0 t410 t411 t412 w _ ?side1 ?side2 ?side3 A2.out).mono ?_); (case side1 => repeat (first | (with_reducible first | exact HB.out | apply below_alloc | apply pw_below_drewN | apply below_drew1 | refine below_set ?_ GE409.out) | exact HB.out)); (case side2 => exact HR0.out); (case side3 => exact HC0.out); rintro e w5 ⟨g413, rfl, hi, hb, hb2⟩; refine ⟨_, rfl, ?_⟩; have n_ := ac_ (blk_below (g := gb409) (o := .cells #[.int .i64 0, .slice none 0 0] 26 (0, 0)) q8_26 hb2) <| ac_ (hb) <| ac_ (hi) <| ac_ (IsS67.ne_blk hi (blk_below (g := gb409) (o := .cells #[.int .i64 0, .slice none 0 0] 26 (0, 0)) q8_26 hb2) (by decide)) <| Aside0.mk (Ne.symm (IsS67.ne_blk hi (blk_below (g := gb409) (o := .cells #[.int .i64 0, .slice none 0 0] 26 (0, 0)) q8_26 hb2) (by decide))); clear BK409 HB; obtain ⟨BK409, HB, HI413, NB413_409, NB409_413⟩ := n_; (try clear hb hb2 hi)) | (refine gL_ 51 5 Try.func51 #[.pointer (some ⟨g413, 0, none⟩)] ?_; (with_reducible refine (spec_l3Bent.calls k g413 t410 t411 t412 t414 t415 t418 t419 w _ ?side1 ?side2 A3.out).mono ?_); (case side1 => repeat (first | (with_reducible first | exact HI413.out | apply IsS67.alloc | apply IsS67.drewN | apply IsS67.drew | apply IsS67.set_1 | apply IsS67.set_2 | refine IsS67.far ?_ NB413_409.out _) | exact HI413.out)); (case side2 => exact q8_23); rintro e w6 ⟨v416, rfl, ho0, hi, hb, hk⟩; refine ⟨_, rfl, ?_⟩; have n_ := ac_ (KeepBut.blk hk (g' := gb409) (o := .cells #[.int .i64 0, .slice none 0 0] 26 (0, 0)) q8_26 NB409_413.out (by simp)) <| ac_ (Kd.R_lower ho0 (below_size q8_23)) <| ac_ (hb) <| Aside0.mk (hi); clear BK409 HB HI413; obtain ⟨BK409, HO417, HB, HI413⟩ := n_; (try clear hb hk hi ho0); have hnb7 := NB409_413.out; have hnc7 := NB413_409.out; have hcz8_0 : w6.cell? ⟨gb409, 0, none⟩ = some (.int .i64 0) := (blk_cell BK409.out 0).trans rfl; have hcz8_1 : w6.cell? ⟨gb409, 1, none⟩ = some (.slice none 0 0) := (blk_cell BK409.out 1).trans rfl; have hfz8_0 := blk_frozen BK409.out 0; have hfz8_1 := blk_frozen BK409.out 1; obtain ⟨Ao9, co9, eo9⟩ := Kd.R_slice HO417.out; subst eo9))
 refine bodyPost_ret (results_cell_row rfl _ _ gb409 26 #[.int .i64 t414, .slice Ao9 t415.length co9] (0, 0) _ rfl (by (with_reducible repeat (first | refine blk_drewN ?_ _ | refine blk_drew ?_ | refine blk_alloc ?_ _)); refine blk_put (cs := #[.int .i64 t414, .slice none 0 0]) ?_ 1 _ rfl; (with_reducible repeat (first | refine blk_drewN ?_ _ | refine blk_drew ?_ | refine blk_alloc ?_ _)); refine blk_put (cs := #[.int .i64 0, .slice none 0 0]) ?_ 0 _ rfl; (with_reducible repeat (first | refine blk_drewN ?_ _ | refine blk_drew ?_ | refine blk_alloc ?_ _)); exact BK409.out) Try.underlying26 rfl (by kernel_rfl)) rfl ?_
 exact ⟨_, (by first | rfl | (simp [errW_none, errW_some] <;> rfl) | (simp [*, errW_none, errW_some] <;> rfl)), (by (with_reducible repeat (first | apply Kd.R_alloc | apply Kd.R_drewN | apply Kd.R_drew)); exact Kd.R_mono (Kd.R_far (p := ⟨gb409, 1, none⟩) (Kd.R_far (p := ⟨gb409, 0, none⟩) (Kd.R_types HO417.out BK409.out (by decide)) (fun _ hk => hk.2) (.int .i64 t414)) (fun _ hk => hk.2) (.slice Ao9 t415.length co9)) (fun _ hk => trivial)), q8_23⟩
end Go.Proofs.Ytafnamchckehmaa.Pr
