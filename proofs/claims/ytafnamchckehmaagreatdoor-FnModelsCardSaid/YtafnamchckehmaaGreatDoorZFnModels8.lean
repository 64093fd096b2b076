/- What the law needs of the program's functions as plain functions, of the proofs that their calls answer so, and of plain laws: gathered by a program of this place (pack.py) out of its printed texts. No condition beyond what each statement says. -/
import Derived.Test.YtafnamchckehmaaGreatDoorZFnModels2
import Derived.Test.YtafnamchckehmaaGreatDoorZFnModels3
import Derived.Test.YtafnamchckehmaaGreatDoorZFnModels7
import Derived.Test.YtafnamchckehmaaGreatDoorZFnModels6
import Derived.Laws.Bits64b
import Derived.Lib.TrailingZeros
namespace Go.Proofs.YtafnamchckehmaaGreatDoor.Pr
open Go.RowKit Go.Proofs.YtafnamchckehmaaGreatDoorW.PrintWords Go.Proofs.YtafnamchckehmaaGreatDoorW.PrintLast Go.Proofs.YtafnamchckehmaaGreatDoorW.PrintMore
attribute [local go_sem] max2_int min2_int max_two min_two max_three min_three max_four min_four
set_option linter.unusedVariables false
set_option linter.unusedSimpArgs false
theorem bnd26_ {α β : Type} {o : Option α} {f : α → Option β} {r : β} (h : o.bind f = some r) : ∃ a, Aside0 (o = some a) ∧ f a = some r := by
 obtain ⟨a, h1, h2⟩ := Option.bind_eq_some_iff.mp h
 exact ⟨a, ⟨h1⟩, h2⟩
theorem q26_1 {P : Prop} (h : P := by (with_reducible repeat (first | apply Kd.R_alloc | apply Kd.R_drewN | apply Kd.R_drew)); exact (Kd.R_mono (Kd.R_far (p := ⟨gb500, 1, none⟩) (Kd.R_far (p := ⟨gb500, 0, none⟩) (Kd.R_types HO497.out BK500.out (by decide)) (fun _ hk => hk.2) (.int .i64 t494)) (fun _ hk => hk.2) (.slice Ao10 t495.length co10)) (fun _ h_ => h_.1))) : P := h
theorem q26_2 {P : Prop} (h : P := by repeat (first | (with_reducible first | exact HI493.out | apply IsS152.alloc | apply IsS152.drewN | apply IsS152.drew | apply IsS152.set_1 | apply IsS152.set_2 | refine IsS152.far ?_ NB493_500.out _) | exact HI493.out)) : P := h
theorem q26_3 {P : Prop} (h : P := by repeat (first | (with_reducible first | exact HB.out | apply below_alloc | apply pw_below_drewN | apply below_drew1 | refine below_set ?_ (IsS152.ge HI493.out) | refine below_set ?_ GE500.out) | exact HB.out)) : P := h
theorem q26_4 {P : Prop} (h : P := by repeat (first | (with_reducible exact HR523.out) | (with_reducible refine Kd.C_alloc ?_ _) | (with_reducible refine Kd.C_drewN ?_ _) | (with_reducible refine Kd.C_drew ?_) | exact HR523.out)) : P := h
theorem q26_5 {P : Prop} (h : P := by repeat (first | (with_reducible exact HR530.out) | (with_reducible refine Kd.C_alloc ?_ _) | (with_reducible refine Kd.C_drewN ?_ _) | (with_reducible refine Kd.C_drew ?_) | exact HR530.out)) : P := h
theorem q26_6 {P : Prop} (h : P := by repeat (first | (with_reducible first | exact HI493.out | apply IsS152.alloc | apply IsS152.drewN | apply IsS152.drew | apply IsS152.set_1 | apply IsS152.set_2) | exact HI493.out)) : P := h
theorem q26_7 {P : Prop} (h : P := by repeat (first | (with_reducible first | exact HB.out | apply below_alloc | apply pw_below_drewN | apply below_drew1 | refine below_set ?_ (IsS152.ge HI493.out)) | exact HB.out)) : P := h
theorem q26_9 {P : Prop} (h : P := by (with_reducible repeat (first | apply Kd.R_alloc | apply Kd.R_drewN | apply Kd.R_drew)); exact Kd.R_mono HO_6.out (fun _ hk => trivial)) : P := h
theorem q26_10 {P : Prop} (h : P := by (with_reducible repeat (first | refine blk_drewN ?_ _ | refine blk_drew ?_ | refine blk_alloc ?_ _)); exact BK500.out) : P := h
theorem q26_11 {P : Prop} (h : P := by (with_reducible repeat (first | apply Kd.R_alloc | apply Kd.R_drewN | apply Kd.R_drew)); exact HO_501001.out) : P := h
theorem q26_17 {P : Prop} (h : P := by decide) : P := h
def spec_l13Family.l0 : Nat → List Int → List (S102) → Int → List Int → Int → Int → Int → List Int → Option (Int × List Int)
 | 0, _, _, _, _, _, _, _, _ => none
 | k + 1, x6, x7, x8, x494000, x494001, x494002, x501000, x501001 => if x8 < (x7.length : Int) then (if 0 ≤ x8 then (if x6.length < 17592186044416 then (spec_l13Family.l0 k (x6 ++ [(rd_T102 x7 x8).f1]) x7 (wrap64 (x8 + 1)) x494000 x494001 x494002 x501000 x501001) else (none)) else (none)) else ((spec_l1Below.f x494000 x494001 x494002 6).bind fun bt511 => (if bt511.1 = 0 then (if (x6.length : Int) > 1 then ((spec_l1Below.f x494000 bt511.2.1 bt511.2.2 (x6.length : Int)).bind fun bt514 => ((some (([] : List Int) : List Int)).bind fun y517 => (if 0 ≤ bt514.1 then (if bt514.1 ≤ (x6.length : Int) then ((some (x6.take (bt514.1 : Int).toNat : List Int)).bind fun y520 => (if y517.length + y520.length < 17592186044416 then ((some (y517 ++ y520 : List Int)).bind fun y524 => (if 0 ≤ (wrap64 (bt514.1 + 1)) then (if (wrap64 (bt514.1 + 1)) ≤ (x6.length : Int) then ((some (x6.drop ((wrap64 (bt514.1 + 1)) : Int).toNat : List Int)).bind fun y527 => (if y524.length + y527.length < 17592186044416 then (some (x501000, (y524 ++ y527))) else (none))) else (none)) else (none))) else (none))) else (none)) else (none)))) else (some (x501000, x6))) else (if bt511.1 = 1 then ((spec_l2List.f k x494000 bt511.2.1 bt511.2.2).bind fun bt534 => (some (x501000, bt534.1))) else (some (x501000, x6)))))
def spec_l13Family.f (k : Nat) (l0 : List Int) : Option (Int × List Int) := (spec_l1New.f k l0).bind fun bt490 => ((spec_l3Draw.f k bt490.1 bt490.2.1 bt490.2.2).bind fun bt494 => ((spec_Concepts.f k bt494.1 bt494.2.1).bind fun t504 => (spec_l13Family.l0 k (([] : List Int)) t504 0 bt490.1 bt494.2.2.1 bt494.2.2.2 bt494.1 bt494.2.1)))
def spec_l13Family.T13 : Bool × List (List Nat × List Nat) := (true, [([], []), ([], []), ([], []), ([1, 2], [1, 2]), ([0, 3], [0, 3]), ([], []), ([], []), ([6], [6]), ([5, 7], [5, 7]), ([4, 8, 4], [4, 8]), ([9, 9, 0, 1, 2, 3, 4, 5, 6, 7, 8, 9], [1, 5, 9])])
def spec_l13Family.B13 : List Nat := [0, 0, 0, 6, 15, 0, 0, 64, 224, 511, 1023]
theorem spec_l13Family.tab13 : rtab .any (opsOf Tryz.f125 13) = spec_l13Family.T13 := s12_
theorem spec_l13Family.bits13 : waitsOk spec_l13Family.T13.2 spec_l13Family.B13 = true := s12_
set_option maxHeartbeats 40000000 in
set_option maxRecDepth 100000 in
theorem spec_l13Family.calls (k : Nat) (A0 : Option Addr) (c0 : Nat) (l0 : List Int) (r1 : Int) (r2 : List Int) (w : World) (hr0 : Kd.C (Kd.int .u8) w A0 l0.length l0) (hc0 : l0.length ≤ c0) (h : spec_l13Family.f k l0 = some (r1, r2)) :
  Calls Tryz.prog 125 #[.slice A0 l0.length c0] w fun e w' => ∃ v1_ : Value, e = .returned (.tuple #[.int .i64 r1, v1_]) ∧ Kd.R (Kd.int .i64) 3 w' w.heap.size (fun _ => True) v1_ r2 ∧ Below w.heap.size w w' := by
 have hu29 := Tryz.underlying29; have HR0 := Aside0.mk hr0; have HC0 := Aside0.mk hc0; clear hr0 hc0; have HB := Aside0.mk (Below.refl w.heap.size w); have H := h; clear h; unfold spec_l13Family.f at H; obtain ⟨⟨t490, t491, t492⟩, A2, H⟩ := bnd26_ H; dsimp only at H; obtain ⟨⟨t494, t495, t498, t499⟩, A3, H⟩ := bnd26_ H; dsimp only at H; obtain ⟨y501, hy501⟩ : ∃ y_ : List Int, y_ = (([] : List Int)) := ⟨_, rfl⟩
 replace H : ((spec_Concepts.f k t494 t495).bind fun t504 => (spec_l13Family.l0 k y501 t504 0 t490 t498 t499 t494 t495)) = some (r1, r2) := by first | (rw [hy501]; with_reducible exact H) | (have H2_ := (Option.bind_some _ _).symm.trans H; rw [hy501]; with_reducible exact H2_) | (have H2_ := (Option.bind_some _ _).symm.trans H; with_reducible exact H2_) | with_reducible exact H | (rw [hy501]; exact H) | exact H
 have Ny501 := Aside0.mk hy501; clear hy501; obtain ⟨t504, A4, H⟩ := bnd26_ H; have H' := Aside0.mk H; clear H
 go_enter Tryz.func125, Tryz.ntmps125
 go_wp2_with (first | (refine gL_ 144 11 Tryz.func144 #[.slice A0 l0.length c0] ?_; (with_reducible refine (spec_l1New.calls k _ _ l0 t490 t491 t492 w _ ?side1 ?side2 ?side3 A2.out).mono ?_); (case side1 => repeat (first | (with_reducible first | exact HB.out | apply below_alloc | apply pw_below_drewN | apply below_drew1) | exact HB.out)); (case side2 => exact HR0.out); (case side3 => exact HC0.out); rintro e w5 ⟨g493, rfl, hi, hb, hb2⟩; refine ⟨_, rfl, ?_⟩; have n_ := ac_ (hb) <| Aside0.mk (hi); clear HB; obtain ⟨HB, HI493⟩ := n_; (try clear hb hb2 hi)) | (refine gL_ 205 13 Tryz.func205 #[.pointer (some ⟨g493, 0, none⟩)] ?_; (with_reducible refine (spec_l3Draw.calls k g493 t490 t491 t492 t494 t495 t498 t499 w _ ?side1 ?side2 A3.out).mono ?_); (case side1 => exact q26_6); (case side2 => exact q26_7); rintro e w6 ⟨v496, rfl, ho0, hi, hb, hk⟩; refine ⟨_, rfl, ?_⟩; have n_ := ac_ (Kd.R_lower ho0 (below_size q26_7)) <| ac_ (hb) <| Aside0.mk (hi); clear HB HI493; obtain ⟨HO497, HB, HI493⟩ := n_; (try clear hb hk hi ho0)) | (refine be_ 5 #[.int .i64 0, .slice none 0 0] 29 ?_; intro gb500 hg w7 hbox hb; have n_ := ac_ (Kd.R_below (by (with_reducible repeat (first | apply Kd.R_alloc | apply Kd.R_drewN | apply Kd.R_drew)); exact HO497.out) hb) <| ac_ (IsS152.below q26_6 hb) <| ac_ (below_step q26_7 hb) <| ac_ (hbox) <| ac_ ((gz_ w hg q26_7)) <| ac_ ((gz_ w hg q26_7)) <| ac_ ((nl_ hg (IsS152.lt (show IsS152 w _ g493 t490 t498 t499 from q26_6)))) <| Aside0.mk ((ng_ hg (IsS152.lt (show IsS152 w _ g493 t490 t498 t499 from q26_6)))); clear HO497 HI493 HB; obtain ⟨HO497, HI493, HB, BK500, GW500, GE500, NB493_500, NB500_493⟩ := n_; clear hb hbox hg; have hnb8 := NB500_493.out; have hnc8 := NB493_500.out; have hcz9_0 : w7.cell? ⟨gb500, 0, none⟩ = some (.int .i64 0) := (blk_cell BK500.out 0).trans rfl; have hcz9_1 : w7.cell? ⟨gb500, 1, none⟩ = some (.slice none 0 0) := (blk_cell BK500.out 1).trans rfl; have hfz9_0 := blk_frozen BK500.out 0; have hfz9_1 := blk_frozen BK500.out 1; obtain ⟨Ao10, co10, eo10⟩ := Kd.R_slice HO497.out; subst eo10) | ((with_reducible refine gate_dst (N := 14) rfl ?_); refine Kd.R_lit (Kd.int .i64) _ 3 ?hg (N := 14) ?hd (xs := ([] : List Int)) (inner := []) (ok := fun _ => True) (okp := fun _ => True) ?hr ?hp (fun _ hk => hk) trivial (Below.refl _ _) (Nat.le_refl _) (by simp) ?_; (case hd => rfl); (case hg => rfl); (case hr => first | (go_simp; done) | (go_simp; rfl)); (case hp => exact (Reps.none _ _)); intro v502 w11 ho12 hb hg_ hnew_; clear hg_ hnew_; (first | rw [← Ny501.out] at ho12 | (simp only [Int.reduceToNat] at ho12; rw [← Ny501.out] at ho12)); have n_ := ac_ (Kd.R_elder' q26_1 (Kd.R_base ho12) hb) <| ac_ (Kd.R_lower (Kd.R_new' ho12 (Kd.R_lt q26_1)) (below_size q26_3)) <| ac_ (IsS152.below (show IsS152 w ((w7.setCell ⟨gb500, 0, none⟩ (.int .i64 t494)).setCell ⟨gb500, 1, none⟩ (.slice Ao10 t495.length co10)) g493 t490 t498 t499 from q26_2) hb) <| ac_ (blk_below (g := gb500) (o := .cells #[.int .i64 t494, .slice Ao10 t495.length co10] 29 (0, 0)) (by (with_reducible repeat (first | refine blk_drewN ?_ _ | refine blk_drew ?_ | refine blk_alloc ?_ _)); refine blk_put (cs := #[.int .i64 t494, .slice none 0 0]) ?_ 1 _ rfl; (with_reducible repeat (first | refine blk_drewN ?_ _ | refine blk_drew ?_ | refine blk_alloc ?_ _)); refine blk_put (cs := #[.int .i64 0, .slice none 0 0]) ?_ 0 _ rfl; (with_reducible repeat (first | refine blk_drewN ?_ _ | refine blk_drew ?_ | refine blk_alloc ?_ _)); exact BK500.out) hb) <| Aside0.mk (below_step q26_3 hb); clear HO497 HI493 BK500 HB; obtain ⟨HO497, HO503, HI493, BK500, HB⟩ := n_; clear hb ho12; have hcz13_0 : w11.cell? ⟨gb500, 0, none⟩ = some (.int .i64 t494) := (blk_cell BK500.out 0).trans rfl; have hcz13_1 : w11.cell? ⟨gb500, 1, none⟩ = some (.slice Ao10 t495.length co10) := (blk_cell BK500.out 1).trans rfl; have hfz13_0 := blk_frozen BK500.out 0; have hfz13_1 := blk_frozen BK500.out 1) | (refine gL_ 25 16 Tryz.func25 #[.agg #[.int .i64 t494, .slice Ao10 t495.length co10]] ?_; (with_reducible refine (spec_Concepts.calls k t494 _ _ t495 t504 _ ?side1 ?side2 A4.out).mono ?_); (case side1 => repeat (first | exact (Kd.R_reads' HO497.out).2.2 | (with_reducible refine Kd.C_alloc ?_ _) | (with_reducible refine Kd.C_drewN ?_ _) | (with_reducible refine Kd.C_drew ?_))); (case side2 => exact (Kd.R_reads' HO497.out).2.1); rintro e w14 ⟨v505, rfl, ho0, hb⟩; refine ⟨_, rfl, ?_⟩; have n_ := ac_ (Kd.R_below (by (with_reducible repeat (first | apply Kd.R_alloc | apply Kd.R_drewN | apply Kd.R_drew)); exact HO497.out) hb) <| ac_ (Kd.R_below (by (with_reducible repeat (first | apply Kd.R_alloc | apply Kd.R_drewN | apply Kd.R_drew)); exact HO503.out) hb) <| ac_ (Kd.R_lower ho0 (below_size q26_3)) <| ac_ (IsS152.below q26_2 hb) <| ac_ (blk_below (g := gb500) (o := .cells #[.int .i64 t494, .slice Ao10 t495.length co10] 29 (0, 0)) q26_10 hb) <| Aside0.mk (below_step q26_3 hb); clear HO497 HO503 HI493 BK500 HB; obtain ⟨HO497, HO503, HO506, HI493, BK500, HB⟩ := n_; (try clear hb ho0)))
 go_loopg [6, 8] k (fun kq v6 v8 w' => ∃ (x6_1 : List Int) (x8_1 : Int), v8 = .int .i64 x8_1 ∧ Aside0 (spec_l13Family.l0 kq x6_1 t504 x8_1 t490 t498 t499 t494 t495 = some (r1, r2)) ∧ Aside0 (kq ≤ k) ∧ Aside0 (Kd.R (Kd.int .i64) 3 w' w.heap.size (fun k_ => some k_ ≠ ((.slice Ao10 t495.length co10) : Value).ownBlock) v6 x6_1) ∧ Aside0 (Kd.R k102 102 w' w.heap.size (fun _ => True) v505 t504) ∧ Aside0 (Kd.R (Kd.int .i64) 3 w' w.heap.size (fun k_ => some k_ ≠ (v6 : Value).ownBlock) (.slice Ao10 t495.length co10) t495) ∧ Aside0 (w'.heap[gb500]? = some (.cells #[.int .i64 t494, (.slice Ao10 t495.length co10)] 29 (0, 0))) ∧ Aside0 (IsS152 w w' g493 t490 t498 t499) ∧ Aside0 (Below w.heap.size w w'))
 case atStart => exact ⟨(y501), (0), (by first | rfl | (simp; done) | (simp [*]; done) | (simp [i64_w, i32_w]; done)), H', ⟨Nat.le_refl _⟩, ⟨(by (with_reducible repeat (first | apply Kd.R_alloc | apply Kd.R_drewN | apply Kd.R_drew)); exact Kd.R_mono HO503.out (fun _ hk => hk.2))⟩, ⟨(by (with_reducible repeat (first | apply Kd.R_alloc | apply Kd.R_drewN | apply Kd.R_drew)); exact HO506.out)⟩, ⟨(by (with_reducible repeat (first | apply Kd.R_alloc | apply Kd.R_drewN | apply Kd.R_drew)); exact Kd.R_mono HO497.out (fun _ hk => hk.2))⟩, ⟨q26_10⟩, ⟨q26_2⟩, ⟨q26_3⟩⟩
 case round =>
  clear H'
  try clear c1
  try clear c2
  try clear p2
  try clear c8
  try clear c12
  try clear c14
  try clear hcz13_0
  try clear hcz13_1
  try clear hcz9_0
  try clear hcz9_1
  try clear hfz13_0
  try clear hfz13_1
  try clear hfz9_0
  try clear hfz9_1
  obtain ⟨x6_1, x8_1, rfl, HA, HK1, HO_6, HO_7, HO_501001, BK500, HI493, HB⟩ := hrel
  cases gk with
  | zero => exact absurd HA.out (by simp [spec_l13Family.l0])
  | succ k1 =>
   have H := HA.out; clear HA
   simp only [spec_l13Family.l0] at H
   by_cases c15 : x8_1 < (t504.length : Int)
   ·
    rw [if_pos c15] at H; have c15b0 : decide (x8_1 < (t504.length : Int)) = true := decide_eq_true c15; clear c15
    by_cases c16 : 0 ≤ x8_1
    ·
     rw [if_pos c16] at H; have c16b0 : decide (0 ≤ x8_1) = true := decide_eq_true c16; clear c16
     by_cases c17 : x6_1.length < 17592186044416
     ·
      rw [if_pos c17] at H; have LMc17 := Aside0.mk c17; clear c17; obtain ⟨y508, hy508⟩ : ∃ y_ : List Int, y_ = (x6_1 ++ [(rd_T102 t504 x8_1).f1]) := ⟨_, rfl⟩
      replace H : (spec_l13Family.l0 k1 y508 t504 (wrap64 (x8_1 + 1)) t490 t498 t499 t494 t495) = some (r1, r2) := by first | (rw [hy508]; with_reducible exact H) | (have H2_ := (Option.bind_some _ _).symm.trans H; rw [hy508]; with_reducible exact H2_) | (have H2_ := (Option.bind_some _ _).symm.trans H; with_reducible exact H2_) | with_reducible exact H | (rw [hy508]; exact H) | exact H
      have Ny508 := Aside0.mk hy508; clear hy508; have H' := Aside0.mk H; clear H; obtain ⟨Ao18, co18, eo18⟩ := Kd.R_slice HO_7.out; subst eo18; have p507 : 0 ≤ (x8_1 : Int) := of_decide_eq_true s3_; have q507 : x8_1 < (t504.length : Int) := of_decide_eq_true s3_; obtain ⟨ad507, e507, hx507_0, hx507_1⟩ := at_T102 (Kd.R_reads' HO_7.out).2.2 x8_1 p507 q507
      cases e507
      replace p507 := eq_true p507; replace q507 := eq_true q507
      go_wp2_with (first | ((with_reducible refine gate_builtin (b := .append) (xs := #[.tmp 23, .tmp 29]) rfl ?_); at_builtin; refine Kd.R_append (Kd.int .i64) (w0 := w) w.heap.size rfl (.tmp 23) (.tmp 29) 27 3 (.int .i64 0) 8 rfl Tryz.underlying27 info3 rfl q26_17 (by omega) u6 x6_1 ((rd_T102 t504 x8_1).f1) [.int .i64 ((rd_T102 t504 x8_1).f1)] (fun k_ => some k_ ≠ (.slice Ao10 t495.length co10 : Value).ownBlock) (fun _ => False) rfl rfl ?aP (fun _ hk => hk.elim) ?aF ?aO ?aB ?aS ?aL ?_; (case aP => exact rfl); (case aB => exact q26_3); (case aF => exact (fun k_ hk => Kd.fresh' (Kd.R_lt q26_11) k_ hk)); (case aO => exact s17_); (case aS => exact (below_size q26_3)); (case aL => have := LMc17.out; omega); intro v509 w19 ho hb hg hat; rw [← Ny508.out] at ho; have n_ := ac_ (Kd.R_over' s20_ (Kd.R_typed s17_) q26_17 hg) <| ac_ (Kd.R_after (ok := (fun _ => True)) (by (with_reducible repeat (first | apply Kd.R_alloc | apply Kd.R_drewN | apply Kd.R_drew)); exact Kd.R_mono HO_501001.out (fun _ hk => ⟨trivial, by first | exact hk | exact own_any hk⟩)) hg hat) <| ac_ (blk_grown (g := gb500) (o := .cells #[.int .i64 t494, .slice Ao10 t495.length co10] 29 (0, 0)) q26_10 hg (Kd.R_ne HO_6.out BK500.out q26_17)) <| ac_ (IsS152.grown q26_2 hg (IsS152.own_ne HI493.out HO_6.out q26_17)) <| ac_ (hb) <| Aside0.mk (ho); clear HO_7 HO_501001 BK500 HI493 HB HO_6; obtain ⟨HO_7, HO_501001, BK500, HI493, HB, HO510⟩ := n_; clear ho hb hg hat))
      go_roundg k1
      case measure => have := HK1.out; omega
      case rel => exact ⟨(y508), (wrap64 (x8_1 + 1)), (by first | rfl | (simp; done) | (simp [*]; done) | (simp [i64_w, i32_w]; done)), H', ⟨by have := HK1.out; omega⟩, ⟨(by (with_reducible repeat (first | apply Kd.R_alloc | apply Kd.R_drewN | apply Kd.R_drew)); exact HO510.out)⟩, ⟨s20_⟩, ⟨(by (with_reducible repeat (first | apply Kd.R_alloc | apply Kd.R_drewN | apply Kd.R_drew)); exact Kd.R_mono HO_501001.out (fun _ hk => hk.2))⟩, ⟨q26_10⟩, ⟨q26_2⟩, ⟨q26_3⟩⟩
     ·
      rw [if_neg c17] at H
      exact absurd H (by simp)
    ·
     rw [if_neg c16] at H
     exact absurd H (by simp)
   ·
    rw [if_neg c15] at H; have c15b0 : decide (x8_1 < (t504.length : Int)) = false := decide_eq_false c15; clear c15; obtain ⟨⟨t511, t512, t513⟩, A20, H⟩ := bnd26_ H; dsimp only at H
    by_cases c21 : t511 = 0
    ·
     rw [if_pos c21] at H; have c21b0 : (t511 == 0) = true := beq_iff_eq.mpr c21; have c21b1 : (t511 != 0) = false := bne_eq_false_iff_eq.mpr c21; clear c21
     by_cases c22 : (x6_1.length : Int) > 1
     ·
      rw [if_pos c22] at H; have c22b0 : decide (1 < (x6_1.length : Int)) = true := decide_eq_true c22
      have c22b1 : decide (1 < x6_1.length) = true := decide_eq_true (by omega)
      clear c22; obtain ⟨⟨t514, t515, t516⟩, A23, H⟩ := bnd26_ H; dsimp only at H; obtain ⟨y517, hy517⟩ : ∃ y_ : List Int, y_ = (([] : List Int)) := ⟨_, rfl⟩
      replace H : (if 0 ≤ t514 then (if t514 ≤ (x6_1.length : Int) then ((some (x6_1.take (t514 : Int).toNat : List Int)).bind fun y520 => (if y517.length + y520.length < 17592186044416 then ((some (y517 ++ y520 : List Int)).bind fun y524 => (if 0 ≤ (wrap64 (t514 + 1)) then (if (wrap64 (t514 + 1)) ≤ (x6_1.length : Int) then ((some (x6_1.drop ((wrap64 (t514 + 1)) : Int).toNat : List Int)).bind fun y527 => (if y524.length + y527.length < 17592186044416 then (some (t494, (y524 ++ y527))) else (none))) else (none)) else (none))) else (none))) else (none)) else (none)) = some (r1, r2) := by first | (rw [hy517]; with_reducible exact H) | (have H2_ := (Option.bind_some _ _).symm.trans H; rw [hy517]; with_reducible exact H2_) | (have H2_ := (Option.bind_some _ _).symm.trans H; with_reducible exact H2_) | with_reducible exact H | (rw [hy517]; exact H) | exact H
      have Ny517 := Aside0.mk hy517; clear hy517
      by_cases c24 : 0 ≤ t514
      ·
       rw [if_pos c24] at H; have c24b0 := eq_true c24; have c24b1 : decide (0 ≤ t514) = true := decide_eq_true c24; clear c24
       by_cases c25 : t514 ≤ (x6_1.length : Int)
       ·
        rw [if_pos c25] at H; have c25b0 := eq_true c25; have c25b1 : decide (t514 ≤ (x6_1.length : Int)) = true := decide_eq_true c25; clear c25; obtain ⟨y520, hy520⟩ : ∃ y_ : List Int, y_ = (x6_1.take (t514 : Int).toNat) := ⟨_, rfl⟩
        replace H : (if y517.length + y520.length < 17592186044416 then ((some (y517 ++ y520 : List Int)).bind fun y524 => (if 0 ≤ (wrap64 (t514 + 1)) then (if (wrap64 (t514 + 1)) ≤ (x6_1.length : Int) then ((some (x6_1.drop ((wrap64 (t514 + 1)) : Int).toNat : List Int)).bind fun y527 => (if y524.length + y527.length < 17592186044416 then (some (t494, (y524 ++ y527))) else (none))) else (none)) else (none))) else (none)) = some (r1, r2) := by first | (rw [hy520]; with_reducible exact H) | (have H2_ := (Option.bind_some _ _).symm.trans H; rw [hy520]; with_reducible exact H2_) | (have H2_ := (Option.bind_some _ _).symm.trans H; with_reducible exact H2_) | with_reducible exact H | (rw [hy520]; exact H) | exact H
        have Ny520 := Aside0.mk hy520; clear hy520
        by_cases c26 : y517.length + y520.length < 17592186044416
        ·
         rw [if_pos c26] at H; have LMc26 := Aside0.mk c26; clear c26; obtain ⟨y524, hy524⟩ : ∃ y_ : List Int, y_ = (y517 ++ y520) := ⟨_, rfl⟩
         replace H : (if 0 ≤ (wrap64 (t514 + 1)) then (if (wrap64 (t514 + 1)) ≤ (x6_1.length : Int) then ((some (x6_1.drop ((wrap64 (t514 + 1)) : Int).toNat : List Int)).bind fun y527 => (if y524.length + y527.length < 17592186044416 then (some (t494, (y524 ++ y527))) else (none))) else (none)) else (none)) = some (r1, r2) := by first | (rw [hy524]; with_reducible exact H) | (have H2_ := (Option.bind_some _ _).symm.trans H; rw [hy524]; with_reducible exact H2_) | (have H2_ := (Option.bind_some _ _).symm.trans H; with_reducible exact H2_) | with_reducible exact H | (rw [hy524]; exact H) | exact H
         have Ny524 := Aside0.mk hy524; clear hy524; obtain ⟨ji27, hji27⟩ : ∃ j_ : Int, (wrap64 (t514 + 1)) = j_ := ⟨_, rfl⟩
         replace H : (if 0 ≤ (ji27) then (if (ji27) ≤ (x6_1.length : Int) then ((some (x6_1.drop ((ji27) : Int).toNat : List Int)).bind fun y527 => (if y524.length + y527.length < 17592186044416 then (some (t494, (y524 ++ y527))) else (none))) else (none)) else (none)) = some (r1, r2) := by first | (rw [hji27] at H; exact H) | (simp only [hji27] at H ⊢; exact H)
         (try rw [hji27] at A20)
         (try rw [hji27] at A23)
         have hji27w : (IntKind.i64.wrap (t514 + 1)) = ji27 := (i64_w _).trans hji27
         by_cases c28 : 0 ≤ (ji27)
         ·
          rw [if_pos c28] at H; have c28b0 := eq_true c28; have c28b1 : decide (0 ≤ (ji27)) = true := decide_eq_true c28; clear c28
          by_cases c29 : (ji27) ≤ (x6_1.length : Int)
          ·
           rw [if_pos c29] at H; have c29b0 := eq_true c29; have c29b1 : decide ((ji27) ≤ (x6_1.length : Int)) = true := decide_eq_true c29; clear c29; obtain ⟨y527, hy527⟩ : ∃ y_ : List Int, y_ = (x6_1.drop ((ji27) : Int).toNat) := ⟨_, rfl⟩
           replace H : (if y524.length + y527.length < 17592186044416 then (some (t494, (y524 ++ y527))) else (none)) = some (r1, r2) := by first | (rw [hy527]; with_reducible exact H) | (have H2_ := (Option.bind_some _ _).symm.trans H; rw [hy527]; with_reducible exact H2_) | (have H2_ := (Option.bind_some _ _).symm.trans H; with_reducible exact H2_) | with_reducible exact H | (rw [hy527]; exact H) | exact H
           have Ny527 := Aside0.mk hy527; clear hy527
           by_cases c30 : y524.length + y527.length < 17592186044416
           ·
            rw [if_pos c30] at H; have LMc30 := Aside0.mk c30; clear c30; obtain ⟨y531, hy531⟩ : ∃ y_ : List Int, y_ = (y524 ++ y527) := ⟨_, rfl⟩
            replace H : (some (t494, y531)) = some (r1, r2) := by first | (rw [hy531]; with_reducible exact H) | (have H2_ := (Option.bind_some _ _).symm.trans H; rw [hy531]; with_reducible exact H2_) | (have H2_ := (Option.bind_some _ _).symm.trans H; with_reducible exact H2_) | with_reducible exact H | (rw [hy531]; exact H) | exact H
            have Ny531 := Aside0.mk hy531; clear hy531
            simp only [Option.some.injEq, Prod.mk.injEq] at H
            obtain ⟨rfl, rfl⟩ := H; obtain ⟨Ao31, co31, eo31⟩ := Kd.R_slice HO_7.out; subst eo31
            try go_wp2_with (first | (refine gL_ 146 32 Tryz.func146 #[.pointer (some ⟨g493, 0, none⟩), .int .i64 6] ?_; (with_reducible refine (spec_l1Below.calls g493 t490 t498 t499 6 t511 t512 t513 w _ ?side1 ?side2 A20.out).mono ?_); (case side1 => exact q26_2); (case side2 => exact q26_3); rintro e w32 ⟨rfl, hi, hb, hk⟩; refine ⟨_, rfl, ?_⟩; have n_ := ac_ (Kd.R_mono (Kd.R_keep (IsS152.apart (show IsS152 w _ g493 t490 t498 t499 from q26_2) s17_ q26_17) hk (fun _ h => h.2)) (fun _ h => h.1)) <| ac_ (Kd.R_mono (Kd.R_keep (IsS152.apart (show IsS152 w _ g493 t490 t498 t499 from q26_2) s20_ q26_17) hk (fun _ h => h.2)) (fun _ h => h.1)) <| ac_ (Kd.R_mono (Kd.R_keep (IsS152.apart (show IsS152 w _ g493 t490 t498 t499 from q26_2) q26_11 q26_17) hk (fun _ h => h.2)) (fun _ h => h.1)) <| ac_ (KeepBut.blk hk (g' := gb500) (o := .cells #[.int .i64 t494, .slice Ao10 t495.length co10] 29 (0, 0)) q26_10 NB500_493.out (by simp)) <| ac_ (hb) <| Aside0.mk (hi); clear HO_6 HO_7 HO_501001 BK500 HB HI493; obtain ⟨HO_6, HO_7, HO_501001, BK500, HB, HI493⟩ := n_; (try clear hb hk hi); obtain ⟨Ao33, co33, eo33⟩ := Kd.R_slice HO_6.out; subst eo33) | (refine gL_ 146 41 Tryz.func146 #[.pointer (some ⟨g493, 0, none⟩), .int .i64 (x6_1.length : Int)] ?_; (with_reducible refine (spec_l1Below.calls g493 t490 t512 t513 (x6_1.length : Int) t514 t515 t516 w _ ?side1 ?side2 A23.out).mono ?_); (case side1 => exact q26_2); (case side2 => exact q26_3); rintro e w34 ⟨rfl, hi, hb, hk⟩; refine ⟨_, rfl, ?_⟩; have n_ := ac_ (Kd.R_mono (Kd.R_keep (IsS152.apart (show IsS152 w _ g493 t490 t512 t513 from q26_2) s17_ q26_17) hk (fun _ h => h.2)) (fun _ h => h.1)) <| ac_ (Kd.R_mono (Kd.R_keep (IsS152.apart (show IsS152 w _ g493 t490 t512 t513 from q26_2) s20_ q26_17) hk (fun _ h => h.2)) (fun _ h => h.1)) <| ac_ (Kd.R_mono (Kd.R_keep (IsS152.apart (show IsS152 w _ g493 t490 t512 t513 from q26_2) q26_11 q26_17) hk (fun _ h => h.2)) (fun _ h => h.1)) <| ac_ (KeepBut.blk hk (g' := gb500) (o := .cells #[.int .i64 t494, .slice Ao10 t495.length co10] 29 (0, 0)) q26_10 NB500_493.out (by simp)) <| ac_ (hb) <| Aside0.mk (hi); clear HO_6 HO_7 HO_501001 BK500 HB HI493; obtain ⟨HO_6, HO_7, HO_501001, BK500, HB, HI493⟩ := n_; (try clear hb hk hi)))
            have n0_ := Aside0.mk (Kd.R_drew HO_6.out); have n1_ := Aside0.mk (Kd.R_drew HO_7.out); have n2_ := Aside0.mk (Kd.R_drew HO_501001.out); have n3_ := Aside0.mk (blk_drew BK500.out); have n4_ := Aside0.mk (IsS152.drew HI493.out); have n5_ := Aside0.mk (below_drew1 HB.out); clear HO_6; clear HO_7; clear HO_501001; clear BK500; clear HI493; clear HB; have HO_6 := n0_; have HO_7 := n1_; have HO_501001 := n2_; have BK500 := n3_; have HI493 := n4_; have HB := n5_; clear n0_ n1_ n2_ n3_ n4_ n5_; have q36 : (t514 : Int) ≤ ((x6_1.length : Int) : Int) := of_decide_eq_true s3_; obtain ⟨i036, hi036, _, hsz36, _⟩ := info_parts info3; have hroom36 : x6_1.length ≤ co33 := (Kd.R_reads' HO_6.out).2.1; have hC36 : Kd.C (Kd.int .i64) _ Ao33 x6_1.length x6_1 := (Kd.R_reads' HO_6.out).2.2; have hcut36 := cut_to (P := Tryz.prog) 27 3 .i64 Tryz.underlying27 hi036 Ao33 x6_1.length co33 t514 (of_decide_eq_true s3_) q36 hroom36
            have hr36 := Kd.C_take (m := (t514 : Int).toNat) hC36 (by omega)
            have hy36 : y520.length = (t514 : Int).toNat := (by rw [Ny520.out, List.length_take]; omega)
            rw [← Ny520.out] at hr36; rw [← hy36] at hcut36; have HR523 := Aside0.mk hr36
            have HC523 := Aside0.mk (show y520.length ≤ co33 from by omega)
            clear hr36 hC36 hroom36 hi036 hsz36; have KY36 := Aside0.mk hy36; clear hy36
            have KL36 := Aside0.mk (show (t514 : Int).toNat ≤ x6_1.length from by omega)
            replace q36 := eq_true q36; have q37 : ((ji27) : Int) ≤ ((x6_1.length : Int) : Int) := of_decide_eq_true s3_; obtain ⟨i037, hi037, _, hsz37, _⟩ := info_parts info3; have hroom37 : x6_1.length ≤ co33 := (Kd.R_reads' HO_6.out).2.1; have hC37 : Kd.C (Kd.int .i64) _ Ao33 x6_1.length x6_1 := (Kd.R_reads' HO_6.out).2.2; have q037 : (0 : Int) ≤ ((ji27) : Int) := of_decide_eq_true s3_; have hcut37 := cut_from (P := Tryz.prog) 27 3 .i64 Tryz.underlying27 hi037 1 hsz37 Ao33 x6_1.length co33 (ji27) q037 q37
            have hr37 := Kd.C_drop (m := ((ji27) : Int).toNat) (c := co33) hC37 (by omega) hroom37
            obtain ⟨A37, hA37⟩ : ∃ A1, A1 = (if co33 = ((ji27) : Int).toNat then Ao33 else (Ao33 : Option Addr).map (·.add (((ji27) : Int).toNat * 1))) := ⟨_, rfl⟩
            obtain ⟨c37, hc37⟩ : ∃ c1, c1 = co33 - ((ji27) : Int).toNat := ⟨_, rfl⟩
            have hy37 : y527.length = x6_1.length - ((ji27) : Int).toNat := (by rw [Ny527.out, List.length_drop] <;> omega)
            rw [show (x6_1).drop ((ji27) : Int).toNat = y527 from Ny527.out.symm] at hr37
            replace hr37 : Kd.C (Kd.int .i64) _ A37 y527.length y527 := (by rw [hA37]; exact hr37)
            rw [← hy37, ← hA37, ← hc37] at hcut37; have HR530 := Aside0.mk hr37
            have HC530 := Aside0.mk (show y527.length ≤ c37 from by rw [hy37, hc37]; exact Nat.sub_le_sub_right hroom37 _)
            clear hr37 hC37 hroom37 hi037 hsz37 hc37; have KY37 := Aside0.mk hy37; have KA37 := Aside0.mk hA37; clear hy37 hA37
            have KL37 := Aside0.mk (show ((ji27) : Int).toNat ≤ x6_1.length from by omega)
            replace q37 := eq_true q37
            refine start_ (n := 11) (S := fun w' => True) (ds := []) (tb_ 11 0) s12_ rfl rfl trivial (fun hHeld => ?_); refine with_tabW spec_l13Family.tab13 spec_l13Family.bits13 (fun HT_ HW_ => ?_)
            generalize w34.drew = w35 at HO_6 HO_7 HO_501001 BK500 HI493 HB HR523 HR530 hHeld ⊢
            refine pl_ 1 43 (tb_ 11 2) ?_; refine pl_ 2 44 (tb_ 11 6) ?_; refine pl_ 3 45 (tb_ 11 14) ?_; refine pl_ 5 47 (tb_ 11 46) ?_; refine pl_ 6 48 (tb_ 11 110) ?_; refine pl_ 7 49 (tb_ 11 238) ?_; refine pl_ 8 50 (tb_ 11 494) ?_
            refine on_ 0 42 (tb_ 11 495) (fun K hK => ?_)
            refine Kd.R_lit_step (Kd.int .i64) _ 3 ?hg (N := 42) ?hd (xs := ([] : List Int)) (inner := []) (ok := fun _ => True) (okp := fun _ => True) ?hr ?hp (fun _ hk => hk) trivial (Below.refl _ _) (Nat.le_refl _) (by simp) ?_; (case hd => rfl); (case hg => rfl); (case hr => first | (go_simp; done) | (go_simp; rfl)); (case hp => exact (Reps.none _ _))
            intro v518 w38 ho39 hb hg_ hnew_
            clear hg_ hnew_
            (first | rw [← Ny517.out] at ho39 | (simp only [Int.reduceToNat] at ho39; rw [← Ny517.out] at ho39))
            have n0_ := Aside0.mk (Kd.R_elder' s17_ (Kd.R_base ho39) hb); have n1_ := Aside0.mk (Kd.R_below s20_ hb); have n2_ := Aside0.mk (Kd.R_elder' q26_11 (Kd.R_base ho39) hb); have n3_ := Aside0.mk (Kd.R_lower (Kd.R_new' (Kd.R_new' ho39 (Kd.R_lt s17_)) (Kd.R_lt q26_11)) (below_size q26_3)); have n4_ := Aside0.mk (blk_below (g := gb500) (o := .cells #[.int .i64 t494, .slice Ao10 t495.length co10] 29 (0, 0)) q26_10 hb); have n5_ := Aside0.mk (IsS152.below q26_2 hb); have n6_ := Aside0.mk (Kd.C_below q26_4 hb); have n7_ := Aside0.mk (Kd.C_below q26_5 hb); have n8_ := Aside0.mk (below_step q26_3 hb); clear HO_6; clear HO_7; clear HO_501001; clear BK500; clear HI493; clear HR523; clear HR530; clear HB; have HO_6 := n0_; have HO_7 := n1_; have HO_501001 := n2_; have HO519 := n3_; have BK500 := n4_; have HI493 := n5_; have HR523 := n6_; have HR530 := n7_; have HB := n8_; clear n0_ n1_ n2_ n3_ n4_ n5_ n6_ n7_ n8_; clear hb ho39
            refine hK.out _ _ trivial (fun hHeld => ?_)
            clear hK K
            refine norm_ (a' := ?_) ?_ ?_
            rotate_left
            ·
             show Act.put _ (some 42) _ = _
             exact s14_
            refine on_ 4 46 (tb_ 11 511) (fun K hK => ?_)
            refine Kd.R_append_rows_step (Kd.int .i64) (w0 := w) w.heap.size (by rfl) (.tmp 42) (.tmp 45) 27 3 (.int .i64 0) 8 rfl Tryz.underlying27 info3 rfl q26_17 (by omega) v518 y517 y520 _ _ _ (fun k_ => some k_ ≠ (.slice Ao33 x6_1.length co33 : Value).ownBlock ∧ some k_ ≠ (.slice Ao10 t495.length co10 : Value).ownBlock) (fun _ => False) rfl rfl ?aO ?aR (fun _ _ h => h) (fun _ h => h.elim) ?aF ?aB ?aS ?aL ?_
            (case aR => repeat (first | exact q26_4 | (with_reducible refine Kd.C_alloc ?_ _) | (with_reducible refine Kd.C_drewN ?_ _) | (with_reducible refine Kd.C_drew ?_)))
            (case aB => exact q26_3)
            (case aF => exact (fun k_ hk => ⟨Kd.fresh' (Kd.R_lt s17_) k_ hk, Kd.fresh' (Kd.R_lt q26_11) k_ hk⟩))
            (case aO => exact (by (with_reducible repeat (first | apply Kd.R_alloc | apply Kd.R_drewN | apply Kd.R_drew)); exact Kd.R_mono HO519.out (fun _ hk => ⟨hk.1.2, hk.2⟩)))
            (case aS => exact (below_size q26_3))
            (case aL => have := LMc26.out; omega)
            intro v525 w40 ho hb hg hat
            rw [← Ny524.out] at ho
            have n0_ := Aside0.mk (Kd.R_after (ok := (fun k_ => some k_ ≠ (.slice Ao10 t495.length co10 : Value).ownBlock)) s17_ hg hat)
            have n1_ := Aside0.mk (Kd.R_over' s20_ (Kd.R_typed (by (with_reducible repeat (first | apply Kd.R_alloc | apply Kd.R_drewN | apply Kd.R_drew)); exact HO519.out)) q26_17 hg)
            have n2_ := Aside0.mk (Kd.R_after (ok := (fun k_ => some k_ ≠ (.slice Ao33 x6_1.length co33 : Value).ownBlock)) q26_11 hg hat)
            have n3_ := Aside0.mk (blk_grown (g := gb500) (o := .cells #[.int .i64 t494, .slice Ao10 t495.length co10] 29 (0, 0)) q26_10 hg (Kd.R_ne HO519.out BK500.out q26_17)); have n4_ := Aside0.mk (IsS152.grown q26_2 hg (IsS152.own_ne HI493.out HO519.out q26_17)); have n5_ := Aside0.mk (hb)
            have n6_ := Aside0.mk ((show Kd.C (Kd.int .i64) w40 Ao33 y520.length y520 from by rw [Ny520.out]; exact Kd.C_take (m := (t514 : Int).toNat) ((Kd.R_reads' (Kd.R_after (ok := (fun k_ => some k_ ≠ (.slice Ao10 t495.length co10 : Value).ownBlock)) s17_ hg hat)).2.2) KL36.out))
            have n7_ := Aside0.mk ((show Kd.C (Kd.int .i64) w40 A37 y527.length y527 from by rw [Ny527.out, KA37.out]; exact Kd.C_drop (m := ((ji27) : Int).toNat) (c := co33) ((Kd.R_reads' (Kd.R_after (ok := (fun k_ => some k_ ≠ (.slice Ao10 t495.length co10 : Value).ownBlock)) s17_ hg hat)).2.2) KL37.out ((Kd.R_reads' (Kd.R_after (ok := (fun k_ => some k_ ≠ (.slice Ao10 t495.length co10 : Value).ownBlock)) s17_ hg hat)).2.1)))
            have n8_ := Aside0.mk (ho); clear HO_6; clear HO_7; clear HO_501001; clear BK500; clear HI493; clear HB; clear HR523; clear HR530; clear HO519; have HO_6 := n0_; have HO_7 := n1_; have HO_501001 := n2_; have BK500 := n3_; have HI493 := n4_; have HB := n5_; have HR523 := n6_; have HR530 := n7_; have HO526 := n8_; clear n0_ n1_ n2_ n3_ n4_ n5_ n6_ n7_ n8_; clear ho hb hg hat
            refine hK.out _ _ trivial (fun hHeld => ?_)
            clear hK K
            refine norm_ (a' := ?_) ?_ ?_
            rotate_left
            ·
             show Act.put _ (some 46) _ = _
             exact s14_
            refine on_ 9 51 (tb_ 11 1023) (fun K hK => ?_)
            refine Kd.R_append_rows_step (Kd.int .i64) (w0 := w) w.heap.size (by rfl) (.tmp 46) (.tmp 50) 27 3 (.int .i64 0) 8 rfl Tryz.underlying27 info3 rfl q26_17 (by omega) v525 y524 y527 _ _ _ (fun k_ => some k_ ≠ (.slice Ao33 x6_1.length co33 : Value).ownBlock ∧ some k_ ≠ (.slice Ao10 t495.length co10 : Value).ownBlock) (fun _ => False) rfl rfl ?aO ?aR (fun _ _ h => h) (fun _ h => h.elim) ?aF ?aB ?aS ?aL ?_
            (case aR => repeat (first | exact q26_5 | (with_reducible refine Kd.C_alloc ?_ _) | (with_reducible refine Kd.C_drewN ?_ _) | (with_reducible refine Kd.C_drew ?_)))
            (case aB => exact q26_3)
            (case aF => exact (fun k_ hk => ⟨Kd.fresh' (Kd.R_lt s17_) k_ hk, Kd.fresh' (Kd.R_lt q26_11) k_ hk⟩))
            (case aO => exact (by (with_reducible repeat (first | apply Kd.R_alloc | apply Kd.R_drewN | apply Kd.R_drew)); exact HO526.out))
            (case aS => exact (below_size q26_3))
            (case aL => have := LMc30.out; omega)
            intro v532 w41 ho hb hg hat
            rw [← Ny531.out] at ho
            have n0_ := Aside0.mk (Kd.R_after (ok := (fun k_ => some k_ ≠ (.slice Ao10 t495.length co10 : Value).ownBlock)) s17_ hg hat)
            have n1_ := Aside0.mk (Kd.R_over' s20_ (Kd.R_typed (by (with_reducible repeat (first | apply Kd.R_alloc | apply Kd.R_drewN | apply Kd.R_drew)); exact HO526.out)) q26_17 hg)
            have n2_ := Aside0.mk (Kd.R_after (ok := (fun k_ => some k_ ≠ (.slice Ao33 x6_1.length co33 : Value).ownBlock)) q26_11 hg hat)
            have n3_ := Aside0.mk (blk_grown (g := gb500) (o := .cells #[.int .i64 t494, .slice Ao10 t495.length co10] 29 (0, 0)) q26_10 hg (Kd.R_ne HO526.out BK500.out q26_17)); have n4_ := Aside0.mk (IsS152.grown q26_2 hg (IsS152.own_ne HI493.out HO526.out q26_17)); have n5_ := Aside0.mk (hb)
            have n6_ := Aside0.mk ((show Kd.C (Kd.int .i64) w41 Ao33 y520.length y520 from by rw [Ny520.out]; exact Kd.C_take (m := (t514 : Int).toNat) ((Kd.R_reads' (Kd.R_after (ok := (fun k_ => some k_ ≠ (.slice Ao10 t495.length co10 : Value).ownBlock)) s17_ hg hat)).2.2) KL36.out))
            have n7_ := Aside0.mk ((show Kd.C (Kd.int .i64) w41 A37 y527.length y527 from by rw [Ny527.out, KA37.out]; exact Kd.C_drop (m := ((ji27) : Int).toNat) (c := co33) ((Kd.R_reads' (Kd.R_after (ok := (fun k_ => some k_ ≠ (.slice Ao10 t495.length co10 : Value).ownBlock)) s17_ hg hat)).2.2) KL37.out ((Kd.R_reads' (Kd.R_after (ok := (fun k_ => some k_ ≠ (.slice Ao10 t495.length co10 : Value).ownBlock)) s17_ hg hat)).2.1)))
            have n8_ := Aside0.mk (ho); clear HO_6; clear HO_7; clear HO_501001; clear BK500; clear HI493; clear HB; clear HR523; clear HR530; clear HO526; have HO_6 := n0_; have HO_7 := n1_; have HO_501001 := n2_; have BK500 := n3_; have HI493 := n4_; have HB := n5_; have HR523 := n6_; have HR530 := n7_; have HO533 := n8_; clear n0_ n1_ n2_ n3_ n4_ n5_ n6_ n7_ n8_; clear ho hb hg hat
            refine hK.out _ _ trivial (fun hHeld => ?_)
            clear hK K
            refine norm_ (a' := ?_) ?_ ?_
            rotate_left
            ·
             show Act.put _ (some 51) _ = _
             exact s14_
            refine pl_ 10 6 (tb_ 11 2047) ?_
            refine done_ (done_of HT_.out s12_) ?_
            have hnb42 := NB500_493.out; have hnc42 := NB493_500.out; have hcz43_0 : w41.cell? ⟨gb500, 0, none⟩ = some (.int .i64 t494) := (blk_cell BK500.out 0).trans rfl; have hcz43_1 : w41.cell? ⟨gb500, 1, none⟩ = some (.slice Ao10 t495.length co10) := (blk_cell BK500.out 1).trans rfl; have hfz43_0 := blk_frozen BK500.out 0; have hfz43_1 := blk_frozen BK500.out 1
            try go_wp2
            go_ret2
            exact ⟨_, (by first | rfl | (simp [errW_none, errW_some] <;> rfl) | (simp only [← hji27]; first | rfl | (simp [errW_none, errW_some] <;> rfl)) | (simp [*, errW_none, errW_some] <;> rfl)), (by (with_reducible repeat (first | apply Kd.R_alloc | apply Kd.R_drewN | apply Kd.R_drew)); exact Kd.R_mono HO533.out (fun _ hk => trivial)), q26_3⟩
           ·
            rw [if_neg c30] at H
            exact absurd H (by simp)
          ·
           rw [if_neg c29] at H
           exact absurd H (by simp)
         ·
          rw [if_neg c28] at H
          exact absurd H (by simp)
        ·
         rw [if_neg c26] at H
         exact absurd H (by simp)
       ·
        rw [if_neg c25] at H
        exact absurd H (by simp)
      ·
       rw [if_neg c24] at H
       exact absurd H (by simp)
     ·
      rw [if_neg c22] at H; have c22b0 : decide (1 < (x6_1.length : Int)) = false := decide_eq_false c22
      have c22b1 : decide (1 < x6_1.length) = false := decide_eq_false (by omega)
      clear c22
      simp only [Option.some.injEq, Prod.mk.injEq] at H
      obtain ⟨rfl, rfl⟩ := H; obtain ⟨Ao44, co44, eo44⟩ := Kd.R_slice HO_7.out; subst eo44
      go_wp2_with (first | (refine gL_ 146 32 Tryz.func146 #[.pointer (some ⟨g493, 0, none⟩), .int .i64 6] ?_; (with_reducible refine (spec_l1Below.calls g493 t490 t498 t499 6 t511 t512 t513 w _ ?side1 ?side2 A20.out).mono ?_); (case side1 => exact q26_2); (case side2 => exact q26_3); rintro e w45 ⟨rfl, hi, hb, hk⟩; refine ⟨_, rfl, ?_⟩; have n_ := ac_ (Kd.R_mono (Kd.R_keep (IsS152.apart (show IsS152 w _ g493 t490 t498 t499 from q26_2) s17_ q26_17) hk (fun _ h => h.2)) (fun _ h => h.1)) <| ac_ (Kd.R_mono (Kd.R_keep (IsS152.apart (show IsS152 w _ g493 t490 t498 t499 from q26_2) s20_ q26_17) hk (fun _ h => h.2)) (fun _ h => h.1)) <| ac_ (Kd.R_mono (Kd.R_keep (IsS152.apart (show IsS152 w _ g493 t490 t498 t499 from q26_2) q26_11 q26_17) hk (fun _ h => h.2)) (fun _ h => h.1)) <| ac_ (KeepBut.blk hk (g' := gb500) (o := .cells #[.int .i64 t494, .slice Ao10 t495.length co10] 29 (0, 0)) q26_10 NB500_493.out (by simp)) <| ac_ (hb) <| Aside0.mk (hi); clear HO_6 HO_7 HO_501001 BK500 HB HI493; obtain ⟨HO_6, HO_7, HO_501001, BK500, HB, HI493⟩ := n_; (try clear hb hk hi); obtain ⟨Ao46, co46, eo46⟩ := Kd.R_slice HO_6.out; subst eo46; have hnb47 := NB500_493.out; have hnc47 := NB493_500.out; have hcz48_0 : w45.cell? ⟨gb500, 0, none⟩ = some (.int .i64 t494) := (blk_cell BK500.out 0).trans rfl; have hcz48_1 : w45.cell? ⟨gb500, 1, none⟩ = some (.slice Ao10 t495.length co10) := (blk_cell BK500.out 1).trans rfl; have hfz48_0 := blk_frozen BK500.out 0; have hfz48_1 := blk_frozen BK500.out 1))
      go_ret2
      exact ⟨_, s7_, q26_9, q26_3⟩
    ·
     rw [if_neg c21] at H; have c21b0 : (t511 == 0) = false := beq_eq_false_iff_ne.mpr c21; have c21b1 : (t511 != 0) = true := bne_iff_ne.mpr c21
     by_cases c49 : t511 = 1
     ·
      rw [if_pos c49] at H; have c49b0 : (t511 == 1) = true := beq_iff_eq.mpr c49; have c49b1 : (t511 != 1) = false := bne_eq_false_iff_eq.mpr c49; clear c49; obtain ⟨⟨t534, t537, t538⟩, A50, H⟩ := bnd26_ H; dsimp only at H
      simp only [Option.some.injEq, Prod.mk.injEq] at H
      obtain ⟨rfl, rfl⟩ := H; obtain ⟨Ao51, co51, eo51⟩ := Kd.R_slice HO_7.out; subst eo51
      try go_wp2_with (first | (refine gL_ 146 32 Tryz.func146 #[.pointer (some ⟨g493, 0, none⟩), .int .i64 6] ?_; (with_reducible refine (spec_l1Below.calls g493 t490 t498 t499 6 t511 t512 t513 w _ ?side1 ?side2 A20.out).mono ?_); (case side1 => exact q26_2); (case side2 => exact q26_3); rintro e w52 ⟨rfl, hi, hb, hk⟩; refine ⟨_, rfl, ?_⟩; have n_ := ac_ (Kd.R_mono (Kd.R_keep (IsS152.apart (show IsS152 w _ g493 t490 t498 t499 from q26_2) s17_ q26_17) hk (fun _ h => h.2)) (fun _ h => h.1)) <| ac_ (Kd.R_mono (Kd.R_keep (IsS152.apart (show IsS152 w _ g493 t490 t498 t499 from q26_2) s20_ q26_17) hk (fun _ h => h.2)) (fun _ h => h.1)) <| ac_ (Kd.R_mono (Kd.R_keep (IsS152.apart (show IsS152 w _ g493 t490 t498 t499 from q26_2) q26_11 q26_17) hk (fun _ h => h.2)) (fun _ h => h.1)) <| ac_ (KeepBut.blk hk (g' := gb500) (o := .cells #[.int .i64 t494, .slice Ao10 t495.length co10] 29 (0, 0)) q26_10 NB500_493.out (by simp)) <| ac_ (hb) <| Aside0.mk (hi); clear HO_6 HO_7 HO_501001 BK500 HB HI493; obtain ⟨HO_6, HO_7, HO_501001, BK500, HB, HI493⟩ := n_; (try clear hb hk hi)))
      have n0_ := Aside0.mk (Kd.R_drew HO_6.out); have n1_ := Aside0.mk (Kd.R_drew HO_7.out); have n2_ := Aside0.mk (Kd.R_drew HO_501001.out); have n3_ := Aside0.mk (blk_drew BK500.out); have n4_ := Aside0.mk (IsS152.drew HI493.out); have n5_ := Aside0.mk (below_drew1 HB.out); clear HO_6; clear HO_7; clear HO_501001; clear BK500; clear HI493; clear HB; have HO_6 := n0_; have HO_7 := n1_; have HO_501001 := n2_; have BK500 := n3_; have HI493 := n4_; have HB := n5_; clear n0_ n1_ n2_ n3_ n4_ n5_
      refine start_ (n := 6) (S := fun w' => w'.cell? ⟨gb500, 0, none⟩ = some (.int .i64 t494) ∧ w'.cell? ⟨gb500, 1, none⟩ = some (.slice Ao10 t495.length co10)) (ds := []) (tb_ 6 0) s12_ rfl rfl ⟨(blk_cell BK500.out 0).trans rfl, (blk_cell BK500.out 1).trans rfl⟩ (fun hHeld => ?_)
      generalize w52.drew = w53 at HO_6 HO_7 HO_501001 BK500 HI493 HB hHeld ⊢
      refine pl_ 0 54 (tb_ 6 1) ?_; refine pl_ 2 56 (tb_ 6 5) ?_
      refine take_ (i := 1) (N := some 55) (v := ?_) (a' := ?_) (tb_ 6 7) rfl rfl s12_ (fun _ _ _ h => h) (Or.inl ⟨by rfl, ?_⟩) hHeld ?_ ?_
      rotate_left
      ·
       rintro w' ⟨s0, s1⟩
       go_simp; with_reducible rfl
      rotate_left
      ·
       exact s14_
      refine one_ (i := 3) (N := some 57) (tb_ 6 15) rfl rfl s12_ q26_17 (fun K hK => ?_)
      refine goes_ Tryz.func210 s12_ rfl #[.pointer (some ⟨g493, 0, none⟩)] (by rfl) rfl rfl s0_ ?_
      with_reducible refine (spec_l2List.calls k1 g493 t490 t512 t513 t534 t537 t538 w _ ?side1 ?side2 A50.out).mono ?_
      (case side1 => exact q26_2)
      (case side2 => exact q26_3)
      rintro e w54 ⟨v535, rfl, ho0, hi, hb, hk⟩
      refine ⟨_, rfl, ?_⟩
      have n0_ := Aside0.mk (Kd.R_mono (Kd.R_told (Kd.R_oldK (IsS152.apart (show IsS152 w _ g493 t490 t512 t513 from q26_2) s17_ q26_17) hk) (Kd.R_base ho0)) (fun _ h_ => h_.1))
      have n1_ := Aside0.mk (Kd.R_mono (Kd.R_keep (IsS152.apart (show IsS152 w _ g493 t490 t512 t513 from q26_2) s20_ q26_17) hk (fun _ h => h.2)) (fun _ h => h.1))
      have n2_ := Aside0.mk (Kd.R_mono (Kd.R_told (Kd.R_oldK (IsS152.apart (show IsS152 w _ g493 t490 t512 t513 from q26_2) q26_11 q26_17) hk) (Kd.R_base ho0)) (fun _ h_ => h_.1))
      have n3_ := Aside0.mk (KeepBut.blk hk (g' := gb500) (o := .cells #[.int .i64 t494, .slice Ao10 t495.length co10] 29 (0, 0)) q26_10 NB500_493.out (by simp))
      have n4_ := Aside0.mk (Kd.R_lower (Kd.R_new' (Kd.R_new' ho0 (Kd.R_lt s17_)) (Kd.R_lt q26_11)) (below_size q26_3)); have n5_ := Aside0.mk (hb); have n6_ := Aside0.mk (hi); clear HO_6; clear HO_7; clear HO_501001; clear BK500; clear HB; clear HI493; have HO_6 := n0_; have HO_7 := n1_; have HO_501001 := n2_; have BK500 := n3_; have HO536 := n4_; have HB := n5_; have HI493 := n6_; clear n0_ n1_ n2_ n3_ n4_ n5_ n6_
      (try clear hb)
      (try clear hb2)
      (try clear hk)
      (try clear hi)
      (try clear ho0)
      refine hK.out _ _ ⟨(blk_cell BK500.out 0).trans rfl, (blk_cell BK500.out 1).trans rfl⟩ (fun hHeld => ?_)
      clear hK K
      refine norm_ (a' := ?_) ?_ ?_
      rotate_left
      ·
       show Act.put _ (some 57) _ = _
       exact s14_
      refine pl_ 4 2 (tb_ 6 31) ?_; refine pl_ 5 3 (tb_ 6 63) ?_
      refine done_ s12_ ?_
      try go_wp2
      go_ret2
      exact ⟨_, s7_, (by (with_reducible repeat (first | apply Kd.R_alloc | apply Kd.R_drewN | apply Kd.R_drew)); exact Kd.R_mono HO536.out (fun _ hk => trivial)), q26_3⟩
     ·
      rw [if_neg c49] at H; have c49b0 : (t511 == 1) = false := beq_eq_false_iff_ne.mpr c49; have c49b1 : (t511 != 1) = true := bne_iff_ne.mpr c49
      simp only [Option.some.injEq, Prod.mk.injEq] at H
      obtain ⟨rfl, rfl⟩ := H; obtain ⟨Ao55, co55, eo55⟩ := Kd.R_slice HO_7.out; subst eo55
      go_wp2_with (first | (refine gL_ 146 32 Tryz.func146 #[.pointer (some ⟨g493, 0, none⟩), .int .i64 6] ?_; (with_reducible refine (spec_l1Below.calls g493 t490 t498 t499 6 t511 t512 t513 w _ ?side1 ?side2 A20.out).mono ?_); (case side1 => exact q26_2); (case side2 => exact q26_3); rintro e w56 ⟨rfl, hi, hb, hk⟩; refine ⟨_, rfl, ?_⟩; have n_ := ac_ (Kd.R_mono (Kd.R_keep (IsS152.apart (show IsS152 w _ g493 t490 t498 t499 from q26_2) s17_ q26_17) hk (fun _ h => h.2)) (fun _ h => h.1)) <| ac_ (Kd.R_mono (Kd.R_keep (IsS152.apart (show IsS152 w _ g493 t490 t498 t499 from q26_2) s20_ q26_17) hk (fun _ h => h.2)) (fun _ h => h.1)) <| ac_ (Kd.R_mono (Kd.R_keep (IsS152.apart (show IsS152 w _ g493 t490 t498 t499 from q26_2) q26_11 q26_17) hk (fun _ h => h.2)) (fun _ h => h.1)) <| ac_ (KeepBut.blk hk (g' := gb500) (o := .cells #[.int .i64 t494, .slice Ao10 t495.length co10] 29 (0, 0)) q26_10 NB500_493.out (by simp)) <| ac_ (hb) <| Aside0.mk (hi); clear HO_6 HO_7 HO_501001 BK500 HB HI493; obtain ⟨HO_6, HO_7, HO_501001, BK500, HB, HI493⟩ := n_; (try clear hb hk hi); have hnb57 := NB500_493.out; have hnc57 := NB493_500.out; have hcz58_0 : w56.cell? ⟨gb500, 0, none⟩ = some (.int .i64 t494) := (blk_cell BK500.out 0).trans rfl; have hcz58_1 : w56.cell? ⟨gb500, 1, none⟩ = some (.slice Ao10 t495.length co10) := (blk_cell BK500.out 1).trans rfl; have hfz58_0 := blk_frozen BK500.out 0; have hfz58_1 := blk_frozen BK500.out 1))
      go_ret2
      exact ⟨_, s7_, q26_9, q26_3⟩
def spec_DrawContextOfFamily.f (k : Nat) (l0 : List Int) : Option (Int × List Int) := (spec_l13Family.f k l0).bind fun bt539 => (some (bt539.1, bt539.2))
set_option maxHeartbeats 40000000 in
set_option maxRecDepth 100000 in
theorem spec_DrawContextOfFamily.calls (k : Nat) (A0 : Option Addr) (c0 : Nat) (l0 : List Int) (r1 : Int) (r2 : List Int) (w : World) (hr0 : Kd.C (Kd.int .u8) w A0 l0.length l0) (hc0 : l0.length ≤ c0) (h : spec_DrawContextOfFamily.f k l0 = some (r1, r2)) :
  Calls Tryz.prog 17 #[.slice A0 l0.length c0] w fun e w' => ∃ v1_ : Value, e = .returned (.tuple #[.int .i64 r1, v1_]) ∧ Kd.R (Kd.int .i64) 3 w' w.heap.size (fun _ => True) v1_ r2 ∧ Below w.heap.size w w' := by
 have HR0 := Aside0.mk hr0; have HC0 := Aside0.mk hc0; clear hr0 hc0; have HB := Aside0.mk (Below.refl w.heap.size w); have H := h; clear h; unfold spec_DrawContextOfFamily.f at H; obtain ⟨⟨t539, t540⟩, A2, H⟩ := bnd26_ H; dsimp only at H
 simp only [Option.some.injEq, Prod.mk.injEq] at H
 obtain ⟨rfl, rfl⟩ := H
 go_enter Tryz.func17, Tryz.ntmps17
 go_wp2_with (first | ((with_reducible refine gate_callee (f := 125) rfl ?_); refine goesL_ (some 8) rfl rfl Tryz.func125 (by kernel_rfl) rfl #[.slice A0 l0.length c0] rfl (by (try simp only [List.map_toArray, List.map_cons, List.map_nil]); first | done | rfl | (simp only [List.length_drop, List.length_take]; rfl)) ?_; (with_reducible refine (spec_l13Family.calls k _ _ l0 t539 t540 _ ?side1 ?side2 A2.out).mono ?_); (case side1 => repeat (first | exact HR0.out | (with_reducible refine Kd.C_alloc ?_ _) | (with_reducible refine Kd.C_drewN ?_ _) | (with_reducible refine Kd.C_drew ?_))); (case side2 => exact HC0.out); rintro e w3 ⟨v541, rfl, ho0, hb⟩; refine ⟨_, rfl, ?_⟩; have n_ := ac_ (Kd.R_lower ho0 (below_size s1_)) <| Aside0.mk (below_step s1_ hb); clear HB; obtain ⟨HO542, HB⟩ := n_; (try clear hb ho0)))
 go_ret2
 exact ⟨_, (by first | rfl | (simp [errW_none, errW_some] <;> rfl) | (simp [*, errW_none, errW_some] <;> rfl)), (by (with_reducible repeat (first | apply Kd.R_alloc | apply Kd.R_drewN | apply Kd.R_drew)); exact HO542.out), s1_⟩
def slices_Index_int.l0 : Nat → List Int → Int → Int → Int → Option (Int)
 | 0, _, _, _, _ => none
 | k + 1, x0, x1, x7, x8 => if x8 < x7 then (if 0 ≤ x8 then (if x8 < (x0.length : Int) then (if x1 = (rd x0 x8) then (some x8) else (slices_Index_int.l0 k x0 x1 x7 (wrap64 (x8 + 1)))) else (none)) else (none)) else (some (-1))
def slices_Index_int.f (k : Nat) (l0 : List Int) (a1 : Int) : Option (Int) := slices_Index_int.l0 k l0 a1 (l0.length : Int) 0
set_option maxHeartbeats 40000000 in
set_option maxRecDepth 100000 in
theorem slices_Index_int.calls (k : Nat) (A0 : Option Addr) (c0 : Nat) (l0 : List Int) (a1 : Int) (r : Int) (w : World) (hr0 : Kd.C (Kd.int .i64) w A0 l0.length l0) (hc0 : l0.length ≤ c0) (h : slices_Index_int.f k l0 a1 = some r) :
  Calls Tryz.prog 211 #[.slice A0 l0.length c0, .int .i64 a1] w fun e w' => e = .returned (.int .i64 r) ∧ Drawn0 w w' := by
 have HR0 := Aside0.mk hr0; have HC0 := Aside0.mk hc0; clear hr0 hc0; have H := h; clear h; unfold slices_Index_int.f at H; have H' := Aside0.mk H; clear H
 go_enter Tryz.func211, Tryz.ntmps211
 go_wp2
 go_loopg [8] k (fun kq v8 w' => ∃ (x8_1 : Int), v8 = .int .i64 x8_1 ∧ Aside0 (slices_Index_int.l0 kq l0 a1 (l0.length : Int) x8_1 = some r) ∧ Aside0 (kq ≤ k) ∧ Drawn0 w w')
 case atStart => exact ⟨(0), s2_, H', ⟨Nat.le_refl _⟩, s4_⟩
 case round =>
  clear H'
  try clear c2
  try clear p2
  obtain ⟨x8_1, rfl, HA, HK1, ⟨m1, rfl⟩⟩ := hrel
  cases gk with
  | zero => exact absurd HA.out (by simp [slices_Index_int.l0])
  | succ k1 =>
   have H := HA.out; clear HA
   simp only [slices_Index_int.l0] at H
   by_cases c3 : x8_1 < (l0.length : Int)
   ·
    rw [if_pos c3] at H; have c3b0 : decide (x8_1 < (l0.length : Int)) = true := decide_eq_true c3; clear c3
    by_cases c4 : 0 ≤ x8_1
    ·
     rw [if_pos c4] at H; have c4b0 : decide (0 ≤ x8_1) = true := decide_eq_true c4; clear c4
     by_cases c5 : x8_1 < (l0.length : Int)
     ·
      rw [if_pos c5] at H; have c5b0 : decide (x8_1 < (l0.length : Int)) = true := decide_eq_true c5; clear c5
      by_cases c6 : a1 = (rd l0 x8_1)
      ·
       rw [if_pos c6] at H; have c6b0 : (a1 == (rd l0 x8_1)) = true := beq_iff_eq.mpr c6; have c6b1 : (a1 != (rd l0 x8_1)) = false := bne_eq_false_iff_eq.mpr c6; clear c6; obtain rfl := Option.some.inj H; have p543 : 0 ≤ (x8_1 : Int) := of_decide_eq_true s3_; have q543 : x8_1 < (l0.length : Int) := of_decide_eq_true s3_; obtain ⟨ad543, e543, hx543_0⟩ := Kd.at_int HR0.out x8_1 p543 q543
       cases e543
       replace p543 := eq_true p543; replace q543 := eq_true q543
       go_wp2
       go_ret
       exact ⟨s2_, s4_⟩
      ·
       rw [if_neg c6] at H; have c6b0 : (a1 == (rd l0 x8_1)) = false := beq_eq_false_iff_ne.mpr c6; have c6b1 : (a1 != (rd l0 x8_1)) = true := bne_iff_ne.mpr c6; have H' := Aside0.mk H; clear H; have p543 : 0 ≤ (x8_1 : Int) := of_decide_eq_true s3_; have q543 : x8_1 < (l0.length : Int) := of_decide_eq_true s3_; obtain ⟨ad543, e543, hx543_0⟩ := Kd.at_int HR0.out x8_1 p543 q543
       cases e543
       replace p543 := eq_true p543; replace q543 := eq_true q543
       go_wp2
       go_roundg k1
       case measure => have := HK1.out; omega
       case rel => exact ⟨(wrap64 (x8_1 + 1)), s2_, H', ⟨by have := HK1.out; omega⟩, s4_⟩
     ·
      rw [if_neg c5] at H
      exact absurd H (by simp)
    ·
     rw [if_neg c4] at H
     exact absurd H (by simp)
   ·
    rw [if_neg c3] at H; have c3b0 : decide (x8_1 < (l0.length : Int)) = false := decide_eq_false c3; clear c3; obtain rfl := Option.some.inj H
    go_wp2
    go_ret
    exact ⟨s2_, s4_⟩
def slices_Contains_int.f (k : Nat) (l0 : List Int) (a1 : Int) : Option (Bool) := (slices_Index_int.f k l0 a1).bind fun t544 => (some (decide (t544 ≥ 0)))
set_option maxHeartbeats 40000000 in
set_option maxRecDepth 100000 in
theorem slices_Contains_int.calls (k : Nat) (A0 : Option Addr) (c0 : Nat) (l0 : List Int) (a1 : Int) (r : Bool) (w : World) (hr0 : Kd.C (Kd.int .i64) w A0 l0.length l0) (hc0 : l0.length ≤ c0) (h : slices_Contains_int.f k l0 a1 = some r) :
  Calls Tryz.prog 128 #[.slice A0 l0.length c0, .int .i64 a1] w fun e w' => e = .returned (.bool r) ∧ Drawn0 w w' := by
 have HR0 := Aside0.mk hr0; have HC0 := Aside0.mk hc0; clear hr0 hc0; have H := h; clear h; unfold slices_Contains_int.f at H; obtain ⟨t544, A3, H⟩ := bnd26_ H; obtain rfl := Option.some.inj H
 go_enter Tryz.func128, Tryz.ntmps128
 go_wp2_with (first | ((with_reducible refine gate_callee (f := 211) rfl ?_); refine goesL_ (some 7) rfl rfl Tryz.func211 (by kernel_rfl) rfl #[.slice A0 l0.length c0, .int .i64 a1] rfl (by (try simp only [List.map_toArray, List.map_cons, List.map_nil]); first | done | rfl | (simp only [List.length_drop, List.length_take]; rfl)) ?_; (with_reducible refine (slices_Index_int.calls k _ _ l0 a1 t544 _ ?side1 ?side2 A3.out).mono ?_); (case side1 => repeat (first | exact HR0.out | (with_reducible refine Kd.C_alloc ?_ _) | (with_reducible refine Kd.C_drewN ?_ _) | (with_reducible refine Kd.C_drew ?_))); (case side2 => exact HC0.out); rintro e w' ⟨rfl, ⟨nd, rfl⟩⟩; refine ⟨_, rfl, ?_⟩))
 go_ret
 exact ⟨(by first | rfl | (simp; done) | (simp [*]; done) | (simp [i64_w, i32_w]; done)), (by repeat (first | exact Drawn0.refl _ | apply Drawn0.step))⟩
end Go.Proofs.YtafnamchckehmaaGreatDoor.Pr
namespace Go.Proofs.YtafnamchckehmaaGreatDoor.Pr
open Go.RowKit Go.Proofs.YtafnamchckehmaaGreatDoorW.PrintWords Go.Proofs.YtafnamchckehmaaGreatDoorW.PrintLast Go.Proofs.YtafnamchckehmaaGreatDoorW.PrintMore
attribute [local go_sem] max2_int min2_int max_two min_two max_three min_three max_four min_four
set_option linter.unusedVariables false
set_option linter.unusedSimpArgs false
theorem bnd27_ {α β : Type} {o : Option α} {f : α → Option β} {r : β} (h : o.bind f = some r) : ∃ a, Aside0 (o = some a) ∧ f a = some r := by
 obtain ⟨a, h1, h2⟩ := Option.bind_eq_some_iff.mp h
 exact ⟨a, ⟨h1⟩, h2⟩
mutual
def spec_IsClosureFamily.j0 : Nat → Int → List Int → Bool → Option (Bool)
 | 0, _, _, _ => none
 | k + 1, x0, x1, x17 => if x17 = true then (some false) else (spec_IsClosureFamily.l0 k x0 x1 0)
def spec_IsClosureFamily.l0 : Nat → Int → List Int → Int → Option (Bool)
 | 0, _, _, _ => none
 | k + 1, x0, x1, x5 => if x5 < (x1.length : Int) then (if 0 ≤ x5 then ((spec_IsSet.f x0 (rd x1 x5)).bind fun t569 => (if t569 = true then (if x5 > 0 then (if 0 ≤ (wrap64 (x5 - 1)) then (if (wrap64 (x5 - 1)) < (x1.length : Int) then ((spec_BeforeSet.f (rd x1 (wrap64 (x5 - 1))) (rd x1 x5)).bind fun t572 => (if t572 = true then (spec_IsClosureFamily.l0 k x0 x1 (wrap64 (x5 + 1))) else (some false))) else (none)) else (none)) else (spec_IsClosureFamily.l0 k x0 x1 (wrap64 (x5 + 1)))) else (some false))) else (none)) else (spec_IsClosureFamily.l1 k x1 0)
def spec_IsClosureFamily.l1 : Nat → List Int → Int → Option (Bool)
 | 0, _, _ => none
 | k + 1, x1, x6 => if x6 < (x1.length : Int) then (spec_IsClosureFamily.l2 k x1 x6 0) else (some true)
def spec_IsClosureFamily.l2 : Nat → List Int → Int → Int → Option (Bool)
 | 0, _, _, _ => none
 | k + 1, x1, x6, x7 => if x7 < x6 then (if 0 ≤ x6 then (if x6 < (x1.length : Int) then (if 0 ≤ x7 then (if x7 < (x1.length : Int) then ((spec_l2In.f k x1 (Go.bits .and .i64 (rd x1 x6) (rd x1 x7))).bind fun t575 => (if t575 = true then (spec_IsClosureFamily.l2 k x1 x6 (wrap64 (x7 + 1))) else (some false))) else (none)) else (none)) else (none)) else (none)) else (spec_IsClosureFamily.l1 k x1 (wrap64 (x6 + 1)))
end
def spec_IsClosureFamily.f (k : Nat) (a0 : Int) (l1 : List Int) : Option (Bool) := (spec_l1In.f a0 0 6).bind fun t565 => (if t565 = true then ((spec_FullSet.f a0).bind fun t566 => ((spec_l2In.f k l1 t566).bind fun t567 => (spec_IsClosureFamily.j0 k a0 l1 (!t567)))) else (spec_IsClosureFamily.j0 k a0 l1 true))
set_option maxHeartbeats 40000000 in
set_option maxRecDepth 100000 in
theorem spec_IsClosureFamily.calls (k : Nat) (a0 : Int) (A1 : Option Addr) (c1 : Nat) (l1 : List Int) (r : Bool) (w : World) (hr1 : Kd.C (Kd.int .i64) w A1 l1.length l1) (hc1 : l1.length ≤ c1) (h : spec_IsClosureFamily.f k a0 l1 = some r) :
  Calls Tryz.prog 23 #[.int .i64 a0, .slice A1 l1.length c1] w fun e w' => e = .returned (.bool r) ∧ Drawn0 w w' := by
 have HR1 := Aside0.mk hr1; have HC1 := Aside0.mk hc1; clear hr1 hc1; have H := h; clear h; unfold spec_IsClosureFamily.f at H; have HC3 := Aside0.mk H; clear H
 go_enter Tryz.func23, Tryz.ntmps23
 go_upto_region 1 with (fail)
 repeat (go_quiet (fail); go_upto_region 1 with (fail))
 go_cut [17] (fun v17 wc => ∃ (kq : Nat) (x17_2 : Bool), v17 = .bool x17_2 ∧ Aside0 (spec_IsClosureFamily.j0 kq a0 l1 x17_2 = some r) ∧ Aside0 (kq ≤ k) ∧ Drawn0 w wc)
 case first =>
  have H := HC3.out; clear HC3; obtain ⟨t565, A4, H⟩ := bnd27_ H
  by_cases c5 : t565 = true
  ·
   subst c5; rw [if_pos rfl] at H; obtain ⟨t566, A6, H⟩ := bnd27_ H; obtain ⟨t567, A7, H⟩ := bnd27_ H; have H' := Aside0.mk H; clear H
   go_wp2_with (first | (go_at_call 132; (with_reducible refine (spec_l1In.calls a0 0 6 true _ A4.out).mono ?_); rintro e w' ⟨rfl, ⟨nd, rfl⟩⟩; (try first | exact ⟨rfl, _, World.drewN_drewN _ _ _⟩ | exact ⟨rfl, _, Eq.trans (World.drewN_drewN _ _ _) (congrArg (World.drewN _) (Nat.add_assoc _ _ _))⟩)) | (go_at_call 62; (with_reducible refine (spec_FullSet.calls a0 t566 _ A6.out).mono ?_); rintro e w' ⟨rfl, ⟨nd, rfl⟩⟩; (try first | exact ⟨rfl, _, World.drewN_drewN _ _ _⟩ | exact ⟨rfl, _, Eq.trans (World.drewN_drewN _ _ _) (congrArg (World.drewN _) (Nat.add_assoc _ _ _))⟩)) | (go_at_call 133; (with_reducible refine (spec_l2In.calls k _ _ l1 t566 t567 _ ?side1 ?side2 A7.out).mono ?_); (case side1 => exact s11_); (case side2 => exact HC1.out); rintro e w' ⟨rfl, ⟨nd, rfl⟩⟩; (try first | exact ⟨rfl, _, World.drewN_drewN _ _ _⟩ | exact ⟨rfl, _, Eq.trans (World.drewN_drewN _ _ _) (congrArg (World.drewN _) (Nat.add_assoc _ _ _))⟩)))
   repeat (go_quiet (first | (go_at_call 132; (with_reducible refine (spec_l1In.calls a0 0 6 true _ A4.out).mono ?_); rintro e w' ⟨rfl, ⟨nd, rfl⟩⟩; (try first | exact ⟨rfl, _, World.drewN_drewN _ _ _⟩ | exact ⟨rfl, _, Eq.trans (World.drewN_drewN _ _ _) (congrArg (World.drewN _) (Nat.add_assoc _ _ _))⟩)) | (go_at_call 62; (with_reducible refine (spec_FullSet.calls a0 t566 _ A6.out).mono ?_); rintro e w' ⟨rfl, ⟨nd, rfl⟩⟩; (try first | exact ⟨rfl, _, World.drewN_drewN _ _ _⟩ | exact ⟨rfl, _, Eq.trans (World.drewN_drewN _ _ _) (congrArg (World.drewN _) (Nat.add_assoc _ _ _))⟩)) | (go_at_call 133; (with_reducible refine (spec_l2In.calls k _ _ l1 t566 t567 _ ?side1 ?side2 A7.out).mono ?_); (case side1 => exact s11_); (case side2 => exact HC1.out); rintro e w' ⟨rfl, ⟨nd, rfl⟩⟩; (try first | exact ⟨rfl, _, World.drewN_drewN _ _ _⟩ | exact ⟨rfl, _, Eq.trans (World.drewN_drewN _ _ _) (congrArg (World.drewN _) (Nat.add_assoc _ _ _))⟩))); try go_wp2_with (first | (go_at_call 132; (with_reducible refine (spec_l1In.calls a0 0 6 true _ A4.out).mono ?_); rintro e w' ⟨rfl, ⟨nd, rfl⟩⟩; (try first | exact ⟨rfl, _, World.drewN_drewN _ _ _⟩ | exact ⟨rfl, _, Eq.trans (World.drewN_drewN _ _ _) (congrArg (World.drewN _) (Nat.add_assoc _ _ _))⟩)) | (go_at_call 62; (with_reducible refine (spec_FullSet.calls a0 t566 _ A6.out).mono ?_); rintro e w' ⟨rfl, ⟨nd, rfl⟩⟩; (try first | exact ⟨rfl, _, World.drewN_drewN _ _ _⟩ | exact ⟨rfl, _, Eq.trans (World.drewN_drewN _ _ _) (congrArg (World.drewN _) (Nat.add_assoc _ _ _))⟩)) | (go_at_call 133; (with_reducible refine (spec_l2In.calls k _ _ l1 t566 t567 _ ?side1 ?side2 A7.out).mono ?_); (case side1 => exact s11_); (case side2 => exact HC1.out); rintro e w' ⟨rfl, ⟨nd, rfl⟩⟩; (try first | exact ⟨rfl, _, World.drewN_drewN _ _ _⟩ | exact ⟨rfl, _, Eq.trans (World.drewN_drewN _ _ _) (congrArg (World.drewN _) (Nat.add_assoc _ _ _))⟩))))
   go_meet
   case rel => exact ⟨_, (!t567), s2_, H', ⟨(by first | omega | exact Nat.le_refl _)⟩, s4_⟩
  ·
   replace c5 := Bool.eq_false_iff.mpr c5; subst c5
   rw [if_neg (show ¬ (false = true) by decide)] at H
   have H' := Aside0.mk H; clear H
   go_wp2_with (first | (go_at_call 132; (with_reducible refine (spec_l1In.calls a0 0 6 false _ A4.out).mono ?_); rintro e w' ⟨rfl, ⟨nd, rfl⟩⟩; (try first | exact ⟨rfl, _, World.drewN_drewN _ _ _⟩ | exact ⟨rfl, _, Eq.trans (World.drewN_drewN _ _ _) (congrArg (World.drewN _) (Nat.add_assoc _ _ _))⟩)))
   repeat (go_quiet (first | (go_at_call 132; (with_reducible refine (spec_l1In.calls a0 0 6 false _ A4.out).mono ?_); rintro e w' ⟨rfl, ⟨nd, rfl⟩⟩; (try first | exact ⟨rfl, _, World.drewN_drewN _ _ _⟩ | exact ⟨rfl, _, Eq.trans (World.drewN_drewN _ _ _) (congrArg (World.drewN _) (Nat.add_assoc _ _ _))⟩))); try go_wp2_with (first | (go_at_call 132; (with_reducible refine (spec_l1In.calls a0 0 6 false _ A4.out).mono ?_); rintro e w' ⟨rfl, ⟨nd, rfl⟩⟩; (try first | exact ⟨rfl, _, World.drewN_drewN _ _ _⟩ | exact ⟨rfl, _, Eq.trans (World.drewN_drewN _ _ _) (congrArg (World.drewN _) (Nat.add_assoc _ _ _))⟩))))
   go_meet
   case rel => exact ⟨_, (true), s2_, H', ⟨(by first | omega | exact Nat.le_refl _)⟩, s4_⟩
 case rest =>
  clear HC3
  try clear c1
  try clear c2
  try clear p2
  try clear c5
  obtain ⟨kq, x17_2, rfl, HA, HJ2, ⟨mc2, rfl⟩⟩ := hcut
  cases kq with
  | zero => exact absurd HA.out (by simp [spec_IsClosureFamily.j0])
  | succ kj2 =>
   have H := HA.out; clear HA
   simp only [spec_IsClosureFamily.j0] at H
   by_cases c8 : x17_2 = true
   ·
    subst c8; rw [if_pos rfl] at H; obtain rfl := Option.some.inj H
    go_wp2
    repeat (go_quiet (fail); try go_wp2)
    go_ret
    exact ⟨s2_, s4_⟩
   ·
    replace c8 := Bool.eq_false_iff.mpr c8; subst c8
    rw [if_neg (show ¬ (false = true) by decide)] at H
    have H' := Aside0.mk H; clear H
    go_wp2
    repeat (go_quiet (fail); try go_wp2)
    go_loopg [5] kj2 (fun kq v5 w' => ∃ (x5_2 : Int), v5 = .int .i64 x5_2 ∧ Aside0 (spec_IsClosureFamily.l0 kq a0 l1 x5_2 = some r) ∧ Aside0 (kq ≤ kj2) ∧ Drawn0 w w')
    case atStart => exact ⟨(0), s2_, H', ⟨Nat.le_refl _⟩, s4_⟩
    case round =>
     clear H'
     try clear c1
     try clear c2
     try clear p2
     try clear c5
     try clear c8
     try clear p2
     obtain ⟨x5_2, rfl, HA, HK2, ⟨m2, rfl⟩⟩ := hrel
     cases gk with
     | zero => exact absurd HA.out (by simp [spec_IsClosureFamily.l0])
     | succ k2 =>
      have H := HA.out; clear HA
      simp only [spec_IsClosureFamily.l0] at H
      by_cases c9 : x5_2 < (l1.length : Int)
      ·
       rw [if_pos c9] at H; have c9b0 : decide (x5_2 < (l1.length : Int)) = true := decide_eq_true c9; clear c9
       by_cases c10 : 0 ≤ x5_2
       ·
        rw [if_pos c10] at H; have c10b0 : decide (0 ≤ x5_2) = true := decide_eq_true c10; clear c10; obtain ⟨t569, A11, H⟩ := bnd27_ H
        by_cases c12 : t569 = true
        ·
         subst c12; rw [if_pos rfl] at H
         by_cases c13 : x5_2 > 0
         ·
          rw [if_pos c13] at H; have c13b0 : decide (0 < x5_2) = true := decide_eq_true c13; clear c13; obtain ⟨ji14, hji14⟩ : ∃ j_ : Int, (wrap64 (x5_2 - 1)) = j_ := ⟨_, rfl⟩
          replace H : (if 0 ≤ (ji14) then (if (ji14) < (l1.length : Int) then ((spec_BeforeSet.f (rd l1 (ji14)) (rd l1 x5_2)).bind fun t572 => (if t572 = true then (spec_IsClosureFamily.l0 k2 a0 l1 (wrap64 (x5_2 + 1))) else (some false))) else (none)) else (none)) = some r := by first | (rw [hji14] at H; exact H) | (simp only [hji14] at H ⊢; exact H)
          (try rw [hji14] at A11)
          have hji14w : (IntKind.i64.wrap (x5_2 - 1)) = ji14 := (i64_w _).trans hji14
          by_cases c15 : 0 ≤ (ji14)
          ·
           rw [if_pos c15] at H; have c15b0 : decide (0 ≤ (ji14)) = true := decide_eq_true c15; clear c15
           by_cases c16 : (ji14) < (l1.length : Int)
           ·
            rw [if_pos c16] at H; have c16b0 : decide ((ji14) < (l1.length : Int)) = true := decide_eq_true c16; clear c16; obtain ⟨t572, A17, H⟩ := bnd27_ H
            by_cases c18 : t572 = true
            ·
             subst c18; rw [if_pos rfl] at H; have H' := Aside0.mk H; clear H; have p568 : 0 ≤ (x5_2 : Int) := of_decide_eq_true s3_; have q568 : x5_2 < (l1.length : Int) := of_decide_eq_true s3_; obtain ⟨ad568, e568, hx568_0⟩ := Kd.at_int HR1.out x5_2 p568 q568
             cases e568
             replace p568 := eq_true p568; replace q568 := eq_true q568
             go_wp2_with (first | (go_at_call 86; (with_reducible refine (spec_IsSet.calls a0 (rd l1 x5_2) true _ A11.out).mono ?_); rintro e w' ⟨rfl, ⟨nd, rfl⟩⟩; (try first | exact ⟨rfl, _, World.drewN_drewN _ _ _⟩ | exact ⟨rfl, _, Eq.trans (World.drewN_drewN _ _ _) (congrArg (World.drewN _) (Nat.add_assoc _ _ _))⟩); have p570 : 0 ≤ ((ji14) : Int) := of_decide_eq_true s3_; have q570 : (ji14) < (l1.length : Int) := of_decide_eq_true s3_; obtain ⟨ad570, e570, hx570_0⟩ := Kd.at_int HR1.out (ji14) p570 q570; obtain rfl : ad568 = ad570 := (by injection e570); replace p570 := eq_true p570; replace q570 := eq_true q570; have p571 : 0 ≤ (x5_2 : Int) := of_decide_eq_true s3_; have q571 : x5_2 < (l1.length : Int) := of_decide_eq_true s3_; obtain ⟨ad571, e571, hx571_0⟩ := Kd.at_int HR1.out x5_2 p571 q571; obtain rfl : ad568 = ad571 := (by injection e571); replace p571 := eq_true p571; replace q571 := eq_true q571) | (go_at_call 134; (with_reducible refine (spec_BeforeSet.calls (rd l1 (ji14)) (rd l1 x5_2) true _ A17.out).mono ?_); rintro e w' ⟨rfl, ⟨nd, rfl⟩⟩; (try first | exact ⟨rfl, _, World.drewN_drewN _ _ _⟩ | exact ⟨rfl, _, Eq.trans (World.drewN_drewN _ _ _) (congrArg (World.drewN _) (Nat.add_assoc _ _ _))⟩)))
             repeat (go_quiet (first | (go_at_call 86; (with_reducible refine (spec_IsSet.calls a0 (rd l1 x5_2) true _ A11.out).mono ?_); rintro e w' ⟨rfl, ⟨nd, rfl⟩⟩; (try first | exact ⟨rfl, _, World.drewN_drewN _ _ _⟩ | exact ⟨rfl, _, Eq.trans (World.drewN_drewN _ _ _) (congrArg (World.drewN _) (Nat.add_assoc _ _ _))⟩); have p570 : 0 ≤ ((ji14) : Int) := of_decide_eq_true s3_; have q570 : (ji14) < (l1.length : Int) := of_decide_eq_true s3_; obtain ⟨ad570, e570, hx570_0⟩ := Kd.at_int HR1.out (ji14) p570 q570; obtain rfl : ad568 = ad570 := (by injection e570); replace p570 := eq_true p570; replace q570 := eq_true q570; have p571 : 0 ≤ (x5_2 : Int) := of_decide_eq_true s3_; have q571 : x5_2 < (l1.length : Int) := of_decide_eq_true s3_; obtain ⟨ad571, e571, hx571_0⟩ := Kd.at_int HR1.out x5_2 p571 q571; obtain rfl : ad568 = ad571 := (by injection e571); replace p571 := eq_true p571; replace q571 := eq_true q571) | (go_at_call 134; (with_reducible refine (spec_BeforeSet.calls (rd l1 (ji14)) (rd l1 x5_2) true _ A17.out).mono ?_); rintro e w' ⟨rfl, ⟨nd, rfl⟩⟩; (try first | exact ⟨rfl, _, World.drewN_drewN _ _ _⟩ | exact ⟨rfl, _, Eq.trans (World.drewN_drewN _ _ _) (congrArg (World.drewN _) (Nat.add_assoc _ _ _))⟩))); try go_wp2_with (first | (go_at_call 86; (with_reducible refine (spec_IsSet.calls a0 (rd l1 x5_2) true _ A11.out).mono ?_); rintro e w' ⟨rfl, ⟨nd, rfl⟩⟩; (try first | exact ⟨rfl, _, World.drewN_drewN _ _ _⟩ | exact ⟨rfl, _, Eq.trans (World.drewN_drewN _ _ _) (congrArg (World.drewN _) (Nat.add_assoc _ _ _))⟩); have p570 : 0 ≤ ((ji14) : Int) := of_decide_eq_true s3_; have q570 : (ji14) < (l1.length : Int) := of_decide_eq_true s3_; obtain ⟨ad570, e570, hx570_0⟩ := Kd.at_int HR1.out (ji14) p570 q570; obtain rfl : ad568 = ad570 := (by injection e570); replace p570 := eq_true p570; replace q570 := eq_true q570; have p571 : 0 ≤ (x5_2 : Int) := of_decide_eq_true s3_; have q571 : x5_2 < (l1.length : Int) := of_decide_eq_true s3_; obtain ⟨ad571, e571, hx571_0⟩ := Kd.at_int HR1.out x5_2 p571 q571; obtain rfl : ad568 = ad571 := (by injection e571); replace p571 := eq_true p571; replace q571 := eq_true q571) | (go_at_call 134; (with_reducible refine (spec_BeforeSet.calls (rd l1 (ji14)) (rd l1 x5_2) true _ A17.out).mono ?_); rintro e w' ⟨rfl, ⟨nd, rfl⟩⟩; (try first | exact ⟨rfl, _, World.drewN_drewN _ _ _⟩ | exact ⟨rfl, _, Eq.trans (World.drewN_drewN _ _ _) (congrArg (World.drewN _) (Nat.add_assoc _ _ _))⟩))))
             go_roundg k2
             case measure => have := HJ2.out; have := HK2.out; omega
             case rel => exact ⟨(wrap64 (x5_2 + 1)), s2_, H', ⟨by have := HJ2.out; have := HK2.out; omega⟩, s4_⟩
            ·
             replace c18 := Bool.eq_false_iff.mpr c18; subst c18
             rw [if_neg (show ¬ (false = true) by decide)] at H
             obtain rfl := Option.some.inj H; have p568 : 0 ≤ (x5_2 : Int) := of_decide_eq_true s3_; have q568 : x5_2 < (l1.length : Int) := of_decide_eq_true s3_; obtain ⟨ad568, e568, hx568_0⟩ := Kd.at_int HR1.out x5_2 p568 q568
             cases e568
             replace p568 := eq_true p568; replace q568 := eq_true q568
             go_wp2_with (first | (go_at_call 86; (with_reducible refine (spec_IsSet.calls a0 (rd l1 x5_2) true _ A11.out).mono ?_); rintro e w' ⟨rfl, ⟨nd, rfl⟩⟩; (try first | exact ⟨rfl, _, World.drewN_drewN _ _ _⟩ | exact ⟨rfl, _, Eq.trans (World.drewN_drewN _ _ _) (congrArg (World.drewN _) (Nat.add_assoc _ _ _))⟩); have p570 : 0 ≤ ((ji14) : Int) := of_decide_eq_true s3_; have q570 : (ji14) < (l1.length : Int) := of_decide_eq_true s3_; obtain ⟨ad570, e570, hx570_0⟩ := Kd.at_int HR1.out (ji14) p570 q570; obtain rfl : ad568 = ad570 := (by injection e570); replace p570 := eq_true p570; replace q570 := eq_true q570; have p571 : 0 ≤ (x5_2 : Int) := of_decide_eq_true s3_; have q571 : x5_2 < (l1.length : Int) := of_decide_eq_true s3_; obtain ⟨ad571, e571, hx571_0⟩ := Kd.at_int HR1.out x5_2 p571 q571; obtain rfl : ad568 = ad571 := (by injection e571); replace p571 := eq_true p571; replace q571 := eq_true q571) | (go_at_call 134; (with_reducible refine (spec_BeforeSet.calls (rd l1 (ji14)) (rd l1 x5_2) false _ A17.out).mono ?_); rintro e w' ⟨rfl, ⟨nd, rfl⟩⟩; (try first | exact ⟨rfl, _, World.drewN_drewN _ _ _⟩ | exact ⟨rfl, _, Eq.trans (World.drewN_drewN _ _ _) (congrArg (World.drewN _) (Nat.add_assoc _ _ _))⟩)))
             repeat (go_quiet (first | (go_at_call 86; (with_reducible refine (spec_IsSet.calls a0 (rd l1 x5_2) true _ A11.out).mono ?_); rintro e w' ⟨rfl, ⟨nd, rfl⟩⟩; (try first | exact ⟨rfl, _, World.drewN_drewN _ _ _⟩ | exact ⟨rfl, _, Eq.trans (World.drewN_drewN _ _ _) (congrArg (World.drewN _) (Nat.add_assoc _ _ _))⟩); have p570 : 0 ≤ ((ji14) : Int) := of_decide_eq_true s3_; have q570 : (ji14) < (l1.length : Int) := of_decide_eq_true s3_; obtain ⟨ad570, e570, hx570_0⟩ := Kd.at_int HR1.out (ji14) p570 q570; obtain rfl : ad568 = ad570 := (by injection e570); replace p570 := eq_true p570; replace q570 := eq_true q570; have p571 : 0 ≤ (x5_2 : Int) := of_decide_eq_true s3_; have q571 : x5_2 < (l1.length : Int) := of_decide_eq_true s3_; obtain ⟨ad571, e571, hx571_0⟩ := Kd.at_int HR1.out x5_2 p571 q571; obtain rfl : ad568 = ad571 := (by injection e571); replace p571 := eq_true p571; replace q571 := eq_true q571) | (go_at_call 134; (with_reducible refine (spec_BeforeSet.calls (rd l1 (ji14)) (rd l1 x5_2) false _ A17.out).mono ?_); rintro e w' ⟨rfl, ⟨nd, rfl⟩⟩; (try first | exact ⟨rfl, _, World.drewN_drewN _ _ _⟩ | exact ⟨rfl, _, Eq.trans (World.drewN_drewN _ _ _) (congrArg (World.drewN _) (Nat.add_assoc _ _ _))⟩))); try go_wp2_with (first | (go_at_call 86; (with_reducible refine (spec_IsSet.calls a0 (rd l1 x5_2) true _ A11.out).mono ?_); rintro e w' ⟨rfl, ⟨nd, rfl⟩⟩; (try first | exact ⟨rfl, _, World.drewN_drewN _ _ _⟩ | exact ⟨rfl, _, Eq.trans (World.drewN_drewN _ _ _) (congrArg (World.drewN _) (Nat.add_assoc _ _ _))⟩); have p570 : 0 ≤ ((ji14) : Int) := of_decide_eq_true s3_; have q570 : (ji14) < (l1.length : Int) := of_decide_eq_true s3_; obtain ⟨ad570, e570, hx570_0⟩ := Kd.at_int HR1.out (ji14) p570 q570; obtain rfl : ad568 = ad570 := (by injection e570); replace p570 := eq_true p570; replace q570 := eq_true q570; have p571 : 0 ≤ (x5_2 : Int) := of_decide_eq_true s3_; have q571 : x5_2 < (l1.length : Int) := of_decide_eq_true s3_; obtain ⟨ad571, e571, hx571_0⟩ := Kd.at_int HR1.out x5_2 p571 q571; obtain rfl : ad568 = ad571 := (by injection e571); replace p571 := eq_true p571; replace q571 := eq_true q571) | (go_at_call 134; (with_reducible refine (spec_BeforeSet.calls (rd l1 (ji14)) (rd l1 x5_2) false _ A17.out).mono ?_); rintro e w' ⟨rfl, ⟨nd, rfl⟩⟩; (try first | exact ⟨rfl, _, World.drewN_drewN _ _ _⟩ | exact ⟨rfl, _, Eq.trans (World.drewN_drewN _ _ _) (congrArg (World.drewN _) (Nat.add_assoc _ _ _))⟩))))
             go_ret
             exact ⟨(by first | rfl | (simp; done) | (simp only [← hji14] <;> (first | rfl | simp)) | (simp [*]; done)), s4_⟩
           ·
            rw [if_neg c16] at H
            exact absurd H (by simp)
          ·
           rw [if_neg c15] at H
           exact absurd H (by simp)
         ·
          rw [if_neg c13] at H; have c13b0 : decide (0 < x5_2) = false := decide_eq_false c13; clear c13; have H' := Aside0.mk H; clear H; have p568 : 0 ≤ (x5_2 : Int) := of_decide_eq_true s3_; have q568 : x5_2 < (l1.length : Int) := of_decide_eq_true s3_; obtain ⟨ad568, e568, hx568_0⟩ := Kd.at_int HR1.out x5_2 p568 q568
          cases e568
          replace p568 := eq_true p568; replace q568 := eq_true q568
          go_wp2_with (first | (go_at_call 86; (with_reducible refine (spec_IsSet.calls a0 (rd l1 x5_2) true _ A11.out).mono ?_); rintro e w' ⟨rfl, ⟨nd, rfl⟩⟩; (try first | exact ⟨rfl, _, World.drewN_drewN _ _ _⟩ | exact ⟨rfl, _, Eq.trans (World.drewN_drewN _ _ _) (congrArg (World.drewN _) (Nat.add_assoc _ _ _))⟩)))
          repeat (go_quiet (first | (go_at_call 86; (with_reducible refine (spec_IsSet.calls a0 (rd l1 x5_2) true _ A11.out).mono ?_); rintro e w' ⟨rfl, ⟨nd, rfl⟩⟩; (try first | exact ⟨rfl, _, World.drewN_drewN _ _ _⟩ | exact ⟨rfl, _, Eq.trans (World.drewN_drewN _ _ _) (congrArg (World.drewN _) (Nat.add_assoc _ _ _))⟩))); try go_wp2_with (first | (go_at_call 86; (with_reducible refine (spec_IsSet.calls a0 (rd l1 x5_2) true _ A11.out).mono ?_); rintro e w' ⟨rfl, ⟨nd, rfl⟩⟩; (try first | exact ⟨rfl, _, World.drewN_drewN _ _ _⟩ | exact ⟨rfl, _, Eq.trans (World.drewN_drewN _ _ _) (congrArg (World.drewN _) (Nat.add_assoc _ _ _))⟩))))
          go_roundg k2
          case measure => have := HJ2.out; have := HK2.out; omega
          case rel => exact ⟨(wrap64 (x5_2 + 1)), s2_, H', ⟨by have := HJ2.out; have := HK2.out; omega⟩, s4_⟩
        ·
         replace c12 := Bool.eq_false_iff.mpr c12; subst c12
         rw [if_neg (show ¬ (false = true) by decide)] at H
         obtain rfl := Option.some.inj H; have p568 : 0 ≤ (x5_2 : Int) := of_decide_eq_true s3_; have q568 : x5_2 < (l1.length : Int) := of_decide_eq_true s3_; obtain ⟨ad568, e568, hx568_0⟩ := Kd.at_int HR1.out x5_2 p568 q568
         cases e568
         replace p568 := eq_true p568; replace q568 := eq_true q568
         go_wp2_with (first | (go_at_call 86; (with_reducible refine (spec_IsSet.calls a0 (rd l1 x5_2) false _ A11.out).mono ?_); rintro e w' ⟨rfl, ⟨nd, rfl⟩⟩; (try first | exact ⟨rfl, _, World.drewN_drewN _ _ _⟩ | exact ⟨rfl, _, Eq.trans (World.drewN_drewN _ _ _) (congrArg (World.drewN _) (Nat.add_assoc _ _ _))⟩)))
         repeat (go_quiet (first | (go_at_call 86; (with_reducible refine (spec_IsSet.calls a0 (rd l1 x5_2) false _ A11.out).mono ?_); rintro e w' ⟨rfl, ⟨nd, rfl⟩⟩; (try first | exact ⟨rfl, _, World.drewN_drewN _ _ _⟩ | exact ⟨rfl, _, Eq.trans (World.drewN_drewN _ _ _) (congrArg (World.drewN _) (Nat.add_assoc _ _ _))⟩))); try go_wp2_with (first | (go_at_call 86; (with_reducible refine (spec_IsSet.calls a0 (rd l1 x5_2) false _ A11.out).mono ?_); rintro e w' ⟨rfl, ⟨nd, rfl⟩⟩; (try first | exact ⟨rfl, _, World.drewN_drewN _ _ _⟩ | exact ⟨rfl, _, Eq.trans (World.drewN_drewN _ _ _) (congrArg (World.drewN _) (Nat.add_assoc _ _ _))⟩))))
         go_ret
         exact ⟨s2_, s4_⟩
       ·
        rw [if_neg c10] at H
        exact absurd H (by simp)
      ·
       rw [if_neg c9] at H; have c9b0 : decide (x5_2 < (l1.length : Int)) = false := decide_eq_false c9; clear c9; have H' := Aside0.mk H; clear H
       go_wp2
       repeat (go_quiet (fail); try go_wp2)
       go_loopg [6] k2 (fun kq v6 w' => ∃ (x6_3 : Int), v6 = .int .i64 x6_3 ∧ Aside0 (spec_IsClosureFamily.l1 kq l1 x6_3 = some r) ∧ Aside0 (kq ≤ k2) ∧ Drawn0 w w')
       case atStart => exact ⟨(0), s2_, H', ⟨Nat.le_refl _⟩, s4_⟩
       case round =>
        clear H'
        try clear c1
        try clear c2
        try clear p2
        try clear c5
        try clear p5
        try clear q5
        try clear hx5
        try clear p6
        try clear c8
        try clear c9
        try clear c9b0
        try clear c10
        try clear c10b0
        try clear c12
        try clear c13
        try clear c13b0
        try clear c15
        try clear c15b0
        try clear c16
        try clear c16b0
        try clear c18
        try clear hx568_0
        try clear hx570_0
        try clear hx571_0
        try clear p2
        try clear p568
        try clear p570
        try clear p571
        try clear q568
        try clear q570
        try clear q571
        obtain ⟨x6_3, rfl, HA, HK3, ⟨m3, rfl⟩⟩ := hrel
        cases gk with
        | zero => exact absurd HA.out (by simp [spec_IsClosureFamily.l1])
        | succ k3 =>
         have H := HA.out; clear HA
         simp only [spec_IsClosureFamily.l1] at H
         by_cases c19 : x6_3 < (l1.length : Int)
         ·
          rw [if_pos c19] at H; have c19b0 : decide (x6_3 < (l1.length : Int)) = true := decide_eq_true c19; clear c19; have H' := Aside0.mk H; clear H
          go_wp2
          repeat (go_quiet (fail); try go_wp2)
          go_loopg [7] k3 (fun kq v7 w' => ∃ (x7_4 : Int), v7 = .int .i64 x7_4 ∧ Aside0 (spec_IsClosureFamily.l2 kq l1 x6_3 x7_4 = some r) ∧ Aside0 (kq ≤ k3) ∧ Drawn0 w w')
          case atStart => exact ⟨(0), s2_, H', ⟨Nat.le_refl _⟩, s4_⟩
          case round =>
           clear H'
           try clear c1
           try clear c2
           try clear p2
           try clear c5
           try clear p5
           try clear q5
           try clear hx5
           try clear p6
           try clear c8
           try clear c9
           try clear c9b0
           try clear c10
           try clear c10b0
           try clear c12
           try clear c13
           try clear c13b0
           try clear c15
           try clear c15b0
           try clear c16
           try clear c16b0
           try clear c18
           try clear c19
           try clear c19b0
           try clear hx568_0
           try clear hx570_0
           try clear hx571_0
           try clear p2
           try clear p5
           try clear p568
           try clear p570
           try clear p571
           try clear p6
           try clear q5
           try clear q568
           try clear q570
           try clear q571
           obtain ⟨x7_4, rfl, HA, HK4, ⟨m4, rfl⟩⟩ := hrel
           cases gk with
           | zero => exact absurd HA.out (by simp [spec_IsClosureFamily.l2])
           | succ k4 =>
            have H := HA.out; clear HA
            simp only [spec_IsClosureFamily.l2] at H
            by_cases c20 : x7_4 < x6_3
            ·
             rw [if_pos c20] at H; have c20b0 : decide (x7_4 < x6_3) = true := decide_eq_true c20; clear c20
             by_cases c21 : 0 ≤ x6_3
             ·
              rw [if_pos c21] at H; have c21b0 : decide (0 ≤ x6_3) = true := decide_eq_true c21; clear c21
              by_cases c22 : x6_3 < (l1.length : Int)
              ·
               rw [if_pos c22] at H; have c22b0 : decide (x6_3 < (l1.length : Int)) = true := decide_eq_true c22; clear c22
               by_cases c23 : 0 ≤ x7_4
               ·
                rw [if_pos c23] at H; have c23b0 : decide (0 ≤ x7_4) = true := decide_eq_true c23; clear c23
                by_cases c24 : x7_4 < (l1.length : Int)
                ·
                 rw [if_pos c24] at H; have c24b0 : decide (x7_4 < (l1.length : Int)) = true := decide_eq_true c24; clear c24; obtain ⟨t575, A25, H⟩ := bnd27_ H
                 by_cases c26 : t575 = true
                 ·
                  subst c26; rw [if_pos rfl] at H; have H' := Aside0.mk H; clear H; have p573 : 0 ≤ (x6_3 : Int) := of_decide_eq_true s3_; have q573 : x6_3 < (l1.length : Int) := of_decide_eq_true s3_; obtain ⟨ad573, e573, hx573_0⟩ := Kd.at_int HR1.out x6_3 p573 q573
                  cases e573
                  replace p573 := eq_true p573; replace q573 := eq_true q573; have p574 : 0 ≤ (x7_4 : Int) := of_decide_eq_true s3_; have q574 : x7_4 < (l1.length : Int) := of_decide_eq_true s3_; obtain ⟨ad574, e574, hx574_0⟩ := Kd.at_int HR1.out x7_4 p574 q574
                  obtain rfl : ad573 = ad574 := (by injection e574)
                  replace p574 := eq_true p574; replace q574 := eq_true q574
                  go_wp2_with (first | (go_at_call 133; (with_reducible refine (spec_l2In.calls k4 _ _ l1 (Go.bits .and .i64 (rd l1 x6_3) (rd l1 x7_4)) true _ ?side1 ?side2 A25.out).mono ?_); (case side1 => exact s11_); (case side2 => exact HC1.out); rintro e w' ⟨rfl, ⟨nd, rfl⟩⟩; (try first | exact ⟨rfl, _, World.drewN_drewN _ _ _⟩ | exact ⟨rfl, _, Eq.trans (World.drewN_drewN _ _ _) (congrArg (World.drewN _) (Nat.add_assoc _ _ _))⟩)))
                  repeat (go_quiet (first | (go_at_call 133; (with_reducible refine (spec_l2In.calls k4 _ _ l1 (Go.bits .and .i64 (rd l1 x6_3) (rd l1 x7_4)) true _ ?side1 ?side2 A25.out).mono ?_); (case side1 => exact s11_); (case side2 => exact HC1.out); rintro e w' ⟨rfl, ⟨nd, rfl⟩⟩; (try first | exact ⟨rfl, _, World.drewN_drewN _ _ _⟩ | exact ⟨rfl, _, Eq.trans (World.drewN_drewN _ _ _) (congrArg (World.drewN _) (Nat.add_assoc _ _ _))⟩))); try go_wp2_with (first | (go_at_call 133; (with_reducible refine (spec_l2In.calls k4 _ _ l1 (Go.bits .and .i64 (rd l1 x6_3) (rd l1 x7_4)) true _ ?side1 ?side2 A25.out).mono ?_); (case side1 => exact s11_); (case side2 => exact HC1.out); rintro e w' ⟨rfl, ⟨nd, rfl⟩⟩; (try first | exact ⟨rfl, _, World.drewN_drewN _ _ _⟩ | exact ⟨rfl, _, Eq.trans (World.drewN_drewN _ _ _) (congrArg (World.drewN _) (Nat.add_assoc _ _ _))⟩))))
                  go_roundg k4
                  case measure => have := HJ2.out; have := HK2.out; have := HK3.out; have := HK4.out; omega
                  case rel => exact ⟨(wrap64 (x7_4 + 1)), s2_, H', ⟨by have := HJ2.out; have := HK2.out; have := HK3.out; have := HK4.out; omega⟩, s4_⟩
                 ·
                  replace c26 := Bool.eq_false_iff.mpr c26; subst c26
                  rw [if_neg (show ¬ (false = true) by decide)] at H
                  obtain rfl := Option.some.inj H; have p573 : 0 ≤ (x6_3 : Int) := of_decide_eq_true s3_; have q573 : x6_3 < (l1.length : Int) := of_decide_eq_true s3_; obtain ⟨ad573, e573, hx573_0⟩ := Kd.at_int HR1.out x6_3 p573 q573
                  cases e573
                  replace p573 := eq_true p573; replace q573 := eq_true q573; have p574 : 0 ≤ (x7_4 : Int) := of_decide_eq_true s3_; have q574 : x7_4 < (l1.length : Int) := of_decide_eq_true s3_; obtain ⟨ad574, e574, hx574_0⟩ := Kd.at_int HR1.out x7_4 p574 q574
                  obtain rfl : ad573 = ad574 := (by injection e574)
                  replace p574 := eq_true p574; replace q574 := eq_true q574
                  go_wp2_with (first | (go_at_call 133; (with_reducible refine (spec_l2In.calls k4 _ _ l1 (Go.bits .and .i64 (rd l1 x6_3) (rd l1 x7_4)) false _ ?side1 ?side2 A25.out).mono ?_); (case side1 => exact s11_); (case side2 => exact HC1.out); rintro e w' ⟨rfl, ⟨nd, rfl⟩⟩; (try first | exact ⟨rfl, _, World.drewN_drewN _ _ _⟩ | exact ⟨rfl, _, Eq.trans (World.drewN_drewN _ _ _) (congrArg (World.drewN _) (Nat.add_assoc _ _ _))⟩)))
                  repeat (go_quiet (first | (go_at_call 133; (with_reducible refine (spec_l2In.calls k4 _ _ l1 (Go.bits .and .i64 (rd l1 x6_3) (rd l1 x7_4)) false _ ?side1 ?side2 A25.out).mono ?_); (case side1 => exact s11_); (case side2 => exact HC1.out); rintro e w' ⟨rfl, ⟨nd, rfl⟩⟩; (try first | exact ⟨rfl, _, World.drewN_drewN _ _ _⟩ | exact ⟨rfl, _, Eq.trans (World.drewN_drewN _ _ _) (congrArg (World.drewN _) (Nat.add_assoc _ _ _))⟩))); try go_wp2_with (first | (go_at_call 133; (with_reducible refine (spec_l2In.calls k4 _ _ l1 (Go.bits .and .i64 (rd l1 x6_3) (rd l1 x7_4)) false _ ?side1 ?side2 A25.out).mono ?_); (case side1 => exact s11_); (case side2 => exact HC1.out); rintro e w' ⟨rfl, ⟨nd, rfl⟩⟩; (try first | exact ⟨rfl, _, World.drewN_drewN _ _ _⟩ | exact ⟨rfl, _, Eq.trans (World.drewN_drewN _ _ _) (congrArg (World.drewN _) (Nat.add_assoc _ _ _))⟩))))
                  go_ret
                  exact ⟨s2_, s4_⟩
                ·
                 rw [if_neg c24] at H
                 exact absurd H (by simp)
               ·
                rw [if_neg c23] at H
                exact absurd H (by simp)
              ·
               rw [if_neg c22] at H
               exact absurd H (by simp)
             ·
              rw [if_neg c21] at H
              exact absurd H (by simp)
            ·
             rw [if_neg c20] at H; have c20b0 : decide (x7_4 < x6_3) = false := decide_eq_false c20; clear c20; have H' := Aside0.mk H; clear H
             go_wp2
             repeat (go_quiet (fail); try go_wp2)
             go_roundg k4
             case measure => have := HJ2.out; have := HK2.out; have := HK3.out; have := HK4.out; omega
             case rel => exact ⟨(wrap64 (x6_3 + 1)), s2_, H', ⟨by have := HJ2.out; have := HK2.out; have := HK3.out; have := HK4.out; omega⟩, s4_⟩
         ·
          rw [if_neg c19] at H; have c19b0 : decide (x6_3 < (l1.length : Int)) = false := decide_eq_false c19; clear c19; obtain rfl := Option.some.inj H
          go_wp2
          repeat (go_quiet (fail); try go_wp2)
          go_ret
          exact ⟨s2_, s4_⟩
theorem q27_5 {P : Prop} (h : P := by (with_reducible repeat (first | refine blk_drewN ?_ _ | refine blk_drew ?_ | refine blk_alloc ?_ _)); refine blk_put (cs := #[.int .i64 0, .slice none 0 0]) ?_ 1 _ rfl; (with_reducible repeat (first | refine blk_drewN ?_ _ | refine blk_drew ?_ | refine blk_alloc ?_ _)); refine blk_put (cs := #[.int .i64 0, .slice none 0 0]) ?_ 0 _ rfl; (with_reducible repeat (first | refine blk_drewN ?_ _ | refine blk_drew ?_ | refine blk_alloc ?_ _)); exact BK576.out) : P := h
theorem q27_7 {P : Prop} (h : P := by repeat (first | (with_reducible first | exact HB.out | apply below_alloc | apply pw_below_drewN | apply below_drew1 | refine below_set ?_ GE576.out) | exact HB.out)) : P := h
theorem q27_11 {P : Prop} (h : P := by (with_reducible repeat (first | refine blk_drewN ?_ _ | refine blk_drew ?_ | refine blk_alloc ?_ _)); exact BK576.out) : P := h
def spec_ContextOfFamily.f (k : Nat) (a0 : Int) (l1 : List Int) : Option (Int × List Int × Bool) := (spec_IsClosureFamily.f k a0 l1).bind fun t577 => (if t577 = true then ((spec_l13Irreducible.f k a0 l1).bind fun t578 => (if (t578.length : Int) > 8 then (some (0, ([] : List Int), false)) else (some (a0, t578, true)))) else (some (0, ([] : List Int), false)))
set_option maxHeartbeats 40000000 in
set_option maxRecDepth 100000 in
theorem spec_ContextOfFamily.calls (k : Nat) (a0 : Int) (A1 : Option Addr) (c1 : Nat) (l1 : List Int) (r1 : Int) (r2 : List Int) (r3 : Bool) (w : World) (hr1 : Kd.C (Kd.int .i64) w A1 l1.length l1) (hc1 : l1.length ≤ c1) (h : spec_ContextOfFamily.f k a0 l1 = some (r1, r2, r3)) :
  Calls Tryz.prog 19 #[.int .i64 a0, .slice A1 l1.length c1] w fun e w' => ∃ v1_ : Value, e = .returned (.tuple #[.agg #[.int .i64 r1, v1_], .bool r3]) ∧ Kd.R (Kd.int .i64) 3 w' w.heap.size (fun _ => True) v1_ r2 ∧ Below w.heap.size w w' := by
 have hu29 := Tryz.underlying29; have HR1 := Aside0.mk hr1; have HC1 := Aside0.mk hc1; clear hr1 hc1; have HB := Aside0.mk (Below.refl w.heap.size w); have H := h; clear h; unfold spec_ContextOfFamily.f at H; obtain ⟨t577, A3, H⟩ := bnd27_ H
 by_cases c4 : t577 = true
 ·
  subst c4; rw [if_pos rfl] at H; obtain ⟨t578, A5, H⟩ := bnd27_ H
  by_cases c6 : (t578.length : Int) > 8
  ·
   rw [if_pos c6] at H; have c6b0 : decide (8 < (t578.length : Int)) = true := decide_eq_true c6
   have c6b1 : decide (8 < t578.length) = true := decide_eq_true (by omega)
   clear c6
   simp only [Option.some.injEq, Prod.mk.injEq] at H
   obtain ⟨rfl, rfl, rfl⟩ := H
   go_enter Tryz.func19, Tryz.ntmps19
   go_wp2_with (first | (refine be_ 4 #[.int .i64 0, .slice none 0 0] 29 ?_; intro gb576 hg w7 hbox hb; have n_ := ac_ (below_step s1_ hb) <| ac_ (hbox) <| ac_ ((gz_ w hg s1_)) <| Aside0.mk ((gz_ w hg s1_)); clear HB; obtain ⟨HB, BK576, GW576, GE576⟩ := n_; clear hb hbox hg) | (refine gL_ 23 9 Tryz.func23 #[.int .i64 a0, .slice A1 l1.length c1] ?_; (with_reducible refine (spec_IsClosureFamily.calls k a0 _ _ l1 true _ ?side1 ?side2 A3.out).mono ?_); (case side1 => exact s13_); (case side2 => exact HC1.out); rintro e w' ⟨rfl, ⟨nd, rfl⟩⟩; refine ⟨_, rfl, ?_⟩; (try (rw [drewN_self w7]; generalize hq_ : World.drewN w7 _ = w7; have n0_ : Aside0 (w7.heap[gb576]? = some (.cells #[.int .i64 0, .slice none 0 0] 29 (0, 0))) := ⟨by rw [← hq_]; exact q27_11⟩; have n1_ : Aside0 (Below w.heap.size w w7) := ⟨by rw [← hq_]; exact q27_7⟩; clear BK576 HB hq_; have BK576 := n0_; have HB := n1_; clear n0_ n1_))) | (refine gL_ 124 14 Tryz.func124 #[.int .i64 a0, .slice A1 l1.length c1] ?_; (with_reducible refine (spec_l13Irreducible.calls k a0 _ _ l1 t578 _ ?side1 ?side2 A5.out).mono ?_); (case side1 => exact s13_); (case side2 => exact HC1.out); rintro e w8 ⟨v579, rfl, ho0, hb⟩; refine ⟨_, rfl, ?_⟩; have n_ := ac_ (Kd.R_lower ho0 (below_size q27_7)) <| ac_ (blk_below (g := gb576) (o := .cells #[.int .i64 0, .slice none 0 0] 29 (0, 0)) q27_11 hb) <| Aside0.mk (below_step q27_7 hb); clear BK576 HB; obtain ⟨HO580, BK576, HB⟩ := n_; (try clear hb ho0); obtain ⟨Ao9, co9, eo9⟩ := Kd.R_slice HO580.out; subst eo9; have hcz10_0 : w8.cell? ⟨gb576, 0, none⟩ = some (.int .i64 0) := (blk_cell BK576.out 0).trans rfl; have hcz10_1 : w8.cell? ⟨gb576, 1, none⟩ = some (.slice none 0 0) := (blk_cell BK576.out 1).trans rfl; have hfz10_0 := blk_frozen BK576.out 0; have hfz10_1 := blk_frozen BK576.out 1))
   refine bodyPost_ret (results_ct rfl _ _ gb576 29 #[.int .i64 0, .slice none 0 0] (0, 0) _ rfl q27_5 Tryz.underlying29 rfl (by kernel_rfl)) rfl ?_
   exact ⟨_, s7_, s18_, q27_7⟩
  ·
   rw [if_neg c6] at H; have c6b0 : decide (8 < (t578.length : Int)) = false := decide_eq_false c6
   have c6b1 : decide (8 < t578.length) = false := decide_eq_false (by omega)
   clear c6
   simp only [Option.some.injEq, Prod.mk.injEq] at H
   obtain ⟨rfl, rfl, rfl⟩ := H
   go_enter Tryz.func19, Tryz.ntmps19
   go_wp2_with (first | (refine be_ 4 #[.int .i64 0, .slice none 0 0] 29 ?_; intro gb576 hg w11 hbox hb; have n_ := ac_ (below_step s1_ hb) <| ac_ (hbox) <| ac_ ((gz_ w hg s1_)) <| Aside0.mk ((gz_ w hg s1_)); clear HB; obtain ⟨HB, BK576, GW576, GE576⟩ := n_; clear hb hbox hg) | (refine gL_ 23 9 Tryz.func23 #[.int .i64 a0, .slice A1 l1.length c1] ?_; (with_reducible refine (spec_IsClosureFamily.calls k a0 _ _ l1 true _ ?side1 ?side2 A3.out).mono ?_); (case side1 => exact s13_); (case side2 => exact HC1.out); rintro e w' ⟨rfl, ⟨nd, rfl⟩⟩; refine ⟨_, rfl, ?_⟩; (try (rw [drewN_self w11]; generalize hq_ : World.drewN w11 _ = w11; have n0_ : Aside0 (w11.heap[gb576]? = some (.cells #[.int .i64 0, .slice none 0 0] 29 (0, 0))) := ⟨by rw [← hq_]; exact q27_11⟩; have n1_ : Aside0 (Below w.heap.size w w11) := ⟨by rw [← hq_]; exact q27_7⟩; clear BK576 HB hq_; have BK576 := n0_; have HB := n1_; clear n0_ n1_))) | (refine gL_ 124 14 Tryz.func124 #[.int .i64 a0, .slice A1 l1.length c1] ?_; (with_reducible refine (spec_l13Irreducible.calls k a0 _ _ l1 t578 _ ?side1 ?side2 A5.out).mono ?_); (case side1 => exact s13_); (case side2 => exact HC1.out); rintro e w12 ⟨v579, rfl, ho0, hb⟩; refine ⟨_, rfl, ?_⟩; have n_ := ac_ (Kd.R_lower ho0 (below_size q27_7)) <| ac_ (blk_below (g := gb576) (o := .cells #[.int .i64 0, .slice none 0 0] 29 (0, 0)) q27_11 hb) <| Aside0.mk (below_step q27_7 hb); clear BK576 HB; obtain ⟨HO580, BK576, HB⟩ := n_; (try clear hb ho0); obtain ⟨Ao13, co13, eo13⟩ := Kd.R_slice HO580.out; subst eo13; have hcz14_0 : w12.cell? ⟨gb576, 0, none⟩ = some (.int .i64 0) := (blk_cell BK576.out 0).trans rfl; have hcz14_1 : w12.cell? ⟨gb576, 1, none⟩ = some (.slice none 0 0) := (blk_cell BK576.out 1).trans rfl; have hfz14_0 := blk_frozen BK576.out 0; have hfz14_1 := blk_frozen BK576.out 1))
   refine bodyPost_ret (results_ct rfl _ _ gb576 29 #[.int .i64 a0, .slice Ao13 t578.length co13] (0, 0) _ rfl (by (with_reducible repeat (first | refine blk_drewN ?_ _ | refine blk_drew ?_ | refine blk_alloc ?_ _)); refine blk_put (cs := #[.int .i64 a0, .slice none 0 0]) ?_ 1 _ rfl; (with_reducible repeat (first | refine blk_drewN ?_ _ | refine blk_drew ?_ | refine blk_alloc ?_ _)); refine blk_put (cs := #[.int .i64 0, .slice none 0 0]) ?_ 0 _ rfl; (with_reducible repeat (first | refine blk_drewN ?_ _ | refine blk_drew ?_ | refine blk_alloc ?_ _)); exact BK576.out) Tryz.underlying29 rfl (by kernel_rfl)) rfl ?_
   exact ⟨_, s7_, (by (with_reducible repeat (first | apply Kd.R_alloc | apply Kd.R_drewN | apply Kd.R_drew)); exact Kd.R_mono (Kd.R_far (p := ⟨gb576, 1, none⟩) (Kd.R_far (p := ⟨gb576, 0, none⟩) (Kd.R_types HO580.out BK576.out (by decide)) (fun _ hk => hk.2) (.int .i64 a0)) (fun _ hk => hk.2) (.slice Ao13 t578.length co13)) (fun _ hk => trivial)), q27_7⟩
 ·
  replace c4 := Bool.eq_false_iff.mpr c4; subst c4
  rw [if_neg (show ¬ (false = true) by decide)] at H
  simp only [Option.some.injEq, Prod.mk.injEq] at H
  obtain ⟨rfl, rfl, rfl⟩ := H
  go_enter Tryz.func19, Tryz.ntmps19
  go_wp2_with (first | (refine be_ 4 #[.int .i64 0, .slice none 0 0] 29 ?_; intro gb576 hg w15 hbox hb; have n_ := ac_ (below_step s1_ hb) <| ac_ (hbox) <| ac_ ((gz_ w hg s1_)) <| Aside0.mk ((gz_ w hg s1_)); clear HB; obtain ⟨HB, BK576, GW576, GE576⟩ := n_; clear hb hbox hg) | (refine gL_ 23 9 Tryz.func23 #[.int .i64 a0, .slice A1 l1.length c1] ?_; (with_reducible refine (spec_IsClosureFamily.calls k a0 _ _ l1 false _ ?side1 ?side2 A3.out).mono ?_); (case side1 => exact s13_); (case side2 => exact HC1.out); rintro e w' ⟨rfl, ⟨nd, rfl⟩⟩; refine ⟨_, rfl, ?_⟩; (try (rw [drewN_self w15]; generalize hq_ : World.drewN w15 _ = w15; have n0_ : Aside0 (w15.heap[gb576]? = some (.cells #[.int .i64 0, .slice none 0 0] 29 (0, 0))) := ⟨by rw [← hq_]; exact q27_11⟩; have n1_ : Aside0 (Below w.heap.size w w15) := ⟨by rw [← hq_]; exact q27_7⟩; clear BK576 HB hq_; have BK576 := n0_; have HB := n1_; clear n0_ n1_)); have hcz16_0 : w15.cell? ⟨gb576, 0, none⟩ = some (.int .i64 0) := (blk_cell BK576.out 0).trans rfl; have hcz16_1 : w15.cell? ⟨gb576, 1, none⟩ = some (.slice none 0 0) := (blk_cell BK576.out 1).trans rfl; have hfz16_0 := blk_frozen BK576.out 0; have hfz16_1 := blk_frozen BK576.out 1))
  refine bodyPost_ret (results_ct rfl _ _ gb576 29 #[.int .i64 0, .slice none 0 0] (0, 0) _ rfl q27_5 Tryz.underlying29 rfl (by kernel_rfl)) rfl ?_
  exact ⟨_, s7_, s18_, q27_7⟩
def spec_l2Same.l0 : Nat → List Int → List Int → Int → Option (Bool)
 | 0, _, _, _ => none
 | k + 1, x0, x1, x5 => if x5 < (x0.length : Int) then (if 0 ≤ x5 then (if x5 < (x1.length : Int) then (if (rd x0 x5) = (rd x1 x5) then (spec_l2Same.l0 k x0 x1 (wrap64 (x5 + 1))) else (some false)) else (none)) else (none)) else (some true)
def spec_l2Same.f (k : Nat) (l0 : List Int) (l1 : List Int) : Option (Bool) := if (l0.length : Int) = (l1.length : Int) then (spec_l2Same.l0 k l0 l1 0) else (some false)
set_option maxHeartbeats 40000000 in
set_option maxRecDepth 100000 in
theorem spec_l2Same.calls (k : Nat) (A0 : Option Addr) (c0 : Nat) (l0 : List Int) (A1 : Option Addr) (c1 : Nat) (l1 : List Int) (r : Bool) (w : World) (hr0 : Kd.C (Kd.int .i64) w A0 l0.length l0) (hc0 : l0.length ≤ c0) (hr1 : Kd.C (Kd.int .i64) w A1 l1.length l1) (hc1 : l1.length ≤ c1) (h : spec_l2Same.f k l0 l1 = some r) :
  Calls Tryz.prog 126 #[.slice A0 l0.length c0, .slice A1 l1.length c1] w fun e w' => e = .returned (.bool r) ∧ Drawn0 w w' := by
 have HR0 := Aside0.mk hr0; have HC0 := Aside0.mk hc0; clear hr0 hc0; have HR1 := Aside0.mk hr1; have HC1 := Aside0.mk hc1; clear hr1 hc1; have H := h; clear h; unfold spec_l2Same.f at H
 by_cases c3 : (l0.length : Int) = (l1.length : Int)
 ·
  rw [if_pos c3] at H; have c3b0 : ((l0.length : Int) == (l1.length : Int)) = true := beq_iff_eq.mpr c3; have c3b1 : ((l0.length : Int) != (l1.length : Int)) = false := bne_eq_false_iff_eq.mpr c3
  have c3b2 : (l0.length == l1.length) = true := by first | simpa using c3 | (simp at c3 ⊢; omega)
  clear c3; have H' := Aside0.mk H; clear H
  go_enter Tryz.func126, Tryz.ntmps126
  go_wp2
  repeat (go_quiet (fail); try go_wp2)
  go_loopg [5] k (fun kq v5 w' => ∃ (x5_1 : Int), v5 = .int .i64 x5_1 ∧ Aside0 (spec_l2Same.l0 kq l0 l1 x5_1 = some r) ∧ Aside0 (kq ≤ k) ∧ Drawn0 w w')
  case atStart => exact ⟨(0), s2_, H', ⟨Nat.le_refl _⟩, s4_⟩
  case round =>
   clear H'
   try clear c1
   try clear p2
   try clear c3
   try clear c3b0
   try clear c3b1
   try clear c3b2
   obtain ⟨x5_1, rfl, HA, HK1, ⟨m1, rfl⟩⟩ := hrel
   cases gk with
   | zero => exact absurd HA.out (by simp [spec_l2Same.l0])
   | succ k1 =>
    have H := HA.out; clear HA
    simp only [spec_l2Same.l0] at H
    by_cases c4 : x5_1 < (l0.length : Int)
    ·
     rw [if_pos c4] at H; have c4b0 : decide (x5_1 < (l0.length : Int)) = true := decide_eq_true c4; clear c4
     by_cases c5 : 0 ≤ x5_1
     ·
      rw [if_pos c5] at H; have c5b0 : decide (0 ≤ x5_1) = true := decide_eq_true c5; clear c5
      by_cases c6 : x5_1 < (l1.length : Int)
      ·
       rw [if_pos c6] at H; have c6b0 : decide (x5_1 < (l1.length : Int)) = true := decide_eq_true c6; clear c6
       by_cases c7 : (rd l0 x5_1) = (rd l1 x5_1)
       ·
        rw [if_pos c7] at H; have c7b0 : ((rd l0 x5_1) == (rd l1 x5_1)) = true := beq_iff_eq.mpr c7; have c7b1 : ((rd l0 x5_1) != (rd l1 x5_1)) = false := bne_eq_false_iff_eq.mpr c7; clear c7; have H' := Aside0.mk H; clear H; have p581 : 0 ≤ (x5_1 : Int) := of_decide_eq_true s3_; have q581 : x5_1 < (l0.length : Int) := of_decide_eq_true s3_; obtain ⟨ad581, e581, hx581_0⟩ := Kd.at_int HR0.out x5_1 p581 q581
        cases e581
        replace p581 := eq_true p581; replace q581 := eq_true q581; have p582 : 0 ≤ (x5_1 : Int) := of_decide_eq_true s3_; have q582 : x5_1 < (l1.length : Int) := of_decide_eq_true s3_; obtain ⟨ad582, e582, hx582_0⟩ := Kd.at_int HR1.out x5_1 p582 q582
        cases e582
        replace p582 := eq_true p582; replace q582 := eq_true q582
        go_wp2
        repeat (go_quiet (fail); try go_wp2)
        go_roundg k1
        case measure => have := HK1.out; omega
        case rel => exact ⟨(wrap64 (x5_1 + 1)), s2_, H', ⟨by have := HK1.out; omega⟩, s4_⟩
       ·
        rw [if_neg c7] at H; have c7b0 : ((rd l0 x5_1) == (rd l1 x5_1)) = false := beq_eq_false_iff_ne.mpr c7; have c7b1 : ((rd l0 x5_1) != (rd l1 x5_1)) = true := bne_iff_ne.mpr c7; obtain rfl := Option.some.inj H; have p581 : 0 ≤ (x5_1 : Int) := of_decide_eq_true s3_; have q581 : x5_1 < (l0.length : Int) := of_decide_eq_true s3_; obtain ⟨ad581, e581, hx581_0⟩ := Kd.at_int HR0.out x5_1 p581 q581
        cases e581
        replace p581 := eq_true p581; replace q581 := eq_true q581; have p582 : 0 ≤ (x5_1 : Int) := of_decide_eq_true s3_; have q582 : x5_1 < (l1.length : Int) := of_decide_eq_true s3_; obtain ⟨ad582, e582, hx582_0⟩ := Kd.at_int HR1.out x5_1 p582 q582
        cases e582
        replace p582 := eq_true p582; replace q582 := eq_true q582
        go_wp2
        repeat (go_quiet (fail); try go_wp2)
        go_ret
        exact ⟨s2_, s4_⟩
      ·
       rw [if_neg c6] at H
       exact absurd H (by simp)
     ·
      rw [if_neg c5] at H
      exact absurd H (by simp)
    ·
     rw [if_neg c4] at H; have c4b0 : decide (x5_1 < (l0.length : Int)) = false := decide_eq_false c4; clear c4; obtain rfl := Option.some.inj H
     go_wp2
     repeat (go_quiet (fail); try go_wp2)
     go_ret
     exact ⟨s2_, s4_⟩
 ·
  rw [if_neg c3] at H; have c3b0 : ((l0.length : Int) == (l1.length : Int)) = false := beq_eq_false_iff_ne.mpr c3; have c3b1 : ((l0.length : Int) != (l1.length : Int)) = true := bne_iff_ne.mpr c3
  have c3b2 : (l0.length == l1.length) = false := by first | simpa using c3 | (simp at c3 ⊢; omega)
  obtain rfl := Option.some.inj H
  go_enter Tryz.func126, Tryz.ntmps126
  go_wp2
  repeat (go_quiet (fail); try go_wp2)
  go_ret
  exact ⟨s2_, s4_⟩
theorem q27_16 {P : Prop} (h : P := by repeat (first | (with_reducible first | exact HB.out | apply below_alloc | apply pw_below_drewN | apply below_drew1 | refine below_set ?_ GE583.out | refine below_set ?_ GE584.out) | exact HB.out)) : P := h
theorem q27_17 {P : Prop} (h : P := by repeat (first | (with_reducible first | exact HB.out | apply below_alloc | apply pw_below_drewN | apply below_drew1 | refine below_set ?_ GE583.out) | exact HB.out)) : P := h
theorem q27_19 {P : Prop} (h : P := by (with_reducible repeat (first | refine blk_drewN ?_ _ | refine blk_drew ?_ | refine blk_alloc ?_ _)); exact BK583.out) : P := h
def spec_EqualContext.f (k : Nat) (a0_0 : Int) (l0_1 : List Int) (a1_0 : Int) (l1_1 : List Int) : Option (Bool) := if a0_0 = a1_0 then ((spec_l2Same.f k l0_1 l1_1).bind fun t585 => (some t585)) else (some false)
set_option maxHeartbeats 40000000 in
set_option maxRecDepth 100000 in
theorem spec_EqualContext.calls (k : Nat) (a0_0 : Int) (A0_1 : Option Addr) (c0_1 : Nat) (l0_1 : List Int) (a1_0 : Int) (A1_1 : Option Addr) (c1_1 : Nat) (l1_1 : List Int) (r : Bool) (w : World) (hr0_1 : Kd.C (Kd.int .i64) w A0_1 l0_1.length l0_1) (hc0_1 : l0_1.length ≤ c0_1) (hr1_1 : Kd.C (Kd.int .i64) w A1_1 l1_1.length l1_1) (hc1_1 : l1_1.length ≤ c1_1) (h : spec_EqualContext.f k a0_0 l0_1 a1_0 l1_1 = some r) :
  Calls Tryz.prog 20 #[.agg #[.int .i64 a0_0, .slice A0_1 l0_1.length c0_1], .agg #[.int .i64 a1_0, .slice A1_1 l1_1.length c1_1]] w fun e w' => e = .returned (.bool r) ∧ Below w.heap.size w w' := by
 have hu29 := Tryz.underlying29; have HR0_1 := Aside0.mk hr0_1; have HC0_1 := Aside0.mk hc0_1; clear hr0_1 hc0_1; have HR1_1 := Aside0.mk hr1_1; have HC1_1 := Aside0.mk hc1_1; clear hr1_1 hc1_1; have HB := Aside0.mk (Below.refl w.heap.size w); have H := h; clear h; unfold spec_EqualContext.f at H
 by_cases c3 : a0_0 = a1_0
 ·
  rw [if_pos c3] at H; have c3b0 : (a0_0 == a1_0) = true := beq_iff_eq.mpr c3; have c3b1 : (a0_0 != a1_0) = false := bne_eq_false_iff_eq.mpr c3; clear c3; obtain ⟨t585, A4, H⟩ := bnd27_ H; obtain rfl := Option.some.inj H
  go_enter Tryz.func20, Tryz.ntmps20
  go_wp2_with (first | (refine be_ 2 #[.int .i64 a0_0, .slice A0_1 l0_1.length c0_1] 29 ?_; intro gb583 hg w5 hbox hb; have n_ := ac_ (below_step s1_ hb) <| ac_ (hbox) <| ac_ ((gz_ w hg s1_)) <| Aside0.mk ((gz_ w hg s1_)); clear HB; obtain ⟨HB, BK583, GW583, GE583⟩ := n_; clear hb hbox hg) | (refine be_ 3 #[.int .i64 a1_0, .slice A1_1 l1_1.length c1_1] 29 ?_; intro gb584 hg w6 hbox hb; have n_ := ac_ (blk_below (g := gb583) (o := .cells #[.int .i64 a0_0, .slice A0_1 l0_1.length c0_1] 29 (0, 0)) q27_19 hb) <| ac_ (below_step q27_17 hb) <| ac_ (hbox) <| ac_ ((gz_ w hg q27_17)) <| ac_ ((gz_ w hg q27_17)) <| ac_ ((nl_ hg (blk_lt (g := gb583) (o := .cells #[.int .i64 a0_0, .slice A0_1 l0_1.length c0_1] 29 (0, 0)) q27_19))) <| Aside0.mk ((ng_ hg (blk_lt (g := gb583) (o := .cells #[.int .i64 a0_0, .slice A0_1 l0_1.length c0_1] 29 (0, 0)) q27_19))); clear BK583 HB; obtain ⟨BK583, HB, BK584, GW584, GE584, NB583_584, NB584_583⟩ := n_; clear hb hbox hg; have hnb7 := NB583_584.out; have hnc7 := NB584_583.out; have hcz8_0 : w6.cell? ⟨gb583, 0, none⟩ = some (.int .i64 a0_0) := (blk_cell BK583.out 0).trans rfl; have hcz8_1 : w6.cell? ⟨gb583, 1, none⟩ = some (.slice A0_1 l0_1.length c0_1) := (blk_cell BK583.out 1).trans rfl; have hfz8_0 := blk_frozen BK583.out 0; have hfz8_1 := blk_frozen BK583.out 1; have hcz9_0 : w6.cell? ⟨gb584, 0, none⟩ = some (.int .i64 a1_0) := (blk_cell BK584.out 0).trans rfl; have hcz9_1 : w6.cell? ⟨gb584, 1, none⟩ = some (.slice A1_1 l1_1.length c1_1) := (blk_cell BK584.out 1).trans rfl; have hfz9_0 := blk_frozen BK584.out 0; have hfz9_1 := blk_frozen BK584.out 1) | (go_at_call 126; (with_reducible refine (spec_l2Same.calls k _ _ l0_1 _ _ l1_1 t585 _ ?side1 ?side2 ?side3 ?side4 A4.out).mono ?_); (case side1 => repeat (first | exact (Kd.C_below HR0_1.out HB.out) | (with_reducible refine Kd.C_alloc ?_ _) | (with_reducible refine Kd.C_drewN ?_ _) | (with_reducible refine Kd.C_drew ?_))); (case side2 => exact HC0_1.out); (case side3 => repeat (first | exact (Kd.C_below HR1_1.out HB.out) | (with_reducible refine Kd.C_alloc ?_ _) | (with_reducible refine Kd.C_drewN ?_ _) | (with_reducible refine Kd.C_drew ?_))); (case side4 => exact HC1_1.out); rintro e w' ⟨rfl, ⟨nd, rfl⟩⟩))
  go_ret
  exact ⟨(by first | rfl | (simp [errW_none, errW_some] <;> rfl) | (simp [*, errW_none, errW_some] <;> rfl)), q27_16⟩
 ·
  rw [if_neg c3] at H; have c3b0 : (a0_0 == a1_0) = false := beq_eq_false_iff_ne.mpr c3; have c3b1 : (a0_0 != a1_0) = true := bne_iff_ne.mpr c3; obtain rfl := Option.some.inj H
  go_enter Tryz.func20, Tryz.ntmps20
  go_wp2_with (first | (refine be_ 2 #[.int .i64 a0_0, .slice A0_1 l0_1.length c0_1] 29 ?_; intro gb583 hg w10 hbox hb; have n_ := ac_ (below_step s1_ hb) <| ac_ (hbox) <| ac_ ((gz_ w hg s1_)) <| Aside0.mk ((gz_ w hg s1_)); clear HB; obtain ⟨HB, BK583, GW583, GE583⟩ := n_; clear hb hbox hg) | (refine be_ 3 #[.int .i64 a1_0, .slice A1_1 l1_1.length c1_1] 29 ?_; intro gb584 hg w11 hbox hb; have n_ := ac_ (blk_below (g := gb583) (o := .cells #[.int .i64 a0_0, .slice A0_1 l0_1.length c0_1] 29 (0, 0)) q27_19 hb) <| ac_ (below_step q27_17 hb) <| ac_ (hbox) <| ac_ ((gz_ w hg q27_17)) <| ac_ ((gz_ w hg q27_17)) <| ac_ ((nl_ hg (blk_lt (g := gb583) (o := .cells #[.int .i64 a0_0, .slice A0_1 l0_1.length c0_1] 29 (0, 0)) q27_19))) <| Aside0.mk ((ng_ hg (blk_lt (g := gb583) (o := .cells #[.int .i64 a0_0, .slice A0_1 l0_1.length c0_1] 29 (0, 0)) q27_19))); clear BK583 HB; obtain ⟨BK583, HB, BK584, GW584, GE584, NB583_584, NB584_583⟩ := n_; clear hb hbox hg; have hnb12 := NB583_584.out; have hnc12 := NB584_583.out; have hcz13_0 : w11.cell? ⟨gb583, 0, none⟩ = some (.int .i64 a0_0) := (blk_cell BK583.out 0).trans rfl; have hcz13_1 : w11.cell? ⟨gb583, 1, none⟩ = some (.slice A0_1 l0_1.length c0_1) := (blk_cell BK583.out 1).trans rfl; have hfz13_0 := blk_frozen BK583.out 0; have hfz13_1 := blk_frozen BK583.out 1; have hcz14_0 : w11.cell? ⟨gb584, 0, none⟩ = some (.int .i64 a1_0) := (blk_cell BK584.out 0).trans rfl; have hcz14_1 : w11.cell? ⟨gb584, 1, none⟩ = some (.slice A1_1 l1_1.length c1_1) := (blk_cell BK584.out 1).trans rfl; have hfz14_0 := blk_frozen BK584.out 0; have hfz14_1 := blk_frozen BK584.out 1))
  go_ret
  exact ⟨(by first | rfl | (simp [errW_none, errW_some] <;> rfl) | (simp [*, errW_none, errW_some] <;> rfl)), q27_16⟩
def laws_intents.l0 : Nat → List (S102) → List Int → Int → Option (List Int)
 | 0, _, _, _ => none
 | k + 1, x0, x3, x4 => if x4 < (x0.length : Int) then (if 0 ≤ x4 then (if x3.length < 17592186044416 then (laws_intents.l0 k x0 (x3 ++ [(rd_T102 x0 x4).f1]) (wrap64 (x4 + 1))) else (none)) else (none)) else (some x3)
def laws_intents.f (k : Nat) (l0 : List (S102)) : Option (List Int) := laws_intents.l0 k l0 (([] : List Int)) 0
set_option maxHeartbeats 40000000 in
set_option maxRecDepth 100000 in
theorem laws_intents.calls (k : Nat) (A0 : Option Addr) (c0 : Nat) (l0 : List (S102)) (r : List Int) (w : World) (hr0 : Kd.C k102 w A0 l0.length l0) (hc0 : l0.length ≤ c0) (h : laws_intents.f k l0 = some r) :
  Calls Tryz.prog 24 #[.slice A0 l0.length c0] w fun e w' => ∃ v0_ : Value, e = .returned (v0_) ∧ Kd.R (Kd.int .i64) 3 w' w.heap.size (fun _ => True) v0_ r ∧ Below w.heap.size w w' := by
 have HR0 := Aside0.mk hr0; have HC0 := Aside0.mk hc0; clear hr0 hc0; have HB := Aside0.mk (Below.refl w.heap.size w); have H := h; clear h; unfold laws_intents.f at H; obtain ⟨y588, hy588⟩ : ∃ y_ : List Int, y_ = (([] : List Int)) := ⟨_, rfl⟩
 replace H : (laws_intents.l0 k l0 y588 0) = some r := by first | (rw [hy588]; with_reducible exact H) | (have H2_ := (Option.bind_some _ _).symm.trans H; rw [hy588]; with_reducible exact H2_) | (have H2_ := (Option.bind_some _ _).symm.trans H; with_reducible exact H2_) | with_reducible exact H | (rw [hy588]; exact H) | exact H
 have Ny588 := Aside0.mk hy588; clear hy588; have H' := Aside0.mk H; clear H
 go_enter Tryz.func24, Tryz.ntmps24
 go_wp2_with (first | ((with_reducible refine gate_dst (N := 5) rfl ?_); refine Kd.R_lit (Kd.int .i64) _ 3 ?hg (N := 5) ?hd (xs := ([] : List Int)) (inner := []) (ok := fun _ => True) (okp := fun _ => True) ?hr ?hp (fun _ hk => hk) trivial (Below.refl _ _) (Nat.le_refl _) (by simp) ?_; (case hd => rfl); (case hg => rfl); (case hr => first | (go_simp; done) | (go_simp; rfl)); (case hp => exact (Reps.none _ _)); intro v589 w2 ho3 hb hg_ hnew_; clear hg_ hnew_; (first | rw [← Ny588.out] at ho3 | (simp only [Int.reduceToNat] at ho3; rw [← Ny588.out] at ho3)); have n_ := ac_ (Kd.R_lower ho3 (below_size s1_)) <| Aside0.mk (below_step s1_ hb); clear HB; obtain ⟨HO590, HB⟩ := n_; clear hb ho3))
 go_loopg [3, 4] k (fun kq v3 v4 w' => ∃ (x3_1 : List Int) (x4_1 : Int), v4 = .int .i64 x4_1 ∧ Aside0 (laws_intents.l0 kq l0 x3_1 x4_1 = some r) ∧ Aside0 (kq ≤ k) ∧ Aside0 (Kd.R (Kd.int .i64) 3 w' w.heap.size (fun _ => True) v3 x3_1) ∧ Aside0 (Below w.heap.size w w'))
 case atStart => exact ⟨(y588), (0), (by first | rfl | (simp; done) | (simp [*]; done) | (simp [i64_w, i32_w]; done)), H', ⟨Nat.le_refl _⟩, ⟨(by (with_reducible repeat (first | apply Kd.R_alloc | apply Kd.R_drewN | apply Kd.R_drew)); exact HO590.out)⟩, ⟨s1_⟩⟩
 case round =>
  clear H'
  try clear c2
  try clear p2
  obtain ⟨x3_1, x4_1, rfl, HA, HK1, HO_3, HB⟩ := hrel
  cases gk with
  | zero => exact absurd HA.out (by simp [laws_intents.l0])
  | succ k1 =>
   have H := HA.out; clear HA
   simp only [laws_intents.l0] at H
   by_cases c4 : x4_1 < (l0.length : Int)
   ·
    rw [if_pos c4] at H; have c4b0 : decide (x4_1 < (l0.length : Int)) = true := decide_eq_true c4; clear c4
    by_cases c5 : 0 ≤ x4_1
    ·
     rw [if_pos c5] at H; have c5b0 : decide (0 ≤ x4_1) = true := decide_eq_true c5; clear c5
     by_cases c6 : x3_1.length < 17592186044416
     ·
      rw [if_pos c6] at H; have LMc6 := Aside0.mk c6; clear c6; obtain ⟨y592, hy592⟩ : ∃ y_ : List Int, y_ = (x3_1 ++ [(rd_T102 l0 x4_1).f1]) := ⟨_, rfl⟩
      replace H : (laws_intents.l0 k1 l0 y592 (wrap64 (x4_1 + 1))) = some r := by first | (rw [hy592]; with_reducible exact H) | (have H2_ := (Option.bind_some _ _).symm.trans H; rw [hy592]; with_reducible exact H2_) | (have H2_ := (Option.bind_some _ _).symm.trans H; with_reducible exact H2_) | with_reducible exact H | (rw [hy592]; exact H) | exact H
      have Ny592 := Aside0.mk hy592; clear hy592; have H' := Aside0.mk H; clear H
      have p591 : 0 ≤ (x4_1 : Int) := of_decide_eq_true (by first | (with_reducible assumption) | assumption)
      have q591 : x4_1 < (l0.length : Int) := of_decide_eq_true (by first | (with_reducible assumption) | assumption)
      obtain ⟨ad591, e591, hx591_0, hx591_1⟩ := at_T102 HR0.out x4_1 p591 q591
      cases e591
      replace hx591_0 := (HB.out.cell (World.block_lt_of_cell? w _ hx591_0)).trans hx591_0; replace hx591_1 := (HB.out.cell (World.block_lt_of_cell? w _ hx591_1)).trans hx591_1; replace p591 := eq_true p591; replace q591 := eq_true q591
      go_wp2_with (first | ((with_reducible refine gate_builtin (b := .append) (xs := #[.tmp 12, .tmp 18]) rfl ?_); at_builtin; refine Kd.R_append (Kd.int .i64) (w0 := w) w.heap.size rfl (.tmp 12) (.tmp 18) 27 3 (.int .i64 0) 8 rfl Tryz.underlying27 info3 rfl (by decide) (by omega) u3 x3_1 ((rd_T102 l0 x4_1).f1) [.int .i64 ((rd_T102 l0 x4_1).f1)] (fun _ => True) (fun _ => False) rfl rfl ?aP (fun _ hk => hk.elim) ?aF ?aO ?aB ?aS ?aL ?_; (case aP => exact rfl); (case aB => exact s1_); (case aF => exact (fun _ _ => trivial)); (case aO => exact (by (with_reducible repeat (first | apply Kd.R_alloc | apply Kd.R_drewN | apply Kd.R_drew)); exact HO_3.out)); (case aS => exact (below_size s1_)); (case aL => have := LMc6.out; omega); intro v593 w7 ho hb hg hat; rw [← Ny592.out] at ho; have n_ := ac_ (hb) <| Aside0.mk (ho); clear HB HO_3; obtain ⟨HB, HO594⟩ := n_; clear ho hb hg hat))
      go_roundg k1
      case measure => have := HK1.out; omega
      case rel => exact ⟨(y592), (wrap64 (x4_1 + 1)), (by first | rfl | (simp; done) | (simp [*]; done) | (simp [i64_w, i32_w]; done)), H', ⟨by have := HK1.out; omega⟩, ⟨(by (with_reducible repeat (first | apply Kd.R_alloc | apply Kd.R_drewN | apply Kd.R_drew)); exact HO594.out)⟩, ⟨s1_⟩⟩
     ·
      rw [if_neg c6] at H
      exact absurd H (by simp)
    ·
     rw [if_neg c5] at H
     exact absurd H (by simp)
   ·
    rw [if_neg c4] at H; have c4b0 : decide (x4_1 < (l0.length : Int)) = false := decide_eq_false c4; clear c4; obtain rfl := Option.some.inj H
    go_wp2
    go_ret
    exact ⟨_, (by first | rfl | (simp [errW_none, errW_some] <;> rfl) | (simp [*, errW_none, errW_some] <;> rfl)), (by (with_reducible repeat (first | apply Kd.R_alloc | apply Kd.R_drewN | apply Kd.R_drew)); exact HO_3.out), s1_⟩
end Go.Proofs.YtafnamchckehmaaGreatDoor.Pr
namespace Go.Proofs.YtafnamchckehmaaGreatDoor.Pr
open Go.RowKit Go.Proofs.YtafnamchckehmaaGreatDoorW.PrintWords Go.Proofs.YtafnamchckehmaaGreatDoorW.PrintLast Go.Proofs.YtafnamchckehmaaGreatDoorW.PrintMore
set_option linter.unusedVariables false
set_option linter.unusedSimpArgs false
def Tab64 (w : World) : Prop := ∀ j, j < 64 → w.cell? ⟨1, j, none⟩ = some (.int .u8 (Lib.deBruijn64tab.getD j 0))
theorem Tab64.below {w w' : World} (h : Tab64 w) (hb : Below w.heap.size w w') : Tab64 w' := fun j hj => (hb.cell (p := ⟨1, j, none⟩) (World.block_lt_of_cell? w _ (h j hj))).trans (h j hj)
theorem tz64_key (x a : Nat) (hx : x < 18446744073709551616) (hx0 : x ≠ 0) (hlow : x &&& (18446744073709551616 - x) = a) :
    IntKind.u64.wrap (bits BinOp.and IntKind.u64 (x : Int) (IntKind.u64.wrap (-(x : Int))) * 285870213051353865) / 288230376151711744 = ((a * 285870213051353865 % 18446744073709551616 / 288230376151711744 : Nat) : Int) := by
  have e1 : IntKind.u64.wrap (-(x : Int)) = ((18446744073709551616 - x : Nat) : Int) := by rw [IntKind.wrap_u64]; omega
  rw [e1, bits_and_u64_nat x _ hx (by omega), hlow, IntKind.wrap_u64]
  omega
set_option maxHeartbeats 1000000 in
theorem tz64_core (x k idx : Nat) (w : World) (hx0 : ((x : Int) == 0) = false)
    (key : IntKind.u64.wrap (bits BinOp.and IntKind.u64 (x : Int) (IntKind.u64.wrap (-(x : Int))) * 285870213051353865) / 288230376151711744 = (idx : Int))
    (hi : idx < 64) (hk : k < 64) (hcell : w.cell? ⟨1, idx, none⟩ = some (.int .u8 k)) :
    Calls Tryz.prog 252 #[.int .u64 x] w fun e w' => e = .returned (.int .i64 k) ∧ w' = w := by
  go_enter Tryz.func252, Tryz.ntmps252
  go_wp2_with (simp only [key])
  go_ret
  exact ⟨rfl, rfl⟩
theorem tz64_zero (w : World) : Calls Tryz.prog 252 #[.int .u64 0] w fun e w' => e = .returned (.int .i64 64) ∧ w' = w := by
  go_enter Tryz.func252, Tryz.ntmps252
  go_wp2
  go_ret
  exact ⟨rfl, rfl⟩
def bits_TrailingZeros64.f (a0 : Int) : Option Int := if 0 ≤ a0 ∧ a0 < 18446744073709551616 then some ((Lib.ctz 64 a0.toNat : Nat) : Int) else none
theorem bits_TrailingZeros64.calls (a0 : Int) (r : Int) (w : World) (htab : Tab64 w) (h : bits_TrailingZeros64.f a0 = some r) :
    Calls Tryz.prog 252 #[.int .u64 a0] w fun e w' => e = .returned (.int .i64 r) ∧ Drawn0 w w' := by
  unfold bits_TrailingZeros64.f at h
  by_cases ha : 0 ≤ a0 ∧ a0 < 18446744073709551616
  · rw [if_pos ha] at h
    obtain rfl := Option.some.inj h
    obtain ⟨x, rfl⟩ : ∃ x : Nat, a0 = (x : Int) := ⟨a0.toNat, by omega⟩
    rw [Int.toNat_natCast]
    have hx : x < 18446744073709551616 := by omega
    by_cases hx0 : x = 0
    · subst hx0
      refine (tz64_zero w).mono ?_
      rintro e w' ⟨rfl, rfl⟩
      exact ⟨rfl, Drawn0.refl _⟩
    · obtain ⟨hlow, hk⟩ := Lib.lowest_bit 64 x hx0 hx
      obtain ⟨hi, htb⟩ := Lib.deBruijn64_at _ hk
      have hcell := htab _ hi
      rw [htb] at hcell
      refine (tz64_core x _ _ w (by simp; omega) (tz64_key x _ hx hx0 hlow) hi hk hcell).mono ?_
      rintro e w' ⟨rfl, rfl⟩
      exact ⟨rfl, Drawn0.refl _⟩
  · rw [if_neg ha] at h
    cases h
end Go.Proofs.YtafnamchckehmaaGreatDoor.Pr
