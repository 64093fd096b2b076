/- Functions of the program as plain functions, proofs that their calls answer so, and plain laws: what the law needs. No condition beyond what each statement says. -/
import Derived.Test.YtafnamchckehmaaGreatDoorZFnStem5
namespace Go.Proofs.YtafnamchckehmaaGreatDoor.Pr
set_option maxHeartbeats 40000000
set_option maxRecDepth 100000
open Go.RowKit Go.Proofs.YtafnamchckehmaaGreatDoorW.PrintWords Go.Proofs.YtafnamchckehmaaGreatDoorW.PrintLast Go.Proofs.YtafnamchckehmaaGreatDoorW.PrintMore
attribute [local go_sem] max2_int min2_int max_two min_two max_three min_three max_four min_four
set_option linter.unusedVariables false
set_option linter.unusedSimpArgs false
theorem bnd12_ {α β : Type} {o : Option α} {f : α → Option β} {r : β} (h : o.bind f = some r) : ∃ a, Aside0 (o = some a) ∧ f a = some r := by
 obtain ⟨a, h1, h2⟩ := Option.bind_eq_some_iff.mp h
 exact ⟨a, ⟨h1⟩, h2⟩
theorem q12_1 {P : Prop} (h : P := by (with_reducible repeat (first | refine blk_drewN ?_ _ | refine blk_drew ?_ | refine blk_alloc ?_ _)); refine blk_put (cs := #[.int .i64 t760, .slice none 0 0]) ?_ 1 _ rfl; (with_reducible repeat (first | refine blk_drewN ?_ _ | refine blk_drew ?_ | refine blk_alloc ?_ _)); refine blk_put (cs := #[.int .i64 0, .slice none 0 0]) ?_ 0 _ rfl; (with_reducible repeat (first | refine blk_drewN ?_ _ | refine blk_drew ?_ | refine blk_alloc ?_ _)); exact BK759.out) : P := h
theorem q12_2 {P : Prop} (h : P := by (with_reducible repeat (first | refine blk_drewN ?_ _ | refine blk_drew ?_ | refine blk_alloc ?_ _)); refine blk_put (cs := #[.int .i64 t760, .slice none 0 0]) ?_ 1 _ rfl; (with_reducible repeat (first | refine blk_drewN ?_ _ | refine blk_drew ?_ | refine blk_alloc ?_ _)); refine blk_put (cs := #[.int .i64 0, .slice none 0 0]) ?_ 0 _ rfl; (with_reducible repeat (first | refine blk_drewN ?_ _ | refine blk_drew ?_ | refine blk_alloc ?_ _)); exact BK766.out) : P := h
theorem q12_3 {P : Prop} (h : P := by (with_reducible repeat (first | refine blk_drewN ?_ _ | refine blk_drew ?_ | refine blk_alloc ?_ _)); refine blk_far ?_ NB759_766.out _; (with_reducible repeat (first | refine blk_drewN ?_ _ | refine blk_drew ?_ | refine blk_alloc ?_ _)); refine blk_far ?_ NB759_766.out _; (with_reducible repeat (first | refine blk_drewN ?_ _ | refine blk_drew ?_ | refine blk_alloc ?_ _)); exact BK759.out) : P := h
theorem q12_4 {P : Prop} (h : P := by repeat (first | (with_reducible first | exact HI0.out | apply IsS152.alloc | apply IsS152.drewN | apply IsS152.drew | apply IsS152.set_1 | apply IsS152.set_2 | refine IsS152.far ?_ NB0_759.out _ | refine IsS152.far ?_ NB0_766.out _) | exact HI0.out)) : P := h
theorem q12_5 {P : Prop} (h : P := by repeat (first | (with_reducible first | exact HB.out | apply below_alloc | apply pw_below_drewN | apply below_drew1 | refine below_set ?_ (IsS152.ge HI0.out) | refine below_set ?_ GE759.out | refine below_set ?_ GE766.out) | exact HB.out)) : P := h
theorem q12_6 {P : Prop} (h : P := by repeat (first | (with_reducible first | exact HI0.out | apply IsS152.alloc | apply IsS152.drewN | apply IsS152.drew | apply IsS152.set_1 | apply IsS152.set_2 | refine IsS152.far ?_ NB0_759.out _) | exact HI0.out)) : P := h
theorem q12_7 {P : Prop} (h : P := by repeat (first | (with_reducible first | exact HK.out | apply KeepBut.set_ | apply keep_drewN | apply keep_drew | apply keep_alloc | refine keep_far ?_ GW759.out _ | refine keep_far ?_ GW766.out _) | exact HK.out)) : P := h
theorem q12_8 {P : Prop} (h : P := by repeat (first | (with_reducible first | exact HB.out | apply below_alloc | apply pw_below_drewN | apply below_drew1 | refine below_set ?_ (IsS152.ge HI0.out) | refine below_set ?_ GE759.out) | exact HB.out)) : P := h
theorem q12_9 {P : Prop} (h : P := by repeat (first | (with_reducible first | exact HK.out | apply KeepBut.set_ | apply keep_drewN | apply keep_drew | apply keep_alloc | refine keep_far ?_ GW759.out _) | exact HK.out)) : P := h
theorem q12_14 {P : Prop} (h : P := by (with_reducible repeat (first | refine blk_drewN ?_ _ | refine blk_drew ?_ | refine blk_alloc ?_ _)); exact BK759.out) : P := h
theorem q12_15 {P : Prop} (h : P := by (with_reducible repeat (first | refine blk_drewN ?_ _ | refine blk_drew ?_ | refine blk_alloc ?_ _)); exact BK766.out) : P := h
theorem q12_16 {P : Prop} (h : P := by (with_reducible repeat (first | apply Kd.R_alloc | apply Kd.R_drewN | apply Kd.R_drew)); exact HO763.out) : P := h
def spec_l3Bent.l0 : Nat → List Int → Int → Int → Int → List Int → Option (Int × List Int × Int × Int)
 | 0, _, _, _, _, _ => none
 | k + 1, x1000, x1001, x1002, x767000, x767001 => if (x767001.length : Int) < 9 then (if x767001.length < 17592186044416 then (spec_l3Bent.l0 k x1000 x1001 x1002 x767000 (x767001 ++ [0])) else (none)) else (some (x767000, x767001, x1001, x1002))
def spec_l3Bent.f (k : Nat) (s0_0 : List Int) (s0_1 : Int) (s0_2 : Int) : Option (Int × List Int × Int × Int) := (spec_l3Draw.f k s0_0 s0_1 s0_2).bind fun bt760 => ((spec_l1Below.f s0_0 bt760.2.2.1 bt760.2.2.2 14).bind fun bt767 => (if bt767.1 = 0 then ((spec_l1PickInt.f s0_0 bt767.2.1 bt767.2.2 (([(-1), 0, 2, 7] : List Int))).bind fun bt773 => (some (bt773.1, bt760.2.1, bt773.2.1, bt773.2.2))) else (if bt767.1 = 1 then ((spec_l2Bent.f s0_0 bt767.2.1 bt767.2.2).bind fun bt776 => (if bt760.2.1.length < 17592186044416 then (some (bt760.1, (bt760.2.1 ++ [bt776.1]), bt776.2.1, bt776.2.2)) else (none))) else (if bt767.1 = 2 then (spec_l3Bent.l0 k s0_0 bt767.2.1 bt767.2.2 bt760.1 bt760.2.1) else (some (bt760.1, bt760.2.1, bt767.2.1, bt767.2.2))))))
def spec_l3Bent.T6 : Bool × List (List Nat × List Nat) := (true, [([], []), ([0], [0]), ([], []), ([2], [2]), ([3], [3]), ([1, 4, 3], [1, 4]), ([0, 1, 2, 3, 4, 5], []), ([6, 5, 5, 0, 1, 2, 3, 4, 5], [5, 6])])
def spec_l3Bent.B6 : List Nat := [0, 1, 0, 4, 12, 31, 63, 127]
theorem spec_l3Bent.tab6 : rtab .any (opsOf Tryz.f161 6) = spec_l3Bent.T6 := s12_
theorem spec_l3Bent.bits6 : waitsOk spec_l3Bent.T6.2 spec_l3Bent.B6 = true := s12_
theorem spec_l3Bent.calls (k : Nat) (g : Nat) (s0_0 : List Int) (s0_1 : Int) (s0_2 : Int) (r1 : Int) (r2 : List Int) (r3 : Int) (r4 : Int) (w0 w : World) (hI : IsS152 w0 w g s0_0 s0_1 s0_2) (hB : Below w0.heap.size w0 w) (h : spec_l3Bent.f k s0_0 s0_1 s0_2 = some (r1, r2, r3, r4)) :
  Calls Tryz.prog 161 #[.pointer (some ⟨g, 0, none⟩)] w fun e w' => ∃ v1_ : Value, e = .returned (.agg #[.int .i64 r1, v1_]) ∧ Kd.R (Kd.int .i64) 3 w' w.heap.size (fun _ => True) v1_ r2 ∧ IsS152 w0 w' g s0_0 r3 r4 ∧ Below w0.heap.size w0 w' ∧ KeepBut w w' g none := by
 have hu29 := Tryz.underlying29; have HI0 := Aside0.mk hI; have HK := Aside0.mk (KeepBut.refl w g none); have HL := Aside0.mk hB.size; clear hI; have HW0 := Aside0.mk hB.size; have HB := Aside0.mk hB; clear hB; have H := h; clear h; unfold spec_l3Bent.f at H; obtain ⟨⟨t760, t761, t764, t765⟩, A2, H⟩ := bnd12_ H; dsimp only at H; obtain ⟨⟨t767, t768, t769⟩, A3, H⟩ := bnd12_ H; dsimp only at H
 by_cases c4 : t767 = 0
 ·
  rw [if_pos c4] at H; have c4b0 : (t767 == 0) = true := beq_iff_eq.mpr c4; have c4b1 : (t767 != 0) = false := bne_eq_false_iff_eq.mpr c4; clear c4; obtain ⟨y770, hy_⟩ : ∃ y_ : List Int, y_ = (([(-1), 0, 2, 7] : List Int)) := ⟨_, rfl⟩
  replace H : ((spec_l1PickInt.f s0_0 t768 t769 y770).bind fun bt773 => (some (bt773.1, t761, bt773.2.1, bt773.2.2))) = some (r1, r2, r3, r4) := rH_
  have Ny770 := Aside0.mk hy_; clear hy_; obtain ⟨⟨t773, t774, t775⟩, A5, H⟩ := bnd12_ H; dsimp only at H
  simp only [Option.some.injEq, Prod.mk.injEq] at H
  obtain ⟨rfl, rfl, rfl, rfl⟩ := H
  go_enter Tryz.func161, Tryz.ntmps161
  go_wp2_with (first | ((with_reducible refine gw_ rfl ?_); first | (refine be_ 2 #[.int .i64 0, .slice none 0 0] 29 ?_; intro gb759 hg w6 hbox hb; have n_ := ac_ (IsS152.below s7_ hb) <| ac_ (KeepBut.trans s8_ (KeepBut.of_below hb g none) (.inl rfl)) <| ac_ (below_step s10_ hb) <| ac_ (hbox) <| ac_ ((by rw [hg]; exact (keep_size (w := w) (g := g) (row := none) s8_) : w.heap.size ≤ gb759)) <| ac_ ((Nat.le_trans HW0.out (by rw [hg]; exact (keep_size (w := w) (g := g) (row := none) s8_) : w.heap.size ≤ gb759) : w0.heap.size ≤ gb759)) <| ac_ ((nl_ hg (IsS152.lt (show IsS152 w0 _ g s0_0 s0_1 s0_2 from s7_)))) <| Aside0.mk ((ng_ hg (IsS152.lt (show IsS152 w0 _ g s0_0 s0_1 s0_2 from s7_)))); clear HI0 HK HB; obtain ⟨HI0, HK, HB, BK759, GW759, GE759, NB0_759, NB759_0⟩ := n_; clear hb hbox hg) | (refine gL_ 205 5 Tryz.func205 #[.pointer (some ⟨g, 0, none⟩)] ?_; (with_reducible refine (spec_l3Draw.calls k g s0_0 s0_1 s0_2 t760 t761 t764 t765 w0 _ ?side1 ?side2 A2.out).mono ?_); (case side1 => exact q12_6); (case side2 => exact q12_8); rintro e w7 ⟨v762, rfl, ho0, hi, hb, hk⟩; refine ⟨_, rfl, ?_⟩; have n_ := ac_ (KeepBut.blk hk (g' := gb759) (o := .cells #[.int .i64 0, .slice none 0 0] 29 (0, 0)) q12_14 NB759_0.out (by simp)) <| ac_ (Kd.R_lower ho0 (keep_size (w := w) (g := g) (row := none) q12_9)) <| ac_ (KeepBut.trans q12_9 hk (.inl rfl)) <| ac_ (hb) <| Aside0.mk (hi); clear BK759 HK HB HI0; obtain ⟨BK759, HO763, HK, HB, HI0⟩ := n_; (try clear hb hk hi ho0)) | (refine be_ 3 #[.int .i64 0, .slice none 0 0] 29 ?_; intro gb766 hg w8 hbox hb; have n_ := ac_ (Kd.R_below q12_16 hb) <| ac_ (IsS152.below q12_6 hb) <| ac_ (blk_below (g := gb759) (o := .cells #[.int .i64 0, .slice none 0 0] 29 (0, 0)) q12_14 hb) <| ac_ (KeepBut.trans q12_9 (KeepBut.of_below hb g none) (.inl rfl)) <| ac_ (below_step q12_8 hb) <| ac_ (hbox) <| ac_ ((by rw [hg]; exact (keep_size (w := w) (g := g) (row := none) q12_9) : w.heap.size ≤ gb766)) <| ac_ ((Nat.le_trans HW0.out (by rw [hg]; exact (keep_size (w := w) (g := g) (row := none) q12_9) : w.heap.size ≤ gb766) : w0.heap.size ≤ gb766)) <| ac_ ((nl_ hg (blk_lt (g := gb759) (o := .cells #[.int .i64 0, .slice none 0 0] 29 (0, 0)) q12_14))) <| ac_ ((ng_ hg (blk_lt (g := gb759) (o := .cells #[.int .i64 0, .slice none 0 0] 29 (0, 0)) q12_14))) <| ac_ ((nl_ hg (IsS152.lt (show IsS152 w0 _ g s0_0 t764 t765 from q12_6)))) <| Aside0.mk ((ng_ hg (IsS152.lt (show IsS152 w0 _ g s0_0 t764 t765 from q12_6)))); clear HO763 HI0 BK759 HK HB; obtain ⟨HO763, HI0, BK759, HK, HB, BK766, GW766, GE766, NB759_766, NB766_759, NB0_766, NB766_0⟩ := n_; clear hb hbox hg; have hnb9 := NB766_759.out; have hnc9 := NB759_766.out; have hnb10 := NB766_0.out; have hnc10 := NB0_766.out; have hcz11_0 : w8.cell? ⟨gb766, 0, none⟩ = some (.int .i64 0) := (blk_cell BK766.out 0).trans rfl; have hcz11_1 : w8.cell? ⟨gb766, 1, none⟩ = some (.slice none 0 0) := (blk_cell BK766.out 1).trans rfl; have hfz11_0 := blk_frozen BK766.out 0; have hfz11_1 := blk_frozen BK766.out 1; obtain ⟨Ao12, co12, eo12⟩ := Kd.R_slice HO763.out; subst eo12) | (refine gL_ 146 7 Tryz.func146 #[.pointer (some ⟨g, 0, none⟩), .int .i64 14] ?_; (with_reducible refine (spec_l1Below.calls g s0_0 t764 t765 14 t767 t768 t769 w0 _ ?side1 ?side2 A3.out).mono ?_); (case side1 => exact q12_4); (case side2 => exact q12_5); rintro e w13 ⟨rfl, hi, hb, hk⟩; refine ⟨_, rfl, ?_⟩; have n_ := ac_ (KeepBut.blk hk (g' := gb759) (o := .cells #[.int .i64 0, .slice none 0 0] 29 (0, 0)) q12_3 NB759_0.out (by simp)) <| ac_ (Kd.R_mono (Kd.R_keep (IsS152.apart (show IsS152 w0 _ g s0_0 t764 t765 from q12_4) (by (with_reducible repeat (first | apply Kd.R_alloc | apply Kd.R_drewN | apply Kd.R_drew)); exact (Kd.R_mono (Kd.R_far (p := ⟨gb766, 1, none⟩) (Kd.R_far (p := ⟨gb766, 0, none⟩) (Kd.R_types HO763.out BK766.out s16_) (fun _ hk => hk.2) (.int .i64 t760)) (fun _ hk => hk.2) (.slice Ao12 t761.length co12)) (fun _ h_ => h_.1))) s16_) hk (fun _ h => h.2)) (fun _ h => h.1)) <| ac_ (KeepBut.blk hk (g' := gb766) (o := .cells #[.int .i64 t760, .slice Ao12 t761.length co12] 29 (0, 0)) q12_2 NB766_0.out (by simp)) <| ac_ (KeepBut.trans q12_7 hk (.inl rfl)) <| ac_ (hb) <| Aside0.mk (hi); clear BK759 HO763 BK766 HK HB HI0; obtain ⟨BK759, HO763, BK766, HK, HB, HI0⟩ := n_; (try clear hb hk hi)) | (refine gL_ 147 12 Tryz.func147 #[.pointer (some ⟨g, 0, none⟩), .slice Ao16 y770.length co16] ?_; (with_reducible refine (spec_l1PickInt.calls g s0_0 t768 t769 _ _ y770 t773 t774 t775 w0 _ ?side1 ?side2 ?side3 ?side4 ?side5 A5.out).mono ?_); (case side1 => exact q12_4); (case side2 => exact q12_5); (case side3 => repeat (first | exact (Kd.R_reads' HO772.out).2.2 | (with_reducible refine Kd.C_alloc ?_ _) | (with_reducible refine Kd.C_drewN ?_ _) | (with_reducible refine Kd.C_drew ?_))); (case side4 => exact (Kd.R_reads' HO772.out).2.1); (case side5 => exact far_slice (IsS152.own_ne HI0.out HO772.out s16_)); rintro e w17 ⟨rfl, hi, hb, hk⟩; refine ⟨_, rfl, ?_⟩; have n_ := ac_ (KeepBut.blk hk (g' := gb759) (o := .cells #[.int .i64 0, .slice none 0 0] 29 (0, 0)) q12_14 NB759_0.out (by simp)) <| ac_ (Kd.R_mono (Kd.R_keep (IsS152.apart (show IsS152 w0 _ g s0_0 t768 t769 from q12_4) q12_16 s16_) hk (fun _ h => h.2)) (fun _ h => h.1)) <| ac_ (KeepBut.blk hk (g' := gb766) (o := .cells #[.int .i64 t760, .slice Ao12 t761.length co12] 29 (0, 0)) q12_15 NB766_0.out (by simp)) <| ac_ (Kd.R_mono (Kd.R_keep (IsS152.apart (show IsS152 w0 _ g s0_0 t768 t769 from q12_4) (by (with_reducible repeat (first | apply Kd.R_alloc | apply Kd.R_drewN | apply Kd.R_drew)); exact HO772.out) s16_) hk (fun _ h => h.2)) (fun _ h => h.1)) <| ac_ (KeepBut.trans q12_7 hk (.inl rfl)) <| ac_ (hb) <| Aside0.mk (hi); clear BK759 HO763 BK766 HO772 HK HB HI0; obtain ⟨BK759, HO763, BK766, HO772, HK, HB, HI0⟩ := n_; (try clear hb hk hi); have hcz18_0 : w17.cell? ⟨gb766, 0, none⟩ = some (.int .i64 t760) := (blk_cell BK766.out 0).trans rfl; have hcz18_1 : w17.cell? ⟨gb766, 1, none⟩ = some (.slice Ao12 t761.length co12) := (blk_cell BK766.out 1).trans rfl; have hfz18_0 := blk_frozen BK766.out 0; have hfz18_1 := blk_frozen BK766.out 1; have hnb19 := NB759_0.out; have hnc19 := NB0_759.out; have hcz20_0 : w17.cell? ⟨gb759, 0, none⟩ = some (.int .i64 0) := (blk_cell BK759.out 0).trans rfl; have hcz20_1 : w17.cell? ⟨gb759, 1, none⟩ = some (.slice none 0 0) := (blk_cell BK759.out 1).trans rfl; have hfz20_0 := blk_frozen BK759.out 0; have hfz20_1 := blk_frozen BK759.out 1)) | ((with_reducible refine gate_dst (N := 11) rfl ?_); refine Kd.R_lit (Kd.int .i64) _ 3 ?hg (N := 11) ?hd (xs := ([(-1), 0, 2, 7] : List Int)) (inner := [.int .i64 (-1), .int .i64 0, .int .i64 2, .int .i64 7]) (ok := fun _ => True) (okp := fun _ => True) ?hr ?hp (fun _ hk => hk) trivial (Below.refl _ _) (Nat.le_refl _) (by simp) ?_; (case hd => rfl); (case hg => rfl); (case hr => first | (go_simp; done) | (go_simp; rfl)); (case hp => exact (Reps.one (show Kd.M (Kd.int .i64) _ _ _ (-1) [.int .i64 (-1)] from rfl) (Reps.one (show Kd.M (Kd.int .i64) _ _ _ 0 [.int .i64 0] from rfl) (Reps.one (show Kd.M (Kd.int .i64) _ _ _ 2 [.int .i64 2] from rfl) (Reps.one (show Kd.M (Kd.int .i64) _ _ _ 7 [.int .i64 7] from rfl) (Reps.none _ _)))))); intro v771 w14 ho15 hb hg_ hnew_; clear hg_ hnew_; (first | rw [← Ny770.out] at ho15 | (simp only [Int.reduceToNat] at ho15; rw [← Ny770.out] at ho15)); have n_ := ac_ (Kd.R_elder' q12_16 (Kd.R_base ho15) hb) <| ac_ (Kd.R_lower (Kd.R_new' ho15 (Kd.R_lt q12_16)) (keep_size (w := w) (g := g) (row := none) q12_7)) <| ac_ (IsS152.below q12_4 hb) <| ac_ (blk_below (g := gb759) (o := .cells #[.int .i64 0, .slice none 0 0] 29 (0, 0)) q12_14 hb) <| ac_ (blk_below (g := gb766) (o := .cells #[.int .i64 t760, .slice Ao12 t761.length co12] 29 (0, 0)) q12_15 hb) <| ac_ (KeepBut.trans q12_7 (KeepBut.of_below hb g none) (.inl rfl)) <| Aside0.mk (below_step q12_5 hb); clear HO763 HI0 BK759 BK766 HK HB; obtain ⟨HO763, HO772, HI0, BK759, BK766, HK, HB⟩ := n_; clear hb ho15; obtain ⟨Ao16, co16, eo16⟩ := Kd.R_slice HO772.out; subst eo16))
  refine bodyPost_ret (results_cell_row rfl _ _ gb759 29 #[.int .i64 t773, .slice Ao12 t761.length co12] (0, 0) _ rfl (by (with_reducible repeat (first | refine blk_drewN ?_ _ | refine blk_drew ?_ | refine blk_alloc ?_ _)); refine blk_put (cs := #[.int .i64 t773, .slice none 0 0]) ?_ 1 _ rfl; (with_reducible repeat (first | refine blk_drewN ?_ _ | refine blk_drew ?_ | refine blk_alloc ?_ _)); refine blk_put (cs := #[.int .i64 0, .slice none 0 0]) ?_ 0 _ rfl; (with_reducible repeat (first | refine blk_drewN ?_ _ | refine blk_drew ?_ | refine blk_alloc ?_ _)); refine blk_far ?_ NB759_766.out _; (with_reducible repeat (first | refine blk_drewN ?_ _ | refine blk_drew ?_ | refine blk_alloc ?_ _)); exact BK759.out) Tryz.underlying29 rfl s12_) rfl ?_
  exact ⟨_, s5_, (by (with_reducible repeat (first | apply Kd.R_alloc | apply Kd.R_drewN | apply Kd.R_drew)); exact Kd.R_mono (Kd.R_far (p := ⟨gb759, 1, none⟩) (Kd.R_far (p := ⟨gb759, 0, none⟩) (Kd.R_far (p := ⟨gb766, 0, none⟩) (Kd.R_types (Kd.R_types HO763.out BK766.out s16_) BK759.out s16_) (fun _ hk => hk.1.2) (.int .i64 t773)) (fun _ hk => hk.2) (.int .i64 t773)) (fun _ hk => hk.2) (.slice Ao12 t761.length co12)) (fun _ hk => trivial)), q12_4, q12_5, q12_7⟩
 ·
  rw [if_neg c4] at H; have c4b0 : (t767 == 0) = false := beq_eq_false_iff_ne.mpr c4; have c4b1 : (t767 != 0) = true := bne_iff_ne.mpr c4
  by_cases c21 : t767 = 1
  ·
   rw [if_pos c21] at H; have c21b0 : (t767 == 1) = true := beq_iff_eq.mpr c21; have c21b1 : (t767 != 1) = false := bne_eq_false_iff_eq.mpr c21; clear c21; obtain ⟨⟨t776, t777, t778⟩, A22, H⟩ := bnd12_ H; dsimp only at H
   by_cases c23 : t761.length < 17592186044416
   ·
    rw [if_pos c23] at H; have LMc23 := Aside0.mk c23; clear c23; obtain ⟨y779, hy_⟩ : ∃ y_ : List Int, y_ = (t761 ++ [t776]) := ⟨_, rfl⟩
    replace H : (some (t760, y779, t777, t778)) = some (r1, r2, r3, r4) := rH_
    have Ny779 := Aside0.mk hy_; clear hy_
    simp only [Option.some.injEq, Prod.mk.injEq] at H
    obtain ⟨rfl, rfl, rfl, rfl⟩ := H
    go_enter Tryz.func161, Tryz.ntmps161
    try go_wp2_with ((with_reducible refine gw_ rfl ?_); first | (refine be_ 2 #[.int .i64 0, .slice none 0 0] 29 ?_; intro gb759 hg w24 hbox hb; have n_ := ac_ (IsS152.below s7_ hb) <| ac_ (KeepBut.trans s8_ (KeepBut.of_below hb g none) (.inl rfl)) <| ac_ (below_step s10_ hb) <| ac_ (hbox) <| ac_ ((by rw [hg]; exact (keep_size (w := w) (g := g) (row := none) s8_) : w.heap.size ≤ gb759)) <| ac_ ((Nat.le_trans HW0.out (by rw [hg]; exact (keep_size (w := w) (g := g) (row := none) s8_) : w.heap.size ≤ gb759) : w0.heap.size ≤ gb759)) <| ac_ ((nl_ hg (IsS152.lt (show IsS152 w0 _ g s0_0 s0_1 s0_2 from s7_)))) <| Aside0.mk ((ng_ hg (IsS152.lt (show IsS152 w0 _ g s0_0 s0_1 s0_2 from s7_)))); clear HI0 HK HB; obtain ⟨HI0, HK, HB, BK759, GW759, GE759, NB0_759, NB759_0⟩ := n_; clear hb hbox hg) | (refine gL_ 205 5 Tryz.func205 #[.pointer (some ⟨g, 0, none⟩)] ?_; (with_reducible refine (spec_l3Draw.calls k g s0_0 s0_1 s0_2 t760 t761 t764 t765 w0 _ ?side1 ?side2 A2.out).mono ?_); (case side1 => exact q12_6); (case side2 => exact q12_8); rintro e w25 ⟨v762, rfl, ho0, hi, hb, hk⟩; refine ⟨_, rfl, ?_⟩; have n_ := ac_ (KeepBut.blk hk (g' := gb759) (o := .cells #[.int .i64 0, .slice none 0 0] 29 (0, 0)) q12_14 NB759_0.out (by simp)) <| ac_ (Kd.R_lower ho0 (keep_size (w := w) (g := g) (row := none) q12_9)) <| ac_ (KeepBut.trans q12_9 hk (.inl rfl)) <| ac_ (hb) <| Aside0.mk (hi); clear BK759 HK HB HI0; obtain ⟨BK759, HO763, HK, HB, HI0⟩ := n_; (try clear hb hk hi ho0)) | (refine be_ 3 #[.int .i64 0, .slice none 0 0] 29 ?_; intro gb766 hg w26 hbox hb; have n_ := ac_ (Kd.R_below q12_16 hb) <| ac_ (IsS152.below q12_6 hb) <| ac_ (blk_below (g := gb759) (o := .cells #[.int .i64 0, .slice none 0 0] 29 (0, 0)) q12_14 hb) <| ac_ (KeepBut.trans q12_9 (KeepBut.of_below hb g none) (.inl rfl)) <| ac_ (below_step q12_8 hb) <| ac_ (hbox) <| ac_ ((by rw [hg]; exact (keep_size (w := w) (g := g) (row := none) q12_9) : w.heap.size ≤ gb766)) <| ac_ ((Nat.le_trans HW0.out (by rw [hg]; exact (keep_size (w := w) (g := g) (row := none) q12_9) : w.heap.size ≤ gb766) : w0.heap.size ≤ gb766)) <| ac_ ((nl_ hg (blk_lt (g := gb759) (o := .cells #[.int .i64 0, .slice none 0 0] 29 (0, 0)) q12_14))) <| ac_ ((ng_ hg (blk_lt (g := gb759) (o := .cells #[.int .i64 0, .slice none 0 0] 29 (0, 0)) q12_14))) <| ac_ ((nl_ hg (IsS152.lt (show IsS152 w0 _ g s0_0 t764 t765 from q12_6)))) <| Aside0.mk ((ng_ hg (IsS152.lt (show IsS152 w0 _ g s0_0 t764 t765 from q12_6)))); clear HO763 HI0 BK759 HK HB; obtain ⟨HO763, HI0, BK759, HK, HB, BK766, GW766, GE766, NB759_766, NB766_759, NB0_766, NB766_0⟩ := n_; clear hb hbox hg; have hnb27 := NB766_759.out; have hnc27 := NB759_766.out; have hnb28 := NB766_0.out; have hnc28 := NB0_766.out; have hcz29_0 : w26.cell? ⟨gb766, 0, none⟩ = some (.int .i64 0) := (blk_cell BK766.out 0).trans rfl; have hcz29_1 : w26.cell? ⟨gb766, 1, none⟩ = some (.slice none 0 0) := (blk_cell BK766.out 1).trans rfl; have hfz29_0 := blk_frozen BK766.out 0; have hfz29_1 := blk_frozen BK766.out 1; obtain ⟨Ao30, co30, eo30⟩ := Kd.R_slice HO763.out; subst eo30) | (refine gL_ 146 7 Tryz.func146 #[.pointer (some ⟨g, 0, none⟩), .int .i64 14] ?_; (with_reducible refine (spec_l1Below.calls g s0_0 t764 t765 14 t767 t768 t769 w0 _ ?side1 ?side2 A3.out).mono ?_); (case side1 => exact q12_4); (case side2 => exact q12_5); rintro e w31 ⟨rfl, hi, hb, hk⟩; refine ⟨_, rfl, ?_⟩; have n_ := ac_ (KeepBut.blk hk (g' := gb759) (o := .cells #[.int .i64 0, .slice none 0 0] 29 (0, 0)) q12_3 NB759_0.out (by simp)) <| ac_ (Kd.R_mono (Kd.R_keep (IsS152.apart (show IsS152 w0 _ g s0_0 t764 t765 from q12_4) (by (with_reducible repeat (first | apply Kd.R_alloc | apply Kd.R_drewN | apply Kd.R_drew)); exact (Kd.R_mono (Kd.R_far (p := ⟨gb766, 1, none⟩) (Kd.R_far (p := ⟨gb766, 0, none⟩) (Kd.R_types HO763.out BK766.out s16_) (fun _ hk => hk.2) (.int .i64 t760)) (fun _ hk => hk.2) (.slice Ao30 t761.length co30)) (fun _ h_ => h_.1))) s16_) hk (fun _ h => h.2)) (fun _ h => h.1)) <| ac_ (KeepBut.blk hk (g' := gb766) (o := .cells #[.int .i64 t760, .slice Ao30 t761.length co30] 29 (0, 0)) q12_2 NB766_0.out (by simp)) <| ac_ (KeepBut.trans q12_7 hk (.inl rfl)) <| ac_ (hb) <| Aside0.mk (hi); clear BK759 HO763 BK766 HK HB HI0; obtain ⟨BK759, HO763, BK766, HK, HB, HI0⟩ := n_; (try clear hb hk hi)))
    have n0_ := Aside0.mk (Kd.R_drew HO763.out); have n1_ := Aside0.mk (blk_drew BK759.out); have n2_ := Aside0.mk (blk_drew BK766.out); have n3_ := Aside0.mk (IsS152.drew HI0.out); have n4_ := Aside0.mk (keep_drew HK.out); have n5_ := Aside0.mk (below_drew1 HB.out); clear HO763; clear BK759; clear BK766; clear HI0; clear HK; clear HB; have HO763 := n0_; have BK759 := n1_; have BK766 := n2_; have HI0 := n3_; have HK := n4_; have HB := n5_; clear n0_ n1_ n2_ n3_ n4_ n5_
    refine start_ (n := 8) (S := fun w' => w'.cell? ⟨gb766, 0, none⟩ = some (.int .i64 t760) ∧ w'.cell? ⟨gb766, 1, none⟩ = some (.slice Ao30 t761.length co30)) (ds := [7]) (tb_ 8 0) s12_ rfl rfl ⟨(blk_cell BK766.out 0).trans rfl, (blk_cell BK766.out 1).trans rfl⟩ (fun hHeld => ?_); refine with_tabW spec_l3Bent.tab6 spec_l3Bent.bits6 (fun HT_ HW_ => ?_)
    generalize w31.drew = w32 at HO763 BK759 BK766 HI0 HK HB hHeld ⊢
    refine pl_ 0 16 (tb_ 8 1) ?_; refine pl_ 2 18 (tb_ 8 5) ?_; refine tk_ 1 17 (tb_ 8 7) hHeld ?_
    refine on_ 3 19 (tb_ 8 15) (fun K hK => ?_)
    refine goes_ Tryz.func176 s12_ rfl #[.pointer (some ⟨g, 0, none⟩)] (by rfl) rfl rfl s0_ ?_
    with_reducible refine (spec_l2Bent.calls g s0_0 t768 t769 t776 t777 t778 w0 _ ?side1 ?side2 A22.out).mono ?_
    (case side1 => exact q12_4)
    (case side2 => exact q12_5)
    rintro e w33 ⟨rfl, hi, hb, hk⟩
    refine ⟨_, rfl, ?_⟩
    have n0_ := Aside0.mk (KeepBut.blk hk (g' := gb759) (o := .cells #[.int .i64 0, .slice none 0 0] 29 (0, 0)) q12_14 NB759_0.out (by simp))
    have n1_ := Aside0.mk (Kd.R_mono (Kd.R_keep (IsS152.apart (show IsS152 w0 _ g s0_0 t768 t769 from q12_4) q12_16 s16_) hk (fun _ h => h.2)) (fun _ h => h.1))
    have n2_ := Aside0.mk (KeepBut.blk hk (g' := gb766) (o := .cells #[.int .i64 t760, .slice Ao30 t761.length co30] 29 (0, 0)) q12_15 NB766_0.out (by simp))
    have n3_ := Aside0.mk (KeepBut.trans q12_7 hk (.inl rfl)); have n4_ := Aside0.mk (hb); have n5_ := Aside0.mk (hi); clear BK759; clear HO763; clear BK766; clear HK; clear HB; clear HI0; have BK759 := n0_; have HO763 := n1_; have BK766 := n2_; have HK := n3_; have HB := n4_; have HI0 := n5_; clear n0_ n1_ n2_ n3_ n4_ n5_
    (try clear hb)
    (try clear hb2)
    (try clear hk)
    (try clear hi)
    refine hK.out _ _ ⟨(blk_cell BK766.out 0).trans rfl, (blk_cell BK766.out 1).trans rfl⟩ (fun hHeld => ?_)
    clear hK K
    refine norm_ (a' := ?_) ?_ ?_
    rotate_left
    ·
     show Act.put _ (some 19) _ = _
     simp only [Act.put, List.setIfInBounds_toArray, List.set_cons_zero, List.set_cons_succ, i64_w, i32_w]
     rfl
    refine on_ 4 20 (tb_ 8 31) (fun K hK => ?_)
    refine value_ (w1 := ?_) (v := ?_) (by rfl) rfl ?_ ?_
    rotate_left 2
    ·
     go_simp
     constructor
     ·
      rfl
     ·
      rfl
    refine hK.out _ _ ⟨(blk_cell (blk_alloc BK766.out _) 0).trans rfl, (blk_cell (blk_alloc BK766.out _) 1).trans rfl⟩ (fun hHeld => ?_)
    clear hK K
    refine norm_ (a' := ?_) ?_ ?_
    rotate_left
    ·
     show Act.put _ (some 20) _ = _
     simp only [Act.put, List.setIfInBounds_toArray, List.set_cons_zero, List.set_cons_succ, i64_w, i32_w]
     rfl
    refine on_ 5 21 (tb_ 8 63) (fun K hK => ?_)
    refine Kd.R_append_step (Kd.int .i64) w.heap.size (by rfl) (.tmp 17) (.tmp 20) 27 3 (.int .i64 0) 8 rfl Tryz.underlying27 info3 rfl s16_ (by omega) (.slice Ao30 t761.length co30) t761 t776 [.int .i64 t776] (fun _ => True) (fun _ => False) rfl rfl ?aP (fun _ hk => hk.elim) ?aF ?aO (Below.refl _ _) ?aS ?aL ?_
    (case aP => exact rfl)
    (case aF => exact (fun _ _ => trivial))
    (case aO => exact q12_16)
    (case aS => exact (keep_size (w := w) (g := g) (row := none) q12_7))
    (case aL => have := LMc23.out; omega)
    intro v780 w34 ho hb hg hat
    rw [← Ny779.out] at ho; have n0_ := Aside0.mk (IsS152.grown q12_4 hg (IsS152.own_ne HI0.out HO763.out s16_)); have n1_ := Aside0.mk (blk_grown (g := gb759) (o := .cells #[.int .i64 0, .slice none 0 0] 29 (0, 0)) q12_14 hg (Kd.R_ne HO763.out BK759.out s16_)); have n2_ := Aside0.mk (blk_grown (g := gb766) (o := .cells #[.int .i64 t760, .slice Ao30 t761.length co30] 29 (0, 0)) q12_15 hg (Kd.R_ne HO763.out BK766.out s16_)); have n3_ := Aside0.mk (below_weaken q12_5 HL.out hb); have n4_ := Aside0.mk (KeepBut.trans q12_7 (KeepBut.of_grown hg g) (Kd.R_base2 HO763.out)); have n5_ := Aside0.mk (ho); clear HI0; clear BK759; clear BK766; clear HB; clear HK; clear HO763; have HI0 := n0_; have BK759 := n1_; have BK766 := n2_; have HB := n3_; have HK := n4_; have HO781 := n5_; clear n0_ n1_ n2_ n3_ n4_ n5_; clear ho hb hg hat; obtain ⟨Ao35, co35, eo35⟩ := Kd.R_slice HO781.out
    (first | subst eo35 | (injection eo35 with f1_ f2_ f3_; have f4_ := f1_.symm; have f5_ := f3_.symm; clear f1_ f2_ f3_; subst f4_; subst f5_))
    refine hK.out _ _ ⟨(blk_cell BK766.out 0).trans rfl, (blk_cell BK766.out 1).trans rfl⟩ (fun hHeld => ?_)
    clear hK K
    refine norm_ (a' := ?_) ?_ ?_
    rotate_left
    ·
     show Act.put _ (some 21) _ = _
     simp only [Act.put, List.setIfInBounds_toArray, List.set_cons_zero, List.set_cons_succ, i64_w, i32_w]
     rfl
    refine pl_ 6 22 (tb_ 8 127) ?_
    refine last_ (i := 7) (N := none) (tb_ 8 255) rfl rfl (one_of HT_.out s12_) s16_ (fun K hK => ?_)
    have hs36 : w34.cell? ⟨gb766, 1, none⟩ = some (.slice Ao30 t761.length co30) := (blk_cell BK766.out 1).trans rfl; have hfs36 := blk_frozen BK766.out 1; have hns36_0 := NB759_766.out; have hms36_0 := NB766_759.out
    refine skip_ (w1 := ?_) (by rfl) rfl ?_ ?_
    rotate_left
    ·
     go_simp
     rfl
    refine hK.out _ _ ?_
    clear hK K
    refine done_ (done_of HT_.out s12_) ?_
    have hcz37_0 : w34.cell? ⟨gb766, 0, none⟩ = some (.int .i64 t760) := (blk_cell BK766.out 0).trans rfl; have hcz37_1 : w34.cell? ⟨gb766, 1, none⟩ = some (.slice Ao30 t761.length co30) := (blk_cell BK766.out 1).trans rfl; have hfz37_0 := blk_frozen BK766.out 0; have hfz37_1 := blk_frozen BK766.out 1; have hnb38 := NB759_0.out; have hnc38 := NB0_759.out; have hcz39_0 : w34.cell? ⟨gb759, 0, none⟩ = some (.int .i64 0) := (blk_cell BK759.out 0).trans rfl; have hcz39_1 : w34.cell? ⟨gb759, 1, none⟩ = some (.slice none 0 0) := (blk_cell BK759.out 1).trans rfl; have hfz39_0 := blk_frozen BK759.out 0; have hfz39_1 := blk_frozen BK759.out 1
    try go_wp2
    refine bodyPost_ret (results_cell_row rfl _ _ gb759 29 #[.int .i64 t760, .slice Ao35 y779.length co35] (0, 0) _ rfl (by (with_reducible repeat (first | refine blk_drewN ?_ _ | refine blk_drew ?_ | refine blk_alloc ?_ _)); refine blk_put (cs := #[.int .i64 t760, .slice none 0 0]) ?_ 1 _ rfl; (with_reducible repeat (first | refine blk_drewN ?_ _ | refine blk_drew ?_ | refine blk_alloc ?_ _)); refine blk_put (cs := #[.int .i64 0, .slice none 0 0]) ?_ 0 _ rfl; (with_reducible repeat (first | refine blk_drewN ?_ _ | refine blk_drew ?_ | refine blk_alloc ?_ _)); refine blk_far ?_ NB759_766.out _; (with_reducible repeat (first | refine blk_drewN ?_ _ | refine blk_drew ?_ | refine blk_alloc ?_ _)); exact BK759.out) Tryz.underlying29 rfl s12_) rfl ?_
    exact ⟨_, s5_, (by (with_reducible repeat (first | apply Kd.R_alloc | apply Kd.R_drewN | apply Kd.R_drew)); exact Kd.R_mono (Kd.R_far (p := ⟨gb759, 1, none⟩) (Kd.R_far (p := ⟨gb759, 0, none⟩) (Kd.R_far (p := ⟨gb766, 1, none⟩) (Kd.R_types (Kd.R_types HO781.out BK766.out s16_) BK759.out s16_) (fun _ hk => hk.1.2) (.slice Ao35 y779.length co35)) (fun _ hk => hk.2) (.int .i64 t760)) (fun _ hk => hk.2) (.slice Ao35 y779.length co35)) (fun _ hk => trivial)), q12_4, q12_5, q12_7⟩
   ·
    rw [if_neg c23] at H
    exact absurd H (by simp)
  ·
   rw [if_neg c21] at H; have c21b0 : (t767 == 1) = false := beq_eq_false_iff_ne.mpr c21; have c21b1 : (t767 != 1) = true := bne_iff_ne.mpr c21
   by_cases c40 : t767 = 2
   ·
    rw [if_pos c40] at H; have c40b0 : (t767 == 2) = true := beq_iff_eq.mpr c40; have c40b1 : (t767 != 2) = false := bne_eq_false_iff_eq.mpr c40; clear c40; have H' := Aside0.mk H; clear H
    go_enter Tryz.func161, Tryz.ntmps161
    go_wp2_with ((with_reducible refine gw_ rfl ?_); first | (refine be_ 2 #[.int .i64 0, .slice none 0 0] 29 ?_; intro gb759 hg w41 hbox hb; have n_ := ac_ (IsS152.below s7_ hb) <| ac_ (KeepBut.trans s8_ (KeepBut.of_below hb g none) (.inl rfl)) <| ac_ (below_step s10_ hb) <| ac_ (hbox) <| ac_ ((by rw [hg]; exact (keep_size (w := w) (g := g) (row := none) s8_) : w.heap.size ≤ gb759)) <| ac_ ((Nat.le_trans HW0.out (by rw [hg]; exact (keep_size (w := w) (g := g) (row := none) s8_) : w.heap.size ≤ gb759) : w0.heap.size ≤ gb759)) <| ac_ ((nl_ hg (IsS152.lt (show IsS152 w0 _ g s0_0 s0_1 s0_2 from s7_)))) <| Aside0.mk ((ng_ hg (IsS152.lt (show IsS152 w0 _ g s0_0 s0_1 s0_2 from s7_)))); clear HI0 HK HB; obtain ⟨HI0, HK, HB, BK759, GW759, GE759, NB0_759, NB759_0⟩ := n_; clear hb hbox hg) | (refine gL_ 205 5 Tryz.func205 #[.pointer (some ⟨g, 0, none⟩)] ?_; (with_reducible refine (spec_l3Draw.calls k g s0_0 s0_1 s0_2 t760 t761 t764 t765 w0 _ ?side1 ?side2 A2.out).mono ?_); (case side1 => exact q12_6); (case side2 => exact q12_8); rintro e w42 ⟨v762, rfl, ho0, hi, hb, hk⟩; refine ⟨_, rfl, ?_⟩; have n_ := ac_ (KeepBut.blk hk (g' := gb759) (o := .cells #[.int .i64 0, .slice none 0 0] 29 (0, 0)) q12_14 NB759_0.out (by simp)) <| ac_ (Kd.R_lower ho0 (keep_size (w := w) (g := g) (row := none) q12_9)) <| ac_ (KeepBut.trans q12_9 hk (.inl rfl)) <| ac_ (hb) <| Aside0.mk (hi); clear BK759 HK HB HI0; obtain ⟨BK759, HO763, HK, HB, HI0⟩ := n_; (try clear hb hk hi ho0)) | (refine be_ 3 #[.int .i64 0, .slice none 0 0] 29 ?_; intro gb766 hg w43 hbox hb; have n_ := ac_ (Kd.R_below q12_16 hb) <| ac_ (IsS152.below q12_6 hb) <| ac_ (blk_below (g := gb759) (o := .cells #[.int .i64 0, .slice none 0 0] 29 (0, 0)) q12_14 hb) <| ac_ (KeepBut.trans q12_9 (KeepBut.of_below hb g none) (.inl rfl)) <| ac_ (below_step q12_8 hb) <| ac_ (hbox) <| ac_ ((by rw [hg]; exact (keep_size (w := w) (g := g) (row := none) q12_9) : w.heap.size ≤ gb766)) <| ac_ ((Nat.le_trans HW0.out (by rw [hg]; exact (keep_size (w := w) (g := g) (row := none) q12_9) : w.heap.size ≤ gb766) : w0.heap.size ≤ gb766)) <| ac_ ((nl_ hg (blk_lt (g := gb759) (o := .cells #[.int .i64 0, .slice none 0 0] 29 (0, 0)) q12_14))) <| ac_ ((ng_ hg (blk_lt (g := gb759) (o := .cells #[.int .i64 0, .slice none 0 0] 29 (0, 0)) q12_14))) <| ac_ ((nl_ hg (IsS152.lt (show IsS152 w0 _ g s0_0 t764 t765 from q12_6)))) <| Aside0.mk ((ng_ hg (IsS152.lt (show IsS152 w0 _ g s0_0 t764 t765 from q12_6)))); clear HO763 HI0 BK759 HK HB; obtain ⟨HO763, HI0, BK759, HK, HB, BK766, GW766, GE766, NB759_766, NB766_759, NB0_766, NB766_0⟩ := n_; clear hb hbox hg; have hnb44 := NB766_759.out; have hnc44 := NB759_766.out; have hnb45 := NB766_0.out; have hnc45 := NB0_766.out; have hcz46_0 : w43.cell? ⟨gb766, 0, none⟩ = some (.int .i64 0) := (blk_cell BK766.out 0).trans rfl; have hcz46_1 : w43.cell? ⟨gb766, 1, none⟩ = some (.slice none 0 0) := (blk_cell BK766.out 1).trans rfl; have hfz46_0 := blk_frozen BK766.out 0; have hfz46_1 := blk_frozen BK766.out 1; obtain ⟨Ao47, co47, eo47⟩ := Kd.R_slice HO763.out; subst eo47) | (refine gL_ 146 7 Tryz.func146 #[.pointer (some ⟨g, 0, none⟩), .int .i64 14] ?_; (with_reducible refine (spec_l1Below.calls g s0_0 t764 t765 14 t767 t768 t769 w0 _ ?side1 ?side2 A3.out).mono ?_); (case side1 => exact q12_4); (case side2 => exact q12_5); rintro e w48 ⟨rfl, hi, hb, hk⟩; refine ⟨_, rfl, ?_⟩; have n_ := ac_ (KeepBut.blk hk (g' := gb759) (o := .cells #[.int .i64 0, .slice none 0 0] 29 (0, 0)) q12_3 NB759_0.out (by simp)) <| ac_ (Kd.R_mono (Kd.R_keep (IsS152.apart (show IsS152 w0 _ g s0_0 t764 t765 from q12_4) (by (with_reducible repeat (first | apply Kd.R_alloc | apply Kd.R_drewN | apply Kd.R_drew)); exact (Kd.R_mono (Kd.R_far (p := ⟨gb766, 1, none⟩) (Kd.R_far (p := ⟨gb766, 0, none⟩) (Kd.R_types HO763.out BK766.out s16_) (fun _ hk => hk.2) (.int .i64 t760)) (fun _ hk => hk.2) (.slice Ao47 t761.length co47)) (fun _ h_ => h_.1))) s16_) hk (fun _ h => h.2)) (fun _ h => h.1)) <| ac_ (KeepBut.blk hk (g' := gb766) (o := .cells #[.int .i64 t760, .slice Ao47 t761.length co47] 29 (0, 0)) q12_2 NB766_0.out (by simp)) <| ac_ (KeepBut.trans q12_7 hk (.inl rfl)) <| ac_ (hb) <| Aside0.mk (hi); clear BK759 HO763 BK766 HK HB HI0; obtain ⟨BK759, HO763, BK766, HK, HB, HI0⟩ := n_; (try clear hb hk hi)))
    go_loopg [] k (fun kq w' => ∃ (x767001_1 : List Int) (u767001 : Value), Aside0 (spec_l3Bent.l0 kq s0_0 t768 t769 t760 x767001_1 = some (r1, r2, r3, r4)) ∧ Aside0 (kq ≤ k) ∧ Aside0 (Kd.R (Kd.int .i64) 3 w' w.heap.size (fun _ => True) u767001 x767001_1) ∧ Aside0 (w'.heap[gb759]? = some (.cells #[.int .i64 0, (.slice none 0 0)] 29 (0, 0))) ∧ Aside0 (w'.heap[gb766]? = some (.cells #[.int .i64 t760, u767001] 29 (0, 0))) ∧ Aside0 (IsS152 w0 w' g s0_0 t768 t769) ∧ Aside0 (KeepBut w w' g none) ∧ Aside0 (Below w0.heap.size w0 w'))
    case atStart => exact ⟨(t761), (.slice Ao47 t761.length co47), H', ⟨Nat.le_refl _⟩, ⟨q12_16⟩, ⟨q12_14⟩, ⟨q12_15⟩, ⟨q12_4⟩, ⟨q12_7⟩, ⟨q12_5⟩⟩
    case round =>
     clear H'
     try clear c1
     try clear c2
     try clear p2
     try clear c3
     try clear c4
     try clear c4b0
     try clear c4b1
     try clear c9
     try clear c10
     try clear c14
     try clear c16
     try clear c17
     try clear c19
     try clear c20
     try clear c21
     try clear c21b0
     try clear c21b1
     try clear c23
     try clear c27
     try clear c28
     try clear c38
     try clear c40
     try clear c40b0
     try clear c40b1
     try clear c44
     try clear c45
     try clear hcz11_0
     try clear hcz11_1
     try clear hcz18_0
     try clear hcz18_1
     try clear hcz20_0
     try clear hcz20_1
     try clear hcz29_0
     try clear hcz29_1
     try clear hcz37_0
     try clear hcz37_1
     try clear hcz39_0
     try clear hcz39_1
     try clear hcz46_0
     try clear hcz46_1
     try clear hfz11_0
     try clear hfz11_1
     try clear hfz18_0
     try clear hfz18_1
     try clear hfz20_0
     try clear hfz20_1
     try clear hfz29_0
     try clear hfz29_1
     try clear hfz37_0
     try clear hfz37_1
     try clear hfz39_0
     try clear hfz39_1
     try clear hfz46_0
     try clear hfz46_1
     obtain ⟨x767001_1, u767001, HA, HK1, HO_767001, BK759, BK766, HI0, HK, HB⟩ := hrel
     cases gk with
     | zero => exact absurd HA.out (by simp [spec_l3Bent.l0])
     | succ k1 =>
      have H := HA.out; clear HA
      simp only [spec_l3Bent.l0] at H
      by_cases c49 : (x767001_1.length : Int) < 9
      ·
       rw [if_pos c49] at H; have c49b0 : decide ((x767001_1.length : Int) < 9) = true := decide_eq_true c49
       have c49b1 : decide (x767001_1.length < 9) = true := decide_eq_true (by omega)
       clear c49
       by_cases c50 : x767001_1.length < 17592186044416
       ·
        rw [if_pos c50] at H; have LMc50 := Aside0.mk c50; clear c50; obtain ⟨y782, hy_⟩ : ∃ y_ : List Int, y_ = (x767001_1 ++ [0]) := ⟨_, rfl⟩
        replace H : (spec_l3Bent.l0 k1 s0_0 t768 t769 t760 y782) = some (r1, r2, r3, r4) := rH_
        have Ny782 := Aside0.mk hy_; clear hy_; have H' := Aside0.mk H; clear H; have hnb51 := NB766_759.out; have hnc51 := NB759_766.out; have hnb52 := NB766_0.out; have hnc52 := NB0_766.out; have hcz53_0 : wr.cell? ⟨gb766, 0, none⟩ = some (.int .i64 t760) := (blk_cell BK766.out 0).trans rfl; have hcz53_1 : wr.cell? ⟨gb766, 1, none⟩ = some (u767001) := (blk_cell BK766.out 1).trans rfl; have hfz53_0 := blk_frozen BK766.out 0; have hfz53_1 := blk_frozen BK766.out 1; obtain ⟨Ao54, co54, eo54⟩ := Kd.R_slice HO_767001.out; subst eo54
        go_wp2_with (first | ((with_reducible refine gate_builtin (b := .append) (xs := #[.tmp 30, .tmp 31]) rfl ?_); at_builtin; refine Kd.R_append (Kd.int .i64) w.heap.size rfl (.tmp 30) (.tmp 31) 27 3 (.int .i64 0) 8 rfl Tryz.underlying27 info3 rfl s16_ (by omega) (.slice Ao54 x767001_1.length co54) x767001_1 0 [.int .i64 0] (fun _ => True) (fun _ => False) rfl rfl ?aP (fun _ hk => hk.elim) ?aF ?aO (Below.refl _ _) ?aS ?aL ?_; (case aP => exact rfl); (case aF => exact (fun _ _ => trivial)); (case aO => exact (by (with_reducible repeat (first | apply Kd.R_alloc | apply Kd.R_drewN | apply Kd.R_drew)); exact HO_767001.out)); (case aS => exact (keep_size (w := w) (g := g) (row := none) q12_7)); (case aL => have := LMc50.out; omega); intro v783 w55 ho hb hg hat; rw [← Ny782.out] at ho; have n_ := ac_ (blk_grown (g := gb759) (o := .cells #[.int .i64 0, .slice none 0 0] 29 (0, 0)) q12_14 hg (Kd.R_ne HO_767001.out BK759.out s16_)) <| ac_ (blk_grown (g := gb766) (o := .cells #[.int .i64 t760, .slice Ao54 x767001_1.length co54] 29 (0, 0)) q12_15 hg (Kd.R_ne HO_767001.out BK766.out s16_)) <| ac_ (IsS152.grown q12_4 hg (IsS152.own_ne HI0.out HO_767001.out s16_)) <| ac_ (below_weaken q12_5 HL.out hb) <| ac_ (KeepBut.trans q12_7 (KeepBut.of_grown hg g) (Kd.R_base2 HO_767001.out)) <| Aside0.mk (ho); clear BK759 BK766 HI0 HB HK HO_767001; obtain ⟨BK759, BK766, HI0, HB, HK, HO784⟩ := n_; clear ho hb hg hat; obtain ⟨Ao56, co56, eo56⟩ := Kd.R_slice HO784.out; subst eo56; have hcz57_0 : w55.cell? ⟨gb766, 0, none⟩ = some (.int .i64 t760) := (blk_cell BK766.out 0).trans rfl; have hcz57_1 : w55.cell? ⟨gb766, 1, none⟩ = some (.slice Ao54 x767001_1.length co54) := (blk_cell BK766.out 1).trans rfl; have hfz57_0 := blk_frozen BK766.out 0; have hfz57_1 := blk_frozen BK766.out 1))
        go_roundg k1
        case measure => have := HK1.out; omega
        case rel => exact ⟨(y782), (.slice Ao56 y782.length co56), H', ⟨by have := HK1.out; omega⟩, ⟨(by (with_reducible repeat (first | apply Kd.R_alloc | apply Kd.R_drewN | apply Kd.R_drew)); exact Kd.R_mono (Kd.R_far (p := ⟨gb766, 1, none⟩) (Kd.R_types HO784.out BK766.out s16_) (fun _ hk => hk.2) (.slice Ao56 y782.length co56)) (fun _ hk => trivial))⟩, ⟨(by (with_reducible repeat (first | refine blk_drewN ?_ _ | refine blk_drew ?_ | refine blk_alloc ?_ _)); refine blk_far ?_ NB759_766.out _; (with_reducible repeat (first | refine blk_drewN ?_ _ | refine blk_drew ?_ | refine blk_alloc ?_ _)); exact BK759.out)⟩, ⟨(by (with_reducible repeat (first | refine blk_drewN ?_ _ | refine blk_drew ?_ | refine blk_alloc ?_ _)); refine blk_put (cs := #[.int .i64 t760, .slice Ao54 x767001_1.length co54]) ?_ 1 _ rfl; (with_reducible repeat (first | refine blk_drewN ?_ _ | refine blk_drew ?_ | refine blk_alloc ?_ _)); exact BK766.out)⟩, ⟨q12_4⟩, ⟨q12_7⟩, ⟨q12_5⟩⟩
       ·
        rw [if_neg c50] at H
        exact absurd H (by simp)
      ·
       rw [if_neg c49] at H; have c49b0 : decide ((x767001_1.length : Int) < 9) = false := decide_eq_false c49
       have c49b1 : decide (x767001_1.length < 9) = false := decide_eq_false (by omega)
       clear c49
       simp only [Option.some.injEq, Prod.mk.injEq] at H
       obtain ⟨rfl, rfl, rfl, rfl⟩ := H; have hnb58 := NB766_759.out; have hnc58 := NB759_766.out; have hnb59 := NB766_0.out; have hnc59 := NB0_766.out; have hcz60_0 : wr.cell? ⟨gb766, 0, none⟩ = some (.int .i64 t760) := (blk_cell BK766.out 0).trans rfl; have hcz60_1 : wr.cell? ⟨gb766, 1, none⟩ = some (u767001) := (blk_cell BK766.out 1).trans rfl; have hfz60_0 := blk_frozen BK766.out 0; have hfz60_1 := blk_frozen BK766.out 1; obtain ⟨Ao61, co61, eo61⟩ := Kd.R_slice HO_767001.out; subst eo61; have hnb62 := NB759_0.out; have hnc62 := NB0_759.out; have hcz63_0 : wr.cell? ⟨gb759, 0, none⟩ = some (.int .i64 0) := (blk_cell BK759.out 0).trans rfl; have hcz63_1 : wr.cell? ⟨gb759, 1, none⟩ = some (.slice none 0 0) := (blk_cell BK759.out 1).trans rfl; have hfz63_0 := blk_frozen BK759.out 0; have hfz63_1 := blk_frozen BK759.out 1
       go_wp2
       refine bodyPost_ret (results_cell_row rfl _ _ gb759 29 #[.int .i64 t760, .slice Ao61 x767001_1.length co61] (0, 0) _ rfl q12_1 Tryz.underlying29 rfl s12_) rfl ?_
       exact ⟨_, s5_, (by (with_reducible repeat (first | apply Kd.R_alloc | apply Kd.R_drewN | apply Kd.R_drew)); exact Kd.R_mono (Kd.R_far (p := ⟨gb759, 1, none⟩) (Kd.R_far (p := ⟨gb759, 0, none⟩) (Kd.R_types HO_767001.out BK759.out s16_) (fun _ hk => hk.2) (.int .i64 t760)) (fun _ hk => hk.2) (.slice Ao61 x767001_1.length co61)) (fun _ hk => trivial)), q12_4, q12_5, q12_7⟩
   ·
    rw [if_neg c40] at H; have c40b0 : (t767 == 2) = false := beq_eq_false_iff_ne.mpr c40; have c40b1 : (t767 != 2) = true := bne_iff_ne.mpr c40
    simp only [Option.some.injEq, Prod.mk.injEq] at H
    obtain ⟨rfl, rfl, rfl, rfl⟩ := H
    go_enter Tryz.func161, Tryz.ntmps161
    go_wp2_with ((with_reducible refine gw_ rfl ?_); first | (refine be_ 2 #[.int .i64 0, .slice none 0 0] 29 ?_; intro gb759 hg w64 hbox hb; have n_ := ac_ (IsS152.below s7_ hb) <| ac_ (KeepBut.trans s8_ (KeepBut.of_below hb g none) (.inl rfl)) <| ac_ (below_step s10_ hb) <| ac_ (hbox) <| ac_ ((by rw [hg]; exact (keep_size (w := w) (g := g) (row := none) s8_) : w.heap.size ≤ gb759)) <| ac_ ((Nat.le_trans HW0.out (by rw [hg]; exact (keep_size (w := w) (g := g) (row := none) s8_) : w.heap.size ≤ gb759) : w0.heap.size ≤ gb759)) <| ac_ ((nl_ hg (IsS152.lt (show IsS152 w0 _ g s0_0 s0_1 s0_2 from s7_)))) <| Aside0.mk ((ng_ hg (IsS152.lt (show IsS152 w0 _ g s0_0 s0_1 s0_2 from s7_)))); clear HI0 HK HB; obtain ⟨HI0, HK, HB, BK759, GW759, GE759, NB0_759, NB759_0⟩ := n_; clear hb hbox hg) | (refine gL_ 205 5 Tryz.func205 #[.pointer (some ⟨g, 0, none⟩)] ?_; (with_reducible refine (spec_l3Draw.calls k g s0_0 s0_1 s0_2 t760 t761 t764 t765 w0 _ ?side1 ?side2 A2.out).mono ?_); (case side1 => exact q12_6); (case side2 => exact q12_8); rintro e w65 ⟨v762, rfl, ho0, hi, hb, hk⟩; refine ⟨_, rfl, ?_⟩; have n_ := ac_ (KeepBut.blk hk (g' := gb759) (o := .cells #[.int .i64 0, .slice none 0 0] 29 (0, 0)) q12_14 NB759_0.out (by simp)) <| ac_ (Kd.R_lower ho0 (keep_size (w := w) (g := g) (row := none) q12_9)) <| ac_ (KeepBut.trans q12_9 hk (.inl rfl)) <| ac_ (hb) <| Aside0.mk (hi); clear BK759 HK HB HI0; obtain ⟨BK759, HO763, HK, HB, HI0⟩ := n_; (try clear hb hk hi ho0)) | (refine be_ 3 #[.int .i64 0, .slice none 0 0] 29 ?_; intro gb766 hg w66 hbox hb; have n_ := ac_ (Kd.R_below q12_16 hb) <| ac_ (IsS152.below q12_6 hb) <| ac_ (blk_below (g := gb759) (o := .cells #[.int .i64 0, .slice none 0 0] 29 (0, 0)) q12_14 hb) <| ac_ (KeepBut.trans q12_9 (KeepBut.of_below hb g none) (.inl rfl)) <| ac_ (below_step q12_8 hb) <| ac_ (hbox) <| ac_ ((by rw [hg]; exact (keep_size (w := w) (g := g) (row := none) q12_9) : w.heap.size ≤ gb766)) <| ac_ ((Nat.le_trans HW0.out (by rw [hg]; exact (keep_size (w := w) (g := g) (row := none) q12_9) : w.heap.size ≤ gb766) : w0.heap.size ≤ gb766)) <| ac_ ((nl_ hg (blk_lt (g := gb759) (o := .cells #[.int .i64 0, .slice none 0 0] 29 (0, 0)) q12_14))) <| ac_ ((ng_ hg (blk_lt (g := gb759) (o := .cells #[.int .i64 0, .slice none 0 0] 29 (0, 0)) q12_14))) <| ac_ ((nl_ hg (IsS152.lt (show IsS152 w0 _ g s0_0 t764 t765 from q12_6)))) <| Aside0.mk ((ng_ hg (IsS152.lt (show IsS152 w0 _ g s0_0 t764 t765 from q12_6)))); clear HO763 HI0 BK759 HK HB; obtain ⟨HO763, HI0, BK759, HK, HB, BK766, GW766, GE766, NB759_766, NB766_759, NB0_766, NB766_0⟩ := n_; clear hb hbox hg; have hnb67 := NB766_759.out; have hnc67 := NB759_766.out; have hnb68 := NB766_0.out; have hnc68 := NB0_766.out; have hcz69_0 : w66.cell? ⟨gb766, 0, none⟩ = some (.int .i64 0) := (blk_cell BK766.out 0).trans rfl; have hcz69_1 : w66.cell? ⟨gb766, 1, none⟩ = some (.slice none 0 0) := (blk_cell BK766.out 1).trans rfl; have hfz69_0 := blk_frozen BK766.out 0; have hfz69_1 := blk_frozen BK766.out 1; obtain ⟨Ao70, co70, eo70⟩ := Kd.R_slice HO763.out; subst eo70) | (refine gL_ 146 7 Tryz.func146 #[.pointer (some ⟨g, 0, none⟩), .int .i64 14] ?_; (with_reducible refine (spec_l1Below.calls g s0_0 t764 t765 14 t767 t768 t769 w0 _ ?side1 ?side2 A3.out).mono ?_); (case side1 => exact q12_4); (case side2 => exact q12_5); rintro e w71 ⟨rfl, hi, hb, hk⟩; refine ⟨_, rfl, ?_⟩; have n_ := ac_ (KeepBut.blk hk (g' := gb759) (o := .cells #[.int .i64 0, .slice none 0 0] 29 (0, 0)) q12_3 NB759_0.out (by simp)) <| ac_ (Kd.R_mono (Kd.R_keep (IsS152.apart (show IsS152 w0 _ g s0_0 t764 t765 from q12_4) (by (with_reducible repeat (first | apply Kd.R_alloc | apply Kd.R_drewN | apply Kd.R_drew)); exact (Kd.R_mono (Kd.R_far (p := ⟨gb766, 1, none⟩) (Kd.R_far (p := ⟨gb766, 0, none⟩) (Kd.R_types HO763.out BK766.out s16_) (fun _ hk => hk.2) (.int .i64 t760)) (fun _ hk => hk.2) (.slice Ao70 t761.length co70)) (fun _ h_ => h_.1))) s16_) hk (fun _ h => h.2)) (fun _ h => h.1)) <| ac_ (KeepBut.blk hk (g' := gb766) (o := .cells #[.int .i64 t760, .slice Ao70 t761.length co70] 29 (0, 0)) q12_2 NB766_0.out (by simp)) <| ac_ (KeepBut.trans q12_7 hk (.inl rfl)) <| ac_ (hb) <| Aside0.mk (hi); clear BK759 HO763 BK766 HK HB HI0; obtain ⟨BK759, HO763, BK766, HK, HB, HI0⟩ := n_; (try clear hb hk hi); have hcz72_0 : w71.cell? ⟨gb766, 0, none⟩ = some (.int .i64 t760) := (blk_cell BK766.out 0).trans rfl; have hcz72_1 : w71.cell? ⟨gb766, 1, none⟩ = some (.slice Ao70 t761.length co70) := (blk_cell BK766.out 1).trans rfl; have hfz72_0 := blk_frozen BK766.out 0; have hfz72_1 := blk_frozen BK766.out 1; have hnb73 := NB759_0.out; have hnc73 := NB0_759.out; have hcz74_0 : w71.cell? ⟨gb759, 0, none⟩ = some (.int .i64 0) := (blk_cell BK759.out 0).trans rfl; have hcz74_1 : w71.cell? ⟨gb759, 1, none⟩ = some (.slice none 0 0) := (blk_cell BK759.out 1).trans rfl; have hfz74_0 := blk_frozen BK759.out 0; have hfz74_1 := blk_frozen BK759.out 1))
    refine bodyPost_ret (results_cell_row rfl _ _ gb759 29 #[.int .i64 t760, .slice Ao70 t761.length co70] (0, 0) _ rfl q12_1 Tryz.underlying29 rfl s12_) rfl ?_
    exact ⟨_, s5_, (by (with_reducible repeat (first | apply Kd.R_alloc | apply Kd.R_drewN | apply Kd.R_drew)); exact Kd.R_mono (Kd.R_far (p := ⟨gb759, 1, none⟩) (Kd.R_far (p := ⟨gb759, 0, none⟩) (Kd.R_types HO763.out BK759.out s16_) (fun _ hk => hk.2) (.int .i64 t760)) (fun _ hk => hk.2) (.slice Ao70 t761.length co70)) (fun _ hk => trivial)), q12_4, q12_5, q12_7⟩
def spec_l1Max.f (a0 : Int) (a1 : Int) : Option (Int) := if a0 > a1 then (some a0) else (some a1)
theorem spec_l1Max.calls (a0 : Int) (a1 : Int) (r : Int) (w : World) (h : spec_l1Max.f a0 a1 = some r) :
  Calls Tryz.prog 173 #[.int .i64 a0, .int .i64 a1] w fun e w' => e = .returned (.int .i64 r) ∧ Drawn0 w w' := by
 have H := h; clear h; unfold spec_l1Max.f at H
 by_cases c3 : a0 > a1
 ·
  rw [if_pos c3] at H; have c3b0 : decide (a1 < a0) = true := decide_eq_true c3; clear c3; obtain rfl := Option.some.inj H
  go_enter Tryz.func173, Tryz.ntmps173
  go_wp2
  go_ret
  exact ⟨rf_, (by repeat (first | exact Drawn0.refl _ | apply Drawn0.step))⟩
 ·
  rw [if_neg c3] at H; have c3b0 : decide (a1 < a0) = false := decide_eq_false c3; clear c3; obtain rfl := Option.some.inj H
  go_enter Tryz.func173, Tryz.ntmps173
  go_wp2
  go_ret
  exact ⟨rf_, (by repeat (first | exact Drawn0.refl _ | apply Drawn0.step))⟩
def spec_l1Min.f (a0 : Int) (a1 : Int) : Option (Int) := if a0 < a1 then (some a0) else (some a1)
theorem spec_l1Min.calls (a0 : Int) (a1 : Int) (r : Int) (w : World) (h : spec_l1Min.f a0 a1 = some r) :
  Calls Tryz.prog 174 #[.int .i64 a0, .int .i64 a1] w fun e w' => e = .returned (.int .i64 r) ∧ Drawn0 w w' := by
 have H := h; clear h; unfold spec_l1Min.f at H
 by_cases c3 : a0 < a1
 ·
  rw [if_pos c3] at H; have c3b0 : decide (a0 < a1) = true := decide_eq_true c3; clear c3; obtain rfl := Option.some.inj H
  go_enter Tryz.func174, Tryz.ntmps174
  go_wp2
  go_ret
  exact ⟨rf_, (by repeat (first | exact Drawn0.refl _ | apply Drawn0.step))⟩
 ·
  rw [if_neg c3] at H; have c3b0 : decide (a0 < a1) = false := decide_eq_false c3; clear c3; obtain rfl := Option.some.inj H
  go_enter Tryz.func174, Tryz.ntmps174
  go_wp2
  go_ret
  exact ⟨rf_, (by repeat (first | exact Drawn0.refl _ | apply Drawn0.step))⟩
def impl_FullSet.f (a0 : Int) : Option (Int) := (impl_within.f a0 0 8).bind fun t812 => (if t812 = true then (if 0 ≤ a0 then (some (wrap64 ((shl .i64 1 a0) - 1))) else (none)) else (some 0))
theorem impl_FullSet.calls (a0 : Int) (r : Int) (w : World) (h : impl_FullSet.f a0 = some r) :
  Calls Tryz.prog 129 #[.int .i64 a0] w fun e w' => e = .returned (.int .i64 r) ∧ Drawn0 w w' := by
 have H := h; clear h; unfold impl_FullSet.f at H; obtain ⟨t812, A2, H⟩ := bnd12_ H
 by_cases c3 : t812 = true
 ·
  subst c3; rw [if_pos rfl] at H
  by_cases c4 : 0 ≤ a0
  ·
   rw [if_pos c4] at H; have c4b0 := eq_true c4; have c4b1 : decide (0 ≤ a0) = true := decide_eq_true c4; clear c4; obtain ⟨ji5, hji5⟩ : ∃ j_ : Int, (shl .i64 1 a0) = j_ := ⟨_, rfl⟩
   replace H : (some (wrap64 ((ji5) - 1))) = some r := by first | (rw [hji5] at H; exact H) | (simp only [hji5] at H ⊢; exact H)
   (try rw [hji5] at A2)
   have hji5_ : (IntKind.i64.wrap (1 * 2 ^ min a0.toNat 64)) = ji5 := hji5; have hji5z : a0 ≤ 64 → (IntKind.i64.wrap (1 * 2 ^ a0.toNat)) = ji5 := shl_small hji5
   have hji5u : (IntKind.i64.wrap (2 ^ min a0.toNat 64)) = ji5 := by have h_ := hji5_; rw [Int.one_mul] at h_; exact h_
   have hji5v : a0 ≤ 64 → (IntKind.i64.wrap (2 ^ a0.toNat)) = ji5 := fun hle_ => by have h_ := hji5z hle_; rw [Int.one_mul] at h_; exact h_
   have hji5y : (wrap64 (1 * 2 ^ min a0.toNat 64)) = ji5 := (i64_w _).symm.trans hji5_
   have hji5x : a0 ≤ 64 → (wrap64 (1 * 2 ^ a0.toNat)) = ji5 := fun h_ => (i64_w _).symm.trans (hji5z h_)
   obtain rfl := Option.some.inj H
   go_enter Tryz.func129, Tryz.ntmps129
   go_wp2_with ((with_reducible refine gw_ rfl ?_); (refine gL_ 127 4 Tryz.func127 #[.int .i64 a0, .int .i64 0, .int .i64 8] ?_; (with_reducible refine (impl_within.calls a0 0 8 true _ A2.out).mono ?_); rintro e w' ⟨rfl, ⟨nd, rfl⟩⟩; refine ⟨_, rfl, ?_⟩))
   go_ret
   exact ⟨(by first | rfl | (simp; done) | (simp only [← hji5] <;> (first | rfl | simp)) | (simp [*]; done)), (by repeat (first | exact Drawn0.refl _ | apply Drawn0.step))⟩
  ·
   rw [if_neg c4] at H
   exact absurd H (by simp)
 ·
  replace c3 := Bool.eq_false_iff.mpr c3; subst c3
  rw [if_neg (show ¬ (false = true) by decide)] at H
  obtain rfl := Option.some.inj H
  go_enter Tryz.func129, Tryz.ntmps129
  go_wp2_with ((with_reducible refine gw_ rfl ?_); (refine gL_ 127 4 Tryz.func127 #[.int .i64 a0, .int .i64 0, .int .i64 8] ?_; (with_reducible refine (impl_within.calls a0 0 8 false _ A2.out).mono ?_); rintro e w' ⟨rfl, ⟨nd, rfl⟩⟩; refine ⟨_, rfl, ?_⟩))
  go_ret
  exact ⟨rf_, (by repeat (first | exact Drawn0.refl _ | apply Drawn0.step))⟩
def impl_common.l0 : Nat → Int → Int → List Int → Int → Int → Option (Int)
 | 0, _, _, _, _, _ => none
 | k + 1, x1, x2, x9, x10, x11 => if x11 < x10 then (if 0 ≤ x11 then (if x11 < (x9.length : Int) then ((impl_HasElement.f x1 x11).bind fun t817 => (if t817 = true then (impl_common.l0 k x1 (Go.bits .and .i64 x2 (rd x9 x11)) x9 x10 (wrap64 (x11 + 1))) else (impl_common.l0 k x1 x2 x9 x10 (wrap64 (x11 + 1))))) else (none)) else (none)) else (some x2)
def impl_common.f (k : Nat) (l0 : List Int) (a1 : Int) (a2 : Int) : Option (Int) := impl_common.l0 k a1 a2 l0 (l0.length : Int) 0
theorem impl_common.calls (k : Nat) (A0 : Option Addr) (c0 : Nat) (l0 : List Int) (a1 : Int) (a2 : Int) (r : Int) (w : World) (hr0 : Kd.C (Kd.int .i64) w A0 l0.length l0) (hc0 : l0.length ≤ c0) (h : impl_common.f k l0 a1 a2 = some r) :
  Calls Tryz.prog 257 #[.slice A0 l0.length c0, .int .i64 a1, .int .i64 a2] w fun e w' => e = .returned (.int .i64 r) ∧ Drawn0 w w' := by
 have HR0 := Aside0.mk hr0; have HC0 := Aside0.mk hc0; clear hr0 hc0; have H := h; clear h; unfold impl_common.f at H; have H' := Aside0.mk H; clear H
 go_enter Tryz.func257, Tryz.ntmps257
 go_wp2
 go_loopg [2, 11] k (fun kq v2 v11 w' => ∃ (x2_1 : Int) (x11_1 : Int), v2 = .int .i64 x2_1 ∧ v11 = .int .i64 x11_1 ∧ Aside0 (impl_common.l0 kq a1 x2_1 l0 (l0.length : Int) x11_1 = some r) ∧ Aside0 (kq ≤ k) ∧ Drawn0 w w')
 case atStart => exact ⟨(a2), (0), s3_, s3_, H', ⟨Nat.le_refl _⟩, s6_⟩
 case round =>
  clear H'
  try clear c2
  try clear p2
  obtain ⟨x2_1, x11_1, rfl, rfl, HA, HK1, ⟨m1, rfl⟩⟩ := hrel
  cases gk with
  | zero => exact absurd HA.out (by simp [impl_common.l0])
  | succ k1 =>
   have H := HA.out; clear HA
   simp only [impl_common.l0] at H
   by_cases c4 : x11_1 < (l0.length : Int)
   ·
    rw [if_pos c4] at H; have c4b0 : decide (x11_1 < (l0.length : Int)) = true := decide_eq_true c4; clear c4
    by_cases c5 : 0 ≤ x11_1
    ·
     rw [if_pos c5] at H; have c5b0 : decide (0 ≤ x11_1) = true := decide_eq_true c5; clear c5
     by_cases c6 : x11_1 < (l0.length : Int)
     ·
      rw [if_pos c6] at H; have c6b0 : decide (x11_1 < (l0.length : Int)) = true := decide_eq_true c6; clear c6; obtain ⟨t817, A7, H⟩ := bnd12_ H
      by_cases c8 : t817 = true
      ·
       subst c8; rw [if_pos rfl] at H; have H' := Aside0.mk H; clear H; have p816 : 0 ≤ (x11_1 : Int) := of_decide_eq_true s4_; have q816 : x11_1 < (l0.length : Int) := of_decide_eq_true s4_; obtain ⟨ad816, e816, hx816_0⟩ := Kd.at_int HR0.out x11_1 p816 q816
       cases e816
       replace p816 := eq_true p816; replace q816 := eq_true q816
       go_wp2_with ((with_reducible refine gw_ rfl ?_); (refine gL_ 212 18 Tryz.func212 #[.int .i64 a1, .int .i64 x11_1] ?_; (with_reducible refine (impl_HasElement.calls a1 x11_1 true _ A7.out).mono ?_); rintro e w' ⟨rfl, ⟨nd, rfl⟩⟩; refine ⟨_, rfl, ?_⟩))
       go_roundg k1
       case measure => have := HK1.out; omega
       case rel => exact ⟨(Go.bits .and .i64 x2_1 (rd l0 x11_1)), (wrap64 (x11_1 + 1)), s3_, s3_, H', ⟨by have := HK1.out; omega⟩, s6_⟩
      ·
       replace c8 := Bool.eq_false_iff.mpr c8; subst c8
       rw [if_neg (show ¬ (false = true) by decide)] at H
       have H' := Aside0.mk H; clear H; have p816 : 0 ≤ (x11_1 : Int) := of_decide_eq_true s4_; have q816 : x11_1 < (l0.length : Int) := of_decide_eq_true s4_; obtain ⟨ad816, e816, hx816_0⟩ := Kd.at_int HR0.out x11_1 p816 q816
       cases e816
       replace p816 := eq_true p816; replace q816 := eq_true q816
       go_wp2_with ((with_reducible refine gw_ rfl ?_); (refine gL_ 212 18 Tryz.func212 #[.int .i64 a1, .int .i64 x11_1] ?_; (with_reducible refine (impl_HasElement.calls a1 x11_1 false _ A7.out).mono ?_); rintro e w' ⟨rfl, ⟨nd, rfl⟩⟩; refine ⟨_, rfl, ?_⟩))
       go_roundg k1
       case measure => have := HK1.out; omega
       case rel => exact ⟨(x2_1), (wrap64 (x11_1 + 1)), s3_, s3_, H', ⟨by have := HK1.out; omega⟩, s6_⟩
     ·
      rw [if_neg c6] at H
      exact absurd H (by simp)
    ·
     rw [if_neg c5] at H
     exact absurd H (by simp)
   ·
    rw [if_neg c4] at H; have c4b0 : decide (x11_1 < (l0.length : Int)) = false := decide_eq_false c4; clear c4; obtain rfl := Option.some.inj H
    go_wp2
    go_ret
    exact ⟨s3_, s6_⟩
theorem bnd26_ {α β : Type} {o : Option α} {f : α → Option β} {r : β} (h : o.bind f = some r) : ∃ a, Aside0 (o = some a) ∧ f a = some r := by
 obtain ⟨a, h1, h2⟩ := Option.bind_eq_some_iff.mp h
 exact ⟨a, ⟨h1⟩, h2⟩
theorem q26_2 {P : Prop} (h : P := by repeat (first | (with_reducible first | exact HB.out | apply below_alloc | apply pw_below_drewN | apply below_drew1 | refine below_set ?_ GE1164.out) | exact HB.out)) : P := h
theorem q26_5 {P : Prop} (h : P := by (with_reducible repeat (first | refine blk_drewN ?_ _ | refine blk_drew ?_ | refine blk_alloc ?_ _)); exact BK1164.out) : P := h
def spec_l10Stem.l0 : Nat → List (S48) → List Int → Int → Int → List Int → Option ((List (S48)))
 | 0, _, _, _, _, _ => none
 | k + 1, x3, x4, x5, x1165000, x1165001 => if x5 < (x4.length : Int) then (if 0 ≤ x5 then ((spec_l4Closure.f k x1165000 x1165001 (rd x4 x5)).bind fun t1173 => (if x3.length < 8796093022208 then (spec_l10Stem.l0 k (x3 ++ [(⟨rd x4 x5, t1173⟩ : S48)]) x4 (wrap64 (x5 + 1)) x1165000 x1165001) else (none))) else (none)) else (some x3)
def spec_l10Stem.f (k : Nat) (a0_0 : Int) (l0_1 : List Int) : Option ((List (S48))) := (spec_l10Pseudo.f k a0_0 l0_1).bind fun t1168 => (spec_l10Stem.l0 k (([] : List (S48))) t1168 0 a0_0 l0_1)
def spec_l10Stem.T6 : Bool × List (List Nat × List Nat) := (true, [([], []), ([], []), ([], []), ([1, 2], [1, 2]), ([3], [3]), ([], []), ([], []), ([], []), ([6, 7], [6, 7]), ([8], [8]), ([5, 9], [5, 9]), ([4, 10], [4, 10]), ([11], [11]), ([0, 12, 10], [0, 12]), ([13, 13, 0, 1, 2, 3, 4, 5, 6, 7, 8, 9, 10, 11, 12, 13], [0, 13])])
def spec_l10Stem.B6 : List Nat := [0, 0, 0, 6, 14, 0, 0, 0, 192, 448, 992, 2046, 4094, 8191, 16383]
theorem spec_l10Stem.tab6 : rtab .any (opsOf Tryz.f140 6) = spec_l10Stem.T6 := by kernel_rfl
theorem spec_l10Stem.bits6 : waitsOk spec_l10Stem.T6.2 spec_l10Stem.B6 = true := by kernel_rfl
theorem spec_l10Stem.calls (k : Nat) (a0_0 : Int) (A0_1 : Option Addr) (c0_1 : Nat) (l0_1 : List Int) (r : List (S48)) (w : World) (hr0_1 : Kd.C (Kd.int .i64) w A0_1 l0_1.length l0_1) (hc0_1 : l0_1.length ≤ c0_1) (h : spec_l10Stem.f k a0_0 l0_1 = some r) :
  Calls Tryz.prog 140 #[.agg #[.int .i64 a0_0, .slice A0_1 l0_1.length c0_1]] w fun e w' => ∃ v0_ : Value, e = .returned (v0_) ∧ Kd.R k48 48 w' w.heap.size (fun _ => True) v0_ r ∧ Below w.heap.size w w' := by
 have hu29 := Tryz.underlying29; have hu48 := Tryz.underlying48; have HR0_1 := Aside0.mk hr0_1; have HC0_1 := Aside0.mk hc0_1; clear hr0_1 hc0_1; have HB := Aside0.mk (Below.refl w.heap.size w); have H := h; clear h; unfold spec_l10Stem.f at H; obtain ⟨y1165, hy_⟩ : ∃ y_ : List (S48), y_ = (([] : List (S48))) := ⟨_, rfl⟩
 replace H : ((spec_l10Pseudo.f k a0_0 l0_1).bind fun t1168 => (spec_l10Stem.l0 k y1165 t1168 0 a0_0 l0_1)) = some r := rH_
 have Ny1165 := Aside0.mk hy_; clear hy_; obtain ⟨t1168, A2, H⟩ := bnd26_ H; have H' := Aside0.mk H; clear H
 go_enter Tryz.func140, Tryz.ntmps140
 go_wp2_with ((with_reducible refine gw_ rfl ?_); first | (refine be_ 1 #[.int .i64 a0_0, .slice A0_1 l0_1.length c0_1] 29 ?_; intro gb1164 hg w3 hbox hb; have n_ := ac_ (below_step s1_ hb) <| ac_ (hbox) <| ac_ ((gz_ w hg s1_)) <| Aside0.mk ((gz_ w hg s1_)); clear HB; obtain ⟨HB, BK1164, GW1164, GE1164⟩ := n_; clear hb hbox hg) | (refine rl_ k48 48 6 ?_; intro v1166 w4 ho5 hb hg_ hnew_; clear hg_ hnew_; (first | rw [← Ny1165.out] at ho5 | (simp only [Int.reduceToNat] at ho5; rw [← Ny1165.out] at ho5)); have n_ := ac_ (Kd.R_lower ho5 (below_size q26_2)) <| ac_ (blk_below (g := gb1164) (o := .cells #[.int .i64 a0_0, .slice A0_1 l0_1.length c0_1] 29 (0, 0)) q26_5 hb) <| Aside0.mk (below_step q26_2 hb); clear BK1164 HB; obtain ⟨HO1167, BK1164, HB⟩ := n_; clear hb ho5; have hcz6_0 : w4.cell? ⟨gb1164, 0, none⟩ = some (.int .i64 a0_0) := (blk_cell BK1164.out 0).trans rfl; have hcz6_1 : w4.cell? ⟨gb1164, 1, none⟩ = some (.slice A0_1 l0_1.length c0_1) := (blk_cell BK1164.out 1).trans rfl; have hfz6_0 := blk_frozen BK1164.out 0; have hfz6_1 := blk_frozen BK1164.out 1) | (refine gL_ 169 8 Tryz.func169 #[.agg #[.int .i64 a0_0, .slice A0_1 l0_1.length c0_1]] ?_; (with_reducible refine (spec_l10Pseudo.calls k a0_0 _ _ l0_1 t1168 _ ?side1 ?side2 A2.out).mono ?_); (case side1 => exact s2_); (case side2 => exact HC0_1.out); rintro e w7 ⟨v1169, rfl, ho0, hb⟩; refine ⟨_, rfl, ?_⟩; have n_ := ac_ (Kd.R_below (by (with_reducible repeat (first | apply Kd.R_alloc | apply Kd.R_drewN | apply Kd.R_drew)); exact HO1167.out) hb) <| ac_ (Kd.R_lower ho0 (below_size q26_2)) <| ac_ (blk_below (g := gb1164) (o := .cells #[.int .i64 a0_0, .slice A0_1 l0_1.length c0_1] 29 (0, 0)) q26_5 hb) <| Aside0.mk (below_step q26_2 hb); clear HO1167 BK1164 HB; obtain ⟨HO1167, HO1170, BK1164, HB⟩ := n_; (try clear hb ho0)))
 go_loopg [3, 5] k (fun kq v3 v5 w' => ∃ (x3_1 : List (S48)) (x5_1 : Int), v5 = .int .i64 x5_1 ∧ Aside0 (spec_l10Stem.l0 kq x3_1 t1168 x5_1 a0_0 l0_1 = some r) ∧ Aside0 (kq ≤ k) ∧ Aside0 (Kd.R k48 48 w' w.heap.size (fun _ => True) v3 x3_1) ∧ Aside0 (Kd.R (Kd.int .i64) 3 w' w.heap.size (fun _ => True) v1169 t1168) ∧ Aside0 (w'.heap[gb1164]? = some (.cells #[.int .i64 a0_0, (.slice A0_1 l0_1.length c0_1)] 29 (0, 0))) ∧ Aside0 (Below w.heap.size w w'))
 case atStart => exact ⟨(y1165), (0), rf_, H', ⟨Nat.le_refl _⟩, ⟨(by (with_reducible repeat (first | apply Kd.R_alloc | apply Kd.R_drewN | apply Kd.R_drew)); exact HO1167.out)⟩, ⟨(by (with_reducible repeat (first | apply Kd.R_alloc | apply Kd.R_drewN | apply Kd.R_drew)); exact HO1170.out)⟩, ⟨q26_5⟩, ⟨q26_2⟩⟩
 case round =>
  clear H'
  try clear c1
  try clear p2
  try clear hcz6_0
  try clear hcz6_1
  try clear hfz6_0
  try clear hfz6_1
  obtain ⟨x3_1, x5_1, rfl, HA, HK1, HO_3, HO_4, BK1164, HB⟩ := hrel
  cases gk with
  | zero => exact absurd HA.out (by simp [spec_l10Stem.l0])
  | succ k1 =>
   have H := HA.out; clear HA
   simp only [spec_l10Stem.l0] at H
   by_cases c8 : x5_1 < (t1168.length : Int)
   ·
    rw [if_pos c8] at H; have c8b0 : decide (x5_1 < (t1168.length : Int)) = true := decide_eq_true c8; clear c8
    by_cases c9 : 0 ≤ x5_1
    ·
     rw [if_pos c9] at H; have c9b0 : decide (0 ≤ x5_1) = true := decide_eq_true c9; clear c9; obtain ⟨t1173, A10, H⟩ := bnd26_ H
     by_cases c11 : x3_1.length < 8796093022208
     ·
      rw [if_pos c11] at H; have LMc11 := Aside0.mk c11; clear c11; obtain ⟨y1174, hy_⟩ : ∃ y_ : List (S48), y_ = (x3_1 ++ [(⟨rd t1168 x5_1, t1173⟩ : S48)]) := ⟨_, rfl⟩
      replace H : (spec_l10Stem.l0 k1 y1174 t1168 (wrap64 (x5_1 + 1)) a0_0 l0_1) = some r := rH_
      have Ny1174 := Aside0.mk hy_; clear hy_; have H' := Aside0.mk H; clear H; obtain ⟨Ao12, co12, eo12⟩ := Kd.R_slice HO_4.out; subst eo12
      try go_wp2
      have n0_ := Aside0.mk (Kd.R_drew HO_3.out); have n1_ := Aside0.mk (Kd.R_drew HO_4.out); have n2_ := Aside0.mk (blk_drew BK1164.out); have n3_ := Aside0.mk (below_drew1 HB.out); clear HO_3; clear HO_4; clear BK1164; clear HB; have HO_3 := n0_; have HO_4 := n1_; have BK1164 := n2_; have HB := n3_; clear n0_ n1_ n2_ n3_; have p1171 : 0 ≤ (x5_1 : Int) := of_decide_eq_true s4_; have q1171 : x5_1 < (t1168.length : Int) := of_decide_eq_true s4_; obtain ⟨ad1171, e1171, hx1171_0⟩ := Kd.at_int (Kd.R_reads' HO_4.out).2.2 x5_1 p1171 q1171
      cases e1171
      replace p1171 := eq_true p1171; replace q1171 := eq_true q1171; have p1172 : 0 ≤ (x5_1 : Int) := of_decide_eq_true s4_; have q1172 : x5_1 < (t1168.length : Int) := of_decide_eq_true s4_; obtain ⟨ad1172, e1172, hx1172_0⟩ := Kd.at_int (Kd.R_reads' HO_4.out).2.2 x5_1 p1172 q1172
      obtain rfl : ad1171 = ad1172 := (by injection e1172)
      replace p1172 := eq_true p1172; replace q1172 := eq_true q1172
      refine start_ (n := 15) (S := fun w' => w'.cell? ⟨gb1164, 0, none⟩ = some (.int .i64 a0_0) ∧ w'.cell? ⟨gb1164, 1, none⟩ = some (.slice A0_1 l0_1.length c0_1) ∧ w'.cell? (ad1171.add (x5_1).toNat) = some (.int .i64 (rd t1168 x5_1)) ∧ w'.cell? (ad1171.add (x5_1).toNat) = some (.int .i64 (rd t1168 x5_1))) (ds := [12, 13]) (tb_ 15 0) (by kernel_rfl) rfl rfl ⟨(blk_cell BK1164.out 0).trans rfl, (blk_cell BK1164.out 1).trans rfl, hx1171_0, hx1172_0⟩ (fun hHeld => ?_); refine with_tabW spec_l10Stem.tab6 spec_l10Stem.bits6 (fun HT_ HW_ => ?_)
      generalize wr.drew = w13 at HO_3 HO_4 BK1164 HB hx1171_0 hx1172_0 hHeld ⊢
      refine pl_ 0 15 (tb_ 15 1) ?_; refine pl_ 1 16 (tb_ 15 3) ?_; refine pl_ 2 17 (tb_ 15 7) ?_; refine pl_ 3 18 (tb_ 15 15) ?_; refine pl_ 6 21 (tb_ 15 79) ?_; refine pl_ 7 22 (tb_ 15 207) ?_; refine pl_ 8 23 (tb_ 15 463) ?_; refine tk_ 4 19 (tb_ 15 479) hHeld ?_; refine tk_ 5 20 (tb_ 15 511) hHeld ?_; refine tk_ 9 24 (tb_ 15 1023) hHeld ?_
      refine on_ 10 25 (tb_ 15 2047) (fun K hK => ?_)
      refine goes_ Tryz.func135 (by kernel_rfl) rfl #[.agg #[.int .i64 a0_0, .slice _ l0_1.length c0_1], .int .i64 (rd t1168 x5_1)] (by rfl) rfl rfl s0_ ?_
      with_reducible refine (spec_l4Closure.calls k1 a0_0 _ _ l0_1 (rd t1168 x5_1) t1173 _ ?side1 ?side2 A10.out).mono ?_
      (case side1 => exact s2_)
      (case side2 => exact HC0_1.out)
      rintro e w14 ⟨rfl, hb⟩
      have HS2_ := (hb.cell (World.block_lt_of_cell? _ _ (hHeld.2.2.1))).trans (hHeld.2.2.1); have HS3_ := (hb.cell (World.block_lt_of_cell? _ _ (hHeld.2.2.2))).trans (hHeld.2.2.2)
      refine ⟨_, rfl, ?_⟩
      have n0_ := Aside0.mk (Kd.R_below s11_ hb); have n1_ := Aside0.mk (Kd.R_below s17_ hb); have n2_ := Aside0.mk (blk_below (g := gb1164) (o := .cells #[.int .i64 a0_0, .slice A0_1 l0_1.length c0_1] 29 (0, 0)) q26_5 hb); have n3_ := Aside0.mk (below_step q26_2 hb); clear HO_3; clear HO_4; clear BK1164; clear HB; have HO_3 := n0_; have HO_4 := n1_; have BK1164 := n2_; have HB := n3_; clear n0_ n1_ n2_ n3_
      (try clear hb)
      (try clear hb2)
      (try clear hk)
      (try clear hi)
      refine hK.out _ _ ⟨(blk_cell BK1164.out 0).trans rfl, (blk_cell BK1164.out 1).trans rfl, HS2_, HS3_⟩ (fun hHeld => ?_)
      clear hK K
      refine norm_ (a' := ?_) ?_ ?_
      rotate_left
      ·
       show Act.put _ (some 25) _ = _
       simp only [Act.put, List.setIfInBounds_toArray, List.set_cons_zero, List.set_cons_succ, i64_w, i32_w]
       rfl
      refine pl_ 11 26 (tb_ 15 4095) ?_
      refine last_ (i := 12) (N := some 27) (tb_ 15 8191) rfl rfl (one_of HT_.out (by kernel_rfl)) (by decide) (fun K hK => ?_)
      refine value_ (w1 := ?_) (v := ?_) (by rfl) rfl ?_ ?_
      rotate_left 2
      ·
       go_simp
       constructor
       ·
        rfl
       ·
        rfl
      refine hK.out _ _ ?_
      clear hK K
      refine norm_ (a' := ?_) ?_ ?_
      rotate_left
      ·
       show Act.put _ (some 27) _ = _
       simp only [Act.put, List.setIfInBounds_toArray, List.set_cons_zero, List.set_cons_succ, i64_w, i32_w]
       rfl
      refine last_ (i := 13) (N := some 28) (tb_ 15 16383) rfl rfl (one_of HT_.out (by kernel_rfl)) (by decide) (fun K hK => ?_)
      refine Kd.R_append_step k48 (w0 := w) w.heap.size (by rfl) (.tmp 15) (.tmp 27) 24 48 (.agg #[(.int .i64 0), (.int .i64 0)]) 16 rfl Tryz.underlying24 info48 rfl (by decide) (by omega) u3 x3_1 (⟨rd t1168 x5_1, t1173⟩ : S48) [.int .i64 (rd t1168 x5_1), .int .i64 t1173] (fun _ => True) (fun _ => False) rfl rfl ?aP (fun _ hk => hk.elim) ?aF ?aO ?aB ?aS ?aL ?_
      (case aP => exact k48_mkM _ _ _ (⟨rd t1168 x5_1, t1173⟩ : S48))
      (case aB => exact q26_2)
      (case aF => exact (fun _ _ => trivial))
      (case aO => exact s11_)
      (case aS => exact (below_size q26_2))
      (case aL => have := LMc11.out; omega)
      intro v1175 w15 ho hb hg hat
      rw [← Ny1174.out] at ho
      have n0_ := Aside0.mk (Kd.R_over' s17_ (Kd.R_typed s11_) (by decide) hg)
      have n1_ := Aside0.mk (blk_grown (g := gb1164) (o := .cells #[.int .i64 a0_0, .slice A0_1 l0_1.length c0_1] 29 (0, 0)) q26_5 hg (Kd.R_ne HO_3.out BK1164.out (by decide)))
      have n2_ := Aside0.mk (hb); have n3_ := Aside0.mk (ho); clear HO_4; clear BK1164; clear HB; clear HO_3; have HO_4 := n0_; have BK1164 := n1_; have HB := n2_; have HO1176 := n3_; clear n0_ n1_ n2_ n3_; clear ho hb hg hat
      refine hK.out _ _ ?_
      clear hK K
      refine norm_ (a' := ?_) ?_ ?_
      rotate_left
      ·
       show Act.put _ (some 28) _ = _
       simp only [Act.put, List.setIfInBounds_toArray, List.set_cons_zero, List.set_cons_succ, i64_w, i32_w]
       rfl
      refine pl_ 14 3 (tb_ 15 32767) ?_
      refine done_ (done_of HT_.out (by kernel_rfl)) ?_
      try go_wp2
      go_roundg k1
      case measure => have := HK1.out; omega
      case rel => exact ⟨(y1174), (wrap64 (x5_1 + 1)), rf_, H', ⟨by have := HK1.out; omega⟩, ⟨(by (with_reducible repeat (first | apply Kd.R_alloc | apply Kd.R_drewN | apply Kd.R_drew)); exact HO1176.out)⟩, ⟨s17_⟩, ⟨q26_5⟩, ⟨q26_2⟩⟩
     ·
      rw [if_neg c11] at H
      exact absurd H (by simp)
    ·
     rw [if_neg c9] at H
     exact absurd H (by simp)
   ·
    rw [if_neg c8] at H; have c8b0 : decide (x5_1 < (t1168.length : Int)) = false := decide_eq_false c8; clear c8; obtain rfl := Option.some.inj H; obtain ⟨Ao16, co16, eo16⟩ := Kd.R_slice HO_4.out; subst eo16
    go_wp2
    go_ret
    exact ⟨_, (by first | rfl | (simp [errW_none, errW_some] <;> rfl) | (simp [*, errW_none, errW_some] <;> rfl)), s11_, q26_2⟩
theorem q26_10 {P : Prop} (h : P := by repeat (first | (with_reducible first | exact HB.out | apply below_alloc | apply pw_below_drewN | apply below_drew1 | refine below_set ?_ GE1177.out) | exact HB.out)) : P := h
theorem q26_13 {P : Prop} (h : P := by (with_reducible repeat (first | refine blk_drewN ?_ _ | refine blk_drew ?_ | refine blk_alloc ?_ _)); exact BK1177.out) : P := h
def spec_StemBase.f (k : Nat) (a0_0 : Int) (l0_1 : List Int) : Option ((List (S48))) := (spec_IsContext.f k a0_0 l0_1).bind fun t1178 => (if t1178 = true then ((spec_l10Stem.f k a0_0 l0_1).bind fun t1179 => (some t1179)) else (some (([] : List (S48)))))
theorem spec_StemBase.calls (k : Nat) (a0_0 : Int) (A0_1 : Option Addr) (c0_1 : Nat) (l0_1 : List Int) (r : List (S48)) (w : World) (hr0_1 : Kd.C (Kd.int .i64) w A0_1 l0_1.length l0_1) (hc0_1 : l0_1.length ≤ c0_1) (h : spec_StemBase.f k a0_0 l0_1 = some r) :
  Calls Tryz.prog 28 #[.agg #[.int .i64 a0_0, .slice A0_1 l0_1.length c0_1]] w fun e w' => ∃ v0_ : Value, e = .returned (v0_) ∧ Kd.R k48 48 w' w.heap.size (fun _ => True) v0_ r ∧ Below w.heap.size w w' := by
 have hu29 := Tryz.underlying29; have HR0_1 := Aside0.mk hr0_1; have HC0_1 := Aside0.mk hc0_1; clear hr0_1 hc0_1; have HB := Aside0.mk (Below.refl w.heap.size w); have H := h; clear h; unfold spec_StemBase.f at H; obtain ⟨t1178, A2, H⟩ := bnd26_ H
 by_cases c3 : t1178 = true
 ·
  subst c3; rw [if_pos rfl] at H; obtain ⟨t1179, A4, H⟩ := bnd26_ H; obtain rfl := Option.some.inj H
  go_enter Tryz.func28, Tryz.ntmps28
  go_wp2_with ((with_reducible refine gw_ rfl ?_); first | (refine be_ 1 #[.int .i64 a0_0, .slice A0_1 l0_1.length c0_1] 29 ?_; intro gb1177 hg w5 hbox hb; have n_ := ac_ (below_step s1_ hb) <| ac_ (hbox) <| ac_ ((gz_ w hg s1_)) <| Aside0.mk ((gz_ w hg s1_)); clear HB; obtain ⟨HB, BK1177, GW1177, GE1177⟩ := n_; clear hb hbox hg; have hcz6_0 : w5.cell? ⟨gb1177, 0, none⟩ = some (.int .i64 a0_0) := (blk_cell BK1177.out 0).trans rfl; have hcz6_1 : w5.cell? ⟨gb1177, 1, none⟩ = some (.slice A0_1 l0_1.length c0_1) := (blk_cell BK1177.out 1).trans rfl; have hfz6_0 := blk_frozen BK1177.out 0; have hfz6_1 := blk_frozen BK1177.out 1) | (refine gL_ 61 4 Tryz.func61 #[.agg #[.int .i64 a0_0, .slice A0_1 l0_1.length c0_1]] ?_; (with_reducible refine (spec_IsContext.calls k a0_0 _ _ l0_1 true _ ?side1 ?side2 A2.out).mono ?_); (case side1 => exact s2_); (case side2 => exact HC0_1.out); rintro e w7 ⟨rfl, hb⟩; refine ⟨_, rfl, ?_⟩; have n_ := ac_ (blk_below (g := gb1177) (o := .cells #[.int .i64 a0_0, .slice A0_1 l0_1.length c0_1] 29 (0, 0)) q26_13 hb) <| Aside0.mk (below_step q26_10 hb); clear BK1177 HB; obtain ⟨BK1177, HB⟩ := n_; (try clear hb); have hcz8_0 : w7.cell? ⟨gb1177, 0, none⟩ = some (.int .i64 a0_0) := (blk_cell BK1177.out 0).trans rfl; have hcz8_1 : w7.cell? ⟨gb1177, 1, none⟩ = some (.slice A0_1 l0_1.length c0_1) := (blk_cell BK1177.out 1).trans rfl; have hfz8_0 := blk_frozen BK1177.out 0; have hfz8_1 := blk_frozen BK1177.out 1) | (refine gL_ 140 8 Tryz.func140 #[.agg #[.int .i64 a0_0, .slice A0_1 l0_1.length c0_1]] ?_; (with_reducible refine (spec_l10Stem.calls k a0_0 _ _ l0_1 t1179 _ ?side1 ?side2 A4.out).mono ?_); (case side1 => exact s2_); (case side2 => exact HC0_1.out); rintro e w9 ⟨v1180, rfl, ho0, hb⟩; refine ⟨_, rfl, ?_⟩; have n_ := ac_ (Kd.R_lower ho0 (below_size q26_10)) <| ac_ (blk_below (g := gb1177) (o := .cells #[.int .i64 a0_0, .slice A0_1 l0_1.length c0_1] 29 (0, 0)) q26_13 hb) <| Aside0.mk (below_step q26_10 hb); clear BK1177 HB; obtain ⟨HO1181, BK1177, HB⟩ := n_; (try clear hb ho0)))
  go_ret
  exact ⟨_, (by first | rfl | (simp [errW_none, errW_some] <;> rfl) | (simp [*, errW_none, errW_some] <;> rfl)), (by (with_reducible repeat (first | apply Kd.R_alloc | apply Kd.R_drewN | apply Kd.R_drew)); exact HO1181.out), q26_10⟩
 ·
  replace c3 := Bool.eq_false_iff.mpr c3; subst c3
  rw [if_neg (show ¬ (false = true) by decide)] at H
  obtain ⟨y1182, hy_⟩ : ∃ y_ : List (S48), y_ = (([] : List (S48))) := ⟨_, rfl⟩
  replace H : (some y1182) = some r := rH_
  have Ny1182 := Aside0.mk hy_; clear hy_; obtain rfl := Option.some.inj H
  go_enter Tryz.func28, Tryz.ntmps28
  go_wp2_with ((with_reducible refine gw_ rfl ?_); first | (refine be_ 1 #[.int .i64 a0_0, .slice A0_1 l0_1.length c0_1] 29 ?_; intro gb1177 hg w10 hbox hb; have n_ := ac_ (below_step s1_ hb) <| ac_ (hbox) <| ac_ ((gz_ w hg s1_)) <| Aside0.mk ((gz_ w hg s1_)); clear HB; obtain ⟨HB, BK1177, GW1177, GE1177⟩ := n_; clear hb hbox hg; have hcz11_0 : w10.cell? ⟨gb1177, 0, none⟩ = some (.int .i64 a0_0) := (blk_cell BK1177.out 0).trans rfl; have hcz11_1 : w10.cell? ⟨gb1177, 1, none⟩ = some (.slice A0_1 l0_1.length c0_1) := (blk_cell BK1177.out 1).trans rfl; have hfz11_0 := blk_frozen BK1177.out 0; have hfz11_1 := blk_frozen BK1177.out 1) | (refine gL_ 61 4 Tryz.func61 #[.agg #[.int .i64 a0_0, .slice A0_1 l0_1.length c0_1]] ?_; (with_reducible refine (spec_IsContext.calls k a0_0 _ _ l0_1 false _ ?side1 ?side2 A2.out).mono ?_); (case side1 => exact s2_); (case side2 => exact HC0_1.out); rintro e w12 ⟨rfl, hb⟩; refine ⟨_, rfl, ?_⟩; have n_ := ac_ (blk_below (g := gb1177) (o := .cells #[.int .i64 a0_0, .slice A0_1 l0_1.length c0_1] 29 (0, 0)) q26_13 hb) <| Aside0.mk (below_step q26_10 hb); clear BK1177 HB; obtain ⟨BK1177, HB⟩ := n_; (try clear hb)) | (refine rl_ k48 48 6 ?_; intro v1183 w13 ho14 hb hg_ hnew_; clear hg_ hnew_; (first | rw [← Ny1182.out] at ho14 | (simp only [Int.reduceToNat] at ho14; rw [← Ny1182.out] at ho14)); have n_ := ac_ (Kd.R_lower ho14 (below_size q26_10)) <| ac_ (blk_below (g := gb1177) (o := .cells #[.int .i64 a0_0, .slice A0_1 l0_1.length c0_1] 29 (0, 0)) q26_13 hb) <| Aside0.mk (below_step q26_10 hb); clear BK1177 HB; obtain ⟨HO1184, BK1177, HB⟩ := n_; clear hb ho14))
  go_ret
  exact ⟨_, (by first | rfl | (simp [errW_none, errW_some] <;> rfl) | (simp [*, errW_none, errW_some] <;> rfl)), (by (with_reducible repeat (first | apply Kd.R_alloc | apply Kd.R_drewN | apply Kd.R_drew)); exact HO1184.out), q26_10⟩
theorem q26_14 {P : Prop} (h : P := by repeat (first | (with_reducible first | exact HB.out | apply below_alloc | apply pw_below_drewN | apply below_drew1 | refine below_set ?_ (IsS152.ge HI1189.out) | refine below_set ?_ GE1185.out) | exact HB.out)) : P := h
theorem q26_17 {P : Prop} (h : P := by (with_reducible repeat (first | refine blk_drewN ?_ _ | refine blk_drew ?_ | refine blk_alloc ?_ _)); exact BK1185.out) : P := h
def spec_DrawStemBase.f (k : Nat) (l0 : List Int) : Option (Int × List Int) := (spec_l1New.f k l0).bind fun bt1186 => ((spec_l3Bent.f k bt1186.1 bt1186.2.1 bt1186.2.2).bind fun bt1190 => (some (bt1190.1, bt1190.2.1)))
theorem spec_DrawStemBase.calls (k : Nat) (A0 : Option Addr) (c0 : Nat) (l0 : List Int) (r1 : Int) (r2 : List Int) (w : World) (hr0 : Kd.C (Kd.int .u8) w A0 l0.length l0) (hc0 : l0.length ≤ c0) (h : spec_DrawStemBase.f k l0 = some (r1, r2)) :
  Calls Tryz.prog 50 #[.slice A0 l0.length c0] w fun e w' => ∃ v1_ : Value, e = .returned (.agg #[.int .i64 r1, v1_]) ∧ Kd.R (Kd.int .i64) 3 w' w.heap.size (fun _ => True) v1_ r2 ∧ Below w.heap.size w w' := by
 have hu29 := Tryz.underlying29; have HR0 := Aside0.mk hr0; have HC0 := Aside0.mk hc0; clear hr0 hc0; have HB := Aside0.mk (Below.refl w.heap.size w); have H := h; clear h; unfold spec_DrawStemBase.f at H; obtain ⟨⟨t1186, t1187, t1188⟩, A2, H⟩ := bnd26_ H; dsimp only at H; obtain ⟨⟨t1190, t1191, t1194, t1195⟩, A3, H⟩ := bnd26_ H; dsimp only at H
 simp only [Option.some.injEq, Prod.mk.injEq] at H
 obtain ⟨rfl, rfl⟩ := H
 go_enter Tryz.func50, Tryz.ntmps50
 go_wp2_with ((with_reducible refine gw_ rfl ?_); first | (refine be_ 2 #[.int .i64 0, .slice none 0 0] 29 ?_; intro gb1185 hg w4 hbox hb; have n_ := ac_ (below_step s1_ hb) <| ac_ (hbox) <| ac_ ((gz_ w hg s1_)) <| Aside0.mk ((gz_ w hg s1_)); clear HB; obtain ⟨HB, BK1185, GW1185, GE1185⟩ := n_; clear hb hbox hg) | (refine gL_ 144 4 Tryz.func144 #[.slice A0 l0.length c0] ?_; (with_reducible refine (spec_l1New.calls k _ _ l0 t1186 t1187 t1188 w _ ?side1 ?side2 ?side3 A2.out).mono ?_); (case side1 => repeat (first | (with_reducible first | exact HB.out | apply below_alloc | apply pw_below_drewN | apply below_drew1 | refine below_set ?_ GE1185.out) | exact HB.out)); (case side2 => exact HR0.out); (case side3 => exact HC0.out); rintro e w5 ⟨g1189, rfl, hi, hb, hb2⟩; refine ⟨_, rfl, ?_⟩; have n_ := ac_ (blk_below (g := gb1185) (o := .cells #[.int .i64 0, .slice none 0 0] 29 (0, 0)) q26_17 hb2) <| ac_ (hb) <| ac_ (hi) <| ac_ (IsS152.ne_blk hi (blk_below (g := gb1185) (o := .cells #[.int .i64 0, .slice none 0 0] 29 (0, 0)) q26_17 hb2) (by decide)) <| Aside0.mk (Ne.symm (IsS152.ne_blk hi (blk_below (g := gb1185) (o := .cells #[.int .i64 0, .slice none 0 0] 29 (0, 0)) q26_17 hb2) (by decide))); clear BK1185 HB; obtain ⟨BK1185, HB, HI1189, NB1189_1185, NB1185_1189⟩ := n_; (try clear hb hb2 hi)) | (refine gL_ 161 5 Tryz.func161 #[.pointer (some ⟨g1189, 0, none⟩)] ?_; (with_reducible refine (spec_l3Bent.calls k g1189 t1186 t1187 t1188 t1190 t1191 t1194 t1195 w _ ?side1 ?side2 A3.out).mono ?_); (case side1 => repeat (first | (with_reducible first | exact HI1189.out | apply IsS152.alloc | apply IsS152.drewN | apply IsS152.drew | apply IsS152.set_1 | apply IsS152.set_2 | refine IsS152.far ?_ NB1189_1185.out _) | exact HI1189.out)); (case side2 => exact q26_14); rintro e w6 ⟨v1192, rfl, ho0, hi, hb, hk⟩; refine ⟨_, rfl, ?_⟩; have n_ := ac_ (KeepBut.blk hk (g' := gb1185) (o := .cells #[.int .i64 0, .slice none 0 0] 29 (0, 0)) q26_17 NB1185_1189.out (by simp)) <| ac_ (Kd.R_lower ho0 (below_size q26_14)) <| ac_ (hb) <| Aside0.mk (hi); clear BK1185 HB HI1189; obtain ⟨BK1185, HO1193, HB, HI1189⟩ := n_; (try clear hb hk hi ho0); have hnb7 := NB1185_1189.out; have hnc7 := NB1189_1185.out; have hcz8_0 : w6.cell? ⟨gb1185, 0, none⟩ = some (.int .i64 0) := (blk_cell BK1185.out 0).trans rfl; have hcz8_1 : w6.cell? ⟨gb1185, 1, none⟩ = some (.slice none 0 0) := (blk_cell BK1185.out 1).trans rfl; have hfz8_0 := blk_frozen BK1185.out 0; have hfz8_1 := blk_frozen BK1185.out 1; obtain ⟨Ao9, co9, eo9⟩ := Kd.R_slice HO1193.out; subst eo9))
 refine bodyPost_ret (results_cell_row rfl _ _ gb1185 29 #[.int .i64 t1190, .slice Ao9 t1191.length co9] (0, 0) _ rfl (by (with_reducible repeat (first | refine blk_drewN ?_ _ | refine blk_drew ?_ | refine blk_alloc ?_ _)); refine blk_put (cs := #[.int .i64 t1190, .slice none 0 0]) ?_ 1 _ rfl; (with_reducible repeat (first | refine blk_drewN ?_ _ | refine blk_drew ?_ | refine blk_alloc ?_ _)); refine blk_put (cs := #[.int .i64 0, .slice none 0 0]) ?_ 0 _ rfl; (with_reducible repeat (first | refine blk_drewN ?_ _ | refine blk_drew ?_ | refine blk_alloc ?_ _)); exact BK1185.out) Tryz.underlying29 rfl (by kernel_rfl)) rfl ?_
 exact ⟨_, (by first | rfl | (simp [errW_none, errW_some] <;> rfl) | (simp [*, errW_none, errW_some] <;> rfl)), (by (with_reducible repeat (first | apply Kd.R_alloc | apply Kd.R_drewN | apply Kd.R_drew)); exact Kd.R_mono (Kd.R_far (p := ⟨gb1185, 1, none⟩) (Kd.R_far (p := ⟨gb1185, 0, none⟩) (Kd.R_types HO1193.out BK1185.out (by decide)) (fun _ hk => hk.2) (.int .i64 t1190)) (fun _ hk => hk.2) (.slice Ao9 t1191.length co9)) (fun _ hk => trivial)), q26_14⟩
theorem bnd9_ {α β : Type} {o : Option α} {f : α → Option β} {r : β} (h : o.bind f = some r) : ∃ a, Aside0 (o = some a) ∧ f a = some r := by
 obtain ⟨a, h1, h2⟩ := Option.bind_eq_some_iff.mp h
 exact ⟨a, ⟨h1⟩, h2⟩
def impl_SortLectic_1.f (a0 : Int) : Option (Bool) := (impl_isAnySet.f a0).bind fun t458 => (some (!t458))
theorem impl_SortLectic_1.calls (a0 : Int) (r : Bool) (w : World) (h : impl_SortLectic_1.f a0 = some r) :
  Calls Tryz.prog 246 #[.int .i64 a0] w fun e w' => e = .returned (.bool r) ∧ Drawn0 w w' := by
 have H := h; clear h; unfold impl_SortLectic_1.f at H; obtain ⟨t458, A2, H⟩ := bnd9_ H; obtain rfl := Option.some.inj H
 go_enter Tryz.func246, Tryz.ntmps246
 go_wp2_with (first | ((with_reducible refine gate_callee (f := 177) rfl ?_); refine goesL_ (some 4) rfl rfl Tryz.func177 (by kernel_rfl) rfl #[.int .i64 a0] rfl (by (try simp only [List.map_toArray, List.map_cons, List.map_nil]); first | done | rfl | (simp only [List.length_drop, List.length_take]; rfl)) ?_; (with_reducible refine (impl_isAnySet.calls a0 t458 _ A2.out).mono ?_); rintro e w' ⟨rfl, ⟨nd, rfl⟩⟩; refine ⟨_, rfl, ?_⟩))
 go_ret
 exact ⟨rf_, (by repeat (first | exact Drawn0.refl _ | apply Drawn0.step))⟩
def bits_OnesCount64.f (a0 : Int) : Option (Int) := some (Go.bits .and .i64 (wrap64 (IntKind.u64.wrap ((IntKind.u64.wrap ((IntKind.u64.wrap ((Go.bits .and .u64 (IntKind.u64.wrap (((IntKind.u64.wrap ((Go.bits .and .u64 ((IntKind.u64.wrap ((Go.bits .and .u64 (a0 / 2) 6148914691236517205) + (Go.bits .and .u64 a0 6148914691236517205))) / 4) 3689348814741910323) + (Go.bits .and .u64 (IntKind.u64.wrap ((Go.bits .and .u64 (a0 / 2) 6148914691236517205) + (Go.bits .and .u64 a0 6148914691236517205))) 3689348814741910323))) / 16) + (IntKind.u64.wrap ((Go.bits .and .u64 ((IntKind.u64.wrap ((Go.bits .and .u64 (a0 / 2) 6148914691236517205) + (Go.bits .and .u64 a0 6148914691236517205))) / 4) 3689348814741910323) + (Go.bits .and .u64 (IntKind.u64.wrap ((Go.bits .and .u64 (a0 / 2) 6148914691236517205) + (Go.bits .and .u64 a0 6148914691236517205))) 3689348814741910323))))) 1085102592571150095) + ((Go.bits .and .u64 (IntKind.u64.wrap (((IntKind.u64.wrap ((Go.bits .and .u64 ((IntKind.u64.wrap ((Go.bits .and .u64 (a0 / 2) 6148914691236517205) + (Go.bits .and .u64 a0 6148914691236517205))) / 4) 3689348814741910323) + (Go.bits .and .u64 (IntKind.u64.wrap ((Go.bits .and .u64 (a0 / 2) 6148914691236517205) + (Go.bits .and .u64 a0 6148914691236517205))) 3689348814741910323))) / 16) + (IntKind.u64.wrap ((Go.bits .and .u64 ((IntKind.u64.wrap ((Go.bits .and .u64 (a0 / 2) 6148914691236517205) + (Go.bits .and .u64 a0 6148914691236517205))) / 4) 3689348814741910323) + (Go.bits .and .u64 (IntKind.u64.wrap ((Go.bits .and .u64 (a0 / 2) 6148914691236517205) + (Go.bits .and .u64 a0 6148914691236517205))) 3689348814741910323))))) 1085102592571150095) / 256))) + ((IntKind.u64.wrap ((Go.bits .and .u64 (IntKind.u64.wrap (((IntKind.u64.wrap ((Go.bits .and .u64 ((IntKind.u64.wrap ((Go.bits .and .u64 (a0 / 2) 6148914691236517205) + (Go.bits .and .u64 a0 6148914691236517205))) / 4) 3689348814741910323) + (Go.bits .and .u64 (IntKind.u64.wrap ((Go.bits .and .u64 (a0 / 2) 6148914691236517205) + (Go.bits .and .u64 a0 6148914691236517205))) 3689348814741910323))) / 16) + (IntKind.u64.wrap ((Go.bits .and .u64 ((IntKind.u64.wrap ((Go.bits .and .u64 (a0 / 2) 6148914691236517205) + (Go.bits .and .u64 a0 6148914691236517205))) / 4) 3689348814741910323) + (Go.bits .and .u64 (IntKind.u64.wrap ((Go.bits .and .u64 (a0 / 2) 6148914691236517205) + (Go.bits .and .u64 a0 6148914691236517205))) 3689348814741910323))))) 1085102592571150095) + ((Go.bits .and .u64 (IntKind.u64.wrap (((IntKind.u64.wrap ((Go.bits .and .u64 ((IntKind.u64.wrap ((Go.bits .and .u64 (a0 / 2) 6148914691236517205) + (Go.bits .and .u64 a0 6148914691236517205))) / 4) 3689348814741910323) + (Go.bits .and .u64 (IntKind.u64.wrap ((Go.bits .and .u64 (a0 / 2) 6148914691236517205) + (Go.bits .and .u64 a0 6148914691236517205))) 3689348814741910323))) / 16) + (IntKind.u64.wrap ((Go.bits .and .u64 ((IntKind.u64.wrap ((Go.bits .and .u64 (a0 / 2) 6148914691236517205) + (Go.bits .and .u64 a0 6148914691236517205))) / 4) 3689348814741910323) + (Go.bits .and .u64 (IntKind.u64.wrap ((Go.bits .and .u64 (a0 / 2) 6148914691236517205) + (Go.bits .and .u64 a0 6148914691236517205))) 3689348814741910323))))) 1085102592571150095) / 256))) / 65536))) + ((IntKind.u64.wrap ((IntKind.u64.wrap ((Go.bits .and .u64 (IntKind.u64.wrap (((IntKind.u64.wrap ((Go.bits .and .u64 ((IntKind.u64.wrap ((Go.bits .and .u64 (a0 / 2) 6148914691236517205) + (Go.bits .and .u64 a0 6148914691236517205))) / 4) 3689348814741910323) + (Go.bits .and .u64 (IntKind.u64.wrap ((Go.bits .and .u64 (a0 / 2) 6148914691236517205) + (Go.bits .and .u64 a0 6148914691236517205))) 3689348814741910323))) / 16) + (IntKind.u64.wrap ((Go.bits .and .u64 ((IntKind.u64.wrap ((Go.bits .and .u64 (a0 / 2) 6148914691236517205) + (Go.bits .and .u64 a0 6148914691236517205))) / 4) 3689348814741910323) + (Go.bits .and .u64 (IntKind.u64.wrap ((Go.bits .and .u64 (a0 / 2) 6148914691236517205) + (Go.bits .and .u64 a0 6148914691236517205))) 3689348814741910323))))) 1085102592571150095) + ((Go.bits .and .u64 (IntKind.u64.wrap (((IntKind.u64.wrap ((Go.bits .and .u64 ((IntKind.u64.wrap ((Go.bits .and .u64 (a0 / 2) 6148914691236517205) + (Go.bits .and .u64 a0 6148914691236517205))) / 4) 3689348814741910323) + (Go.bits .and .u64 (IntKind.u64.wrap ((Go.bits .and .u64 (a0 / 2) 6148914691236517205) + (Go.bits .and .u64 a0 6148914691236517205))) 3689348814741910323))) / 16) + (IntKind.u64.wrap ((Go.bits .and .u64 ((IntKind.u64.wrap ((Go.bits .and .u64 (a0 / 2) 6148914691236517205) + (Go.bits .and .u64 a0 6148914691236517205))) / 4) 3689348814741910323) + (Go.bits .and .u64 (IntKind.u64.wrap ((Go.bits .and .u64 (a0 / 2) 6148914691236517205) + (Go.bits .and .u64 a0 6148914691236517205))) 3689348814741910323))))) 1085102592571150095) / 256))) + ((IntKind.u64.wrap ((Go.bits .and .u64 (IntKind.u64.wrap (((IntKind.u64.wrap ((Go.bits .and .u64 ((IntKind.u64.wrap ((Go.bits .and .u64 (a0 / 2) 6148914691236517205) + (Go.bits .and .u64 a0 6148914691236517205))) / 4) 3689348814741910323) + (Go.bits .and .u64 (IntKind.u64.wrap ((Go.bits .and .u64 (a0 / 2) 6148914691236517205) + (Go.bits .and .u64 a0 6148914691236517205))) 3689348814741910323))) / 16) + (IntKind.u64.wrap ((Go.bits .and .u64 ((IntKind.u64.wrap ((Go.bits .and .u64 (a0 / 2) 6148914691236517205) + (Go.bits .and .u64 a0 6148914691236517205))) / 4) 3689348814741910323) + (Go.bits .and .u64 (IntKind.u64.wrap ((Go.bits .and .u64 (a0 / 2) 6148914691236517205) + (Go.bits .and .u64 a0 6148914691236517205))) 3689348814741910323))))) 1085102592571150095) + ((Go.bits .and .u64 (IntKind.u64.wrap (((IntKind.u64.wrap ((Go.bits .and .u64 ((IntKind.u64.wrap ((Go.bits .and .u64 (a0 / 2) 6148914691236517205) + (Go.bits .and .u64 a0 6148914691236517205))) / 4) 3689348814741910323) + (Go.bits .and .u64 (IntKind.u64.wrap ((Go.bits .and .u64 (a0 / 2) 6148914691236517205) + (Go.bits .and .u64 a0 6148914691236517205))) 3689348814741910323))) / 16) + (IntKind.u64.wrap ((Go.bits .and .u64 ((IntKind.u64.wrap ((Go.bits .and .u64 (a0 / 2) 6148914691236517205) + (Go.bits .and .u64 a0 6148914691236517205))) / 4) 3689348814741910323) + (Go.bits .and .u64 (IntKind.u64.wrap ((Go.bits .and .u64 (a0 / 2) 6148914691236517205) + (Go.bits .and .u64 a0 6148914691236517205))) 3689348814741910323))))) 1085102592571150095) / 256))) / 65536))) / 4294967296)))) 127)
theorem bits_OnesCount64.calls (a0 : Int) (r : Int) (w : World) (h : bits_OnesCount64.f a0 = some r) :
  Calls Tryz.prog 273 #[.int .u64 a0] w fun e w' => e = .returned (.int .i64 r) ∧ Drawn0 w w' := by
 have H := h; clear h; unfold bits_OnesCount64.f at H; obtain rfl := Option.some.inj H
 go_enter Tryz.func273, Tryz.ntmps273
 go_wp2
 go_ret
 exact ⟨rf_, (by repeat (first | exact Drawn0.refl _ | apply Drawn0.step))⟩
def bits_OnesCount.f (a0 : Int) : Option (Int) := (bits_OnesCount64.f a0).bind fun t476 => (some t476)
theorem bits_OnesCount.calls (a0 : Int) (r : Int) (w : World) (h : bits_OnesCount.f a0 = some r) :
  Calls Tryz.prog 254 #[.int .u64 a0] w fun e w' => e = .returned (.int .i64 r) ∧ Drawn0 w w' := by
 have H := h; clear h; unfold bits_OnesCount.f at H; obtain ⟨t476, A2, H⟩ := bnd9_ H; obtain rfl := Option.some.inj H
 go_enter Tryz.func254, Tryz.ntmps254
 go_wp2_with (first | ((with_reducible refine gate_callee (f := 273) rfl ?_); refine goesL_ (some 7) rfl rfl Tryz.func273 (by kernel_rfl) rfl #[.int .u64 a0] rfl (by (try simp only [List.map_toArray, List.map_cons, List.map_nil]); first | done | rfl | (simp only [List.length_drop, List.length_take]; rfl)) ?_; (with_reducible refine (bits_OnesCount64.calls a0 t476 _ A2.out).mono ?_); rintro e w' ⟨rfl, ⟨nd, rfl⟩⟩; refine ⟨_, rfl, ?_⟩))
 go_ret
 exact ⟨rf_, (by repeat (first | exact Drawn0.refl _ | apply Drawn0.step))⟩
def impl_CountOf.f (a0 : Int) : Option (Int) := (impl_isAnySet.f a0).bind fun t477 => (if t477 = true then ((bits_OnesCount.f (IntKind.u64.wrap (a0))).bind fun t478 => (some t478)) else (some 0))
theorem impl_CountOf.calls (a0 : Int) (r : Int) (w : World) (h : impl_CountOf.f a0 = some r) :
  Calls Tryz.prog 222 #[.int .i64 a0] w fun e w' => e = .returned (.int .i64 r) ∧ Drawn0 w w' := by
 have H := h; clear h; unfold impl_CountOf.f at H; obtain ⟨t477, A2, H⟩ := bnd9_ H
 by_cases c3 : t477 = true
 ·
  subst c3; rw [if_pos rfl] at H; obtain ⟨t478, A4, H⟩ := bnd9_ H; obtain rfl := Option.some.inj H
  go_enter Tryz.func222, Tryz.ntmps222
  go_wp2_with ((with_reducible refine gw_ rfl ?_); first | (refine gL_ 177 4 Tryz.func177 #[.int .i64 a0] ?_; (with_reducible refine (impl_isAnySet.calls a0 true _ A2.out).mono ?_); rintro e w' ⟨rfl, ⟨nd, rfl⟩⟩; refine ⟨_, rfl, ?_⟩) | (refine gL_ 254 8 Tryz.func254 #[.int .u64 (IntKind.u64.wrap (a0))] ?_; (with_reducible refine (bits_OnesCount.calls (IntKind.u64.wrap (a0)) t478 _ A4.out).mono ?_); rintro e w' ⟨rfl, ⟨nd, rfl⟩⟩; refine ⟨_, rfl, ?_⟩))
  go_ret
  exact ⟨rf_, (by repeat (first | exact Drawn0.refl _ | apply Drawn0.step))⟩
 ·
  replace c3 := Bool.eq_false_iff.mpr c3; subst c3
  rw [if_neg (show ¬ (false = true) by decide)] at H
  obtain rfl := Option.some.inj H
  go_enter Tryz.func222, Tryz.ntmps222
  go_wp2_with ((with_reducible refine gw_ rfl ?_); (refine gL_ 177 4 Tryz.func177 #[.int .i64 a0] ?_; (with_reducible refine (impl_isAnySet.calls a0 false _ A2.out).mono ?_); rintro e w' ⟨rfl, ⟨nd, rfl⟩⟩; refine ⟨_, rfl, ?_⟩))
  go_ret
  exact ⟨rf_, (by repeat (first | exact Drawn0.refl _ | apply Drawn0.step))⟩
def impl_stem_1.f (a0 : Int) (a1 : Int) : Option (Int) := (impl_CountOf.f a0).bind fun t479 => ((impl_CountOf.f a1).bind fun t480 => (some (wrap64 (t479 - t480))))
theorem impl_stem_1.calls (a0 : Int) (a1 : Int) (r : Int) (w : World) (h : impl_stem_1.f a0 a1 = some r) :
  Calls Tryz.prog 221 #[.int .i64 a0, .int .i64 a1] w fun e w' => e = .returned (.int .i64 r) ∧ Drawn0 w w' := by
 have H := h; clear h; unfold impl_stem_1.f at H; obtain ⟨t479, A3, H⟩ := bnd9_ H; obtain ⟨t480, A4, H⟩ := bnd9_ H; obtain rfl := Option.some.inj H
 go_enter Tryz.func221, Tryz.ntmps221
 go_wp2_with ((with_reducible refine gw_ rfl ?_); first | (refine gL_ 222 6 Tryz.func222 #[.int .i64 a0] ?_; (with_reducible refine (impl_CountOf.calls a0 t479 _ A3.out).mono ?_); rintro e w' ⟨rfl, ⟨nd, rfl⟩⟩; refine ⟨_, rfl, ?_⟩) | (refine gL_ 222 8 Tryz.func222 #[.int .i64 a1] ?_; (with_reducible refine (impl_CountOf.calls a1 t480 _ A4.out).mono ?_); rintro e w' ⟨rfl, ⟨nd, rfl⟩⟩; refine ⟨_, rfl, ?_⟩))
 go_ret
 exact ⟨rf_, (by repeat (first | exact Drawn0.refl _ | apply Drawn0.step))⟩
theorem q9_3 {P : Prop} (h : P := by repeat (first | exact HR1.out | (with_reducible refine Kd.C_alloc ?_ _) | (with_reducible refine Kd.C_drewN ?_ _) | (with_reducible refine Kd.C_drew ?_))) : P := h
def spec_l10All.l0 : Nat → List (S48) → List (S48) → Int → Option (Bool)
 | 0, _, _, _ => none
 | k + 1, x0, x1, x5 => if x5 < (x0.length : Int) then (if 0 ≤ x5 then ((spec_l9Closed.f k x1 ((rd_T48 x0 x5).f0)).bind fun t617 => (if (Go.bits .and .i64 t617 ((rd_T48 x0 x5).f1)) = ((rd_T48 x0 x5).f1) then (spec_l10All.l0 k x0 x1 (wrap64 (x5 + 1))) else (some false))) else (none)) else (some true)
def spec_l10All.f (k : Nat) (l0 : List (S48)) (l1 : List (S48)) : Option (Bool) := spec_l10All.l0 k l0 l1 0
theorem spec_l10All.calls (k : Nat) (A0 : Option Addr) (c0 : Nat) (l0 : List (S48)) (A1 : Option Addr) (c1 : Nat) (l1 : List (S48)) (r : Bool) (w : World) (hr0 : Kd.C k48 w A0 l0.length l0) (hc0 : l0.length ≤ c0) (hr1 : Kd.C k48 w A1 l1.length l1) (hc1 : l1.length ≤ c1) (h : spec_l10All.f k l0 l1 = some r) :
  Calls Tryz.prog 160 #[.slice A0 l0.length c0, .slice A1 l1.length c1] w fun e w' => e = .returned (.bool r) ∧ Drawn0 w w' := by
 have HR0 := Aside0.mk hr0; have HC0 := Aside0.mk hc0; clear hr0 hc0; have HR1 := Aside0.mk hr1; have HC1 := Aside0.mk hc1; clear hr1 hc1; have H := h; clear h; unfold spec_l10All.f at H; have H' := Aside0.mk H; clear H
 go_enter Tryz.func160, Tryz.ntmps160
 go_wp2
 repeat (go_quiet (fail); try go_wp2)
 go_loopg [5] k (fun kq v5 w' => ∃ (x5_1 : Int), v5 = .int .i64 x5_1 ∧ Aside0 (spec_l10All.l0 kq l0 l1 x5_1 = some r) ∧ Aside0 (kq ≤ k) ∧ Drawn0 w w')
 case atStart => exact ⟨(0), s3_, H', ⟨Nat.le_refl _⟩, s6_⟩
 case round =>
  clear H'
  try clear c1
  try clear p2
  obtain ⟨x5_1, rfl, HA, HK1, ⟨m1, rfl⟩⟩ := hrel
  cases gk with
  | zero => exact absurd HA.out (by simp [spec_l10All.l0])
  | succ k1 =>
   have H := HA.out; clear HA
   simp only [spec_l10All.l0] at H
   by_cases c3 : x5_1 < (l0.length : Int)
   ·
    rw [if_pos c3] at H; have c3b0 : decide (x5_1 < (l0.length : Int)) = true := decide_eq_true c3; clear c3
    by_cases c4 : 0 ≤ x5_1
    ·
     rw [if_pos c4] at H; have c4b0 : decide (0 ≤ x5_1) = true := decide_eq_true c4; clear c4; obtain ⟨t617, A5, H⟩ := bnd9_ H
     by_cases c6 : (Go.bits .and .i64 t617 ((rd_T48 l0 x5_1).f1)) = ((rd_T48 l0 x5_1).f1)
     ·
      rw [if_pos c6] at H; have c6b0 : ((Go.bits .and .i64 t617 ((rd_T48 l0 x5_1).f1)) == ((rd_T48 l0 x5_1).f1)) = true := beq_iff_eq.mpr c6; have c6b1 : ((Go.bits .and .i64 t617 ((rd_T48 l0 x5_1).f1)) != ((rd_T48 l0 x5_1).f1)) = false := bne_eq_false_iff_eq.mpr c6; clear c6; have H' := Aside0.mk H; clear H; have p616 : 0 ≤ (x5_1 : Int) := of_decide_eq_true s4_; have q616 : x5_1 < (l0.length : Int) := of_decide_eq_true s4_; obtain ⟨ad616, e616, hx616_0, hx616_1⟩ := at_T48 HR0.out x5_1 p616 q616
      cases e616
      replace p616 := eq_true p616; replace q616 := eq_true q616
      go_wp2_with (first | (go_at_call 138; (with_reducible refine (spec_l9Closed.calls k1 _ _ l1 ((rd_T48 l0 x5_1).f0) t617 _ ?side1 ?side2 A5.out).mono ?_); (case side1 => exact q9_3); (case side2 => exact HC1.out); rintro e w' ⟨rfl, ⟨nd, rfl⟩⟩; (try exact dn_); have p618 : 0 ≤ (x5_1 : Int) := of_decide_eq_true s4_; have q618 : x5_1 < (l0.length : Int) := of_decide_eq_true s4_; obtain ⟨ad618, e618, hx618_0, hx618_1⟩ := at_T48 HR0.out x5_1 p618 q618; obtain rfl : ad616 = ad618 := (by injection e618); replace p618 := eq_true p618; replace q618 := eq_true q618; have p619 : 0 ≤ (x5_1 : Int) := of_decide_eq_true s4_; have q619 : x5_1 < (l0.length : Int) := of_decide_eq_true s4_; obtain ⟨ad619, e619, hx619_0, hx619_1⟩ := at_T48 HR0.out x5_1 p619 q619; obtain rfl : ad616 = ad619 := (by injection e619); replace p619 := eq_true p619; replace q619 := eq_true q619))
      repeat (go_quiet (first | (go_at_call 138; (with_reducible refine (spec_l9Closed.calls k1 _ _ l1 ((rd_T48 l0 x5_1).f0) t617 _ ?side1 ?side2 A5.out).mono ?_); (case side1 => exact q9_3); (case side2 => exact HC1.out); rintro e w' ⟨rfl, ⟨nd, rfl⟩⟩; (try exact dn_); have p618 : 0 ≤ (x5_1 : Int) := of_decide_eq_true s4_; have q618 : x5_1 < (l0.length : Int) := of_decide_eq_true s4_; obtain ⟨ad618, e618, hx618_0, hx618_1⟩ := at_T48 HR0.out x5_1 p618 q618; obtain rfl : ad616 = ad618 := (by injection e618); replace p618 := eq_true p618; replace q618 := eq_true q618; have p619 : 0 ≤ (x5_1 : Int) := of_decide_eq_true s4_; have q619 : x5_1 < (l0.length : Int) := of_decide_eq_true s4_; obtain ⟨ad619, e619, hx619_0, hx619_1⟩ := at_T48 HR0.out x5_1 p619 q619; obtain rfl : ad616 = ad619 := (by injection e619); replace p619 := eq_true p619; replace q619 := eq_true q619)); try go_wp2_with (first | (go_at_call 138; (with_reducible refine (spec_l9Closed.calls k1 _ _ l1 ((rd_T48 l0 x5_1).f0) t617 _ ?side1 ?side2 A5.out).mono ?_); (case side1 => exact q9_3); (case side2 => exact HC1.out); rintro e w' ⟨rfl, ⟨nd, rfl⟩⟩; (try exact dn_); have p618 : 0 ≤ (x5_1 : Int) := of_decide_eq_true s4_; have q618 : x5_1 < (l0.length : Int) := of_decide_eq_true s4_; obtain ⟨ad618, e618, hx618_0, hx618_1⟩ := at_T48 HR0.out x5_1 p618 q618; obtain rfl : ad616 = ad618 := (by injection e618); replace p618 := eq_true p618; replace q618 := eq_true q618; have p619 : 0 ≤ (x5_1 : Int) := of_decide_eq_true s4_; have q619 : x5_1 < (l0.length : Int) := of_decide_eq_true s4_; obtain ⟨ad619, e619, hx619_0, hx619_1⟩ := at_T48 HR0.out x5_1 p619 q619; obtain rfl : ad616 = ad619 := (by injection e619); replace p619 := eq_true p619; replace q619 := eq_true q619)))
      go_roundg k1
      case measure => have := HK1.out; omega
      case rel => exact ⟨(wrap64 (x5_1 + 1)), s3_, H', ⟨by have := HK1.out; omega⟩, s6_⟩
     ·
      rw [if_neg c6] at H; have c6b0 : ((Go.bits .and .i64 t617 ((rd_T48 l0 x5_1).f1)) == ((rd_T48 l0 x5_1).f1)) = false := beq_eq_false_iff_ne.mpr c6; have c6b1 : ((Go.bits .and .i64 t617 ((rd_T48 l0 x5_1).f1)) != ((rd_T48 l0 x5_1).f1)) = true := bne_iff_ne.mpr c6; obtain rfl := Option.some.inj H; have p616 : 0 ≤ (x5_1 : Int) := of_decide_eq_true s4_; have q616 : x5_1 < (l0.length : Int) := of_decide_eq_true s4_; obtain ⟨ad616, e616, hx616_0, hx616_1⟩ := at_T48 HR0.out x5_1 p616 q616
      cases e616
      replace p616 := eq_true p616; replace q616 := eq_true q616
      go_wp2_with (first | (go_at_call 138; (with_reducible refine (spec_l9Closed.calls k1 _ _ l1 ((rd_T48 l0 x5_1).f0) t617 _ ?side1 ?side2 A5.out).mono ?_); (case side1 => exact q9_3); (case side2 => exact HC1.out); rintro e w' ⟨rfl, ⟨nd, rfl⟩⟩; (try exact dn_); have p618 : 0 ≤ (x5_1 : Int) := of_decide_eq_true s4_; have q618 : x5_1 < (l0.length : Int) := of_decide_eq_true s4_; obtain ⟨ad618, e618, hx618_0, hx618_1⟩ := at_T48 HR0.out x5_1 p618 q618; obtain rfl : ad616 = ad618 := (by injection e618); replace p618 := eq_true p618; replace q618 := eq_true q618; have p619 : 0 ≤ (x5_1 : Int) := of_decide_eq_true s4_; have q619 : x5_1 < (l0.length : Int) := of_decide_eq_true s4_; obtain ⟨ad619, e619, hx619_0, hx619_1⟩ := at_T48 HR0.out x5_1 p619 q619; obtain rfl : ad616 = ad619 := (by injection e619); replace p619 := eq_true p619; replace q619 := eq_true q619))
      repeat (go_quiet (first | (go_at_call 138; (with_reducible refine (spec_l9Closed.calls k1 _ _ l1 ((rd_T48 l0 x5_1).f0) t617 _ ?side1 ?side2 A5.out).mono ?_); (case side1 => exact q9_3); (case side2 => exact HC1.out); rintro e w' ⟨rfl, ⟨nd, rfl⟩⟩; (try exact dn_); have p618 : 0 ≤ (x5_1 : Int) := of_decide_eq_true s4_; have q618 : x5_1 < (l0.length : Int) := of_decide_eq_true s4_; obtain ⟨ad618, e618, hx618_0, hx618_1⟩ := at_T48 HR0.out x5_1 p618 q618; obtain rfl : ad616 = ad618 := (by injection e618); replace p618 := eq_true p618; replace q618 := eq_true q618; have p619 : 0 ≤ (x5_1 : Int) := of_decide_eq_true s4_; have q619 : x5_1 < (l0.length : Int) := of_decide_eq_true s4_; obtain ⟨ad619, e619, hx619_0, hx619_1⟩ := at_T48 HR0.out x5_1 p619 q619; obtain rfl : ad616 = ad619 := (by injection e619); replace p619 := eq_true p619; replace q619 := eq_true q619)); try go_wp2_with (first | (go_at_call 138; (with_reducible refine (spec_l9Closed.calls k1 _ _ l1 ((rd_T48 l0 x5_1).f0) t617 _ ?side1 ?side2 A5.out).mono ?_); (case side1 => exact q9_3); (case side2 => exact HC1.out); rintro e w' ⟨rfl, ⟨nd, rfl⟩⟩; (try exact dn_); have p618 : 0 ≤ (x5_1 : Int) := of_decide_eq_true s4_; have q618 : x5_1 < (l0.length : Int) := of_decide_eq_true s4_; obtain ⟨ad618, e618, hx618_0, hx618_1⟩ := at_T48 HR0.out x5_1 p618 q618; obtain rfl : ad616 = ad618 := (by injection e618); replace p618 := eq_true p618; replace q618 := eq_true q618; have p619 : 0 ≤ (x5_1 : Int) := of_decide_eq_true s4_; have q619 : x5_1 < (l0.length : Int) := of_decide_eq_true s4_; obtain ⟨ad619, e619, hx619_0, hx619_1⟩ := at_T48 HR0.out x5_1 p619 q619; obtain rfl : ad616 = ad619 := (by injection e619); replace p619 := eq_true p619; replace q619 := eq_true q619)))
      go_ret
      exact ⟨s3_, s6_⟩
    ·
     rw [if_neg c4] at H
     exact absurd H (by simp)
   ·
    rw [if_neg c3] at H; have c3b0 : decide (x5_1 < (l0.length : Int)) = false := decide_eq_false c3; clear c3; obtain rfl := Option.some.inj H
    go_wp2
    repeat (go_quiet (fail); try go_wp2)
    go_ret
    exact ⟨s3_, s6_⟩
theorem bnd13_ {α β : Type} {o : Option α} {f : α → Option β} {r : β} (h : o.bind f = some r) : ∃ a, Aside0 (o = some a) ∧ f a = some r := by
 obtain ⟨a, h1, h2⟩ := Option.bind_eq_some_iff.mp h
 exact ⟨a, ⟨h1⟩, h2⟩
theorem q13_1 {P : Prop} (h : P := by repeat (first | (with_reducible first | exact HB.out | apply below_alloc | apply pw_below_drewN | apply below_drew1 | refine below_set ?_ GE1068.out | refine below_set ?_ GE1069.out) | exact HB.out)) : P := h
theorem q13_3 {P : Prop} (h : P := by repeat (first | (with_reducible first | exact HB.out | apply below_alloc | apply pw_below_drewN | apply below_drew1 | refine below_set ?_ GE1068.out) | exact HB.out)) : P := h
theorem q13_6 {P : Prop} (h : P := by (with_reducible repeat (first | refine blk_drewN ?_ _ | refine blk_drew ?_ | refine blk_alloc ?_ _)); exact BK1068.out) : P := h
theorem q13_7 {P : Prop} (h : P := by (with_reducible repeat (first | refine blk_drewN ?_ _ | refine blk_drew ?_ | refine blk_alloc ?_ _)); exact BK1069.out) : P := h
def spec_HoldsIn.f (k : Nat) (a0_0 : Int) (l0_1 : List Int) (a1_0 : Int) (a1_1 : Int) : Option (Bool) := (spec_IsContext.f k a0_0 l0_1).bind fun t1070 => (if t1070 = true then ((spec_l9Rule.f a0_0 a1_0 a1_1).bind fun t1071 => (if t1071 = true then ((spec_l4Closure.f k a0_0 l0_1 a1_0).bind fun t1072 => (some ((Go.bits .and .i64 a1_1 t1072) == a1_1))) else (some false))) else (some false))
def spec_HoldsIn.T3 : Bool × List (List Nat × List Nat) := (true, [([], []), ([0], [0]), ([], []), ([], []), ([3], [3]), ([2, 4], [2, 4]), ([1, 5], [1, 5]), ([], []), ([7], [7]), ([6, 8], [6, 8]), ([9, 5, 0, 1, 2, 3, 4, 5, 6, 7, 8, 9], [9])])
def spec_HoldsIn.B3 : List Nat := [0, 1, 0, 0, 8, 28, 63, 0, 128, 511, 1023]
theorem spec_HoldsIn.tab3 : rtab .any (opsOf Tryz.f78 3) = spec_HoldsIn.T3 := by kernel_rfl
theorem spec_HoldsIn.bits3 : waitsOk spec_HoldsIn.T3.2 spec_HoldsIn.B3 = true := by kernel_rfl
set_option maxHeartbeats 40000000 in
set_option maxRecDepth 100000 in
theorem spec_HoldsIn.calls (k : Nat) (a0_0 : Int) (A0_1 : Option Addr) (c0_1 : Nat) (l0_1 : List Int) (a1_0 : Int) (a1_1 : Int) (r : Bool) (w : World) (hr0_1 : Kd.C (Kd.int .i64) w A0_1 l0_1.length l0_1) (hc0_1 : l0_1.length ≤ c0_1) (h : spec_HoldsIn.f k a0_0 l0_1 a1_0 a1_1 = some r) :
  Calls Tryz.prog 78 #[.agg #[.int .i64 a0_0, .slice A0_1 l0_1.length c0_1], .agg #[.int .i64 a1_0, .int .i64 a1_1]] w fun e w' => e = .returned (.bool r) ∧ Below w.heap.size w w' := by
 have hu29 := Tryz.underlying29; have hu48 := Tryz.underlying48; have HR0_1 := Aside0.mk hr0_1; have HC0_1 := Aside0.mk hc0_1; clear hr0_1 hc0_1; have HB := Aside0.mk (Below.refl w.heap.size w); have H := h; clear h; unfold spec_HoldsIn.f at H; obtain ⟨t1070, A3, H⟩ := bnd13_ H
 by_cases c4 : t1070 = true
 ·
  subst c4; rw [if_pos rfl] at H; obtain ⟨t1071, A5, H⟩ := bnd13_ H
  by_cases c6 : t1071 = true
  ·
   subst c6; rw [if_pos rfl] at H; obtain ⟨t1072, A7, H⟩ := bnd13_ H; obtain rfl := Option.some.inj H
   go_enter Tryz.func78, Tryz.ntmps78
   try go_wp2_with (first | ((with_reducible refine gw_ rfl ?_); first | (refine be_ 2 #[.int .i64 a0_0, .slice A0_1 l0_1.length c0_1] 29 ?_; intro gb1068 hg w8 hbox hb; have n_ := ac_ (below_step s1_ hb) <| ac_ (hbox) <| ac_ ((gz_ w hg s1_)) <| Aside0.mk ((gz_ w hg s1_)); clear HB; obtain ⟨HB, BK1068, GW1068, GE1068⟩ := n_; clear hb hbox hg) | (refine be_ 3 #[.int .i64 a1_0, .int .i64 a1_1] 48 ?_; intro gb1069 hg w9 hbox hb; have n_ := ac_ (blk_below (g := gb1068) (o := .cells #[.int .i64 a0_0, .slice A0_1 l0_1.length c0_1] 29 (0, 0)) q13_6 hb) <| ac_ (below_step q13_3 hb) <| ac_ (hbox) <| ac_ ((gz_ w hg q13_3)) <| ac_ ((gz_ w hg q13_3)) <| ac_ ((nl_ hg (blk_lt (g := gb1068) (o := .cells #[.int .i64 a0_0, .slice A0_1 l0_1.length c0_1] 29 (0, 0)) q13_6))) <| Aside0.mk ((ng_ hg (blk_lt (g := gb1068) (o := .cells #[.int .i64 a0_0, .slice A0_1 l0_1.length c0_1] 29 (0, 0)) q13_6))); clear BK1068 HB; obtain ⟨BK1068, HB, BK1069, GW1069, GE1069, NB1068_1069, NB1069_1068⟩ := n_; clear hb hbox hg; have hnb10 := NB1068_1069.out; have hnc10 := NB1069_1068.out; have hcz11_0 : w9.cell? ⟨gb1068, 0, none⟩ = some (.int .i64 a0_0) := (blk_cell BK1068.out 0).trans rfl; have hcz11_1 : w9.cell? ⟨gb1068, 1, none⟩ = some (.slice A0_1 l0_1.length c0_1) := (blk_cell BK1068.out 1).trans rfl; have hfz11_0 := blk_frozen BK1068.out 0; have hfz11_1 := blk_frozen BK1068.out 1) | (refine gL_ 61 6 Tryz.func61 #[.agg #[.int .i64 a0_0, .slice A0_1 l0_1.length c0_1]] ?_; (with_reducible refine (spec_IsContext.calls k a0_0 _ _ l0_1 true _ ?side1 ?side2 A3.out).mono ?_); (case side1 => exact s2_); (case side2 => exact HC0_1.out); rintro e w12 ⟨rfl, hb⟩; refine ⟨_, rfl, ?_⟩; have n_ := ac_ (blk_below (g := gb1068) (o := .cells #[.int .i64 a0_0, .slice A0_1 l0_1.length c0_1] 29 (0, 0)) q13_6 hb) <| ac_ (blk_below (g := gb1069) (o := .cells #[.int .i64 a1_0, .int .i64 a1_1] 48 (0, 0)) q13_7 hb) <| Aside0.mk (below_step q13_1 hb); clear BK1068 BK1069 HB; obtain ⟨BK1068, BK1069, HB⟩ := n_; (try clear hb); have hcz13_0 : w12.cell? ⟨gb1068, 0, none⟩ = some (.int .i64 a0_0) := (blk_cell BK1068.out 0).trans rfl; have hcz13_1 : w12.cell? ⟨gb1068, 1, none⟩ = some (.slice A0_1 l0_1.length c0_1) := (blk_cell BK1068.out 1).trans rfl; have hfz13_0 := blk_frozen BK1068.out 0; have hfz13_1 := blk_frozen BK1068.out 1; have hcz14_0 : w12.cell? ⟨gb1069, 0, none⟩ = some (.int .i64 a1_0) := (blk_cell BK1069.out 0).trans rfl; have hcz14_1 : w12.cell? ⟨gb1069, 1, none⟩ = some (.int .i64 a1_1) := (blk_cell BK1069.out 1).trans rfl; have hfz14_0 := blk_frozen BK1069.out 0; have hfz14_1 := blk_frozen BK1069.out 1)) | (go_at_call 157; (with_reducible refine (spec_l9Rule.calls a0_0 a1_0 a1_1 true _ A5.out).mono ?_); rintro e w15 ⟨rfl, hb⟩; have n_ := ac_ (blk_below (g := gb1068) (o := .cells #[.int .i64 a0_0, .slice A0_1 l0_1.length c0_1] 29 (0, 0)) q13_6 hb) <| ac_ (blk_below (g := gb1069) (o := .cells #[.int .i64 a1_0, .int .i64 a1_1] 48 (0, 0)) q13_7 hb) <| Aside0.mk (below_step q13_1 hb); clear BK1068 BK1069 HB; obtain ⟨BK1068, BK1069, HB⟩ := n_; (try clear hb)))
   have n0_ := Aside0.mk (blk_drew BK1068.out); have n1_ := Aside0.mk (blk_drew BK1069.out); have n2_ := Aside0.mk (below_drew1 HB.out); clear BK1068; clear BK1069; clear HB; have BK1068 := n0_; have BK1069 := n1_; have HB := n2_; clear n0_ n1_ n2_
   refine start_ (n := 11) (S := fun w' => w'.cell? ⟨gb1069, 0, none⟩ = some (.int .i64 a1_0) ∧ w'.cell? ⟨gb1069, 1, none⟩ = some (.int .i64 a1_1) ∧ w'.cell? ⟨gb1068, 0, none⟩ = some (.int .i64 a0_0) ∧ w'.cell? ⟨gb1068, 1, none⟩ = some (.slice A0_1 l0_1.length c0_1)) (ds := []) (tb_ 11 0) (by kernel_rfl) rfl rfl ⟨(blk_cell BK1069.out 0).trans rfl, (blk_cell BK1069.out 1).trans rfl, (blk_cell BK1068.out 0).trans rfl, (blk_cell BK1068.out 1).trans rfl⟩ (fun hHeld => ?_); refine with_tabW spec_HoldsIn.tab3 spec_HoldsIn.bits3 (fun HT_ HW_ => ?_)
   generalize w15.drew = w16 at BK1068 BK1069 HB hHeld ⊢
   refine pl_ 0 15 (tb_ 11 1) ?_; refine pl_ 3 18 (tb_ 11 9) ?_; refine pl_ 7 22 (tb_ 11 137) ?_; refine tk_ 1 16 (tb_ 11 139) hHeld ?_; refine tk_ 2 17 (tb_ 11 143) hHeld ?_; refine tk_ 4 19 (tb_ 11 159) hHeld ?_; refine tk_ 8 23 (tb_ 11 415) hHeld ?_
   refine on_ 5 20 (tb_ 11 447) (fun K hK => ?_)
   refine goes_ Tryz.func135 (by kernel_rfl) rfl #[.agg #[.int .i64 a0_0, .slice A0_1 l0_1.length c0_1], .int .i64 a1_0] (by rfl) rfl rfl s0_ ?_
   with_reducible refine (spec_l4Closure.calls k a0_0 _ _ l0_1 a1_0 t1072 _ ?side1 ?side2 A7.out).mono ?_
   (case side1 => exact s2_)
   (case side2 => exact HC0_1.out)
   rintro e w17 ⟨rfl, hb⟩
   refine ⟨_, rfl, ?_⟩
   have n0_ := Aside0.mk (blk_below (g := gb1068) (o := .cells #[.int .i64 a0_0, .slice A0_1 l0_1.length c0_1] 29 (0, 0)) q13_6 hb); have n1_ := Aside0.mk (blk_below (g := gb1069) (o := .cells #[.int .i64 a1_0, .int .i64 a1_1] 48 (0, 0)) q13_7 hb); have n2_ := Aside0.mk (below_step q13_1 hb); clear BK1068; clear BK1069; clear HB; have BK1068 := n0_; have BK1069 := n1_; have HB := n2_; clear n0_ n1_ n2_
   (try clear hb)
   (try clear hb2)
   (try clear hk)
   (try clear hi)
   refine hK.out _ _ ⟨(blk_cell BK1069.out 0).trans rfl, (blk_cell BK1069.out 1).trans rfl, (blk_cell BK1068.out 0).trans rfl, (blk_cell BK1068.out 1).trans rfl⟩ (fun hHeld => ?_)
   clear hK K
   refine norm_ (a' := ?_) ?_ ?_
   rotate_left
   ·
    show Act.put _ (some 20) _ = _
    simp only [Act.put, List.setIfInBounds_toArray, List.set_cons_zero, List.set_cons_succ, i64_w, i32_w]
    rfl
   refine pl_ 6 21 (tb_ 11 511) ?_; refine pl_ 9 24 (tb_ 11 1023) ?_; refine pl_ 10 4 (tb_ 11 2047) ?_
   refine done_ (done_of HT_.out (by kernel_rfl)) ?_
   try go_wp2
   go_ret
   exact ⟨s5_, q13_1⟩
  ·
   replace c6 := Bool.eq_false_iff.mpr c6; subst c6
   rw [if_neg (show ¬ (false = true) by decide)] at H
   obtain rfl := Option.some.inj H
   go_enter Tryz.func78, Tryz.ntmps78
   go_wp2_with (first | ((with_reducible refine gw_ rfl ?_); first | (refine be_ 2 #[.int .i64 a0_0, .slice A0_1 l0_1.length c0_1] 29 ?_; intro gb1068 hg w18 hbox hb; have n_ := ac_ (below_step s1_ hb) <| ac_ (hbox) <| ac_ ((gz_ w hg s1_)) <| Aside0.mk ((gz_ w hg s1_)); clear HB; obtain ⟨HB, BK1068, GW1068, GE1068⟩ := n_; clear hb hbox hg) | (refine be_ 3 #[.int .i64 a1_0, .int .i64 a1_1] 48 ?_; intro gb1069 hg w19 hbox hb; have n_ := ac_ (blk_below (g := gb1068) (o := .cells #[.int .i64 a0_0, .slice A0_1 l0_1.length c0_1] 29 (0, 0)) q13_6 hb) <| ac_ (below_step q13_3 hb) <| ac_ (hbox) <| ac_ ((gz_ w hg q13_3)) <| ac_ ((gz_ w hg q13_3)) <| ac_ ((nl_ hg (blk_lt (g := gb1068) (o := .cells #[.int .i64 a0_0, .slice A0_1 l0_1.length c0_1] 29 (0, 0)) q13_6))) <| Aside0.mk ((ng_ hg (blk_lt (g := gb1068) (o := .cells #[.int .i64 a0_0, .slice A0_1 l0_1.length c0_1] 29 (0, 0)) q13_6))); clear BK1068 HB; obtain ⟨BK1068, HB, BK1069, GW1069, GE1069, NB1068_1069, NB1069_1068⟩ := n_; clear hb hbox hg; have hnb20 := NB1068_1069.out; have hnc20 := NB1069_1068.out; have hcz21_0 : w19.cell? ⟨gb1068, 0, none⟩ = some (.int .i64 a0_0) := (blk_cell BK1068.out 0).trans rfl; have hcz21_1 : w19.cell? ⟨gb1068, 1, none⟩ = some (.slice A0_1 l0_1.length c0_1) := (blk_cell BK1068.out 1).trans rfl; have hfz21_0 := blk_frozen BK1068.out 0; have hfz21_1 := blk_frozen BK1068.out 1) | (refine gL_ 61 6 Tryz.func61 #[.agg #[.int .i64 a0_0, .slice A0_1 l0_1.length c0_1]] ?_; (with_reducible refine (spec_IsContext.calls k a0_0 _ _ l0_1 true _ ?side1 ?side2 A3.out).mono ?_); (case side1 => exact s2_); (case side2 => exact HC0_1.out); rintro e w22 ⟨rfl, hb⟩; refine ⟨_, rfl, ?_⟩; have n_ := ac_ (blk_below (g := gb1068) (o := .cells #[.int .i64 a0_0, .slice A0_1 l0_1.length c0_1] 29 (0, 0)) q13_6 hb) <| ac_ (blk_below (g := gb1069) (o := .cells #[.int .i64 a1_0, .int .i64 a1_1] 48 (0, 0)) q13_7 hb) <| Aside0.mk (below_step q13_1 hb); clear BK1068 BK1069 HB; obtain ⟨BK1068, BK1069, HB⟩ := n_; (try clear hb); have hcz23_0 : w22.cell? ⟨gb1068, 0, none⟩ = some (.int .i64 a0_0) := (blk_cell BK1068.out 0).trans rfl; have hcz23_1 : w22.cell? ⟨gb1068, 1, none⟩ = some (.slice A0_1 l0_1.length c0_1) := (blk_cell BK1068.out 1).trans rfl; have hfz23_0 := blk_frozen BK1068.out 0; have hfz23_1 := blk_frozen BK1068.out 1; have hcz24_0 : w22.cell? ⟨gb1069, 0, none⟩ = some (.int .i64 a1_0) := (blk_cell BK1069.out 0).trans rfl; have hcz24_1 : w22.cell? ⟨gb1069, 1, none⟩ = some (.int .i64 a1_1) := (blk_cell BK1069.out 1).trans rfl; have hfz24_0 := blk_frozen BK1069.out 0; have hfz24_1 := blk_frozen BK1069.out 1)) | (go_at_call 157; (with_reducible refine (spec_l9Rule.calls a0_0 a1_0 a1_1 false _ A5.out).mono ?_); rintro e w25 ⟨rfl, hb⟩; have n_ := ac_ (blk_below (g := gb1068) (o := .cells #[.int .i64 a0_0, .slice A0_1 l0_1.length c0_1] 29 (0, 0)) q13_6 hb) <| ac_ (blk_below (g := gb1069) (o := .cells #[.int .i64 a1_0, .int .i64 a1_1] 48 (0, 0)) q13_7 hb) <| Aside0.mk (below_step q13_1 hb); clear BK1068 BK1069 HB; obtain ⟨BK1068, BK1069, HB⟩ := n_; (try clear hb)))
   go_ret
   exact ⟨s5_, q13_1⟩
 ·
  replace c4 := Bool.eq_false_iff.mpr c4; subst c4
  rw [if_neg (show ¬ (false = true) by decide)] at H
  obtain rfl := Option.some.inj H
  go_enter Tryz.func78, Tryz.ntmps78
  go_wp2_with ((with_reducible refine gw_ rfl ?_); first | (refine be_ 2 #[.int .i64 a0_0, .slice A0_1 l0_1.length c0_1] 29 ?_; intro gb1068 hg w26 hbox hb; have n_ := ac_ (below_step s1_ hb) <| ac_ (hbox) <| ac_ ((gz_ w hg s1_)) <| Aside0.mk ((gz_ w hg s1_)); clear HB; obtain ⟨HB, BK1068, GW1068, GE1068⟩ := n_; clear hb hbox hg) | (refine be_ 3 #[.int .i64 a1_0, .int .i64 a1_1] 48 ?_; intro gb1069 hg w27 hbox hb; have n_ := ac_ (blk_below (g := gb1068) (o := .cells #[.int .i64 a0_0, .slice A0_1 l0_1.length c0_1] 29 (0, 0)) q13_6 hb) <| ac_ (below_step q13_3 hb) <| ac_ (hbox) <| ac_ ((gz_ w hg q13_3)) <| ac_ ((gz_ w hg q13_3)) <| ac_ ((nl_ hg (blk_lt (g := gb1068) (o := .cells #[.int .i64 a0_0, .slice A0_1 l0_1.length c0_1] 29 (0, 0)) q13_6))) <| Aside0.mk ((ng_ hg (blk_lt (g := gb1068) (o := .cells #[.int .i64 a0_0, .slice A0_1 l0_1.length c0_1] 29 (0, 0)) q13_6))); clear BK1068 HB; obtain ⟨BK1068, HB, BK1069, GW1069, GE1069, NB1068_1069, NB1069_1068⟩ := n_; clear hb hbox hg; have hnb28 := NB1068_1069.out; have hnc28 := NB1069_1068.out; have hcz29_0 : w27.cell? ⟨gb1068, 0, none⟩ = some (.int .i64 a0_0) := (blk_cell BK1068.out 0).trans rfl; have hcz29_1 : w27.cell? ⟨gb1068, 1, none⟩ = some (.slice A0_1 l0_1.length c0_1) := (blk_cell BK1068.out 1).trans rfl; have hfz29_0 := blk_frozen BK1068.out 0; have hfz29_1 := blk_frozen BK1068.out 1) | (refine gL_ 61 6 Tryz.func61 #[.agg #[.int .i64 a0_0, .slice A0_1 l0_1.length c0_1]] ?_; (with_reducible refine (spec_IsContext.calls k a0_0 _ _ l0_1 false _ ?side1 ?side2 A3.out).mono ?_); (case side1 => exact s2_); (case side2 => exact HC0_1.out); rintro e w30 ⟨rfl, hb⟩; refine ⟨_, rfl, ?_⟩; have n_ := ac_ (blk_below (g := gb1068) (o := .cells #[.int .i64 a0_0, .slice A0_1 l0_1.length c0_1] 29 (0, 0)) q13_6 hb) <| ac_ (blk_below (g := gb1069) (o := .cells #[.int .i64 a1_0, .int .i64 a1_1] 48 (0, 0)) q13_7 hb) <| Aside0.mk (below_step q13_1 hb); clear BK1068 BK1069 HB; obtain ⟨BK1068, BK1069, HB⟩ := n_; (try clear hb)))
  go_ret
  exact ⟨s5_, q13_1⟩
end Go.Proofs.YtafnamchckehmaaGreatDoor.Pr
