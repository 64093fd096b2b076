/- Functions of the program as plain functions, proofs that their calls answer so, and plain laws: what the law needs. No condition beyond what each statement says. -/
import Derived.Test.YtfmpafgmcleogaaGreatDoorZFnLattice4
namespace Go.Proofs.YtfmpafgmcleogaaGreatDoor.Pr
set_option maxHeartbeats 40000000
set_option maxRecDepth 100000
open Go.RowKit Go.Proofs.YtfmpafgmcleogaaGreatDoorW.PrintWords Go.Proofs.YtfmpafgmcleogaaGreatDoorW.PrintLast Go.Proofs.YtfmpafgmcleogaaGreatDoorW.PrintMore
attribute [local go_sem] max2_int min2_int max_two min_two max_three min_three max_four min_four
set_option linter.unusedVariables false
set_option linter.unusedSimpArgs false
theorem bnd5_ {α β : Type} {o : Option α} {f : α → Option β} {r : β} (h : o.bind f = some r) : ∃ a, Aside0 (o = some a) ∧ f a = some r := by
 obtain ⟨a, h1, h2⟩ := Option.bind_eq_some_iff.mp h
 exact ⟨a, ⟨h1⟩, h2⟩
theorem q5_1 {P : Prop} (h : P := by (with_reducible repeat (first | apply Kd.R_alloc | apply Kd.R_drewN | apply Kd.R_drew)); exact (Kd.R_mono (Kd.R_far (p := ⟨gb250, 1, none⟩) (Kd.R_far (p := ⟨gb250, 0, none⟩) (Kd.R_types HO247.out BK250.out (by decide)) (fun _ hk => hk.2) (.int .i64 t244)) (fun _ hk => hk.2) (.slice Ao14 t245.length co14)) (fun _ h_ => h_.1))) : P := h
theorem q5_2 {P : Prop} (h : P := by repeat (first | (with_reducible first | exact HI243.out | apply IsS71.alloc | apply IsS71.drewN | apply IsS71.drew | apply IsS71.set_1 | apply IsS71.set_2 | refine IsS71.far ?_ NB243_239.out _ | refine IsS71.far ?_ NB243_250.out _) | exact HI243.out)) : P := h
theorem q5_3 {P : Prop} (h : P := by repeat (first | (with_reducible first | exact HB.out | apply below_alloc | apply pw_below_drewN | apply below_drew1 | refine below_set ?_ (IsS71.ge HI243.out) | refine below_set ?_ GE239.out | refine below_set ?_ GE250.out) | exact HB.out)) : P := h
theorem q5_4 {P : Prop} (h : P := by repeat (first | (with_reducible first | exact HI243.out | apply IsS71.alloc | apply IsS71.drewN | apply IsS71.drew | apply IsS71.set_1 | apply IsS71.set_2 | refine IsS71.far ?_ NB243_239.out _) | exact HI243.out)) : P := h
theorem q5_5 {P : Prop} (h : P := by repeat (first | (with_reducible first | exact HB.out | apply below_alloc | apply pw_below_drewN | apply below_drew1 | refine below_set ?_ (IsS71.ge HI243.out) | refine below_set ?_ GE239.out) | exact HB.out)) : P := h
theorem q5_8 {P : Prop} (h : P := by (with_reducible repeat (first | refine blk_drewN ?_ _ | refine blk_drew ?_ | refine blk_alloc ?_ _)); exact BK239.out) : P := h
theorem q5_9 {P : Prop} (h : P := by (with_reducible repeat (first | refine blk_drewN ?_ _ | refine blk_drew ?_ | refine blk_alloc ?_ _)); exact BK250.out) : P := h
theorem q5_10 {P : Prop} (h : P := by (with_reducible repeat (first | apply Kd.R_alloc | apply Kd.R_drewN | apply Kd.R_drew)); exact HO247.out) : P := h
def spec_l6Two.f (k : Nat) (l0 : List Int) : Option (Int × List Int × Int × Int) := (spec_l1New.f k l0).bind fun bt240 => ((spec_l3Bent.f k bt240.1 bt240.2.1 bt240.2.2).bind fun bt244 => ((spec_Concepts.f k bt244.1 bt244.2.1).bind fun t251 => ((spec_l1Below.f bt240.1 bt244.2.2.1 bt244.2.2.2 (wrap64 ((wrap64 ((t251.length : Int) + 1)) + 1))).bind fun bt254 => ((spec_l1Below.f bt240.1 bt254.2.1 bt254.2.2 (wrap64 ((wrap64 ((t251.length : Int) + 1)) + 1))).bind fun bt257 => (some (bt244.1, bt244.2.1, wrap64 (bt254.1 - 1), wrap64 (bt257.1 - 1)))))))
def spec_l6Two.T5 : Bool × List (List Nat × List Nat) := (true, [([], []), ([], []), ([], []), ([], []), ([3], [3]), ([2, 4], [2, 4]), ([5], [5]), ([0, 5, 0], [0]), ([1, 7, 0, 1, 7], [1]), ([6, 8, 0, 1, 2, 3, 4, 5, 6, 7, 8], [6])])
def spec_l6Two.B5 : List Nat := [0, 0, 0, 0, 8, 28, 60, 61, 191, 511]
theorem spec_l6Two.tab5 : rtab .any (opsOf Tryz.f29 5) = spec_l6Two.T5 := by kernel_rfl
theorem spec_l6Two.bits5 : waitsOk spec_l6Two.T5.2 spec_l6Two.B5 = true := by kernel_rfl
theorem spec_l6Two.calls (k : Nat) (A0 : Option Addr) (c0 : Nat) (l0 : List Int) (r1 : Int) (r2 : List Int) (r3 : Int) (r4 : Int) (w : World) (hr0 : Kd.C (Kd.int .u8) w A0 l0.length l0) (hc0 : l0.length ≤ c0) (h : spec_l6Two.f k l0 = some (r1, r2, r3, r4)) :
  Calls Tryz.prog 29 #[.slice A0 l0.length c0] w fun e w' => ∃ v1_ : Value, e = .returned (.tuple #[.agg #[.int .i64 r1, v1_], .int .i64 r3, .int .i64 r4]) ∧ Kd.R (Kd.int .i64) 3 w' w.heap.size (fun _ => True) v1_ r2 ∧ Below w.heap.size w w' := by
 have hu26 := Tryz.underlying26; have HR0 := Aside0.mk hr0; have HC0 := Aside0.mk hc0; clear hr0 hc0; have HB := Aside0.mk (Below.refl w.heap.size w); have H := h; clear h; unfold spec_l6Two.f at H; obtain ⟨⟨t240, t241, t242⟩, A2, H⟩ := bnd5_ H; dsimp only at H; obtain ⟨⟨t244, t245, t248, t249⟩, A3, H⟩ := bnd5_ H; dsimp only at H; obtain ⟨t251, A4, H⟩ := bnd5_ H; obtain ⟨⟨t254, t255, t256⟩, A5, H⟩ := bnd5_ H; dsimp only at H; obtain ⟨⟨t257, t258, t259⟩, A6, H⟩ := bnd5_ H; dsimp only at H
 simp only [Option.some.injEq, Prod.mk.injEq] at H
 obtain ⟨rfl, rfl, rfl, rfl⟩ := H
 go_enter Tryz.func29, Tryz.ntmps29
 try go_wp2_with (first | (refine be_ 2 #[.int .i64 0, .slice none 0 0] 26 ?_; intro gb239 hg w7 hbox hb; have n_ := ac_ (below_step s0_ hb) <| ac_ (hbox) <| ac_ ((gz_ w hg s0_)) <| Aside0.mk ((gz_ w hg s0_)); clear HB; obtain ⟨HB, BK239, GW239, GE239⟩ := n_; clear hb hbox hg) | (refine gL_ 37 10 Tryz.func37 #[.slice A0 l0.length c0] ?_; (with_reducible refine (spec_l1New.calls k _ _ l0 t240 t241 t242 w _ ?side1 ?side2 ?side3 A2.out).mono ?_); (case side1 => repeat (first | (with_reducible first | exact HB.out | apply below_alloc | apply pw_below_drewN | apply below_drew1 | refine below_set ?_ GE239.out) | exact HB.out)); (case side2 => exact HR0.out); (case side3 => exact HC0.out); rintro e w8 ⟨g243, rfl, hi, hb, hb2⟩; refine ⟨_, rfl, ?_⟩; have n_ := ac_ (blk_below (g := gb239) (o := .cells #[.int .i64 0, .slice none 0 0] 26 (0, 0)) q5_8 hb2) <| ac_ (hb) <| ac_ (hi) <| ac_ (IsS71.ne_blk hi (blk_below (g := gb239) (o := .cells #[.int .i64 0, .slice none 0 0] 26 (0, 0)) q5_8 hb2) (by decide)) <| Aside0.mk (Ne.symm (IsS71.ne_blk hi (blk_below (g := gb239) (o := .cells #[.int .i64 0, .slice none 0 0] 26 (0, 0)) q5_8 hb2) (by decide))); clear BK239 HB; obtain ⟨BK239, HB, HI243, NB243_239, NB239_243⟩ := n_; (try clear hb hb2 hi)) | (refine gL_ 36 12 Tryz.func36 #[.pointer (some ⟨g243, 0, none⟩)] ?_; (with_reducible refine (spec_l3Bent.calls k g243 t240 t241 t242 t244 t245 t248 t249 w _ ?side1 ?side2 A3.out).mono ?_); (case side1 => exact q5_4); (case side2 => exact q5_5); rintro e w9 ⟨v246, rfl, ho0, hi, hb, hk⟩; refine ⟨_, rfl, ?_⟩; have n_ := ac_ (KeepBut.blk hk (g' := gb239) (o := .cells #[.int .i64 0, .slice none 0 0] 26 (0, 0)) q5_8 NB239_243.out (by simp)) <| ac_ (Kd.R_lower ho0 (below_size q5_5)) <| ac_ (hb) <| Aside0.mk (hi); clear BK239 HB HI243; obtain ⟨BK239, HO247, HB, HI243⟩ := n_; (try clear hb hk hi ho0)) | (refine be_ 6 #[.int .i64 0, .slice none 0 0] 26 ?_; intro gb250 hg w10 hbox hb; have n_ := ac_ (Kd.R_below q5_10 hb) <| ac_ (blk_below (g := gb239) (o := .cells #[.int .i64 0, .slice none 0 0] 26 (0, 0)) q5_8 hb) <| ac_ (IsS71.below q5_4 hb) <| ac_ (below_step q5_5 hb) <| ac_ (hbox) <| ac_ ((gz_ w hg q5_5)) <| ac_ ((gz_ w hg q5_5)) <| ac_ ((nl_ hg (blk_lt (g := gb239) (o := .cells #[.int .i64 0, .slice none 0 0] 26 (0, 0)) q5_8))) <| ac_ ((ng_ hg (blk_lt (g := gb239) (o := .cells #[.int .i64 0, .slice none 0 0] 26 (0, 0)) q5_8))) <| ac_ ((nl_ hg (IsS71.lt (show IsS71 w _ g243 t240 t248 t249 from q5_4)))) <| Aside0.mk ((ng_ hg (IsS71.lt (show IsS71 w _ g243 t240 t248 t249 from q5_4)))); clear HO247 BK239 HI243 HB; obtain ⟨HO247, BK239, HI243, HB, BK250, GW250, GE250, NB239_250, NB250_239, NB243_250, NB250_243⟩ := n_; clear hb hbox hg; have hnb11 := NB250_239.out; have hnc11 := NB239_250.out; have hnb12 := NB250_243.out; have hnc12 := NB243_250.out; have hcz13_0 : w10.cell? ⟨gb250, 0, none⟩ = some (.int .i64 0) := (blk_cell BK250.out 0).trans rfl; have hcz13_1 : w10.cell? ⟨gb250, 1, none⟩ = some (.slice none 0 0) := (blk_cell BK250.out 1).trans rfl; have hfz13_0 := blk_frozen BK250.out 0; have hfz13_1 := blk_frozen BK250.out 1; obtain ⟨Ao14, co14, eo14⟩ := Kd.R_slice HO247.out; subst eo14) | (refine gL_ 28 14 Tryz.func28 #[.agg #[.int .i64 t244, .slice Ao14 t245.length co14]] ?_; (with_reducible refine (spec_Concepts.calls k t244 _ _ t245 t251 _ ?side1 ?side2 A4.out).mono ?_); (case side1 => refine (Kd.R_reads' (e := 3) (base := w.heap.size) (ok := fun k_ => True) (n := t245.length) (c := co14) ?_).2.2; exact q5_1); (case side2 => exact (Kd.R_reads' HO247.out).2.1); rintro e w15 ⟨v252, rfl, ho0, hb⟩; refine ⟨_, rfl, ?_⟩; have n_ := ac_ (Kd.R_below q5_1 hb) <| ac_ (Kd.R_lower ho0 (below_size q5_3)) <| ac_ (blk_below (g := gb239) (o := .cells #[.int .i64 0, .slice none 0 0] 26 (0, 0)) (by (with_reducible repeat (first | refine blk_drewN ?_ _ | refine blk_drew ?_ | refine blk_alloc ?_ _)); refine blk_far ?_ NB239_250.out _; (with_reducible repeat (first | refine blk_drewN ?_ _ | refine blk_drew ?_ | refine blk_alloc ?_ _)); refine blk_far ?_ NB239_250.out _; (with_reducible repeat (first | refine blk_drewN ?_ _ | refine blk_drew ?_ | refine blk_alloc ?_ _)); exact BK239.out) hb) <| ac_ (IsS71.below (show IsS71 w ((w10.setCell ⟨gb250, 0, none⟩ (.int .i64 t244)).setCell ⟨gb250, 1, none⟩ (.slice Ao14 t245.length co14)) g243 t240 t248 t249 from q5_2) hb) <| ac_ (blk_below (g := gb250) (o := .cells #[.int .i64 t244, .slice Ao14 t245.length co14] 26 (0, 0)) (by (with_reducible repeat (first | refine blk_drewN ?_ _ | refine blk_drew ?_ | refine blk_alloc ?_ _)); refine blk_put (cs := #[.int .i64 t244, .slice none 0 0]) ?_ 1 _ rfl; (with_reducible repeat (first | refine blk_drewN ?_ _ | refine blk_drew ?_ | refine blk_alloc ?_ _)); refine blk_put (cs := #[.int .i64 0, .slice none 0 0]) ?_ 0 _ rfl; (with_reducible repeat (first | refine blk_drewN ?_ _ | refine blk_drew ?_ | refine blk_alloc ?_ _)); exact BK250.out) hb) <| Aside0.mk (below_step q5_3 hb); clear HO247 BK239 HI243 BK250 HB; obtain ⟨HO247, HO253, BK239, HI243, BK250, HB⟩ := n_; (try clear hb ho0); obtain ⟨Ao16, co16, eo16⟩ := Kd.R_slice HO253.out; subst eo16) | (refine gL_ 53 20 Tryz.func53 #[.pointer (some ⟨g243, 0, none⟩), .int .i64 (wrap64 ((wrap64 ((t251.length : Int) + 1)) + 1))] ?_; (with_reducible refine (spec_l1Below.calls g243 t240 t248 t249 (wrap64 ((wrap64 ((t251.length : Int) + 1)) + 1)) t254 t255 t256 w _ ?side1 ?side2 A5.out).mono ?_); (case side1 => exact q5_2); (case side2 => exact q5_3); rintro e w17 ⟨rfl, hi, hb, hk⟩; refine ⟨_, rfl, ?_⟩; have n_ := ac_ (KeepBut.blk hk (g' := gb239) (o := .cells #[.int .i64 0, .slice none 0 0] 26 (0, 0)) q5_8 NB239_243.out (by simp)) <| ac_ (Kd.R_mono (Kd.R_keep (IsS71.apart (show IsS71 w _ g243 t240 t248 t249 from q5_2) q5_10 (by decide)) hk (fun _ h => h.2)) (fun _ h => h.1)) <| ac_ (KeepBut.blk hk (g' := gb250) (o := .cells #[.int .i64 t244, .slice Ao14 t245.length co14] 26 (0, 0)) q5_9 NB250_243.out (by simp)) <| ac_ (Kd.R_mono (Kd.R_keep (IsS71.apart (show IsS71 w _ g243 t240 t248 t249 from q5_2) (by (with_reducible repeat (first | apply Kd.R_alloc | apply Kd.R_drewN | apply Kd.R_drew)); exact HO253.out) (by decide)) hk (fun _ h => h.2)) (fun _ h => h.1)) <| ac_ (hb) <| Aside0.mk (hi); clear BK239 HO247 BK250 HO253 HB HI243; obtain ⟨BK239, HO247, BK250, HO253, HB, HI243⟩ := n_; (try clear hb hk hi)))
 have n0_ := Aside0.mk (Kd.R_drew HO247.out); have n1_ := Aside0.mk (Kd.R_drew HO253.out); have n2_ := Aside0.mk (blk_drew BK239.out); have n3_ := Aside0.mk (blk_drew BK250.out); have n4_ := Aside0.mk (IsS71.drew HI243.out); have n5_ := Aside0.mk (below_drew1 HB.out); clear HO247; clear HO253; clear BK239; clear BK250; clear HI243; clear HB; have HO247 := n0_; have HO253 := n1_; have BK239 := n2_; have BK250 := n3_; have HI243 := n4_; have HB := n5_; clear n0_ n1_ n2_ n3_ n4_ n5_
 refine start_ (n := 10) (S := fun w' => w'.cell? ⟨gb250, 0, none⟩ = some (.int .i64 t244) ∧ w'.cell? ⟨gb250, 1, none⟩ = some (.slice Ao14 t245.length co14)) (ds := []) (tb_ 10 0) (by kernel_rfl) rfl rfl ⟨(blk_cell BK250.out 0).trans rfl, (blk_cell BK250.out 1).trans rfl⟩ (fun hHeld => ?_); refine with_tabW spec_l6Two.tab5 spec_l6Two.bits5 (fun HT_ HW_ => ?_)
 generalize w17.drew = w18 at HO247 HO253 BK239 BK250 HI243 HB hHeld ⊢
 refine pl_ 1 23 (tb_ 10 2) ?_; refine pl_ 2 24 (tb_ 10 6) ?_; refine pl_ 3 25 (tb_ 10 14) ?_; refine pl_ 4 26 (tb_ 10 30) ?_; refine tk_ 0 22 (tb_ 10 31) hHeld ?_
 refine on_ 5 27 (tb_ 10 63) (fun K hK => ?_)
 refine goes_ Tryz.func53 (by kernel_rfl) rfl #[.pointer (some ⟨g243, 0, none⟩), .int .i64 (wrap64 ((wrap64 ((t251.length : Int) + 1)) + 1))] (by rfl) rfl rfl s1_ ?_
 with_reducible refine (spec_l1Below.calls g243 t240 t255 t256 (wrap64 ((wrap64 ((t251.length : Int) + 1)) + 1)) t257 t258 t259 w _ ?side1 ?side2 A6.out).mono ?_
 (case side1 => exact q5_2)
 (case side2 => exact q5_3)
 rintro e w19 ⟨rfl, hi, hb, hk⟩
 refine ⟨_, rfl, ?_⟩
 have n0_ := Aside0.mk (KeepBut.blk hk (g' := gb239) (o := .cells #[.int .i64 0, .slice none 0 0] 26 (0, 0)) q5_8 NB239_243.out (by simp))
 have n1_ := Aside0.mk (Kd.R_mono (Kd.R_keep (IsS71.apart (show IsS71 w _ g243 t240 t255 t256 from q5_2) q5_10 (by decide)) hk (fun _ h => h.2)) (fun _ h => h.1))
 have n2_ := Aside0.mk (KeepBut.blk hk (g' := gb250) (o := .cells #[.int .i64 t244, .slice Ao14 t245.length co14] 26 (0, 0)) q5_9 NB250_243.out (by simp))
 have n3_ := Aside0.mk (Kd.R_mono (Kd.R_keep (IsS71.apart (show IsS71 w _ g243 t240 t255 t256 from q5_2) (by (with_reducible repeat (first | apply Kd.R_alloc | apply Kd.R_drewN | apply Kd.R_drew)); exact HO253.out) (by decide)) hk (fun _ h => h.2)) (fun _ h => h.1))
 have n4_ := Aside0.mk (hb); have n5_ := Aside0.mk (hi); clear BK239; clear HO247; clear BK250; clear HO253; clear HB; clear HI243; have BK239 := n0_; have HO247 := n1_; have BK250 := n2_; have HO253 := n3_; have HB := n4_; have HI243 := n5_; clear n0_ n1_ n2_ n3_ n4_ n5_
 (try clear hb)
 (try clear hb2)
 (try clear hk)
 (try clear hi)
 refine hK.out _ _ ⟨(blk_cell BK250.out 0).trans rfl, (blk_cell BK250.out 1).trans rfl⟩ (fun hHeld => ?_)
 clear hK K
 refine norm_ (a' := ?_) ?_ ?_
 rotate_left
 ·
  show Act.put _ (some 27) _ = _
  simp only [Act.put, List.setIfInBounds_toArray, List.set_cons_zero, List.set_cons_succ, i64_w, i32_w]
  rfl
 refine pl_ 6 28 (tb_ 10 127) ?_
 refine one_ (i := 7) (N := none) (tb_ 10 255) rfl rfl (one_of HT_.out (by kernel_rfl)) (by decide) (fun K hK => ?_)
 have hs20 : w19.cell? ⟨gb239, 0, none⟩ = some (.int .i64 0) := (blk_cell BK239.out 0).trans rfl; have hfs20 := blk_frozen BK239.out 0; have hns20_1 := NB250_239.out; have hms20_1 := NB239_250.out; have hs21 : w19.cell? ⟨gb239, 1, none⟩ = some (.slice none 0 0) := (blk_cell BK239.out 1).trans rfl; have hfs21 := blk_frozen BK239.out 1; have hns21_1 := NB250_239.out; have hms21_1 := NB239_250.out
 refine skip_ (w1 := ?_) (by rfl) rfl ?_ ?_
 rotate_left
 ·
  go_simp
  rfl
 refine hK.out _ _ ⟨((cell_far (p := ⟨gb239, _, none⟩) NB250_239.out _).trans (((cell_far (p := ⟨gb239, _, none⟩) NB250_239.out _).trans (hHeld.1)))), ((cell_far (p := ⟨gb239, _, none⟩) NB250_239.out _).trans (((cell_far (p := ⟨gb239, _, none⟩) NB250_239.out _).trans (hHeld.2))))⟩ (fun hHeld => ?_)
 clear hK K; refine pl_ 8 3 (tb_ 10 511) ?_; refine pl_ 9 4 (tb_ 10 1023) ?_
 refine done_ (done_of HT_.out (by kernel_rfl)) ?_
 try go_wp2
 refine bodyPost_ret (results_ctt rfl _ _ gb239 26 #[.int .i64 t244, .slice Ao14 t245.length co14] (0, 0) _ rfl (by (with_reducible repeat (first | refine blk_drewN ?_ _ | refine blk_drew ?_ | refine blk_alloc ?_ _)); refine blk_put (cs := #[.int .i64 t244, .slice none 0 0]) ?_ 1 _ rfl; (with_reducible repeat (first | refine blk_drewN ?_ _ | refine blk_drew ?_ | refine blk_alloc ?_ _)); refine blk_put (cs := #[.int .i64 0, .slice none 0 0]) ?_ 0 _ rfl; (with_reducible repeat (first | refine blk_drewN ?_ _ | refine blk_drew ?_ | refine blk_alloc ?_ _)); exact BK239.out) Tryz.underlying26 rfl (by kernel_rfl)) rfl ?_
 exact ⟨_, (by first | rfl | (simp [errW_none, errW_some] <;> rfl) | (simp [*, errW_none, errW_some] <;> rfl)), (by (with_reducible repeat (first | apply Kd.R_alloc | apply Kd.R_drewN | apply Kd.R_drew)); exact Kd.R_mono (Kd.R_far (p := ⟨gb239, 1, none⟩) (Kd.R_far (p := ⟨gb239, 0, none⟩) (Kd.R_types HO247.out BK239.out (by decide)) (fun _ hk => hk.2) (.int .i64 t244)) (fun _ hk => hk.2) (.slice Ao14 t245.length co14)) (fun _ hk => trivial)), q5_3⟩
theorem q5_11 {P : Prop} (h : P := by repeat (first | (with_reducible first | exact HB.out | apply below_alloc | apply pw_below_drewN | apply below_drew1 | refine below_set ?_ GE260.out) | exact HB.out)) : P := h
theorem q5_13 {P : Prop} (h : P := by (with_reducible repeat (first | refine blk_drewN ?_ _ | refine blk_drew ?_ | refine blk_alloc ?_ _)); exact BK260.out) : P := h
def spec_DrawMeetOf.f (k : Nat) (l0 : List Int) : Option (Int × List Int × Int × Int) := (spec_l6Two.f k l0).bind fun bt261 => (some (bt261.1, bt261.2.1, bt261.2.2.1, bt261.2.2.2))
theorem spec_DrawMeetOf.calls (k : Nat) (A0 : Option Addr) (c0 : Nat) (l0 : List Int) (r1 : Int) (r2 : List Int) (r3 : Int) (r4 : Int) (w : World) (hr0 : Kd.C (Kd.int .u8) w A0 l0.length l0) (hc0 : l0.length ≤ c0) (h : spec_DrawMeetOf.f k l0 = some (r1, r2, r3, r4)) :
  Calls Tryz.prog 5 #[.slice A0 l0.length c0] w fun e w' => ∃ v1_ : Value, e = .returned (.tuple #[.agg #[.int .i64 r1, v1_], .int .i64 r3, .int .i64 r4]) ∧ Kd.R (Kd.int .i64) 3 w' w.heap.size (fun _ => True) v1_ r2 ∧ Below w.heap.size w w' := by
 have hu26 := Tryz.underlying26; have HR0 := Aside0.mk hr0; have HC0 := Aside0.mk hc0; clear hr0 hc0; have HB := Aside0.mk (Below.refl w.heap.size w); have H := h; clear h; unfold spec_DrawMeetOf.f at H; obtain ⟨⟨t261, t262, t265, t266⟩, A2, H⟩ := bnd5_ H; dsimp only at H
 simp only [Option.some.injEq, Prod.mk.injEq] at H
 obtain ⟨rfl, rfl, rfl, rfl⟩ := H
 go_enter Tryz.func5, Tryz.ntmps5
 go_wp2_with (first | (refine be_ 2 #[.int .i64 0, .slice none 0 0] 26 ?_; intro gb260 hg w3 hbox hb; have n_ := ac_ (below_step s0_ hb) <| ac_ (hbox) <| ac_ ((gz_ w hg s0_)) <| Aside0.mk ((gz_ w hg s0_)); clear HB; obtain ⟨HB, BK260, GW260, GE260⟩ := n_; clear hb hbox hg) | ((with_reducible refine gate_callee (f := 29) rfl ?_); refine goesL_ (some 10) rfl rfl Tryz.func29 (by kernel_rfl) rfl #[.slice A0 l0.length c0] rfl (by (try simp only [List.map_toArray, List.map_cons, List.map_nil]); first | done | rfl | (simp only [List.length_drop, List.length_take]; rfl)) ?_; (with_reducible refine (spec_l6Two.calls k _ _ l0 t261 t262 t265 t266 _ ?side1 ?side2 A2.out).mono ?_); (case side1 => repeat (first | exact (Kd.C_below HR0.out HB.out) | (with_reducible refine Kd.C_alloc ?_ _) | (with_reducible refine Kd.C_drewN ?_ _) | (with_reducible refine Kd.C_drew ?_))); (case side2 => exact HC0.out); rintro e w4 ⟨v263, rfl, ho0, hb⟩; refine ⟨_, rfl, ?_⟩; have n_ := ac_ (Kd.R_lower ho0 (below_size q5_11)) <| ac_ (blk_below (g := gb260) (o := .cells #[.int .i64 0, .slice none 0 0] 26 (0, 0)) q5_13 hb) <| Aside0.mk (below_step q5_11 hb); clear BK260 HB; obtain ⟨HO264, BK260, HB⟩ := n_; (try clear hb ho0)) | (refine be_ 5 #[.int .i64 0, .slice none 0 0] 26 ?_; intro gb267 hg w5 hbox hb; have n_ := ac_ (Kd.R_below (by (with_reducible repeat (first | apply Kd.R_alloc | apply Kd.R_drewN | apply Kd.R_drew)); exact HO264.out) hb) <| ac_ (blk_below (g := gb260) (o := .cells #[.int .i64 0, .slice none 0 0] 26 (0, 0)) q5_13 hb) <| ac_ (below_step q5_11 hb) <| ac_ (hbox) <| ac_ ((gz_ w hg q5_11)) <| ac_ ((gz_ w hg q5_11)) <| ac_ ((nl_ hg (blk_lt (g := gb260) (o := .cells #[.int .i64 0, .slice none 0 0] 26 (0, 0)) q5_13))) <| Aside0.mk ((ng_ hg (blk_lt (g := gb260) (o := .cells #[.int .i64 0, .slice none 0 0] 26 (0, 0)) q5_13))); clear HO264 BK260 HB; obtain ⟨HO264, BK260, HB, BK267, GW267, GE267, NB260_267, NB267_260⟩ := n_; clear hb hbox hg; have hnb6 := NB267_260.out; have hnc6 := NB260_267.out; have hcz7_0 : w5.cell? ⟨gb267, 0, none⟩ = some (.int .i64 0) := (blk_cell BK267.out 0).trans rfl; have hcz7_1 : w5.cell? ⟨gb267, 1, none⟩ = some (.slice none 0 0) := (blk_cell BK267.out 1).trans rfl; have hfz7_0 := blk_frozen BK267.out 0; have hfz7_1 := blk_frozen BK267.out 1; obtain ⟨Ao8, co8, eo8⟩ := Kd.R_slice HO264.out; subst eo8; have hcz9_0 : w5.cell? ⟨gb260, 0, none⟩ = some (.int .i64 0) := (blk_cell BK260.out 0).trans rfl; have hcz9_1 : w5.cell? ⟨gb260, 1, none⟩ = some (.slice none 0 0) := (blk_cell BK260.out 1).trans rfl; have hfz9_0 := blk_frozen BK260.out 0; have hfz9_1 := blk_frozen BK260.out 1))
 refine bodyPost_ret (results_ctt rfl _ _ gb260 26 #[.int .i64 t261, .slice Ao8 t262.length co8] (0, 0) _ rfl (by (with_reducible repeat (first | refine blk_drewN ?_ _ | refine blk_drew ?_ | refine blk_alloc ?_ _)); refine blk_put (cs := #[.int .i64 t261, .slice none 0 0]) ?_ 1 _ rfl; (with_reducible repeat (first | refine blk_drewN ?_ _ | refine blk_drew ?_ | refine blk_alloc ?_ _)); refine blk_put (cs := #[.int .i64 0, .slice none 0 0]) ?_ 0 _ rfl; (with_reducible repeat (first | refine blk_drewN ?_ _ | refine blk_drew ?_ | refine blk_alloc ?_ _)); refine blk_far ?_ NB260_267.out _; (with_reducible repeat (first | refine blk_drewN ?_ _ | refine blk_drew ?_ | refine blk_alloc ?_ _)); refine blk_far ?_ NB260_267.out _; (with_reducible repeat (first | refine blk_drewN ?_ _ | refine blk_drew ?_ | refine blk_alloc ?_ _)); exact BK260.out) Tryz.underlying26 rfl (by kernel_rfl)) rfl ?_
 exact ⟨_, (by first | rfl | (simp [errW_none, errW_some] <;> rfl) | (simp [*, errW_none, errW_some] <;> rfl)), (by (with_reducible repeat (first | apply Kd.R_alloc | apply Kd.R_drewN | apply Kd.R_drew)); exact Kd.R_mono (Kd.R_far (p := ⟨gb260, 1, none⟩) (Kd.R_far (p := ⟨gb260, 0, none⟩) (Kd.R_far (p := ⟨gb267, 1, none⟩) (Kd.R_far (p := ⟨gb267, 0, none⟩) (Kd.R_types (Kd.R_types HO264.out BK267.out (by decide)) BK260.out (by decide)) (fun _ hk => hk.1.2) (.int .i64 t261)) (fun _ hk => hk.1.2) (.slice Ao8 t262.length co8)) (fun _ hk => hk.2) (.int .i64 t261)) (fun _ hk => hk.2) (.slice Ao8 t262.length co8)) (fun _ hk => trivial)), (by repeat (first | (with_reducible first | exact HB.out | apply below_alloc | apply pw_below_drewN | apply below_drew1 | refine below_set ?_ GE260.out | refine below_set ?_ GE267.out) | exact HB.out))⟩
def impl_within.f (a0 : Int) (a1 : Int) (a2 : Int) : Option (Bool) := if a1 ≤ a0 then (some (decide (a0 ≤ a2))) else (some false)
theorem impl_within.calls (a0 : Int) (a1 : Int) (a2 : Int) (r : Bool) (w : World) (h : impl_within.f a0 a1 a2 = some r) :
  Calls Tryz.prog 57 #[.int .i64 a0, .int .i64 a1, .int .i64 a2] w fun e w' => e = .returned (.bool r) ∧ Drawn0 w w' := by
 have H := h; clear h; unfold impl_within.f at H
 by_cases c4 : a1 ≤ a0
 ·
  rw [if_pos c4] at H; have c4b0 : decide (a1 ≤ a0) = true := decide_eq_true c4; clear c4; obtain rfl := Option.some.inj H
  go_enter Tryz.func57, Tryz.ntmps57
  go_wp2
  go_ret
  exact ⟨rf_, (by repeat (first | exact Drawn0.refl _ | apply Drawn0.step))⟩
 ·
  rw [if_neg c4] at H; have c4b0 : decide (a1 ≤ a0) = false := decide_eq_false c4; clear c4; obtain rfl := Option.some.inj H
  go_enter Tryz.func57, Tryz.ntmps57
  go_wp2
  go_ret
  exact ⟨rf_, (by repeat (first | exact Drawn0.refl _ | apply Drawn0.step))⟩
def impl_IsSet.f (a0 : Int) (a1 : Int) : Option (Bool) := (impl_within.f a0 0 8).bind fun t268 => (if t268 = true then (if 0 ≤ a0 then ((impl_within.f a1 0 (wrap64 ((shl .i64 1 a0) - 1))).bind fun t269 => (some t269)) else (none)) else (some false))
theorem impl_IsSet.calls (a0 : Int) (a1 : Int) (r : Bool) (w : World) (h : impl_IsSet.f a0 a1 = some r) :
  Calls Tryz.prog 74 #[.int .i64 a0, .int .i64 a1] w fun e w' => e = .returned (.bool r) ∧ Drawn0 w w' := by
 have H := h; clear h; unfold impl_IsSet.f at H; obtain ⟨t268, A3, H⟩ := bnd5_ H
 by_cases c4 : t268 = true
 ·
  subst c4; rw [if_pos rfl] at H
  by_cases c5 : 0 ≤ a0
  ·
   rw [if_pos c5] at H; have c5b0 := eq_true c5; have c5b1 : decide (0 ≤ a0) = true := decide_eq_true c5; clear c5; obtain ⟨ji6, hji6⟩ : ∃ j_ : Int, (shl .i64 1 a0) = j_ := ⟨_, rfl⟩
   replace H : ((impl_within.f a1 0 (wrap64 ((ji6) - 1))).bind fun t269 => (some t269)) = some r := by first | (rw [hji6] at H; exact H) | (simp only [hji6] at H ⊢; exact H)
   (try rw [hji6] at A3)
   have hji6_ : (IntKind.i64.wrap (1 * 2 ^ min a0.toNat 64)) = ji6 := hji6; have hji6z : a0 ≤ 64 → (IntKind.i64.wrap (1 * 2 ^ a0.toNat)) = ji6 := shl_small hji6
   have hji6u : (IntKind.i64.wrap (2 ^ min a0.toNat 64)) = ji6 := by have h_ := hji6_; rw [Int.one_mul] at h_; exact h_
   have hji6v : a0 ≤ 64 → (IntKind.i64.wrap (2 ^ a0.toNat)) = ji6 := fun hle_ => by have h_ := hji6z hle_; rw [Int.one_mul] at h_; exact h_
   have hji6y : (wrap64 (1 * 2 ^ min a0.toNat 64)) = ji6 := (i64_w _).symm.trans hji6_
   have hji6x : a0 ≤ 64 → (wrap64 (1 * 2 ^ a0.toNat)) = ji6 := fun h_ => (i64_w _).symm.trans (hji6z h_)
   obtain ⟨t269, A7, H⟩ := bnd5_ H; obtain rfl := Option.some.inj H
   go_enter Tryz.func74, Tryz.ntmps74
   go_wp2_with (first | (refine gL_ 57 6 Tryz.func57 #[.int .i64 a0, .int .i64 0, .int .i64 8] ?_; (with_reducible refine (impl_within.calls a0 0 8 true _ A3.out).mono ?_); rintro e w' ⟨rfl, ⟨nd, rfl⟩⟩; refine ⟨_, rfl, ?_⟩) | (go_at_call 57; (with_reducible refine (impl_within.calls a1 0 (wrap64 ((ji6) - 1)) t269 _ A7.out).mono ?_); rintro e w' ⟨rfl, ⟨nd, rfl⟩⟩))
   go_ret
   exact ⟨(by first | rfl | (simp; done) | (simp only [← hji6] <;> (first | rfl | simp)) | (simp [*]; done)), (by repeat (first | exact Drawn0.refl _ | apply Drawn0.step))⟩
  ·
   rw [if_neg c5] at H
   exact absurd H (by simp)
 ·
  replace c4 := Bool.eq_false_iff.mpr c4; subst c4
  rw [if_neg (show ¬ (false = true) by decide)] at H
  obtain rfl := Option.some.inj H
  go_enter Tryz.func74, Tryz.ntmps74
  go_wp2_with (first | (refine gL_ 57 6 Tryz.func57 #[.int .i64 a0, .int .i64 0, .int .i64 8] ?_; (with_reducible refine (impl_within.calls a0 0 8 false _ A3.out).mono ?_); rintro e w' ⟨rfl, ⟨nd, rfl⟩⟩; refine ⟨_, rfl, ?_⟩))
  go_ret
  exact ⟨rf_, (by repeat (first | exact Drawn0.refl _ | apply Drawn0.step))⟩
def impl_isAnySet.f (a0 : Int) : Option (Bool) := (impl_IsSet.f 8 a0).bind fun t270 => (some t270)
theorem impl_isAnySet.calls (a0 : Int) (r : Bool) (w : World) (h : impl_isAnySet.f a0 = some r) :
  Calls Tryz.prog 89 #[.int .i64 a0] w fun e w' => e = .returned (.bool r) ∧ Drawn0 w w' := by
 have H := h; clear h; unfold impl_isAnySet.f at H; obtain ⟨t270, A2, H⟩ := bnd5_ H; obtain rfl := Option.some.inj H
 go_enter Tryz.func89, Tryz.ntmps89
 go_wp2_with (first | ((with_reducible refine gate_callee (f := 74) rfl ?_); refine goesL_ (some 4) rfl rfl Tryz.func74 (by kernel_rfl) rfl #[.int .i64 8, .int .i64 a0] rfl (by (try simp only [List.map_toArray, List.map_cons, List.map_nil]); first | done | rfl | (simp only [List.length_drop, List.length_take]; rfl)) ?_; (with_reducible refine (impl_IsSet.calls 8 a0 t270 _ A2.out).mono ?_); rintro e w' ⟨rfl, ⟨nd, rfl⟩⟩; refine ⟨_, rfl, ?_⟩))
 go_ret
 exact ⟨rf_, (by repeat (first | exact Drawn0.refl _ | apply Drawn0.step))⟩
def impl_SortLectic_1.f (a0 : Int) : Option (Bool) := (impl_isAnySet.f a0).bind fun t271 => (some (!t271))
theorem impl_SortLectic_1.calls (a0 : Int) (r : Bool) (w : World) (h : impl_SortLectic_1.f a0 = some r) :
  Calls Tryz.prog 88 #[.int .i64 a0] w fun e w' => e = .returned (.bool r) ∧ Drawn0 w w' := by
 have H := h; clear h; unfold impl_SortLectic_1.f at H; obtain ⟨t271, A2, H⟩ := bnd5_ H; obtain rfl := Option.some.inj H
 go_enter Tryz.func88, Tryz.ntmps88
 go_wp2_with (first | ((with_reducible refine gate_callee (f := 89) rfl ?_); refine goesL_ (some 4) rfl rfl Tryz.func89 (by kernel_rfl) rfl #[.int .i64 a0] rfl (by (try simp only [List.map_toArray, List.map_cons, List.map_nil]); first | done | rfl | (simp only [List.length_drop, List.length_take]; rfl)) ?_; (with_reducible refine (impl_isAnySet.calls a0 t271 _ A2.out).mono ?_); rintro e w' ⟨rfl, ⟨nd, rfl⟩⟩; refine ⟨_, rfl, ?_⟩))
 go_ret
 exact ⟨rf_, (by repeat (first | exact Drawn0.refl _ | apply Drawn0.step))⟩
def impl_HasElement.f (a0 : Int) (a1 : Int) : Option (Bool) := (impl_isAnySet.f a0).bind fun t272 => (if t272 = true then ((impl_within.f a1 0 7).bind fun t273 => (if t273 = true then (if 0 ≤ a1 then (some ((Go.bits .and .i64 (shr .i64 a0 a1) 1) == 1)) else (none)) else (some false))) else (some false))
theorem impl_HasElement.calls (a0 : Int) (a1 : Int) (r : Bool) (w : World) (h : impl_HasElement.f a0 a1 = some r) :
  Calls Tryz.prog 96 #[.int .i64 a0, .int .i64 a1] w fun e w' => e = .returned (.bool r) ∧ Drawn0 w w' := by
 have H := h; clear h; unfold impl_HasElement.f at H; obtain ⟨t272, A3, H⟩ := bnd5_ H
 by_cases c4 : t272 = true
 ·
  subst c4; rw [if_pos rfl] at H; obtain ⟨t273, A5, H⟩ := bnd5_ H
  by_cases c6 : t273 = true
  ·
   subst c6; rw [if_pos rfl] at H
   by_cases c7 : 0 ≤ a1
   ·
    rw [if_pos c7] at H; have c7b0 := eq_true c7; have c7b1 : decide (0 ≤ a1) = true := decide_eq_true c7; clear c7; obtain ⟨ji8, hji8⟩ : ∃ j_ : Int, (shr .i64 a0 a1) = j_ := ⟨_, rfl⟩
    replace H : (some ((Go.bits .and .i64 (ji8) 1) == 1)) = some r := by first | (rw [hji8] at H; exact H) | (simp only [hji8] at H ⊢; exact H)
    (try rw [hji8] at A3)
    (try rw [hji8] at A5)
    have hji8_ : (a0 / 2 ^ min a1.toNat 64) = ji8 := hji8; have hji8z : a1 ≤ 64 → (a0 / 2 ^ a1.toNat) = ji8 := shr_small hji8; obtain rfl := Option.some.inj H
    go_enter Tryz.func96, Tryz.ntmps96
    go_wp2_with (first | (refine gL_ 89 6 Tryz.func89 #[.int .i64 a0] ?_; (with_reducible refine (impl_isAnySet.calls a0 true _ A3.out).mono ?_); rintro e w' ⟨rfl, ⟨nd, rfl⟩⟩; refine ⟨_, rfl, ?_⟩) | (go_at_call 57; (with_reducible refine (impl_within.calls a1 0 7 true _ A5.out).mono ?_); rintro e w' ⟨rfl, ⟨nd, rfl⟩⟩))
    go_ret
    exact ⟨(by first | rfl | (simp; done) | (simp only [← hji8] <;> (first | rfl | simp)) | (simp [*]; done)), (by repeat (first | exact Drawn0.refl _ | apply Drawn0.step))⟩
   ·
    rw [if_neg c7] at H
    exact absurd H (by simp)
  ·
   replace c6 := Bool.eq_false_iff.mpr c6; subst c6
   rw [if_neg (show ¬ (false = true) by decide)] at H
   obtain rfl := Option.some.inj H
   go_enter Tryz.func96, Tryz.ntmps96
   go_wp2_with (first | (refine gL_ 89 6 Tryz.func89 #[.int .i64 a0] ?_; (with_reducible refine (impl_isAnySet.calls a0 true _ A3.out).mono ?_); rintro e w' ⟨rfl, ⟨nd, rfl⟩⟩; refine ⟨_, rfl, ?_⟩) | (go_at_call 57; (with_reducible refine (impl_within.calls a1 0 7 false _ A5.out).mono ?_); rintro e w' ⟨rfl, ⟨nd, rfl⟩⟩))
   go_ret
   exact ⟨rf_, (by repeat (first | exact Drawn0.refl _ | apply Drawn0.step))⟩
 ·
  replace c4 := Bool.eq_false_iff.mpr c4; subst c4
  rw [if_neg (show ¬ (false = true) by decide)] at H
  obtain rfl := Option.some.inj H
  go_enter Tryz.func96, Tryz.ntmps96
  go_wp2_with (first | (refine gL_ 89 6 Tryz.func89 #[.int .i64 a0] ?_; (with_reducible refine (impl_isAnySet.calls a0 false _ A3.out).mono ?_); rintro e w' ⟨rfl, ⟨nd, rfl⟩⟩; refine ⟨_, rfl, ?_⟩))
  go_ret
  exact ⟨rf_, (by repeat (first | exact Drawn0.refl _ | apply Drawn0.step))⟩
def impl_FullSet.f (a0 : Int) : Option (Int) := (impl_within.f a0 0 8).bind fun t292 => (if t292 = true then (if 0 ≤ a0 then (some (wrap64 ((shl .i64 1 a0) - 1))) else (none)) else (some 0))
theorem impl_FullSet.calls (a0 : Int) (r : Int) (w : World) (h : impl_FullSet.f a0 = some r) :
  Calls Tryz.prog 46 #[.int .i64 a0] w fun e w' => e = .returned (.int .i64 r) ∧ Drawn0 w w' := by
 have H := h; clear h; unfold impl_FullSet.f at H; obtain ⟨t292, A2, H⟩ := bnd5_ H
 by_cases c3 : t292 = true
 ·
  subst c3; rw [if_pos rfl] at H
  by_cases c4 : 0 ≤ a0
  ·
   rw [if_pos c4] at H; have c4b0 := eq_true c4; have c4b1 : decide (0 ≤ a0) = true := decide_eq_true c4; clear c4; obtain ⟨ji5, hji5⟩ : ∃ j_ : Int, (shl .i64 1 a0) = j_ := ⟨_, rfl⟩
   replace H : (some (wrap64 ((ji5) - 1))) = some r := by first | (rw [hji5] at H; exact H) | (simp only [hji5] at H ⊢; exact H)
   (try rw [hji5] at A2)
   have hji5_ : (IntKind.i64.wrap (1 * 2 ^ min a0.toNat 64)) = ji5 := hji5; have hji5z : a0 ≤ 64 → (IntKind.i64.wrap (1 * 2 ^ a0.toNat)) = ji5 := shl_small hji5
   have hji5u : (IntKind.i64.wrap (2 ^ min a0.toNat 64)) = ji5 := by have h_ := hji5_; rw [Int.one_mul] at h_; exact h_
   have hji5v : a0 ≤ 64 → (IntKind.i64.wrap (2 ^ a0.toNat)) = ji5 := fun hle_ => by have h_ := hji5z hle_; rw [Int.one_mul] at h_; exact h_
   have hji5y : (wrap64 (1 * 2 ^ min a0.toNat 64)) = ji5 := (i64_w _).symm.trans hji5_
   have hji5x : a0 ≤ 64 → (wrap64 (1 * 2 ^ a0.toNat)) = ji5 := fun h_ => (i64_w _).symm.trans (hji5z h_)
   obtain rfl := Option.some.inj H
   go_enter Tryz.func46, Tryz.ntmps46
   go_wp2_with (first | (refine gL_ 57 4 Tryz.func57 #[.int .i64 a0, .int .i64 0, .int .i64 8] ?_; (with_reducible refine (impl_within.calls a0 0 8 true _ A2.out).mono ?_); rintro e w' ⟨rfl, ⟨nd, rfl⟩⟩; refine ⟨_, rfl, ?_⟩))
   go_ret
   exact ⟨(by first | rfl | (simp; done) | (simp only [← hji5] <;> (first | rfl | simp)) | (simp [*]; done)), (by repeat (first | exact Drawn0.refl _ | apply Drawn0.step))⟩
  ·
   rw [if_neg c4] at H
   exact absurd H (by simp)
 ·
  replace c3 := Bool.eq_false_iff.mpr c3; subst c3
  rw [if_neg (show ¬ (false = true) by decide)] at H
  obtain rfl := Option.some.inj H
  go_enter Tryz.func46, Tryz.ntmps46
  go_wp2_with (first | (refine gL_ 57 4 Tryz.func57 #[.int .i64 a0, .int .i64 0, .int .i64 8] ?_; (with_reducible refine (impl_within.calls a0 0 8 false _ A2.out).mono ?_); rintro e w' ⟨rfl, ⟨nd, rfl⟩⟩; refine ⟨_, rfl, ?_⟩))
  go_ret
  exact ⟨rf_, (by repeat (first | exact Drawn0.refl _ | apply Drawn0.step))⟩
def impl_common.l0 : Nat → Int → Int → List Int → Int → Int → Option (Int)
 | 0, _, _, _, _, _ => none
 | k + 1, x1, x2, x9, x10, x11 => if x11 < x10 then (if 0 ≤ x11 then (if x11 < (x9.length : Int) then ((impl_HasElement.f x1 x11).bind fun t294 => (if t294 = true then (impl_common.l0 k x1 (Go.bits .and .i64 x2 (rd x9 x11)) x9 x10 (wrap64 (x11 + 1))) else (impl_common.l0 k x1 x2 x9 x10 (wrap64 (x11 + 1))))) else (none)) else (none)) else (some x2)
def impl_common.f (k : Nat) (l0 : List Int) (a1 : Int) (a2 : Int) : Option (Int) := impl_common.l0 k a1 a2 l0 (l0.length : Int) 0
theorem impl_common.calls (k : Nat) (A0 : Option Addr) (c0 : Nat) (l0 : List Int) (a1 : Int) (a2 : Int) (r : Int) (w : World) (hr0 : Kd.C (Kd.int .i64) w A0 l0.length l0) (hc0 : l0.length ≤ c0) (h : impl_common.f k l0 a1 a2 = some r) :
  Calls Tryz.prog 82 #[.slice A0 l0.length c0, .int .i64 a1, .int .i64 a2] w fun e w' => e = .returned (.int .i64 r) ∧ Drawn0 w w' := by
 have HR0 := Aside0.mk hr0; have HC0 := Aside0.mk hc0; clear hr0 hc0; have H := h; clear h; unfold impl_common.f at H; have H' := Aside0.mk H; clear H
 go_enter Tryz.func82, Tryz.ntmps82
 go_wp2
 go_loopg [2, 11] k (fun kq v2 v11 w' => ∃ (x2_1 : Int) (x11_1 : Int), v2 = .int .i64 x2_1 ∧ v11 = .int .i64 x11_1 ∧ Aside0 (impl_common.l0 kq a1 x2_1 l0 (l0.length : Int) x11_1 = some r) ∧ Aside0 (kq ≤ k) ∧ Drawn0 w w')
 case atStart => exact ⟨(a2), (0), s3_, s3_, H', ⟨Nat.le_refl _⟩, s10_⟩
 case round =>
  clear H'
  try clear p2
  obtain ⟨x2_1, x11_1, rfl, rfl, HA, HK1, ⟨m1, rfl⟩⟩ := hrel
  cases gk with
  | zero => exact absurd HA.out (by simp [impl_common.l0])
  | succ k1 =>
   have H := HA.out; clear HA
   simp only [impl_common.l0] at H
   by_cases c4 : x11_1 < (l0.length : Int)
   ·
    rw [if_pos c4] at H; have c4b0 : decide (x11_1 < (l0.length : Int)) = true := decide_eq_true c4; clear c4
    by_cases c5 : 0 ≤ x11_1
    ·
     rw [if_pos c5] at H; have c5b0 : decide (0 ≤ x11_1) = true := decide_eq_true c5; clear c5
     by_cases c6 : x11_1 < (l0.length : Int)
     ·
      rw [if_pos c6] at H; have c6b0 : decide (x11_1 < (l0.length : Int)) = true := decide_eq_true c6; clear c6; obtain ⟨t294, A7, H⟩ := bnd5_ H
      by_cases c8 : t294 = true
      ·
       subst c8; rw [if_pos rfl] at H; have H' := Aside0.mk H; clear H; have p293 : 0 ≤ (x11_1 : Int) := of_decide_eq_true s4_; have q293 : x11_1 < (l0.length : Int) := of_decide_eq_true s4_; obtain ⟨ad293, e293, hx293_0⟩ := Kd.at_int HR0.out x11_1 p293 q293
       cases e293
       replace p293 := eq_true p293; replace q293 := eq_true q293
       go_wp2_with (first | (refine gL_ 96 18 Tryz.func96 #[.int .i64 a1, .int .i64 x11_1] ?_; (with_reducible refine (impl_HasElement.calls a1 x11_1 true _ A7.out).mono ?_); rintro e w' ⟨rfl, ⟨nd, rfl⟩⟩; refine ⟨_, rfl, ?_⟩))
       go_roundg k1
       case measure => have := HK1.out; omega
       case rel => exact ⟨(Go.bits .and .i64 x2_1 (rd l0 x11_1)), (wrap64 (x11_1 + 1)), s3_, s3_, H', ⟨by have := HK1.out; omega⟩, s10_⟩
      ·
       replace c8 := Bool.eq_false_iff.mpr c8; subst c8
       rw [if_neg (show ¬ (false = true) by decide)] at H
       have H' := Aside0.mk H; clear H; have p293 : 0 ≤ (x11_1 : Int) := of_decide_eq_true s4_; have q293 : x11_1 < (l0.length : Int) := of_decide_eq_true s4_; obtain ⟨ad293, e293, hx293_0⟩ := Kd.at_int HR0.out x11_1 p293 q293
       cases e293
       replace p293 := eq_true p293; replace q293 := eq_true q293
       go_wp2_with (first | (refine gL_ 96 18 Tryz.func96 #[.int .i64 a1, .int .i64 x11_1] ?_; (with_reducible refine (impl_HasElement.calls a1 x11_1 false _ A7.out).mono ?_); rintro e w' ⟨rfl, ⟨nd, rfl⟩⟩; refine ⟨_, rfl, ?_⟩))
       go_roundg k1
       case measure => have := HK1.out; omega
       case rel => exact ⟨(x2_1), (wrap64 (x11_1 + 1)), s3_, s3_, H', ⟨by have := HK1.out; omega⟩, s10_⟩
     ·
      rw [if_neg c6] at H
      exact absurd H (by simp)
    ·
     rw [if_neg c5] at H
     exact absurd H (by simp)
   ·
    rw [if_neg c4] at H; have c4b0 : decide (x11_1 < (l0.length : Int)) = false := decide_eq_false c4; clear c4; obtain rfl := Option.some.inj H
    go_wp2
    go_ret
    exact ⟨s3_, s10_⟩
def impl_lattice_has.f (l0 : List (S51)) (a1 : Int) : Option (Bool) := (impl_within.f a1 0 (wrap64 ((l0.length : Int) - 1))).bind fun t344 => (some t344)
theorem impl_lattice_has.calls (A0 : Option Addr) (c0 : Nat) (l0 : List (S51)) (a1 : Int) (r : Bool) (w : World) (hr0 : Kd.C k51 w A0 l0.length l0) (hc0 : l0.length ≤ c0) (h : impl_lattice_has.f l0 a1 = some r) :
  Calls Tryz.prog 31 #[.slice A0 l0.length c0, .int .i64 a1] w fun e w' => e = .returned (.bool r) ∧ Drawn0 w w' := by
 have HR0 := Aside0.mk hr0; have HC0 := Aside0.mk hc0; clear hr0 hc0; have H := h; clear h; unfold impl_lattice_has.f at H; obtain ⟨t344, A3, H⟩ := bnd5_ H; obtain rfl := Option.some.inj H
 go_enter Tryz.func31, Tryz.ntmps31
 go_wp2_with (first | ((with_reducible refine gate_callee (f := 57) rfl ?_); refine goesL_ (some 9) rfl rfl Tryz.func57 (by kernel_rfl) rfl #[.int .i64 a1, .int .i64 0, .int .i64 (wrap64 ((l0.length : Int) - 1))] rfl (by (try simp only [List.map_toArray, List.map_cons, List.map_nil]); first | done | rfl | (simp only [List.length_drop, List.length_take]; rfl)) ?_; (with_reducible refine (impl_within.calls a1 0 (wrap64 ((l0.length : Int) - 1)) t344 _ A3.out).mono ?_); rintro e w' ⟨rfl, ⟨nd, rfl⟩⟩; refine ⟨_, rfl, ?_⟩))
 go_ret
 exact ⟨rf_, (by repeat (first | exact Drawn0.refl _ | apply Drawn0.step))⟩
theorem q5_21 {P : Prop} (h : P := by repeat (first | (with_reducible first | exact HB.out | apply below_alloc | apply pw_below_drewN | apply below_drew1 | refine below_set ?_ GE368.out) | exact HB.out)) : P := h
theorem q5_23 {P : Prop} (h : P := by (with_reducible repeat (first | refine blk_drewN ?_ _ | refine blk_drew ?_ | refine blk_alloc ?_ _)); exact BK368.out) : P := h
def spec_DrawUpperCovers.f (k : Nat) (l0 : List Int) : Option (Int × List Int × Int) := (spec_l6Two.f k l0).bind fun bt369 => (some (bt369.1, bt369.2.1, bt369.2.2.1))
theorem spec_DrawUpperCovers.calls (k : Nat) (A0 : Option Addr) (c0 : Nat) (l0 : List Int) (r1 : Int) (r2 : List Int) (r3 : Int) (w : World) (hr0 : Kd.C (Kd.int .u8) w A0 l0.length l0) (hc0 : l0.length ≤ c0) (h : spec_DrawUpperCovers.f k l0 = some (r1, r2, r3)) :
  Calls Tryz.prog 8 #[.slice A0 l0.length c0] w fun e w' => ∃ v1_ : Value, e = .returned (.tuple #[.agg #[.int .i64 r1, v1_], .int .i64 r3]) ∧ Kd.R (Kd.int .i64) 3 w' w.heap.size (fun _ => True) v1_ r2 ∧ Below w.heap.size w w' := by
 have hu26 := Tryz.underlying26; have HR0 := Aside0.mk hr0; have HC0 := Aside0.mk hc0; clear hr0 hc0; have HB := Aside0.mk (Below.refl w.heap.size w); have H := h; clear h; unfold spec_DrawUpperCovers.f at H; obtain ⟨⟨t369, t370, t373, t374⟩, A2, H⟩ := bnd5_ H; dsimp only at H
 simp only [Option.some.injEq, Prod.mk.injEq] at H
 obtain ⟨rfl, rfl, rfl⟩ := H
 go_enter Tryz.func8, Tryz.ntmps8
 go_wp2_with (first | (refine be_ 2 #[.int .i64 0, .slice none 0 0] 26 ?_; intro gb368 hg w3 hbox hb; have n_ := ac_ (below_step s0_ hb) <| ac_ (hbox) <| ac_ ((gz_ w hg s0_)) <| Aside0.mk ((gz_ w hg s0_)); clear HB; obtain ⟨HB, BK368, GW368, GE368⟩ := n_; clear hb hbox hg) | ((with_reducible refine gate_callee (f := 29) rfl ?_); refine goesL_ (some 9) rfl rfl Tryz.func29 (by kernel_rfl) rfl #[.slice A0 l0.length c0] rfl (by (try simp only [List.map_toArray, List.map_cons, List.map_nil]); first | done | rfl | (simp only [List.length_drop, List.length_take]; rfl)) ?_; (with_reducible refine (spec_l6Two.calls k _ _ l0 t369 t370 t373 t374 _ ?side1 ?side2 A2.out).mono ?_); (case side1 => repeat (first | exact (Kd.C_below HR0.out HB.out) | (with_reducible refine Kd.C_alloc ?_ _) | (with_reducible refine Kd.C_drewN ?_ _) | (with_reducible refine Kd.C_drew ?_))); (case side2 => exact HC0.out); rintro e w4 ⟨v371, rfl, ho0, hb⟩; refine ⟨_, rfl, ?_⟩; have n_ := ac_ (Kd.R_lower ho0 (below_size q5_21)) <| ac_ (blk_below (g := gb368) (o := .cells #[.int .i64 0, .slice none 0 0] 26 (0, 0)) q5_23 hb) <| Aside0.mk (below_step q5_21 hb); clear BK368 HB; obtain ⟨HO372, BK368, HB⟩ := n_; (try clear hb ho0)) | (refine be_ 4 #[.int .i64 0, .slice none 0 0] 26 ?_; intro gb375 hg w5 hbox hb; have n_ := ac_ (Kd.R_below (by (with_reducible repeat (first | apply Kd.R_alloc | apply Kd.R_drewN | apply Kd.R_drew)); exact HO372.out) hb) <| ac_ (blk_below (g := gb368) (o := .cells #[.int .i64 0, .slice none 0 0] 26 (0, 0)) q5_23 hb) <| ac_ (below_step q5_21 hb) <| ac_ (hbox) <| ac_ ((gz_ w hg q5_21)) <| ac_ ((gz_ w hg q5_21)) <| ac_ ((nl_ hg (blk_lt (g := gb368) (o := .cells #[.int .i64 0, .slice none 0 0] 26 (0, 0)) q5_23))) <| Aside0.mk ((ng_ hg (blk_lt (g := gb368) (o := .cells #[.int .i64 0, .slice none 0 0] 26 (0, 0)) q5_23))); clear HO372 BK368 HB; obtain ⟨HO372, BK368, HB, BK375, GW375, GE375, NB368_375, NB375_368⟩ := n_; clear hb hbox hg; have hnb6 := NB375_368.out; have hnc6 := NB368_375.out; have hcz7_0 : w5.cell? ⟨gb375, 0, none⟩ = some (.int .i64 0) := (blk_cell BK375.out 0).trans rfl; have hcz7_1 : w5.cell? ⟨gb375, 1, none⟩ = some (.slice none 0 0) := (blk_cell BK375.out 1).trans rfl; have hfz7_0 := blk_frozen BK375.out 0; have hfz7_1 := blk_frozen BK375.out 1; obtain ⟨Ao8, co8, eo8⟩ := Kd.R_slice HO372.out; subst eo8; have hcz9_0 : w5.cell? ⟨gb368, 0, none⟩ = some (.int .i64 0) := (blk_cell BK368.out 0).trans rfl; have hcz9_1 : w5.cell? ⟨gb368, 1, none⟩ = some (.slice none 0 0) := (blk_cell BK368.out 1).trans rfl; have hfz9_0 := blk_frozen BK368.out 0; have hfz9_1 := blk_frozen BK368.out 1))
 refine bodyPost_ret (results_ct rfl _ _ gb368 26 #[.int .i64 t369, .slice Ao8 t370.length co8] (0, 0) _ rfl (by (with_reducible repeat (first | refine blk_drewN ?_ _ | refine blk_drew ?_ | refine blk_alloc ?_ _)); refine blk_put (cs := #[.int .i64 t369, .slice none 0 0]) ?_ 1 _ rfl; (with_reducible repeat (first | refine blk_drewN ?_ _ | refine blk_drew ?_ | refine blk_alloc ?_ _)); refine blk_put (cs := #[.int .i64 0, .slice none 0 0]) ?_ 0 _ rfl; (with_reducible repeat (first | refine blk_drewN ?_ _ | refine blk_drew ?_ | refine blk_alloc ?_ _)); refine blk_far ?_ NB368_375.out _; (with_reducible repeat (first | refine blk_drewN ?_ _ | refine blk_drew ?_ | refine blk_alloc ?_ _)); refine blk_far ?_ NB368_375.out _; (with_reducible repeat (first | refine blk_drewN ?_ _ | refine blk_drew ?_ | refine blk_alloc ?_ _)); exact BK368.out) Tryz.underlying26 rfl (by kernel_rfl)) rfl ?_
 exact ⟨_, (by first | rfl | (simp [errW_none, errW_some] <;> rfl) | (simp [*, errW_none, errW_some] <;> rfl)), (by (with_reducible repeat (first | apply Kd.R_alloc | apply Kd.R_drewN | apply Kd.R_drew)); exact Kd.R_mono (Kd.R_far (p := ⟨gb368, 1, none⟩) (Kd.R_far (p := ⟨gb368, 0, none⟩) (Kd.R_far (p := ⟨gb375, 1, none⟩) (Kd.R_far (p := ⟨gb375, 0, none⟩) (Kd.R_types (Kd.R_types HO372.out BK375.out (by decide)) BK368.out (by decide)) (fun _ hk => hk.1.2) (.int .i64 t369)) (fun _ hk => hk.1.2) (.slice Ao8 t370.length co8)) (fun _ hk => hk.2) (.int .i64 t369)) (fun _ hk => hk.2) (.slice Ao8 t370.length co8)) (fun _ hk => trivial)), (by repeat (first | (with_reducible first | exact HB.out | apply below_alloc | apply pw_below_drewN | apply below_drew1 | refine below_set ?_ GE368.out | refine below_set ?_ GE375.out) | exact HB.out))⟩
def impl_inSet.f (a0 : Int) (a1 : Int) : Option (Bool) := some ((Go.bits .andNot .i64 a0 a1) == 0)
theorem impl_inSet.calls (a0 : Int) (a1 : Int) (r : Bool) (w : World) (h : impl_inSet.f a0 a1 = some r) :
  Calls Tryz.prog 71 #[.int .i64 a0, .int .i64 a1] w fun e w' => e = .returned (.bool r) ∧ Drawn0 w w' := by
 have H := h; clear h; unfold impl_inSet.f at H; obtain rfl := Option.some.inj H
 go_enter Tryz.func71, Tryz.ntmps71
 go_wp2
 go_ret
 exact ⟨rf_, (by repeat (first | exact Drawn0.refl _ | apply Drawn0.step))⟩
def impl_lattice_below.f (l0 : List (S51)) (a1 : Int) (a2 : Int) : Option (Bool) := if 0 ≤ a1 then (if a1 < (l0.length : Int) then (if 0 ≤ a2 then (if a2 < (l0.length : Int) then ((impl_inSet.f ((rd_T51 l0 a1).f0) ((rd_T51 l0 a2).f0)).bind fun t378 => (some t378)) else (none)) else (none)) else (none)) else (none)
theorem impl_lattice_below.calls (A0 : Option Addr) (c0 : Nat) (l0 : List (S51)) (a1 : Int) (a2 : Int) (r : Bool) (w : World) (hr0 : Kd.C k51 w A0 l0.length l0) (hc0 : l0.length ≤ c0) (h : impl_lattice_below.f l0 a1 a2 = some r) :
  Calls Tryz.prog 42 #[.slice A0 l0.length c0, .int .i64 a1, .int .i64 a2] w fun e w' => e = .returned (.bool r) ∧ Drawn0 w w' := by
 have HR0 := Aside0.mk hr0; have HC0 := Aside0.mk hc0; clear hr0 hc0; have H := h; clear h; unfold impl_lattice_below.f at H
 by_cases c4 : 0 ≤ a1
 ·
  rw [if_pos c4] at H; have c4b0 : decide (0 ≤ a1) = true := decide_eq_true c4; clear c4
  by_cases c5 : a1 < (l0.length : Int)
  ·
   rw [if_pos c5] at H; have c5b0 : decide (a1 < (l0.length : Int)) = true := decide_eq_true c5; clear c5
   by_cases c6 : 0 ≤ a2
   ·
    rw [if_pos c6] at H; have c6b0 : decide (0 ≤ a2) = true := decide_eq_true c6; clear c6
    by_cases c7 : a2 < (l0.length : Int)
    ·
     rw [if_pos c7] at H; have c7b0 : decide (a2 < (l0.length : Int)) = true := decide_eq_true c7; clear c7; obtain ⟨t378, A8, H⟩ := bnd5_ H; obtain rfl := Option.some.inj H; have p376 : 0 ≤ (a1 : Int) := of_decide_eq_true s4_; have q376 : a1 < (l0.length : Int) := of_decide_eq_true s4_; obtain ⟨ad376, e376, hx376_0, hx376_1⟩ := at_T51 HR0.out a1 p376 q376
     cases e376
     replace p376 := eq_true p376; replace q376 := eq_true q376; have p377 : 0 ≤ (a2 : Int) := of_decide_eq_true s4_; have q377 : a2 < (l0.length : Int) := of_decide_eq_true s4_; obtain ⟨ad377, e377, hx377_0, hx377_1⟩ := at_T51 HR0.out a2 p377 q377
     obtain rfl : ad376 = ad377 := (by injection e377)
     replace p377 := eq_true p377; replace q377 := eq_true q377
     go_enter Tryz.func42, Tryz.ntmps42
     go_wp2_with (first | (go_at_call 71; (with_reducible refine (impl_inSet.calls ((rd_T51 l0 a1).f0) ((rd_T51 l0 a2).f0) t378 _ A8.out).mono ?_); rintro e w' ⟨rfl, ⟨nd, rfl⟩⟩; (try exact dn_)))
     repeat (go_quiet (first | (go_at_call 71; (with_reducible refine (impl_inSet.calls ((rd_T51 l0 a1).f0) ((rd_T51 l0 a2).f0) t378 _ A8.out).mono ?_); rintro e w' ⟨rfl, ⟨nd, rfl⟩⟩; (try exact dn_))); try go_wp2_with (first | (go_at_call 71; (with_reducible refine (impl_inSet.calls ((rd_T51 l0 a1).f0) ((rd_T51 l0 a2).f0) t378 _ A8.out).mono ?_); rintro e w' ⟨rfl, ⟨nd, rfl⟩⟩; (try exact dn_))))
     go_ret
     exact ⟨rf_, (by repeat (first | exact Drawn0.refl _ | apply Drawn0.step))⟩
    ·
     rw [if_neg c7] at H
     exact absurd H (by simp)
   ·
    rw [if_neg c6] at H
    exact absurd H (by simp)
  ·
   rw [if_neg c5] at H
   exact absurd H (by simp)
 ·
  rw [if_neg c4] at H
  exact absurd H (by simp)
def impl_lattice_under.f (l0 : List (S51)) (a1 : Int) (a2 : Int) : Option (Bool) := if a1 = a2 then (some false) else ((impl_lattice_below.f l0 a1 a2).bind fun t379 => (some t379))
theorem impl_lattice_under.calls (A0 : Option Addr) (c0 : Nat) (l0 : List (S51)) (a1 : Int) (a2 : Int) (r : Bool) (w : World) (hr0 : Kd.C k51 w A0 l0.length l0) (hc0 : l0.length ≤ c0) (h : impl_lattice_under.f l0 a1 a2 = some r) :
  Calls Tryz.prog 84 #[.slice A0 l0.length c0, .int .i64 a1, .int .i64 a2] w fun e w' => e = .returned (.bool r) ∧ Drawn0 w w' := by
 have HR0 := Aside0.mk hr0; have HC0 := Aside0.mk hc0; clear hr0 hc0; have H := h; clear h; unfold impl_lattice_under.f at H
 by_cases c4 : a1 = a2
 ·
  rw [if_pos c4] at H; have c4b0 : (a1 == a2) = true := beq_iff_eq.mpr c4; have c4b1 : (a1 != a2) = false := bne_eq_false_iff_eq.mpr c4; clear c4; obtain rfl := Option.some.inj H
  go_enter Tryz.func84, Tryz.ntmps84
  go_wp2
  go_ret
  exact ⟨rf_, (by repeat (first | exact Drawn0.refl _ | apply Drawn0.step))⟩
 ·
  rw [if_neg c4] at H; have c4b0 : (a1 == a2) = false := beq_eq_false_iff_ne.mpr c4; have c4b1 : (a1 != a2) = true := bne_iff_ne.mpr c4; obtain ⟨t379, A5, H⟩ := bnd5_ H; obtain rfl := Option.some.inj H
  go_enter Tryz.func84, Tryz.ntmps84
  go_wp2_with (first | (go_at_call 42; (with_reducible refine (impl_lattice_below.calls _ _ l0 a1 a2 t379 _ ?side1 ?side2 A5.out).mono ?_); (case side1 => repeat (first | exact HR0.out | (with_reducible refine Kd.C_alloc ?_ _) | (with_reducible refine Kd.C_drewN ?_ _) | (with_reducible refine Kd.C_drew ?_))); (case side2 => exact HC0.out); rintro e w' ⟨rfl, ⟨nd, rfl⟩⟩))
  go_ret
  exact ⟨rf_, (by repeat (first | exact Drawn0.refl _ | apply Drawn0.step))⟩
def impl_lattice_covers.l0 : Nat → List (S51) → Int → Int → Int → Int → Option (Bool)
 | 0, _, _, _, _, _ => none
 | k + 1, x0, x1, x2, x14, x15 => if x15 < x14 then ((impl_lattice_under.f x0 x1 x15).bind fun t381 => (if t381 = true then ((impl_lattice_under.f x0 x15 x2).bind fun t382 => (if t382 = true then (some false) else (impl_lattice_covers.l0 k x0 x1 x2 x14 (wrap64 (x15 + 1))))) else (impl_lattice_covers.l0 k x0 x1 x2 x14 (wrap64 (x15 + 1))))) else (some true)
def impl_lattice_covers.f (k : Nat) (l0 : List (S51)) (a1 : Int) (a2 : Int) : Option (Bool) := (impl_lattice_under.f l0 a1 a2).bind fun t380 => (if t380 = true then (impl_lattice_covers.l0 k l0 a1 a2 (l0.length : Int) 0) else (some false))
theorem impl_lattice_covers.calls (k : Nat) (A0 : Option Addr) (c0 : Nat) (l0 : List (S51)) (a1 : Int) (a2 : Int) (r : Bool) (w : World) (hr0 : Kd.C k51 w A0 l0.length l0) (hc0 : l0.length ≤ c0) (h : impl_lattice_covers.f k l0 a1 a2 = some r) :
  Calls Tryz.prog 62 #[.slice A0 l0.length c0, .int .i64 a1, .int .i64 a2] w fun e w' => e = .returned (.bool r) ∧ Drawn0 w w' := by
 have HR0 := Aside0.mk hr0; have HC0 := Aside0.mk hc0; clear hr0 hc0; have H := h; clear h; unfold impl_lattice_covers.f at H; obtain ⟨t380, A4, H⟩ := bnd5_ H
 by_cases c5 : t380 = true
 ·
  subst c5; rw [if_pos rfl] at H; have H' := Aside0.mk H; clear H
  go_enter Tryz.func62, Tryz.ntmps62
  go_wp2_with (first | (refine gL_ 84 11 Tryz.func84 #[.slice A0 l0.length c0, .int .i64 a1, .int .i64 a2] ?_; (with_reducible refine (impl_lattice_under.calls _ _ l0 a1 a2 true _ ?side1 ?side2 A4.out).mono ?_); (case side1 => exact s14_); (case side2 => exact HC0.out); rintro e w' ⟨rfl, ⟨nd, rfl⟩⟩; refine ⟨_, rfl, ?_⟩))
  go_loopg [15] k (fun kq v15 w' => ∃ (x15_1 : Int), v15 = .int .i64 x15_1 ∧ Aside0 (impl_lattice_covers.l0 kq l0 a1 a2 (l0.length : Int) x15_1 = some r) ∧ Aside0 (kq ≤ k) ∧ Drawn0 w w')
  case atStart => exact ⟨(0), s3_, H', ⟨Nat.le_refl _⟩, s10_⟩
  case round =>
   clear H'
   try clear p2
   try clear c5
   obtain ⟨x15_1, rfl, HA, HK1, ⟨m1, rfl⟩⟩ := hrel
   cases gk with
   | zero => exact absurd HA.out (by simp [impl_lattice_covers.l0])
   | succ k1 =>
    have H := HA.out; clear HA
    simp only [impl_lattice_covers.l0] at H
    by_cases c6 : x15_1 < (l0.length : Int)
    ·
     rw [if_pos c6] at H; have c6b0 : decide (x15_1 < (l0.length : Int)) = true := decide_eq_true c6; clear c6; obtain ⟨t381, A7, H⟩ := bnd5_ H
     by_cases c8 : t381 = true
     ·
      subst c8; rw [if_pos rfl] at H; obtain ⟨t382, A9, H⟩ := bnd5_ H
      by_cases c10 : t382 = true
      ·
       subst c10; rw [if_pos rfl] at H; obtain rfl := Option.some.inj H
       go_wp2_with (first | (refine gL_ 84 21 Tryz.func84 #[.slice A0 l0.length c0, .int .i64 a1, .int .i64 x15_1] ?_; (with_reducible refine (impl_lattice_under.calls _ _ l0 a1 x15_1 true _ ?side1 ?side2 A7.out).mono ?_); (case side1 => exact s14_); (case side2 => exact HC0.out); rintro e w' ⟨rfl, ⟨nd, rfl⟩⟩; refine ⟨_, rfl, ?_⟩) | (go_at_call 84; (with_reducible refine (impl_lattice_under.calls _ _ l0 x15_1 a2 true _ ?side1 ?side2 A9.out).mono ?_); (case side1 => exact s14_); (case side2 => exact HC0.out); rintro e w' ⟨rfl, ⟨nd, rfl⟩⟩))
       go_ret
       exact ⟨s3_, s10_⟩
      ·
       replace c10 := Bool.eq_false_iff.mpr c10; subst c10
       rw [if_neg (show ¬ (false = true) by decide)] at H
       have H' := Aside0.mk H; clear H
       go_wp2_with (first | (refine gL_ 84 21 Tryz.func84 #[.slice A0 l0.length c0, .int .i64 a1, .int .i64 x15_1] ?_; (with_reducible refine (impl_lattice_under.calls _ _ l0 a1 x15_1 true _ ?side1 ?side2 A7.out).mono ?_); (case side1 => exact s14_); (case side2 => exact HC0.out); rintro e w' ⟨rfl, ⟨nd, rfl⟩⟩; refine ⟨_, rfl, ?_⟩) | (go_at_call 84; (with_reducible refine (impl_lattice_under.calls _ _ l0 x15_1 a2 false _ ?side1 ?side2 A9.out).mono ?_); (case side1 => exact s14_); (case side2 => exact HC0.out); rintro e w' ⟨rfl, ⟨nd, rfl⟩⟩))
       go_roundg k1
       case measure => have := HK1.out; omega
       case rel => exact ⟨(wrap64 (x15_1 + 1)), s3_, H', ⟨by have := HK1.out; omega⟩, s10_⟩
     ·
      replace c8 := Bool.eq_false_iff.mpr c8; subst c8
      rw [if_neg (show ¬ (false = true) by decide)] at H
      have H' := Aside0.mk H; clear H
      go_wp2_with (first | (refine gL_ 84 21 Tryz.func84 #[.slice A0 l0.length c0, .int .i64 a1, .int .i64 x15_1] ?_; (with_reducible refine (impl_lattice_under.calls _ _ l0 a1 x15_1 false _ ?side1 ?side2 A7.out).mono ?_); (case side1 => exact s14_); (case side2 => exact HC0.out); rintro e w' ⟨rfl, ⟨nd, rfl⟩⟩; refine ⟨_, rfl, ?_⟩))
      go_roundg k1
      case measure => have := HK1.out; omega
      case rel => exact ⟨(wrap64 (x15_1 + 1)), s3_, H', ⟨by have := HK1.out; omega⟩, s10_⟩
    ·
     rw [if_neg c6] at H; have c6b0 : decide (x15_1 < (l0.length : Int)) = false := decide_eq_false c6; clear c6; obtain rfl := Option.some.inj H
     go_wp2
     go_ret
     exact ⟨s3_, s10_⟩
 ·
  replace c5 := Bool.eq_false_iff.mpr c5; subst c5
  rw [if_neg (show ¬ (false = true) by decide)] at H
  obtain rfl := Option.some.inj H
  go_enter Tryz.func62, Tryz.ntmps62
  go_wp2_with (first | (refine gL_ 84 11 Tryz.func84 #[.slice A0 l0.length c0, .int .i64 a1, .int .i64 a2] ?_; (with_reducible refine (impl_lattice_under.calls _ _ l0 a1 a2 false _ ?side1 ?side2 A4.out).mono ?_); (case side1 => exact s14_); (case side2 => exact HC0.out); rintro e w' ⟨rfl, ⟨nd, rfl⟩⟩; refine ⟨_, rfl, ?_⟩))
  go_ret
  exact ⟨s3_, s10_⟩
theorem q5_29 {P : Prop} (h : P := by repeat (first | (with_reducible first | exact HB.out | apply below_alloc | apply pw_below_drewN | apply below_drew1 | refine below_set ?_ (IsS71.ge HI413.out) | refine below_set ?_ GE409.out) | exact HB.out)) : P := h
theorem q5_32 {P : Prop} (h : P := by (with_reducible repeat (first | refine blk_drewN ?_ _ | refine blk_drew ?_ | refine blk_alloc ?_ _)); exact BK409.out) : P := h
def spec_DrawTopOf.f (k : Nat) (l0 : List Int) : Option (Int × List Int) := (spec_l1New.f k l0).bind fun bt410 => ((spec_l3Bent.f k bt410.1 bt410.2.1 bt410.2.2).bind fun bt414 => (some (bt414.1, bt414.2.1)))
theorem spec_DrawTopOf.calls (k : Nat) (A0 : Option Addr) (c0 : Nat) (l0 : List Int) (r1 : Int) (r2 : List Int) (w : World) (hr0 : Kd.C (Kd.int .u8) w A0 l0.length l0) (hc0 : l0.length ≤ c0) (h : spec_DrawTopOf.f k l0 = some (r1, r2)) :
  Calls Tryz.prog 11 #[.slice A0 l0.length c0] w fun e w' => ∃ v1_ : Value, e = .returned (.agg #[.int .i64 r1, v1_]) ∧ Kd.R (Kd.int .i64) 3 w' w.heap.size (fun _ => True) v1_ r2 ∧ Below w.heap.size w w' := by
 have hu26 := Tryz.underlying26; have HR0 := Aside0.mk hr0; have HC0 := Aside0.mk hc0; clear hr0 hc0; have HB := Aside0.mk (Below.refl w.heap.size w); have H := h; clear h; unfold spec_DrawTopOf.f at H; obtain ⟨⟨t410, t411, t412⟩, A2, H⟩ := bnd5_ H; dsimp only at H; obtain ⟨⟨t414, t415, t418, t419⟩, A3, H⟩ := bnd5_ H; dsimp only at H
 simp only [Option.some.injEq, Prod.mk.injEq] at H
 obtain ⟨rfl, rfl⟩ := H
 go_enter Tryz.func11, Tryz.ntmps11
 go_wp2_with (first | (refine be_ 2 #[.int .i64 0, .slice none 0 0] 26 ?_; intro gb409 hg w4 hbox hb; have n_ := ac_ (below_step s0_ hb) <| ac_ (hbox) <| ac_ ((gz_ w hg s0_)) <| Aside0.mk ((gz_ w hg s0_)); clear HB; obtain ⟨HB, BK409, GW409, GE409⟩ := n_; clear hb hbox hg) | (refine gL_ 37 4 Tryz.func37 #[.slice A0 l0.length c0] ?_; (with_reducible refine (spec_l1New.calls k _ _ l0 t410 t411 t412 w _ ?side1 ?side2 ?side3 A2.out).mono ?_); (case side1 => repeat (first | (with_reducible first | exact HB.out | apply below_alloc | apply pw_below_drewN | apply below_drew1 | refine below_set ?_ GE409.out) | exact HB.out)); (case side2 => exact HR0.out); (case side3 => exact HC0.out); rintro e w5 ⟨g413, rfl, hi, hb, hb2⟩; refine ⟨_, rfl, ?_⟩; have n_ := ac_ (blk_below (g := gb409) (o := .cells #[.int .i64 0, .slice none 0 0] 26 (0, 0)) q5_32 hb2) <| ac_ (hb) <| ac_ (hi) <| ac_ (IsS71.ne_blk hi (blk_below (g := gb409) (o := .cells #[.int .i64 0, .slice none 0 0] 26 (0, 0)) q5_32 hb2) (by decide)) <| Aside0.mk (Ne.symm (IsS71.ne_blk hi (blk_below (g := gb409) (o := .cells #[.int .i64 0, .slice none 0 0] 26 (0, 0)) q5_32 hb2) (by decide))); clear BK409 HB; obtain ⟨BK409, HB, HI413, NB413_409, NB409_413⟩ := n_; (try clear hb hb2 hi)) | (refine gL_ 36 5 Tryz.func36 #[.pointer (some ⟨g413, 0, none⟩)] ?_; (with_reducible refine (spec_l3Bent.calls k g413 t410 t411 t412 t414 t415 t418 t419 w _ ?side1 ?side2 A3.out).mono ?_); (case side1 => repeat (first | (with_reducible first | exact HI413.out | apply IsS71.alloc | apply IsS71.drewN | apply IsS71.drew | apply IsS71.set_1 | apply IsS71.set_2 | refine IsS71.far ?_ NB413_409.out _) | exact HI413.out)); (case side2 => exact q5_29); rintro e w6 ⟨v416, rfl, ho0, hi, hb, hk⟩; refine ⟨_, rfl, ?_⟩; have n_ := ac_ (KeepBut.blk hk (g' := gb409) (o := .cells #[.int .i64 0, .slice none 0 0] 26 (0, 0)) q5_32 NB409_413.out (by simp)) <| ac_ (Kd.R_lower ho0 (below_size q5_29)) <| ac_ (hb) <| Aside0.mk (hi); clear BK409 HB HI413; obtain ⟨BK409, HO417, HB, HI413⟩ := n_; (try clear hb hk hi ho0); have hnb7 := NB409_413.out; have hnc7 := NB413_409.out; have hcz8_0 : w6.cell? ⟨gb409, 0, none⟩ = some (.int .i64 0) := (blk_cell BK409.out 0).trans rfl; have hcz8_1 : w6.cell? ⟨gb409, 1, none⟩ = some (.slice none 0 0) := (blk_cell BK409.out 1).trans rfl; have hfz8_0 := blk_frozen BK409.out 0; have hfz8_1 := blk_frozen BK409.out 1; obtain ⟨Ao9, co9, eo9⟩ := Kd.R_slice HO417.out; subst eo9))
 refine bodyPost_ret (results_cell_row rfl _ _ gb409 26 #[.int .i64 t414, .slice Ao9 t415.length co9] (0, 0) _ rfl (by (with_reducible repeat (first | refine blk_drewN ?_ _ | refine blk_drew ?_ | refine blk_alloc ?_ _)); refine blk_put (cs := #[.int .i64 t414, .slice none 0 0]) ?_ 1 _ rfl; (with_reducible repeat (first | refine blk_drewN ?_ _ | refine blk_drew ?_ | refine blk_alloc ?_ _)); refine blk_put (cs := #[.int .i64 0, .slice none 0 0]) ?_ 0 _ rfl; (with_reducible repeat (first | refine blk_drewN ?_ _ | refine blk_drew ?_ | refine blk_alloc ?_ _)); exact BK409.out) Tryz.underlying26 rfl (by kernel_rfl)) rfl ?_
 exact ⟨_, (by first | rfl | (simp [errW_none, errW_some] <;> rfl) | (simp [*, errW_none, errW_some] <;> rfl)), (by (with_reducible repeat (first | apply Kd.R_alloc | apply Kd.R_drewN | apply Kd.R_drew)); exact Kd.R_mono (Kd.R_far (p := ⟨gb409, 1, none⟩) (Kd.R_far (p := ⟨gb409, 0, none⟩) (Kd.R_types HO417.out BK409.out (by decide)) (fun _ hk => hk.2) (.int .i64 t414)) (fun _ hk => hk.2) (.slice Ao9 t415.length co9)) (fun _ hk => trivial)), q5_29⟩
def spec_l6Exists.f (l0 : List (S51)) (a1 : Int) : Option (Bool) := (spec_l1In.f a1 0 (wrap64 ((l0.length : Int) - 1))).bind fun t420 => (some t420)
theorem spec_l6Exists.calls (A0 : Option Addr) (c0 : Nat) (l0 : List (S51)) (a1 : Int) (r : Bool) (w : World) (hr0 : Kd.C k51 w A0 l0.length l0) (hc0 : l0.length ≤ c0) (h : spec_l6Exists.f l0 a1 = some r) :
  Calls Tryz.prog 38 #[.slice A0 l0.length c0, .int .i64 a1] w fun e w' => e = .returned (.bool r) ∧ Drawn0 w w' := by
 have HR0 := Aside0.mk hr0; have HC0 := Aside0.mk hc0; clear hr0 hc0; have H := h; clear h; unfold spec_l6Exists.f at H; obtain ⟨t420, A3, H⟩ := bnd5_ H; obtain rfl := Option.some.inj H
 go_enter Tryz.func38, Tryz.ntmps38
 go_wp2_with (first | ((with_reducible refine gate_callee (f := 67) rfl ?_); refine goesL_ (some 9) rfl rfl Tryz.func67 (by kernel_rfl) rfl #[.int .i64 a1, .int .i64 0, .int .i64 (wrap64 ((l0.length : Int) - 1))] rfl (by (try simp only [List.map_toArray, List.map_cons, List.map_nil]); first | done | rfl | (simp only [List.length_drop, List.length_take]; rfl)) ?_; (with_reducible refine (spec_l1In.calls a1 0 (wrap64 ((l0.length : Int) - 1)) t420 _ A3.out).mono ?_); rintro e w' ⟨rfl, ⟨nd, rfl⟩⟩; refine ⟨_, rfl, ?_⟩))
 go_ret
 exact ⟨rf_, (by repeat (first | exact Drawn0.refl _ | apply Drawn0.step))⟩
def spec_l6At.l0 : Nat → List (S51) → Int → Int → Option (Int)
 | 0, _, _, _ => none
 | k + 1, x0, x1, x5 => if x5 < (x0.length : Int) then (if 0 ≤ x5 then (if ((rd_T51 x0 x5).f1) = x1 then (some x5) else (spec_l6At.l0 k x0 x1 (wrap64 (x5 + 1)))) else (none)) else (some (-1))
def spec_l6At.f (k : Nat) (l0 : List (S51)) (a1 : Int) : Option (Int) := spec_l6At.l0 k l0 a1 0
theorem spec_l6At.calls (k : Nat) (A0 : Option Addr) (c0 : Nat) (l0 : List (S51)) (a1 : Int) (r : Int) (w : World) (hr0 : Kd.C k51 w A0 l0.length l0) (hc0 : l0.length ≤ c0) (h : spec_l6At.f k l0 a1 = some r) :
  Calls Tryz.prog 39 #[.slice A0 l0.length c0, .int .i64 a1] w fun e w' => e = .returned (.int .i64 r) ∧ Drawn0 w w' := by
 have HR0 := Aside0.mk hr0; have HC0 := Aside0.mk hc0; clear hr0 hc0; have H := h; clear h; unfold spec_l6At.f at H; have H' := Aside0.mk H; clear H
 go_enter Tryz.func39, Tryz.ntmps39
 go_wp2
 go_loopg [5] k (fun kq v5 w' => ∃ (x5_1 : Int), v5 = .int .i64 x5_1 ∧ Aside0 (spec_l6At.l0 kq l0 a1 x5_1 = some r) ∧ Aside0 (kq ≤ k) ∧ Drawn0 w w')
 case atStart => exact ⟨(0), s3_, H', ⟨Nat.le_refl _⟩, s10_⟩
 case round =>
  clear H'
  try clear p2
  obtain ⟨x5_1, rfl, HA, HK1, ⟨m1, rfl⟩⟩ := hrel
  cases gk with
  | zero => exact absurd HA.out (by simp [spec_l6At.l0])
  | succ k1 =>
   have H := HA.out; clear HA
   simp only [spec_l6At.l0] at H
   by_cases c3 : x5_1 < (l0.length : Int)
   ·
    rw [if_pos c3] at H; have c3b0 : decide (x5_1 < (l0.length : Int)) = true := decide_eq_true c3; clear c3
    by_cases c4 : 0 ≤ x5_1
    ·
     rw [if_pos c4] at H; have c4b0 : decide (0 ≤ x5_1) = true := decide_eq_true c4; clear c4
     by_cases c5 : ((rd_T51 l0 x5_1).f1) = a1
     ·
      rw [if_pos c5] at H; have c5b0 : (((rd_T51 l0 x5_1).f1) == a1) = true := beq_iff_eq.mpr c5; have c5b1 : (((rd_T51 l0 x5_1).f1) != a1) = false := bne_eq_false_iff_eq.mpr c5; clear c5; obtain rfl := Option.some.inj H; have p421 : 0 ≤ (x5_1 : Int) := of_decide_eq_true s4_; have q421 : x5_1 < (l0.length : Int) := of_decide_eq_true s4_; obtain ⟨ad421, e421, hx421_0, hx421_1⟩ := at_T51 HR0.out x5_1 p421 q421
      cases e421
      replace p421 := eq_true p421; replace q421 := eq_true q421
      go_wp2
      go_ret
      exact ⟨s3_, s10_⟩
     ·
      rw [if_neg c5] at H; have c5b0 : (((rd_T51 l0 x5_1).f1) == a1) = false := beq_eq_false_iff_ne.mpr c5; have c5b1 : (((rd_T51 l0 x5_1).f1) != a1) = true := bne_iff_ne.mpr c5; have H' := Aside0.mk H; clear H; have p421 : 0 ≤ (x5_1 : Int) := of_decide_eq_true s4_; have q421 : x5_1 < (l0.length : Int) := of_decide_eq_true s4_; obtain ⟨ad421, e421, hx421_0, hx421_1⟩ := at_T51 HR0.out x5_1 p421 q421
      cases e421
      replace p421 := eq_true p421; replace q421 := eq_true q421
      go_wp2
      go_roundg k1
      case measure => have := HK1.out; omega
      case rel => exact ⟨(wrap64 (x5_1 + 1)), s3_, H', ⟨by have := HK1.out; omega⟩, s10_⟩
    ·
     rw [if_neg c4] at H
     exact absurd H (by simp)
   ·
    rw [if_neg c3] at H; have c3b0 : decide (x5_1 < (l0.length : Int)) = false := decide_eq_false c3; clear c3; obtain rfl := Option.some.inj H
    go_wp2
    go_ret
    exact ⟨s3_, s10_⟩
end Go.Proofs.YtfmpafgmcleogaaGreatDoor.Pr
