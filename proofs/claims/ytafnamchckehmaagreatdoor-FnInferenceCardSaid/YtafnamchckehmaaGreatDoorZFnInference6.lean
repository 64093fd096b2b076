/- Functions of the program as plain functions, proofs that their calls answer so, and plain laws: what the law needs. No condition beyond what each statement says. -/
import Derived.Test.YtafnamchckehmaaGreatDoorZFnInference5
namespace Go.Proofs.YtafnamchckehmaaGreatDoor.Pr
set_option maxHeartbeats 40000000
set_option maxRecDepth 100000
open Go.RowKit Go.Proofs.YtafnamchckehmaaGreatDoorW.PrintWords Go.Proofs.YtafnamchckehmaaGreatDoorW.PrintLast Go.Proofs.YtafnamchckehmaaGreatDoorW.PrintMore
attribute [local go_sem] max2_int min2_int max_two min_two max_three min_three max_four min_four
set_option linter.unusedVariables false
set_option linter.unusedSimpArgs false
theorem bnd16_ {α β : Type} {o : Option α} {f : α → Option β} {r : β} (h : o.bind f = some r) : ∃ a, Aside0 (o = some a) ∧ f a = some r := by
 obtain ⟨a, h1, h2⟩ := Option.bind_eq_some_iff.mp h
 exact ⟨a, ⟨h1⟩, h2⟩
theorem q16_1 {P : Prop} (h : P := by (with_reducible repeat (first | refine blk_drewN ?_ _ | refine blk_drew ?_ | refine blk_alloc ?_ _)); refine blk_put (cs := #[.int .i64 t370, .int .i64 0]) ?_ 1 _ rfl; (with_reducible repeat (first | refine blk_drewN ?_ _ | refine blk_drew ?_ | refine blk_alloc ?_ _)); refine blk_put (cs := #[.int .i64 0, .int .i64 0]) ?_ 0 _ rfl; (with_reducible repeat (first | refine blk_drewN ?_ _ | refine blk_drew ?_ | refine blk_alloc ?_ _)); exact BK366.out) : P := h
theorem q16_2 {P : Prop} (h : P := by (with_reducible repeat (first | refine blk_drewN ?_ _ | refine blk_drew ?_ | refine blk_alloc ?_ _)); refine blk_put (cs := #[.int .i64 t370, .int .i64 0]) ?_ 1 _ rfl; (with_reducible repeat (first | refine blk_drewN ?_ _ | refine blk_drew ?_ | refine blk_alloc ?_ _)); refine blk_put (cs := #[.int .i64 0, .int .i64 0]) ?_ 0 _ rfl; (with_reducible repeat (first | refine blk_drewN ?_ _ | refine blk_drew ?_ | refine blk_alloc ?_ _)); exact BK372.out) : P := h
theorem q16_3 {P : Prop} (h : P := by (with_reducible repeat (first | refine blk_drewN ?_ _ | refine blk_drew ?_ | refine blk_alloc ?_ _)); refine blk_far ?_ NB366_372.out _; (with_reducible repeat (first | refine blk_drewN ?_ _ | refine blk_drew ?_ | refine blk_alloc ?_ _)); refine blk_far ?_ NB366_372.out _; (with_reducible repeat (first | refine blk_drewN ?_ _ | refine blk_drew ?_ | refine blk_alloc ?_ _)); exact BK366.out) : P := h
theorem q16_4 {P : Prop} (h : P := by (with_reducible repeat (first | apply Kd.R_alloc | apply Kd.R_drewN | apply Kd.R_drew)); exact Kd.R_mono (Kd.R_far (p := ⟨gb366, 1, none⟩) (Kd.R_far (p := ⟨gb366, 0, none⟩) (Kd.R_mono HO_5.out (fun k_ hk => (⟨hk, hk.1⟩ : _ ∧ k_ ≠ gb366))) (fun _ hk => hk.2) (.int .i64 t370)) (fun _ hk => hk.2) (.int .i64 t371)) (fun _ hk => trivial)) : P := h
theorem q16_5 {P : Prop} (h : P := by first | (rw [add_block]; exact Kd.own_blk (IsS152.own_ne HI376.out HO_8.out (by decide))) | (show (Addr.add _ _).block ≠ _; rw [add_block]; exact Kd.own_blk (IsS152.own_ne HI376.out HO_8.out (by decide))) | exact Kd.own_blk (IsS152.own_ne HI376.out HO_8.out (by decide))) : P := h
theorem q16_6 {P : Prop} (h : P := by repeat (first | (with_reducible first | exact HI376.out | apply IsS152.alloc | apply IsS152.drewN | apply IsS152.drew | apply IsS152.set_1 | apply IsS152.set_2 | refine IsS152.far ?_ NB376_366.out _ | refine IsS152.far ?_ NB376_372.out _) | exact HI376.out)) : P := h
theorem q16_7 {P : Prop} (h : P := by repeat (first | (with_reducible first | exact HB.out | apply below_alloc | apply pw_below_drewN | apply below_drew1 | refine below_set ?_ (IsS152.ge HI376.out) | refine below_set ?_ GE366.out | refine below_set ?_ GE372.out) | exact HB.out)) : P := h
theorem q16_8 {P : Prop} (h : P := by have h_ : (t384 : Int) < ((t377.length : Int) : Int) := of_decide_eq_true (by first | (with_reducible assumption) | assumption); first | exact h_ | (have e_ := (Kd.R_reads' HO_8.out).1; omega) | simpa using h_) : P := h
theorem q16_9 {P : Prop} (h : P := by repeat (first | (with_reducible first | exact HB.out | apply below_alloc | apply pw_below_drewN | apply below_drew1 | refine below_set ?_ GE366.out) | exact HB.out)) : P := h
theorem q16_10 {P : Prop} (h : P := by (with_reducible repeat (first | apply Kd.R_alloc | apply Kd.R_drewN | apply Kd.R_drew)); exact Kd.R_mono HO369.out (fun _ hk => ⟨hk.1.2, hk.2⟩)) : P := h
theorem q16_13 {P : Prop} (h : P := by (with_reducible repeat (first | refine blk_drewN ?_ _ | refine blk_drew ?_ | refine blk_alloc ?_ _)); exact BK366.out) : P := h
theorem q16_14 {P : Prop} (h : P := by (with_reducible repeat (first | refine blk_drewN ?_ _ | refine blk_drew ?_ | refine blk_alloc ?_ _)); exact BK372.out) : P := h
theorem q16_15 {P : Prop} (h : P := by (with_reducible repeat (first | apply Kd.R_alloc | apply Kd.R_drewN | apply Kd.R_drew)); exact HO369.out) : P := h
theorem q16_16 {P : Prop} (h : P := by (with_reducible repeat (first | apply Kd.R_alloc | apply Kd.R_drewN | apply Kd.R_drew)); exact HO379.out) : P := h
theorem q16_18 {P : Prop} (h : P := by (with_reducible repeat (first | apply Kd.R_alloc | apply Kd.R_drewN | apply Kd.R_drew)); exact HO_8.out) : P := h
theorem q16_21 {P : Prop} (h : P := by decide) : P := h
mutual
def spec_DrawCheckProof.j0 : Nat → List (S48) → List (S110) → Bool → Int → Int → List Int → Int → Int → Option ((List (S48)) × Int × Int × (List (S110)))
 | 0, _, _, _, _, _, _, _, _ => none
 | k + 1, x5, x8, x30, x373000, x373001, x377000, x377001, x377002 => if x30 = true then ((spec_l1Below.f x377000 x377001 x377002 (x8.length : Int)).bind fun bt384 => (if 0 ≤ bt384.1 then (if bt384.1 < (x8.length : Int) then ((spec_l1PickInt.f x377000 bt384.2.1 bt384.2.2 (([1, 2, 16] : List Int))).bind fun bt391 => (spec_DrawCheckProof.j1 k x5 (x8.set (bt384.1 : Int).toNat (⟨(rd_T110 x8 bt384.1).f0, Go.bits .xor .i64 ((rd_T110 x8 bt384.1).f1) bt391.1⟩ : S110)) x373000 x373001 x377000 bt391.2.1 bt391.2.2)) else (none)) else (none))) else (spec_DrawCheckProof.j1 k x5 x8 x373000 x373001 x377000 x377001 x377002)
def spec_DrawCheckProof.j1 : Nat → List (S48) → List (S110) → Int → Int → List Int → Int → Int → Option ((List (S48)) × Int × Int × (List (S110)))
 | 0, _, _, _, _, _, _, _ => none
 | k + 1, x5, x8, x373000, x373001, x377000, x377001, x377002 => (spec_l1Once.f x377000 x377001 x377002 10).bind fun bt395 => (if bt395.1 = true then ((spec_l1Below.f x377000 bt395.2.1 bt395.2.2 6).bind fun bt398 => ((spec_l1Below.f x377000 bt398.2.1 bt398.2.2 32).bind fun bt401 => (if x8.length < 8796093022208 then (some (x5, x373000, x373001, (x8 ++ [(⟨wrap64 (bt398.1 - 1), bt401.1⟩ : S110)]))) else (none)))) else (some (x5, x373000, x373001, x8)))
end
def spec_DrawCheckProof.f (k : Nat) (l0 : List Int) : Option ((List (S48)) × Int × Int × (List (S110))) := (spec_DrawFollows.f k l0).bind fun bt367 => ((spec_l1New.f k l0).bind fun bt373 => ((spec_ProofOf.f k bt367.1 bt367.2.1 bt367.2.2).bind fun bt377 => (if (bt377.1.length : Int) > 0 then ((spec_l1Once.f bt373.1 bt373.2.1 bt373.2.2 3).bind fun bt381 => (spec_DrawCheckProof.j0 k bt367.1 bt377.1 bt381.1 bt367.2.1 bt367.2.2 bt373.1 bt381.2.1 bt381.2.2)) else (spec_DrawCheckProof.j0 k bt367.1 bt377.1 false bt367.2.1 bt367.2.2 bt373.1 bt373.2.1 bt373.2.2))))
def spec_DrawCheckProof.T6 : Bool × List (List Nat × List Nat) := (true, [([], []), ([], []), ([], []), ([], []), ([2, 3], [2, 3]), ([4], [4]), ([5], [5]), ([], []), ([], []), ([7, 8], [7, 8]), ([6, 9], [6, 9]), ([0, 1, 0, 1, 2, 3, 4, 5, 6, 7, 8, 9, 10], [0, 1]), ([11, 0, 1, 2, 3, 4, 5, 6, 7, 8, 9, 10], [11]), ([12, 10, 9, 0, 1, 2, 3, 4, 5, 6, 7, 8, 9, 10], [10, 12])])
def spec_DrawCheckProof.B6 : List Nat := [0, 0, 0, 0, 12, 28, 60, 0, 0, 384, 1020, 2047, 4095, 8191]
theorem spec_DrawCheckProof.tab6 : rtab .any (opsOf Tryz.f32 6) = spec_DrawCheckProof.T6 := s10_
theorem spec_DrawCheckProof.bits6 : waitsOk spec_DrawCheckProof.T6.2 spec_DrawCheckProof.B6 = true := s10_
theorem spec_DrawCheckProof.calls (k : Nat) (A0 : Option Addr) (c0 : Nat) (l0 : List Int) (r1 : List (S48)) (r2 : Int) (r3 : Int) (r4 : List (S110)) (w : World) (hr0 : Kd.C (Kd.int .u8) w A0 l0.length l0) (hc0 : l0.length ≤ c0) (h : spec_DrawCheckProof.f k l0 = some (r1, r2, r3, r4)) :
  Calls Tryz.prog 32 #[.slice A0 l0.length c0] w fun e w' => ∃ v0_ v3_ : Value, e = .returned (.tuple #[v0_, .agg #[.int .i64 r2, .int .i64 r3], v3_]) ∧ Kd.R k48 48 w' w.heap.size (fun _ => True) v0_ r1 ∧ Kd.R k110 110 w' w.heap.size (fun _ => True) v3_ r4 ∧ Below w.heap.size w w' := by
 have hu48 := Tryz.underlying48; have hu110 := Tryz.underlying110; have HR0 := Aside0.mk hr0; have HC0 := Aside0.mk hc0; clear hr0 hc0; have HB := Aside0.mk (Below.refl w.heap.size w); have H := h; clear h; unfold spec_DrawCheckProof.f at H; obtain ⟨⟨t367, t370, t371⟩, A2, H⟩ := bnd16_ H; dsimp only at H; obtain ⟨⟨t373, t374, t375⟩, A3, H⟩ := bnd16_ H; dsimp only at H; obtain ⟨⟨t377, t380⟩, A4, H⟩ := bnd16_ H; dsimp only at H; have HC5 := Aside0.mk H; clear H
 go_enter Tryz.func32, Tryz.ntmps32
 go_upto_region 4 with (first | (refine be_ 3 #[.int .i64 0, .int .i64 0] 48 ?_; intro gb366 hg w6 hbox hb; have n_ := ac_ (below_step s1_ hb) <| ac_ (hbox) <| ac_ ((gz_ w hg s1_)) <| Aside0.mk ((gz_ w hg s1_)); clear HB; obtain ⟨HB, BK366, GW366, GE366⟩ := n_; clear hb hbox hg) | (refine gL_ 67 13 Tryz.func67 #[.slice A0 l0.length c0] ?_; (with_reducible refine (spec_DrawFollows.calls k _ _ l0 t367 t370 t371 _ ?side1 ?side2 A2.out).mono ?_); (case side1 => repeat (first | exact (Kd.C_below HR0.out HB.out) | (with_reducible refine Kd.C_alloc ?_ _) | (with_reducible refine Kd.C_drewN ?_ _) | (with_reducible refine Kd.C_drew ?_))); (case side2 => exact HC0.out); rintro e w7 ⟨v368, rfl, ho0, hb⟩; refine ⟨_, rfl, ?_⟩; have n_ := ac_ (Kd.R_lower (Kd.R_newB ho0 (g := gb366) (o := .cells #[.int .i64 0, .int .i64 0] 48 (0, 0)) q16_13) (below_size q16_9)) <| ac_ (blk_below (g := gb366) (o := .cells #[.int .i64 0, .int .i64 0] 48 (0, 0)) q16_13 hb) <| Aside0.mk (below_step q16_9 hb); clear BK366 HB; obtain ⟨HO369, BK366, HB⟩ := n_; (try clear hb ho0)) | (refine be_ 6 #[.int .i64 0, .int .i64 0] 48 ?_; intro gb372 hg w8 hbox hb; have n_ := ac_ (Kd.R_below (Kd.R_elderB q16_15 gb372 (Nat.le_of_eq hg.symm)) hb) <| ac_ (blk_below (g := gb366) (o := .cells #[.int .i64 0, .int .i64 0] 48 (0, 0)) q16_13 hb) <| ac_ (below_step q16_9 hb) <| ac_ (hbox) <| ac_ ((gz_ w hg q16_9)) <| ac_ ((gz_ w hg q16_9)) <| ac_ ((nl_ hg (blk_lt (g := gb366) (o := .cells #[.int .i64 0, .int .i64 0] 48 (0, 0)) q16_13))) <| Aside0.mk ((ng_ hg (blk_lt (g := gb366) (o := .cells #[.int .i64 0, .int .i64 0] 48 (0, 0)) q16_13))); clear HO369 BK366 HB; obtain ⟨HO369, BK366, HB, BK372, GW372, GE372, NB366_372, NB372_366⟩ := n_; clear hb hbox hg; have hnb9 := NB372_366.out; have hnc9 := NB366_372.out; have hcz10_0 : w8.cell? ⟨gb372, 0, none⟩ = some (.int .i64 0) := (blk_cell BK372.out 0).trans rfl; have hcz10_1 : w8.cell? ⟨gb372, 1, none⟩ = some (.int .i64 0) := (blk_cell BK372.out 1).trans rfl; have hfz10_0 := blk_frozen BK372.out 0; have hfz10_1 := blk_frozen BK372.out 1) | (refine gL_ 144 17 Tryz.func144 #[.slice A0 l0.length c0] ?_; (with_reducible refine (spec_l1New.calls k _ _ l0 t373 t374 t375 w _ ?side1 ?side2 ?side3 A3.out).mono ?_); (case side1 => repeat (first | (with_reducible first | exact HB.out | apply below_alloc | apply pw_below_drewN | apply below_drew1 | refine below_set ?_ GE366.out | refine below_set ?_ GE372.out) | exact HB.out)); (case side2 => exact HR0.out); (case side3 => exact HC0.out); rintro e w11 ⟨g376, rfl, hi, hb, hb2⟩; refine ⟨_, rfl, ?_⟩; have n_ := ac_ (Kd.R_below (by (with_reducible repeat (first | apply Kd.R_alloc | apply Kd.R_drewN | apply Kd.R_drew)); exact (Kd.R_mono (Kd.R_far (p := ⟨gb372, 1, none⟩) (Kd.R_far (p := ⟨gb372, 0, none⟩) (Kd.R_mono HO369.out (fun k_ hk => (⟨hk, hk.2⟩ : _ ∧ k_ ≠ gb372))) (fun _ hk => hk.2) (.int .i64 t370)) (fun _ hk => hk.2) (.int .i64 t371)) (fun _ h_ => h_.1))) hb2) <| ac_ (blk_below (g := gb366) (o := .cells #[.int .i64 0, .int .i64 0] 48 (0, 0)) q16_3 hb2) <| ac_ (blk_below (g := gb372) (o := .cells #[.int .i64 t370, .int .i64 t371] 48 (0, 0)) q16_2 hb2) <| ac_ (hb) <| ac_ (hi) <| ac_ (IsS152.ne_blk hi (blk_below (g := gb366) (o := .cells #[.int .i64 0, .int .i64 0] 48 (0, 0)) q16_3 hb2) q16_21) <| ac_ (Ne.symm (IsS152.ne_blk hi (blk_below (g := gb366) (o := .cells #[.int .i64 0, .int .i64 0] 48 (0, 0)) q16_3 hb2) q16_21)) <| ac_ (IsS152.ne_blk hi (blk_below (g := gb372) (o := .cells #[.int .i64 t370, .int .i64 t371] 48 (0, 0)) q16_2 hb2) q16_21) <| Aside0.mk (Ne.symm (IsS152.ne_blk hi (blk_below (g := gb372) (o := .cells #[.int .i64 t370, .int .i64 t371] 48 (0, 0)) q16_2 hb2) q16_21)); clear HO369 BK366 BK372 HB; obtain ⟨HO369, BK366, BK372, HB, HI376, NB376_366, NB366_376, NB376_372, NB372_376⟩ := n_; (try clear hb hb2 hi); have hnb12 := NB372_376.out; have hnc12 := NB376_372.out; have hcz13_0 : w11.cell? ⟨gb372, 0, none⟩ = some (.int .i64 t370) := (blk_cell BK372.out 0).trans rfl; have hcz13_1 : w11.cell? ⟨gb372, 1, none⟩ = some (.int .i64 t371) := (blk_cell BK372.out 1).trans rfl; have hfz13_0 := blk_frozen BK372.out 0; have hfz13_1 := blk_frozen BK372.out 1; obtain ⟨Ao14, co14, eo14⟩ := Kd.R_slice HO369.out; subst eo14) | (refine gL_ 31 21 Tryz.func31 #[.slice Ao14 t367.length co14, .agg #[.int .i64 t370, .int .i64 t371]] ?_; (with_reducible refine (spec_ProofOf.calls k _ _ t367 t370 t371 t377 t380 _ ?side1 ?side2 A4.out).mono ?_); (case side1 => repeat (first | exact (Kd.R_reads' HO369.out).2.2 | (with_reducible refine Kd.C_alloc ?_ _) | (with_reducible refine Kd.C_drewN ?_ _) | (with_reducible refine Kd.C_drew ?_))); (case side2 => exact (Kd.R_reads' HO369.out).2.1); rintro e w15 ⟨v378, rfl, ho0, hb⟩; refine ⟨_, rfl, ?_⟩; have n_ := ac_ (Kd.R_below q16_15 hb) <| ac_ (Kd.R_lower ho0 (below_size q16_7)) <| ac_ (blk_below (g := gb366) (o := .cells #[.int .i64 0, .int .i64 0] 48 (0, 0)) q16_13 hb) <| ac_ (blk_below (g := gb372) (o := .cells #[.int .i64 t370, .int .i64 t371] 48 (0, 0)) q16_14 hb) <| ac_ (IsS152.below q16_6 hb) <| Aside0.mk (below_step q16_7 hb); clear HO369 BK366 BK372 HI376 HB; obtain ⟨HO369, HO379, BK366, BK372, HI376, HB⟩ := n_; (try clear hb ho0)))
 (try simp only [Act.put, List.setIfInBounds_toArray, List.set_cons_zero, List.set_cons_succ])
 go_cut [30] (fun v30 wc => ∃ (kq : Nat) (x30_4 : Bool) (x377001_4 : Int) (x377002_4 : Int), v30 = .bool x30_4 ∧ Aside0 (spec_DrawCheckProof.j0 kq t367 t377 x30_4 t370 t371 t373 x377001_4 x377002_4 = some (r1, r2, r3, r4)) ∧ Aside0 (kq ≤ k) ∧ Aside0 (Kd.R k48 48 wc w.heap.size (fun k_ => k_ ≠ gb366 ∧ k_ ≠ gb372) (.slice Ao14 t367.length co14) t367) ∧ Aside0 (Kd.R k110 110 wc w.heap.size (fun _ => True) v378 t377) ∧ Aside0 (wc.heap[gb366]? = some (.cells #[.int .i64 0, .int .i64 0] 48 (0, 0))) ∧ Aside0 (wc.heap[gb372]? = some (.cells #[.int .i64 t370, .int .i64 t371] 48 (0, 0))) ∧ Aside0 (IsS152 w wc g376 t373 x377001_4 x377002_4) ∧ Aside0 (Below w.heap.size w wc))
 case first =>
  have H := HC5.out; clear HC5
  by_cases c16 : (t377.length : Int) > 0
  ·
   rw [if_pos c16] at H; have c16b0 : decide (0 < (t377.length : Int)) = true := decide_eq_true c16
   have c16b1 : decide (0 < t377.length) = true := decide_eq_true (by omega)
   clear c16
   (first | rw [c16b0] | (simp only [i64_w, i32_w]; rw [c16b0]) | skip)
   obtain ⟨⟨t381, t382, t383⟩, A17, H⟩ := bnd16_ H; dsimp only at H; have H' := Aside0.mk H; clear H; obtain ⟨Ao18, co18, eo18⟩ := Kd.R_slice HO379.out; subst eo18
   go_wp2_with (first | (go_at_call 145; (with_reducible refine (spec_l1Once.calls g376 t373 t374 t375 3 t381 t382 t383 w _ ?side1 ?side2 A17.out).mono ?_); (case side1 => exact q16_6); (case side2 => exact q16_7); rintro e w19 ⟨rfl, hi, hb, hk⟩; have n_ := ac_ (KeepBut.blk hk (g' := gb366) (o := .cells #[.int .i64 0, .int .i64 0] 48 (0, 0)) q16_13 NB366_376.out (by simp)) <| ac_ (Kd.R_mono (Kd.R_keep (IsS152.apart (show IsS152 w _ g376 t373 t374 t375 from q16_6) q16_15 q16_21) hk (fun _ h => h.2)) (fun _ h => h.1)) <| ac_ (KeepBut.blk hk (g' := gb372) (o := .cells #[.int .i64 t370, .int .i64 t371] 48 (0, 0)) q16_14 NB372_376.out (by simp)) <| ac_ (Kd.R_mono (Kd.R_keep (IsS152.apart (show IsS152 w _ g376 t373 t374 t375 from q16_6) q16_16 q16_21) hk (fun _ h => h.2)) (fun _ h => h.1)) <| ac_ (hb) <| Aside0.mk (hi); clear BK366 HO369 BK372 HO379 HB HI376; obtain ⟨BK366, HO369, BK372, HO379, HB, HI376⟩ := n_; (try clear hb hk hi)))
   go_meet
   case rel => exact ⟨_, (t381), (t382), (t383), rf_, H', ⟨(by first | omega | exact Nat.le_refl _)⟩, ⟨q16_10⟩, ⟨q16_16⟩, ⟨q16_13⟩, ⟨q16_14⟩, ⟨q16_6⟩, ⟨q16_7⟩⟩
  ·
   rw [if_neg c16] at H; have c16b0 : decide (0 < (t377.length : Int)) = false := decide_eq_false c16
   have c16b1 : decide (0 < t377.length) = false := decide_eq_false (by omega)
   clear c16
   (first | rw [c16b0] | (simp only [i64_w, i32_w]; rw [c16b0]) | skip)
   have H' := Aside0.mk H; clear H; obtain ⟨Ao20, co20, eo20⟩ := Kd.R_slice HO379.out; subst eo20
   go_wp2
   go_meet
   case rel => exact ⟨_, (false), (t374), (t375), rf_, H', ⟨(by first | omega | exact Nat.le_refl _)⟩, ⟨q16_10⟩, ⟨q16_16⟩, ⟨q16_13⟩, ⟨q16_14⟩, ⟨q16_6⟩, ⟨q16_7⟩⟩
 case rest =>
  clear HC5
  try clear c1
  try clear p2
  try clear c3
  try clear c6
  try clear c9
  try clear c12
  try clear c14
  try clear c16
  try clear c16b0
  try clear c16b1
  try clear hcz10_0
  try clear hcz10_1
  try clear hcz13_0
  try clear hcz13_1
  try clear hfz10_0
  try clear hfz10_1
  try clear hfz13_0
  try clear hfz13_1
  obtain ⟨kq, x30_4, x377001_4, x377002_4, rfl, HA, HJ4, HO_5, HO_8, BK366, BK372, HI376, HB⟩ := hcut
  cases kq with
  | zero => exact absurd HA.out (by simp [spec_DrawCheckProof.j0])
  | succ kj4 =>
   have H := HA.out; clear HA
   simp only [spec_DrawCheckProof.j0] at H
   have HC21 := Aside0.mk H; clear H
   go_upto_if 30 with (fail)
   go_cut [] (fun wc => ∃ (kq : Nat) (x8_20 : List (S110)) (x377001_20 : Int) (x377002_20 : Int), Aside0 (spec_DrawCheckProof.j1 kq t367 x8_20 t370 t371 t373 x377001_20 x377002_20 = some (r1, r2, r3, r4)) ∧ Aside0 (kq ≤ kj4) ∧ Aside0 (Kd.R k48 48 wc w.heap.size (fun k_ => k_ ≠ gb366 ∧ k_ ≠ gb372) (.slice Ao14 t367.length co14) t367) ∧ Aside0 (Kd.R k110 110 wc w.heap.size (fun _ => True) v378 x8_20) ∧ Aside0 (wc.heap[gb366]? = some (.cells #[.int .i64 0, .int .i64 0] 48 (0, 0))) ∧ Aside0 (wc.heap[gb372]? = some (.cells #[.int .i64 t370, .int .i64 t371] 48 (0, 0))) ∧ Aside0 (IsS152 w wc g376 t373 x377001_20 x377002_20) ∧ Aside0 (Below w.heap.size w wc))
   case first =>
    have H := HC21.out; clear HC21
    by_cases c22 : x30_4 = true
    ·
     subst c22; rw [if_pos rfl] at H; obtain ⟨⟨t384, t385, t386⟩, A23, H⟩ := bnd16_ H; dsimp only at H
     by_cases c24 : 0 ≤ t384
     ·
      rw [if_pos c24] at H; have c24b0 : decide (0 ≤ t384) = true := decide_eq_true c24; clear c24
      (first | rw [c24b0] | (simp only [i64_w, i32_w]; rw [c24b0]) | skip)
      by_cases c25 : t384 < (t377.length : Int)
      ·
       rw [if_pos c25] at H; have c25b0 : decide (t384 < (t377.length : Int)) = true := decide_eq_true c25; clear c25; obtain ⟨y388, hy_⟩ : ∃ y_ : List Int, y_ = (([1, 2, 16] : List Int)) := ⟨_, rfl⟩
       replace H : ((spec_l1PickInt.f t373 t385 t386 y388).bind fun bt391 => (spec_DrawCheckProof.j1 kj4 t367 (t377.set (t384 : Int).toNat (⟨(rd_T110 t377 t384).f0, Go.bits .xor .i64 ((rd_T110 t377 t384).f1) bt391.1⟩ : S110)) t370 t371 t373 bt391.2.1 bt391.2.2)) = some (r1, r2, r3, r4) := rH_
       have Ny388 := Aside0.mk hy_; clear hy_; obtain ⟨⟨t391, t392, t393⟩, A26, H⟩ := bnd16_ H; dsimp only at H; obtain ⟨y394, hy_⟩ : ∃ y_ : List (S110), y_ = (t377.set (t384 : Int).toNat (⟨(rd_T110 t377 t384).f0, Go.bits .xor .i64 ((rd_T110 t377 t384).f1) t391⟩ : S110)) := ⟨_, rfl⟩
       replace H : (spec_DrawCheckProof.j1 kj4 t367 y394 t370 t371 t373 t392 t393) = some (r1, r2, r3, r4) := rH_
       have Ny394 := Aside0.mk hy_; clear hy_; have H' := Aside0.mk H; clear H; obtain ⟨Ao28, co28, eo28⟩ := Kd.R_slice HO_8.out; subst eo28
       try go_wp2_with ((with_reducible refine gw_ rfl ?_); (refine gL_ 146 34 Tryz.func146 #[.pointer (some ⟨g376, 0, none⟩), .int .i64 (t377.length : Int)] ?_; (with_reducible refine (spec_l1Below.calls g376 t373 x377001_4 x377002_4 (t377.length : Int) t384 t385 t386 w _ ?side1 ?side2 A23.out).mono ?_); (case side1 => exact q16_6); (case side2 => exact q16_7); rintro e w29 ⟨rfl, hi, hb, hk⟩; refine ⟨_, rfl, ?_⟩; have n_ := ac_ (Kd.R_mono (Kd.R_keep (IsS152.apart (show IsS152 w _ g376 t373 x377001_4 x377002_4 from q16_6) s17_ q16_21) hk (fun _ h => h.2)) (fun _ h => h.1)) <| ac_ (Kd.R_mono (Kd.R_keep (IsS152.apart (show IsS152 w _ g376 t373 x377001_4 x377002_4 from q16_6) q16_18 q16_21) hk (fun _ h => h.2)) (fun _ h => h.1)) <| ac_ (KeepBut.blk hk (g' := gb366) (o := .cells #[.int .i64 0, .int .i64 0] 48 (0, 0)) q16_13 NB366_376.out (by simp)) <| ac_ (KeepBut.blk hk (g' := gb372) (o := .cells #[.int .i64 t370, .int .i64 t371] 48 (0, 0)) q16_14 NB372_376.out (by simp)) <| ac_ (hb) <| Aside0.mk (hi); clear HO_5 HO_8 BK366 BK372 HB HI376; obtain ⟨HO_5, HO_8, BK366, BK372, HB, HI376⟩ := n_; (try clear hb hk hi)))
       have n0_ := Aside0.mk (Kd.R_drew HO_5.out); have n1_ := Aside0.mk (Kd.R_drew HO_8.out); have n2_ := Aside0.mk (blk_drew BK366.out); have n3_ := Aside0.mk (blk_drew BK372.out); have n4_ := Aside0.mk (IsS152.drew HI376.out); have n5_ := Aside0.mk (below_drew1 HB.out); clear HO_5; clear HO_8; clear BK366; clear BK372; clear HI376; clear HB; have HO_5 := n0_; have HO_8 := n1_; have BK366 := n2_; have BK372 := n3_; have HI376 := n4_; have HB := n5_; clear n0_ n1_ n2_ n3_ n4_ n5_; have p387 : 0 ≤ (t384 : Int) := of_decide_eq_true s3_; have q387 : t384 < (t377.length : Int) := of_decide_eq_true s3_; obtain ⟨ad387, e387, hx387_0, hx387_1⟩ := at_T110 (Kd.R_reads' HO_8.out).2.2 t384 p387 q387
       cases e387
       replace p387 := eq_true p387; replace q387 := eq_true q387
       refine start_ (n := 14) (S := fun w' => w'.cell? (ad387.add ((t384).toNat * 2)) = some (.int .i64 ((rd_T110 t377 t384).f0)) ∧ w'.cell? ⟨(ad387.add ((t384).toNat * 2)).block, (ad387.add ((t384).toNat * 2)).off + 1, none⟩ = some (.int .i64 ((rd_T110 t377 t384).f1))) (ds := [13]) (tb_ 14 0) s10_ rfl rfl ⟨hx387_0, hx387_1⟩ (fun hHeld => ?_); refine with_tabW spec_DrawCheckProof.tab6 spec_DrawCheckProof.bits6 (fun HT_ HW_ => ?_)
       generalize w29.drew = w30 at HO_5 HO_8 BK366 BK372 HI376 HB hx387_0 hx387_1 hHeld ⊢
       refine pl_ 0 35 (tb_ 14 1) ?_; refine pl_ 1 36 (tb_ 14 3) ?_; refine pl_ 2 37 (tb_ 14 7) ?_; refine pl_ 3 38 (tb_ 14 15) ?_; refine pl_ 4 39 (tb_ 14 31) ?_; refine pl_ 5 40 (tb_ 14 63) ?_; refine pl_ 7 42 (tb_ 14 191) ?_; refine tk_ 6 41 (tb_ 14 255) hHeld ?_
       refine on_ 8 43 (tb_ 14 511) (fun K hK => ?_)
       refine Kd.R_lit_step (Kd.int .i64) _ 3 ?hg (N := 43) ?hd (xs := ([1, 2, 16] : List Int)) (inner := [.int .i64 1, .int .i64 2, .int .i64 16]) (ok := fun _ => True) (okp := fun _ => True) ?hr ?hp (fun _ hk => hk) trivial (Below.refl _ _) (Nat.le_refl _) (by simp) ?_; (case hd => rfl); (case hg => rfl); (case hr => first | (go_simp; done) | (go_simp; rfl)); (case hp => exact (Reps.one (show Kd.M (Kd.int .i64) _ _ _ 1 [.int .i64 1] from rfl) (Reps.one (show Kd.M (Kd.int .i64) _ _ _ 2 [.int .i64 2] from rfl) (Reps.one (show Kd.M (Kd.int .i64) _ _ _ 16 [.int .i64 16] from rfl) (Reps.none _ _)))))
       intro v389 w31 ho32 hb hg_ hnew_
       have HS0_ := (hb.cell (World.block_lt_of_cell? _ _ (hHeld.1))).trans (hHeld.1); have HS1_ := (hb.cell (World.block_lt_of_cell? _ _ (hHeld.2))).trans (hHeld.2); clear hg_ hnew_
       (first | rw [← Ny388.out] at ho32 | (simp only [Int.reduceToNat] at ho32; rw [← Ny388.out] at ho32))
       have n0_ := Aside0.mk (Kd.R_below s17_ hb); have n1_ := Aside0.mk (Kd.R_below q16_18 hb); have n2_ := Aside0.mk (Kd.R_lower ho32 (below_size q16_7)); have n3_ := Aside0.mk (blk_below (g := gb366) (o := .cells #[.int .i64 0, .int .i64 0] 48 (0, 0)) q16_13 hb); have n4_ := Aside0.mk (blk_below (g := gb372) (o := .cells #[.int .i64 t370, .int .i64 t371] 48 (0, 0)) q16_14 hb); have n5_ := Aside0.mk (IsS152.below q16_6 hb); have n6_ := Aside0.mk (below_step q16_7 hb); clear HO_5; clear HO_8; clear BK366; clear BK372; clear HI376; clear HB; have HO_5 := n0_; have HO_8 := n1_; have HO390 := n2_; have BK366 := n3_; have BK372 := n4_; have HI376 := n5_; have HB := n6_; clear n0_ n1_ n2_ n3_ n4_ n5_ n6_; clear hb ho32; obtain ⟨Ao33, co33, eo33⟩ := Kd.R_slice HO390.out
       (first | subst eo33 | (injection eo33 with f1_ f2_ f3_; have f4_ := f1_.symm; have f5_ := f3_.symm; clear f1_ f2_ f3_; subst f4_; subst f5_))
       refine hK.out _ _ ⟨HS0_, HS1_⟩ (fun hHeld => ?_)
       clear hK K
       refine norm_ (a' := ?_) ?_ ?_
       rotate_left
       ·
        show Act.put _ (some 43) _ = _
        exact s6_
       refine on_ 9 44 (tb_ 14 1023) (fun K hK => ?_)
       refine goes_ Tryz.func147 s10_ rfl #[.pointer (some ⟨g376, 0, none⟩), .slice Ao33 y388.length co33] (by rfl) rfl rfl s0_ ?_
       with_reducible refine (spec_l1PickInt.calls g376 t373 t385 t386 _ _ y388 t391 t392 t393 w _ ?side1 ?side2 ?side3 ?side4 ?side5 A26.out).mono ?_
       (case side1 => exact q16_6)
       (case side2 => exact q16_7)
       (case side3 => repeat (first | exact (Kd.R_reads' HO390.out).2.2 | (with_reducible refine Kd.C_alloc ?_ _) | (with_reducible refine Kd.C_drewN ?_ _) | (with_reducible refine Kd.C_drew ?_)))
       (case side4 => exact (Kd.R_reads' HO390.out).2.1)
       (case side5 => exact far_slice (IsS152.own_ne HI376.out HO390.out q16_21))
       rintro e w34 ⟨rfl, hi, hb, hk⟩
       have HS0_ := keep_cell hk (hHeld.1) q16_5; have HS1_ := keep_cell hk (hHeld.2) q16_5
       refine ⟨_, rfl, ?_⟩
       have n0_ := Aside0.mk (Kd.R_mono (Kd.R_keep (IsS152.apart (show IsS152 w _ g376 t373 t385 t386 from q16_6) s17_ q16_21) hk (fun _ h => h.2)) (fun _ h => h.1))
       have n1_ := Aside0.mk (Kd.R_mono (Kd.R_keep (IsS152.apart (show IsS152 w _ g376 t373 t385 t386 from q16_6) q16_18 q16_21) hk (fun _ h => h.2)) (fun _ h => h.1))
       have n2_ := Aside0.mk (KeepBut.blk hk (g' := gb366) (o := .cells #[.int .i64 0, .int .i64 0] 48 (0, 0)) q16_13 NB366_376.out (by simp))
       have n3_ := Aside0.mk (KeepBut.blk hk (g' := gb372) (o := .cells #[.int .i64 t370, .int .i64 t371] 48 (0, 0)) q16_14 NB372_376.out (by simp))
       have n4_ := Aside0.mk (Kd.R_mono (Kd.R_keep (IsS152.apart (show IsS152 w _ g376 t373 t385 t386 from q16_6) (by (with_reducible repeat (first | apply Kd.R_alloc | apply Kd.R_drewN | apply Kd.R_drew)); exact HO390.out) q16_21) hk (fun _ h => h.2)) (fun _ h => h.1))
       have n5_ := Aside0.mk (hb); have n6_ := Aside0.mk (hi); clear HO_5; clear HO_8; clear BK366; clear BK372; clear HO390; clear HB; clear HI376; have HO_5 := n0_; have HO_8 := n1_; have BK366 := n2_; have BK372 := n3_; have HO390 := n4_; have HB := n5_; have HI376 := n6_; clear n0_ n1_ n2_ n3_ n4_ n5_ n6_
       (try clear hb)
       (try clear hb2)
       (try clear hk)
       (try clear hi)
       have p27 : 0 ≤ (t384 : Int) := of_decide_eq_true s3_; have q27 : (t384 : Int) < ((t377.length : Int) : Int) := of_decide_eq_true s3_
       obtain ⟨go27, co27, eo27, gb27, gl27, cl27, HG27⟩ := Kd.R_form HO_8.out (by omega)
       (first | cases eo27 | (injection eo27 with ea_ en_ ec_; (first | subst ea_ | (injection ea_ with ea_; subst ea_)); subst ec_; clear en_))
       have GB27 := Aside0.mk gb27; have GG27 := Aside0.mk HG27; clear gb27 gl27 HG27
       (first | simp only [add_plain] at hx387_0 | skip)
       (first | simp only [add_plain] at hx387_1 | skip)
       obtain ⟨ce27, hcl27, hM27, hcc27, hfr27⟩ := Kd.R_elem HO_8.out z110 (t384 : Int) p27 q27; obtain rfl := k110_openM hM27; have hx27_0 : World.cell? _ ⟨go27, (t384 : Int).toNat * 2, none⟩ = some (.int .i64 ((rd_T110 t377 t384).f0)) := hcc27 0 _ rfl; have hx27_1 : World.cell? _ ⟨go27, (t384 : Int).toNat * 2 + 1, none⟩ = some (.int .i64 ((rd_T110 t377 t384).f1)) := hcc27 1 _ rfl; have hf27_0 : World.frozen? _ ⟨go27, (t384 : Int).toNat * 2, none⟩ = false := hfr27 0; have hf27_1 : World.frozen? _ ⟨go27, (t384 : Int).toNat * 2 + 1, none⟩ = false := hfr27 1; clear hcl27 hcc27 hfr27 hM27; replace p27 := eq_true p27; replace q27 := eq_true q27
       have HN376_go27 := Aside0.mk (show g376 ≠ go27 from by have h_ := IsS152.own_ne HI376.out HO_8.out q16_21; intro e_; exact h_ (by rw [e_]; rfl))
       obtain ⟨ce35, hcl35, hM35, hcc35, hfr35⟩ := Kd.R_elem HO_8.out z110 (t384 : Int) (of_decide_eq_true s3_) q16_8; obtain rfl := k110_openM hM35
       have HP35 := (Kd.R_seg HO_8.out (t384 : Int) (of_decide_eq_true s3_) q16_8 (seg := [.int .i64 (Go.bits .xor .i64 ((rd_T110 t377 t384).f1) t391)]) (j := 1) hcl35 hcc35 (show 2 ≤ 2 from q16_21) (x' := (⟨(rd_T110 t377 t384).f0, Go.bits .xor .i64 ((rd_T110 t377 t384).f1) t391⟩ : S110)) (k110_mkM _ _ _ (⟨(rd_T110 t377 t384).f0, Go.bits .xor .i64 ((rd_T110 t377 t384).f1) t391⟩ : S110) ) (fun _ hk => hk)).1
       rw [← Ny394.out] at HP35; have HQ35 := Aside0.mk HP35; clear hcl35 hcc35 hfr35 hM35 HP35
       refine hK.out _ _ ⟨HS0_, HS1_⟩ (fun hHeld => ?_)
       clear hK K
       refine norm_ (a' := ?_) ?_ ?_
       rotate_left
       ·
        show Act.put _ (some 44) _ = _
        exact s6_
       refine pl_ 10 45 (tb_ 14 2047) ?_; refine pl_ 11 46 (tb_ 14 4095) ?_; refine pl_ 12 47 (tb_ 14 8191) ?_
       refine last_ (i := 13) (N := none) (tb_ 14 16383) rfl rfl (one_of HT_.out s10_) q16_21 (fun K hK => ?_)
       refine skip_ (w1 := ?_) (by rfl) rfl ?_ ?_
       rotate_left
       ·
        go_simp
        rfl
       refine hK.out _ _ ?_
       clear hK K
       refine done_ (done_of HT_.out s10_) ?_
       try go_wp2
       go_meet
       case rel => exact ⟨_, (y394), (t392), (t393), H', ⟨by have := HJ4.out; first | omega | exact Nat.le_refl _⟩, ⟨(by (with_reducible repeat (first | apply Kd.R_alloc | apply Kd.R_drewN | apply Kd.R_drew)); exact Kd.R_mono (Kd.R_far (p := ⟨go27, (t384 : Int).toNat * 2 + 1, none⟩) (Kd.R_types HO_5.out GG27.out q16_21) (fun _ hk => hk.2) (.int .i64 (Go.bits .xor .i64 ((rd_T110 t377 t384).f1) t391))) (fun _ hk => ⟨hk.1.1, hk.1.2⟩))⟩, ⟨(by (with_reducible repeat (first | apply Kd.R_alloc | apply Kd.R_drewN | apply Kd.R_drew)); exact HQ35.out)⟩, ⟨(by (with_reducible repeat (first | refine blk_drewN ?_ _ | refine blk_drew ?_ | refine blk_alloc ?_ _)); refine blk_far ?_ (by have h_ := Kd.R_ne HO_8.out BK366.out q16_21; intro e_; exact h_ (by rw [e_]; rfl)) _; (with_reducible repeat (first | refine blk_drewN ?_ _ | refine blk_drew ?_ | refine blk_alloc ?_ _)); exact BK366.out)⟩, ⟨(by (with_reducible repeat (first | refine blk_drewN ?_ _ | refine blk_drew ?_ | refine blk_alloc ?_ _)); refine blk_far ?_ (by have h_ := Kd.R_ne HO_8.out BK372.out q16_21; intro e_; exact h_ (by rw [e_]; rfl)) _; (with_reducible repeat (first | refine blk_drewN ?_ _ | refine blk_drew ?_ | refine blk_alloc ?_ _)); exact BK372.out)⟩, ⟨(by repeat (first | (with_reducible first | exact HI376.out | apply IsS152.alloc | apply IsS152.drewN | apply IsS152.drew | apply IsS152.set_1 | apply IsS152.set_2 | refine IsS152.far ?_ HN376_go27.out _ | refine IsS152.far ?_ NB376_366.out _ | refine IsS152.far ?_ NB376_372.out _) | exact HI376.out))⟩, ⟨(by repeat (first | (with_reducible first | exact HB.out | apply below_alloc | apply pw_below_drewN | apply below_drew1 | refine below_set ?_ GB27.out | refine below_set ?_ (IsS152.ge HI376.out) | refine below_set ?_ GE366.out | refine below_set ?_ GE372.out) | exact HB.out))⟩⟩
      ·
       rw [if_neg c25] at H
       exact absurd H (by simp)
     ·
      rw [if_neg c24] at H
      exact absurd H (by simp)
    ·
     replace c22 := Bool.eq_false_iff.mpr c22; subst c22
     rw [if_neg (show ¬ (false = true) by decide)] at H
     have H' := Aside0.mk H; clear H
     go_wp2
     go_meet
     case rel => exact ⟨_, (t377), (x377001_4), (x377002_4), H', ⟨by have := HJ4.out; first | omega | exact Nat.le_refl _⟩, ⟨s17_⟩, ⟨q16_18⟩, ⟨q16_13⟩, ⟨q16_14⟩, ⟨q16_6⟩, ⟨q16_7⟩⟩
   case rest =>
    clear HC21
    try clear c1
    try clear c2
    try clear p2
    try clear q2
    try clear hx2
    try clear hf2
    try clear c3
    try clear p3
    try clear q3
    try clear hx3
    try clear c6
    try clear c9
    try clear c12
    try clear c14
    try clear c16
    try clear c16b0
    try clear c16b1
    try clear c22
    try clear c24
    try clear c24b0
    try clear c25
    try clear c25b0
    try clear c27
    try clear p27
    try clear q27
    try clear hx27
    try clear hf27
    try clear c31
    try clear c32
    try clear c35
    try clear hcz10_0
    try clear hcz10_1
    try clear hcz13_0
    try clear hcz13_1
    try clear hfz10_0
    try clear hfz10_1
    try clear hfz13_0
    try clear hfz13_1
    try clear hx27_0
    try clear hx27_1
    try clear hx387_0
    try clear hx387_1
    try clear p2
    try clear p27
    try clear p387
    try clear q27
    try clear q387
    obtain ⟨kq, x8_20, x377001_20, x377002_20, HA, HJ20, HO_5, HO_8, BK366, BK372, HI376, HB⟩ := hcut
    cases kq with
    | zero => exact absurd HA.out (by simp [spec_DrawCheckProof.j1])
    | succ kj20 =>
     have H := HA.out; clear HA
     simp only [spec_DrawCheckProof.j1] at H
     obtain ⟨⟨t395, t396, t397⟩, A36, H⟩ := bnd16_ H; dsimp only at H
     by_cases c37 : t395 = true
     ·
      subst c37; rw [if_pos rfl] at H; obtain ⟨⟨t398, t399, t400⟩, A38, H⟩ := bnd16_ H; dsimp only at H; obtain ⟨⟨t401, t402, t403⟩, A39, H⟩ := bnd16_ H; dsimp only at H
      by_cases c40 : x8_20.length < 8796093022208
      ·
       rw [if_pos c40] at H; have LMc40 := Aside0.mk c40; clear c40; obtain ⟨y404, hy_⟩ : ∃ y_ : List (S110), y_ = (x8_20 ++ [(⟨wrap64 (t398 - 1), t401⟩ : S110)]) := ⟨_, rfl⟩
       replace H : (some (t367, t370, t371, y404)) = some (r1, r2, r3, r4) := rH_
       have Ny404 := Aside0.mk hy_; clear hy_
       simp only [Option.some.injEq, Prod.mk.injEq] at H
       obtain ⟨rfl, rfl, rfl, rfl⟩ := H
       try go_wp2_with (first | ((with_reducible refine gw_ rfl ?_); first | (refine gL_ 145 49 Tryz.func145 #[.pointer (some ⟨g376, 0, none⟩), .int .i64 10] ?_; (with_reducible refine (spec_l1Once.calls g376 t373 x377001_20 x377002_20 10 true t396 t397 w _ ?side1 ?side2 A36.out).mono ?_); (case side1 => exact q16_6); (case side2 => exact q16_7); rintro e w41 ⟨rfl, hi, hb, hk⟩; refine ⟨_, rfl, ?_⟩; have n_ := ac_ (Kd.R_mono (Kd.R_keep (IsS152.apart (show IsS152 w _ g376 t373 x377001_20 x377002_20 from q16_6) s17_ q16_21) hk (fun _ h => h.2)) (fun _ h => h.1)) <| ac_ (Kd.R_mono (Kd.R_keep (IsS152.apart (show IsS152 w _ g376 t373 x377001_20 x377002_20 from q16_6) q16_18 q16_21) hk (fun _ h => h.2)) (fun _ h => h.1)) <| ac_ (KeepBut.blk hk (g' := gb366) (o := .cells #[.int .i64 0, .int .i64 0] 48 (0, 0)) q16_13 NB366_376.out (by simp)) <| ac_ (KeepBut.blk hk (g' := gb372) (o := .cells #[.int .i64 t370, .int .i64 t371] 48 (0, 0)) q16_14 NB372_376.out (by simp)) <| ac_ (hb) <| Aside0.mk (hi); clear HO_5 HO_8 BK366 BK372 HB HI376; obtain ⟨HO_5, HO_8, BK366, BK372, HB, HI376⟩ := n_; (try clear hb hk hi)) | (refine gL_ 146 52 Tryz.func146 #[.pointer (some ⟨g376, 0, none⟩), .int .i64 6] ?_; (with_reducible refine (spec_l1Below.calls g376 t373 t396 t397 6 t398 t399 t400 w _ ?side1 ?side2 A38.out).mono ?_); (case side1 => exact q16_6); (case side2 => exact q16_7); rintro e w42 ⟨rfl, hi, hb, hk⟩; refine ⟨_, rfl, ?_⟩; have n_ := ac_ (Kd.R_mono (Kd.R_keep (IsS152.apart (show IsS152 w _ g376 t373 t396 t397 from q16_6) s17_ q16_21) hk (fun _ h => h.2)) (fun _ h => h.1)) <| ac_ (Kd.R_mono (Kd.R_keep (IsS152.apart (show IsS152 w _ g376 t373 t396 t397 from q16_6) q16_18 q16_21) hk (fun _ h => h.2)) (fun _ h => h.1)) <| ac_ (KeepBut.blk hk (g' := gb366) (o := .cells #[.int .i64 0, .int .i64 0] 48 (0, 0)) q16_13 NB366_376.out (by simp)) <| ac_ (KeepBut.blk hk (g' := gb372) (o := .cells #[.int .i64 t370, .int .i64 t371] 48 (0, 0)) q16_14 NB372_376.out (by simp)) <| ac_ (hb) <| Aside0.mk (hi); clear HO_5 HO_8 BK366 BK372 HB HI376; obtain ⟨HO_5, HO_8, BK366, BK372, HB, HI376⟩ := n_; (try clear hb hk hi)) | (refine gL_ 146 55 Tryz.func146 #[.pointer (some ⟨g376, 0, none⟩), .int .i64 32] ?_; (with_reducible refine (spec_l1Below.calls g376 t373 t399 t400 32 t401 t402 t403 w _ ?side1 ?side2 A39.out).mono ?_); (case side1 => exact q16_6); (case side2 => exact q16_7); rintro e w43 ⟨rfl, hi, hb, hk⟩; refine ⟨_, rfl, ?_⟩; have n_ := ac_ (Kd.R_mono (Kd.R_keep (IsS152.apart (show IsS152 w _ g376 t373 t399 t400 from q16_6) s17_ q16_21) hk (fun _ h => h.2)) (fun _ h => h.1)) <| ac_ (Kd.R_mono (Kd.R_keep (IsS152.apart (show IsS152 w _ g376 t373 t399 t400 from q16_6) q16_18 q16_21) hk (fun _ h => h.2)) (fun _ h => h.1)) <| ac_ (KeepBut.blk hk (g' := gb366) (o := .cells #[.int .i64 0, .int .i64 0] 48 (0, 0)) q16_13 NB366_376.out (by simp)) <| ac_ (KeepBut.blk hk (g' := gb372) (o := .cells #[.int .i64 t370, .int .i64 t371] 48 (0, 0)) q16_14 NB372_376.out (by simp)) <| ac_ (hb) <| Aside0.mk (hi); clear HO_5 HO_8 BK366 BK372 HB HI376; obtain ⟨HO_5, HO_8, BK366, BK372, HB, HI376⟩ := n_; (try clear hb hk hi))) | ((with_reducible refine gate_builtin (b := .append) (xs := #[.tmp 50, .tmp 57]) rfl ?_); at_builtin; refine Kd.R_append k110 (w0 := w) w.heap.size rfl (.tmp 50) (.tmp 57) 51 110 (.agg #[(.int .i64 0), (.int .i64 0)]) 16 rfl Tryz.underlying51 info110 rfl q16_21 (by omega) v378 x8_20 (⟨wrap64 (t398 - 1), t401⟩ : S110) [.int .i64 (wrap64 (t398 - 1)), .int .i64 t401] (fun _ => True) (fun _ => False) rfl rfl ?aP (fun _ hk => hk.elim) ?aF ?aO ?aB ?aS ?aL ?_; (case aP => exact k110_mkM _ _ _ (⟨wrap64 (t398 - 1), t401⟩ : S110)); (case aB => exact q16_7); (case aF => exact (fun _ _ => trivial)); (case aO => exact q16_18); (case aS => exact (below_size q16_7)); (case aL => have := LMc40.out; omega); intro v405 w44 ho hb hg hat; rw [← Ny404.out] at ho; have n_ := ac_ (Kd.R_over' s17_ (Kd.R_typed q16_18) q16_21 hg) <| ac_ (blk_grown (g := gb366) (o := .cells #[.int .i64 0, .int .i64 0] 48 (0, 0)) q16_13 hg (Kd.R_ne HO_8.out BK366.out q16_21)) <| ac_ (blk_grown (g := gb372) (o := .cells #[.int .i64 t370, .int .i64 t371] 48 (0, 0)) q16_14 hg (Kd.R_ne HO_8.out BK372.out q16_21)) <| ac_ (IsS152.grown q16_6 hg (IsS152.own_ne HI376.out HO_8.out q16_21)) <| ac_ (hb) <| Aside0.mk (ho); clear HO_5 BK366 BK372 HI376 HB HO_8; obtain ⟨HO_5, BK366, BK372, HI376, HB, HO406⟩ := n_; clear ho hb hg hat))
       have n0_ := Aside0.mk (Kd.R_drew HO_5.out); have n1_ := Aside0.mk (Kd.R_drew HO406.out); have n2_ := Aside0.mk (blk_drew BK366.out); have n3_ := Aside0.mk (blk_drew BK372.out); have n4_ := Aside0.mk (IsS152.drew HI376.out); have n5_ := Aside0.mk (below_drew1 HB.out); clear HO_5; clear HO406; clear BK366; clear BK372; clear HI376; clear HB; have HO_5 := n0_; have HO406 := n1_; have BK366 := n2_; have BK372 := n3_; have HI376 := n4_; have HB := n5_; clear n0_ n1_ n2_ n3_ n4_ n5_
       refine start_ (n := 6) (S := fun w' => w'.cell? ⟨gb372, 0, none⟩ = some (.int .i64 t370) ∧ w'.cell? ⟨gb372, 1, none⟩ = some (.int .i64 t371)) (ds := []) (tb_ 6 0) s10_ rfl rfl ⟨(blk_cell BK372.out 0).trans rfl, (blk_cell BK372.out 1).trans rfl⟩ (fun hHeld => ?_)
       generalize w44.drew = w45 at HO_5 HO406 BK366 BK372 HI376 HB hHeld ⊢
       refine pl_ 0 59 (tb_ 6 1) ?_; refine pl_ 2 61 (tb_ 6 5) ?_; refine pl_ 3 2 (tb_ 6 13) ?_
       refine take_ (i := 1) (N := some 60) (v := ?_) (a' := ?_) (tb_ 6 15) rfl rfl s10_ (fun _ _ _ h => h) (Or.inl ⟨by rfl, ?_⟩) hHeld ?_ ?_
       rotate_left
       ·
        rintro w' ⟨s0, s1⟩
        go_simp; with_reducible rfl
       rotate_left
       ·
        exact s6_
       refine one_ (i := 4) (N := none) (tb_ 6 31) rfl rfl s10_ q16_21 (fun K hK => ?_)
       have hs46 : w45.cell? ⟨gb366, 0, none⟩ = some (.int .i64 0) := (blk_cell BK366.out 0).trans rfl; have hfs46 := blk_frozen BK366.out 0; have hns46_1 := NB372_366.out; have hms46_1 := NB366_372.out; have hs47 : w45.cell? ⟨gb366, 1, none⟩ = some (.int .i64 0) := (blk_cell BK366.out 1).trans rfl; have hfs47 := blk_frozen BK366.out 1; have hns47_1 := NB372_366.out; have hms47_1 := NB366_372.out
       refine skip_ (w1 := ?_) (by rfl) rfl ?_ ?_
       rotate_left
       ·
        go_simp
        rfl
       refine hK.out _ _ ⟨((cell_far (p := ⟨gb366, _, none⟩) NB372_366.out _).trans (((cell_far (p := ⟨gb366, _, none⟩) NB372_366.out _).trans (hHeld.1)))), ((cell_far (p := ⟨gb366, _, none⟩) NB372_366.out _).trans (((cell_far (p := ⟨gb366, _, none⟩) NB372_366.out _).trans (hHeld.2))))⟩ (fun hHeld => ?_)
       clear hK K; refine pl_ 5 4 (tb_ 6 63) ?_
       refine done_ s10_ ?_
       try go_wp2
       refine bodyPost_ret (results_list (rs := [.tmp 2, .cell 3 48, .tmp 4]) rfl (by simp) (.tmp (.cell gb366 48 #[.int .i64 t370, .int .i64 t371] (0, 0) _ rfl q16_1 Tryz.underlying48 rfl s10_ (.tmp .nil)))) rfl ?_
       exact ⟨_, _, (by first | rfl | (simp [errW_none, errW_some] <;> rfl) | (simp [*, errW_none, errW_some] <;> rfl)), q16_4, (by (with_reducible repeat (first | apply Kd.R_alloc | apply Kd.R_drewN | apply Kd.R_drew)); exact Kd.R_mono (Kd.R_far (p := ⟨gb366, 1, none⟩) (Kd.R_far (p := ⟨gb366, 0, none⟩) (Kd.R_types HO406.out BK366.out q16_21) (fun _ hk => hk.2) (.int .i64 t370)) (fun _ hk => hk.2) (.int .i64 t371)) (fun _ hk => trivial)), q16_7⟩
      ·
       rw [if_neg c40] at H
       exact absurd H (by simp)
     ·
      replace c37 := Bool.eq_false_iff.mpr c37; subst c37
      rw [if_neg (show ¬ (false = true) by decide)] at H
      simp only [Option.some.injEq, Prod.mk.injEq] at H
      obtain ⟨rfl, rfl, rfl, rfl⟩ := H
      try go_wp2_with ((with_reducible refine gw_ rfl ?_); (refine gL_ 145 49 Tryz.func145 #[.pointer (some ⟨g376, 0, none⟩), .int .i64 10] ?_; (with_reducible refine (spec_l1Once.calls g376 t373 x377001_20 x377002_20 10 false t396 t397 w _ ?side1 ?side2 A36.out).mono ?_); (case side1 => exact q16_6); (case side2 => exact q16_7); rintro e w48 ⟨rfl, hi, hb, hk⟩; refine ⟨_, rfl, ?_⟩; have n_ := ac_ (Kd.R_mono (Kd.R_keep (IsS152.apart (show IsS152 w _ g376 t373 x377001_20 x377002_20 from q16_6) s17_ q16_21) hk (fun _ h => h.2)) (fun _ h => h.1)) <| ac_ (Kd.R_mono (Kd.R_keep (IsS152.apart (show IsS152 w _ g376 t373 x377001_20 x377002_20 from q16_6) q16_18 q16_21) hk (fun _ h => h.2)) (fun _ h => h.1)) <| ac_ (KeepBut.blk hk (g' := gb366) (o := .cells #[.int .i64 0, .int .i64 0] 48 (0, 0)) q16_13 NB366_376.out (by simp)) <| ac_ (KeepBut.blk hk (g' := gb372) (o := .cells #[.int .i64 t370, .int .i64 t371] 48 (0, 0)) q16_14 NB372_376.out (by simp)) <| ac_ (hb) <| Aside0.mk (hi); clear HO_5 HO_8 BK366 BK372 HB HI376; obtain ⟨HO_5, HO_8, BK366, BK372, HB, HI376⟩ := n_; (try clear hb hk hi)))
      have n0_ := Aside0.mk (Kd.R_drew HO_5.out); have n1_ := Aside0.mk (Kd.R_drew HO_8.out); have n2_ := Aside0.mk (blk_drew BK366.out); have n3_ := Aside0.mk (blk_drew BK372.out); have n4_ := Aside0.mk (IsS152.drew HI376.out); have n5_ := Aside0.mk (below_drew1 HB.out); clear HO_5; clear HO_8; clear BK366; clear BK372; clear HI376; clear HB; have HO_5 := n0_; have HO_8 := n1_; have BK366 := n2_; have BK372 := n3_; have HI376 := n4_; have HB := n5_; clear n0_ n1_ n2_ n3_ n4_ n5_
      refine start_ (n := 6) (S := fun w' => w'.cell? ⟨gb372, 0, none⟩ = some (.int .i64 t370) ∧ w'.cell? ⟨gb372, 1, none⟩ = some (.int .i64 t371)) (ds := []) (tb_ 6 0) s10_ rfl rfl ⟨(blk_cell BK372.out 0).trans rfl, (blk_cell BK372.out 1).trans rfl⟩ (fun hHeld => ?_)
      generalize w48.drew = w49 at HO_5 HO_8 BK366 BK372 HI376 HB hHeld ⊢
      refine pl_ 0 59 (tb_ 6 1) ?_; refine pl_ 2 61 (tb_ 6 5) ?_; refine pl_ 3 2 (tb_ 6 13) ?_
      refine take_ (i := 1) (N := some 60) (v := ?_) (a' := ?_) (tb_ 6 15) rfl rfl s10_ (fun _ _ _ h => h) (Or.inl ⟨by rfl, ?_⟩) hHeld ?_ ?_
      rotate_left
      ·
       rintro w' ⟨s0, s1⟩
       go_simp; with_reducible rfl
      rotate_left
      ·
       exact s6_
      refine one_ (i := 4) (N := none) (tb_ 6 31) rfl rfl s10_ q16_21 (fun K hK => ?_)
      have hs50 : w49.cell? ⟨gb366, 0, none⟩ = some (.int .i64 0) := (blk_cell BK366.out 0).trans rfl; have hfs50 := blk_frozen BK366.out 0; have hns50_1 := NB372_366.out; have hms50_1 := NB366_372.out; have hs51 : w49.cell? ⟨gb366, 1, none⟩ = some (.int .i64 0) := (blk_cell BK366.out 1).trans rfl; have hfs51 := blk_frozen BK366.out 1; have hns51_1 := NB372_366.out; have hms51_1 := NB366_372.out
      refine skip_ (w1 := ?_) (by rfl) rfl ?_ ?_
      rotate_left
      ·
       go_simp
       rfl
      refine hK.out _ _ ⟨((cell_far (p := ⟨gb366, _, none⟩) NB372_366.out _).trans (((cell_far (p := ⟨gb366, _, none⟩) NB372_366.out _).trans (hHeld.1)))), ((cell_far (p := ⟨gb366, _, none⟩) NB372_366.out _).trans (((cell_far (p := ⟨gb366, _, none⟩) NB372_366.out _).trans (hHeld.2))))⟩ (fun hHeld => ?_)
      clear hK K; refine pl_ 5 4 (tb_ 6 63) ?_
      refine done_ s10_ ?_
      try go_wp2
      refine bodyPost_ret (results_list (rs := [.tmp 2, .cell 3 48, .tmp 4]) rfl (by simp) (.tmp (.cell gb366 48 #[.int .i64 t370, .int .i64 t371] (0, 0) _ rfl q16_1 Tryz.underlying48 rfl s10_ (.tmp .nil)))) rfl ?_
      exact ⟨_, _, (by first | rfl | (simp [errW_none, errW_some] <;> rfl) | (simp [*, errW_none, errW_some] <;> rfl)), q16_4, (by (with_reducible repeat (first | apply Kd.R_alloc | apply Kd.R_drewN | apply Kd.R_drew)); exact Kd.R_mono (Kd.R_far (p := ⟨gb366, 1, none⟩) (Kd.R_far (p := ⟨gb366, 0, none⟩) (Kd.R_types HO_8.out BK366.out q16_21) (fun _ hk => hk.2) (.int .i64 t370)) (fun _ hk => hk.2) (.int .i64 t371)) (fun _ hk => trivial)), q16_7⟩
theorem q16_22 {P : Prop} (h : P := by repeat (first | (with_reducible first | exact HB.out | apply below_alloc | apply pw_below_drewN | apply below_drew1 | refine below_set ?_ (IsS152.ge HI410.out)) | exact HB.out)) : P := h
def spec_DrawMinimalRules.f (k : Nat) (l0 : List Int) : Option ((List (S48))) := (spec_l1New.f k l0).bind fun bt407 => ((spec_l9Bent.f k bt407.1 bt407.2.1 bt407.2.2 4).bind fun bt411 => (some bt411.1))
theorem spec_DrawMinimalRules.calls (k : Nat) (A0 : Option Addr) (c0 : Nat) (l0 : List Int) (r : List (S48)) (w : World) (hr0 : Kd.C (Kd.int .u8) w A0 l0.length l0) (hc0 : l0.length ≤ c0) (h : spec_DrawMinimalRules.f k l0 = some r) :
  Calls Tryz.prog 33 #[.slice A0 l0.length c0] w fun e w' => ∃ v0_ : Value, e = .returned (v0_) ∧ Kd.R k48 48 w' w.heap.size (fun _ => True) v0_ r ∧ Below w.heap.size w w' := by
 have HR0 := Aside0.mk hr0; have HC0 := Aside0.mk hc0; clear hr0 hc0; have HB := Aside0.mk (Below.refl w.heap.size w); have H := h; clear h; unfold spec_DrawMinimalRules.f at H; obtain ⟨⟨t407, t408, t409⟩, A2, H⟩ := bnd16_ H; dsimp only at H; obtain ⟨⟨t411, t414, t415⟩, A3, H⟩ := bnd16_ H; dsimp only at H; obtain rfl := Option.some.inj H
 go_enter Tryz.func33, Tryz.ntmps33
 go_wp2_with ((with_reducible refine gw_ rfl ?_); first | (refine gL_ 144 4 Tryz.func144 #[.slice A0 l0.length c0] ?_; (with_reducible refine (spec_l1New.calls k _ _ l0 t407 t408 t409 w _ ?side1 ?side2 ?side3 A2.out).mono ?_); (case side1 => repeat (first | (with_reducible first | exact HB.out | apply below_alloc | apply pw_below_drewN | apply below_drew1) | exact HB.out)); (case side2 => exact HR0.out); (case side3 => exact HC0.out); rintro e w4 ⟨g410, rfl, hi, hb, hb2⟩; refine ⟨_, rfl, ?_⟩; have n_ := ac_ (hb) <| Aside0.mk (hi); clear HB; obtain ⟨HB, HI410⟩ := n_; (try clear hb hb2 hi)) | (refine gL_ 148 5 Tryz.func148 #[.pointer (some ⟨g410, 0, none⟩), .int .i64 4] ?_; (with_reducible refine (spec_l9Bent.calls k g410 t407 t408 t409 4 t411 t414 t415 w _ ?side1 ?side2 A3.out).mono ?_); (case side1 => repeat (first | (with_reducible first | exact HI410.out | apply IsS152.alloc | apply IsS152.drewN | apply IsS152.drew | apply IsS152.set_1 | apply IsS152.set_2) | exact HI410.out)); (case side2 => exact q16_22); rintro e w5 ⟨v412, rfl, ho0, hi, hb, hk⟩; refine ⟨_, rfl, ?_⟩; have n_ := ac_ (Kd.R_lower ho0 (below_size q16_22)) <| ac_ (hb) <| Aside0.mk (hi); clear HB HI410; obtain ⟨HO413, HB, HI410⟩ := n_; (try clear hb hk hi ho0)))
 go_ret
 exact ⟨_, (by first | rfl | (simp [errW_none, errW_some] <;> rfl) | (simp [*, errW_none, errW_some] <;> rfl)), (by (with_reducible repeat (first | apply Kd.R_alloc | apply Kd.R_drewN | apply Kd.R_drew)); exact HO413.out), q16_22⟩
def spec_DrawShortRules.f (k : Nat) (l0 : List Int) : Option (Int × (List (S48))) := (spec_DrawAreRules.f k l0).bind fun bt454 => (some (bt454.1, bt454.2))
theorem spec_DrawShortRules.calls (k : Nat) (A0 : Option Addr) (c0 : Nat) (l0 : List Int) (r1 : Int) (r2 : List (S48)) (w : World) (hr0 : Kd.C (Kd.int .u8) w A0 l0.length l0) (hc0 : l0.length ≤ c0) (h : spec_DrawShortRules.f k l0 = some (r1, r2)) :
  Calls Tryz.prog 35 #[.slice A0 l0.length c0] w fun e w' => ∃ v1_ : Value, e = .returned (.tuple #[.int .i64 r1, v1_]) ∧ Kd.R k48 48 w' w.heap.size (fun _ => True) v1_ r2 ∧ Below w.heap.size w w' := by
 have HR0 := Aside0.mk hr0; have HC0 := Aside0.mk hc0; clear hr0 hc0; have HB := Aside0.mk (Below.refl w.heap.size w); have H := h; clear h; unfold spec_DrawShortRules.f at H; obtain ⟨⟨t454, t455⟩, A2, H⟩ := bnd16_ H; dsimp only at H
 simp only [Option.some.injEq, Prod.mk.injEq] at H
 obtain ⟨rfl, rfl⟩ := H
 go_enter Tryz.func35, Tryz.ntmps35
 go_wp2_with (first | ((with_reducible refine gate_callee (f := 72) rfl ?_); refine goesL_ (some 8) rfl rfl Tryz.func72 (by kernel_rfl) rfl #[.slice A0 l0.length c0] rfl (by (try simp only [List.map_toArray, List.map_cons, List.map_nil]); first | done | rfl | (simp only [List.length_drop, List.length_take]; rfl)) ?_; (with_reducible refine (spec_DrawAreRules.calls k _ _ l0 t454 t455 _ ?side1 ?side2 A2.out).mono ?_); (case side1 => repeat (first | exact HR0.out | (with_reducible refine Kd.C_alloc ?_ _) | (with_reducible refine Kd.C_drewN ?_ _) | (with_reducible refine Kd.C_drew ?_))); (case side2 => exact HC0.out); rintro e w3 ⟨v456, rfl, ho0, hb⟩; refine ⟨_, rfl, ?_⟩; have n_ := ac_ (Kd.R_lower ho0 (below_size s1_)) <| Aside0.mk (below_step s1_ hb); clear HB; obtain ⟨HO457, HB⟩ := n_; (try clear hb ho0)))
 go_ret2
 exact ⟨_, (by first | rfl | (simp [errW_none, errW_some] <;> rfl) | (simp [*, errW_none, errW_some] <;> rfl)), (by (with_reducible repeat (first | apply Kd.R_alloc | apply Kd.R_drewN | apply Kd.R_drew)); exact HO457.out), s1_⟩
theorem bnd17_ {α β : Type} {o : Option α} {f : α → Option β} {r : β} (h : o.bind f = some r) : ∃ a, Aside0 (o = some a) ∧ f a = some r := by
 obtain ⟨a, h1, h2⟩ := Option.bind_eq_some_iff.mp h
 exact ⟨a, ⟨h1⟩, h2⟩
theorem q17_2 {P : Prop} (h : P := by repeat (first | (with_reducible first | exact HB.out | apply below_alloc | apply pw_below_drewN | apply below_drew1 | refine below_set ?_ GE516.out) | exact HB.out)) : P := h
theorem q17_4 {P : Prop} (h : P := by (with_reducible repeat (first | refine blk_drewN ?_ _ | refine blk_drew ?_ | refine blk_alloc ?_ _)); exact BK516.out) : P := h
theorem q17_5 {P : Prop} (h : P := by (with_reducible repeat (first | apply Kd.R_alloc | apply Kd.R_drewN | apply Kd.R_drew)); exact HO513.out) : P := h
mutual
def spec_LeftReduced.l0 : Nat → Int → List (S48) → List (S48) → Int → Option ((List (S48)) × Bool)
 | 0, _, _, _, _ => none
 | k + 1, x0, x1, x6, x7 => if x7 < (x1.length : Int) then (if 0 ≤ x7 then (spec_LeftReduced.l1 k x0 x1 x6 x7 0 ((rd_T48 x1 x7).f0) ((rd_T48 x1 x7).f1)) else (none)) else (some (x6, true))
def spec_LeftReduced.l1 : Nat → Int → List (S48) → List (S48) → Int → Int → Int → Int → Option ((List (S48)) × Bool)
 | 0, _, _, _, _, _, _, _ => none
 | k + 1, x0, x1, x6, x7, x9, x517000, x517001 => if x9 < x0 then (if 0 ≤ (IntKind.u64.wrap (x9)) then (if (wrap64 (x517000 - (Go.bits .and .i64 x517000 (shl .i64 1 (IntKind.u64.wrap (x9)))))) = x517000 then (spec_LeftReduced.l1 k x0 x1 x6 x7 (wrap64 (x9 + 1)) x517000 x517001) else ((spec_l9Closed.f k x1 (wrap64 (x517000 - (Go.bits .and .i64 x517000 (shl .i64 1 (IntKind.u64.wrap (x9))))))).bind fun t517 => (if (Go.bits .and .i64 t517 x517001) = x517001 then (spec_LeftReduced.l1 k x0 x1 x6 x7 (wrap64 (x9 + 1)) (wrap64 (x517000 - (Go.bits .and .i64 x517000 (shl .i64 1 (IntKind.u64.wrap (x9)))))) x517001) else (spec_LeftReduced.l1 k x0 x1 x6 x7 (wrap64 (x9 + 1)) x517000 x517001)))) else (none)) else (if x6.length < 8796093022208 then (spec_LeftReduced.l0 k x0 x1 (x6 ++ [(⟨x517000, x517001⟩ : S48)]) (wrap64 (x7 + 1))) else (none))
end
def spec_LeftReduced.f (k : Nat) (a0 : Int) (l1 : List (S48)) : Option ((List (S48)) × Bool) := (some (([] : List (S48)) : List (S48))).bind fun y511 => ((spec_AreRules.f k a0 l1).bind fun t514 => (if t514 = true then (spec_LeftReduced.l0 k a0 l1 y511 0) else (some (y511, false))))
theorem spec_LeftReduced.calls (k : Nat) (a0 : Int) (A1 : Option Addr) (c1 : Nat) (l1 : List (S48)) (r1 : List (S48)) (r2 : Bool) (w : World) (hr1 : Kd.C k48 w A1 l1.length l1) (hc1 : l1.length ≤ c1) (h : spec_LeftReduced.f k a0 l1 = some (r1, r2)) :
  Calls Tryz.prog 38 #[.int .i64 a0, .slice A1 l1.length c1] w fun e w' => ∃ v0_ : Value, e = .returned (.tuple #[v0_, .bool r2]) ∧ Kd.R k48 48 w' w.heap.size (fun _ => True) v0_ r1 ∧ Below w.heap.size w w' := by
 have hu48 := Tryz.underlying48; have HR1 := Aside0.mk hr1; have HC1 := Aside0.mk hc1; clear hr1 hc1; have HB := Aside0.mk (Below.refl w.heap.size w); have H := h; clear h; unfold spec_LeftReduced.f at H; obtain ⟨y511, hy_⟩ : ∃ y_ : List (S48), y_ = (([] : List (S48))) := ⟨_, rfl⟩
 replace H : ((spec_AreRules.f k a0 l1).bind fun t514 => (if t514 = true then (spec_LeftReduced.l0 k a0 l1 y511 0) else (some (y511, false)))) = some (r1, r2) := rH_
 have Ny511 := Aside0.mk hy_; clear hy_; obtain ⟨t514, A3, H⟩ := bnd17_ H
 by_cases c4 : t514 = true
 ·
  subst c4; rw [if_pos rfl] at H; have H' := Aside0.mk H; clear H
  go_enter Tryz.func38, Tryz.ntmps38
  go_wp2_with (first | ((with_reducible refine gw_ rfl ?_); (refine rl_ k48 48 11 ?_; intro v512 w5 ho6 hb hg_ hnew_; clear hg_ hnew_; (first | rw [← Ny511.out] at ho6 | (simp only [Int.reduceToNat] at ho6; rw [← Ny511.out] at ho6)); have n_ := ac_ (Kd.R_lower ho6 (below_size s1_)) <| Aside0.mk (below_step s1_ hb); clear HB; obtain ⟨HO513, HB⟩ := n_; clear hb ho6)) | (go_at_call 82; (with_reducible refine (spec_AreRules.calls k a0 _ _ l1 true _ ?side1 ?side2 A3.out).mono ?_); (case side1 => exact s14_); (case side2 => exact HC1.out); rintro e w7 ⟨rfl, hb⟩; have n_ := ac_ (Kd.R_below q17_5 hb) <| Aside0.mk (below_step s1_ hb); clear HO513 HB; obtain ⟨HO513, HB⟩ := n_; (try clear hb)))
  repeat (go_quiet (first | (refine rl_ k48 48 11 ?_; intro v512 w5 ho6 hb hg_ hnew_; clear hg_ hnew_; (first | rw [← Ny511.out] at ho6 | (simp only [Int.reduceToNat] at ho6; rw [← Ny511.out] at ho6)); have n_ := ac_ (Kd.R_lower ho6 (below_size s1_)) <| Aside0.mk (below_step s1_ hb); clear HB; obtain ⟨HO513, HB⟩ := n_; clear hb ho6) | (go_at_call 82; (with_reducible refine (spec_AreRules.calls k a0 _ _ l1 true _ ?side1 ?side2 A3.out).mono ?_); (case side1 => exact s14_); (case side2 => exact HC1.out); rintro e w7 ⟨rfl, hb⟩; have n_ := ac_ (Kd.R_below q17_5 hb) <| Aside0.mk (below_step s1_ hb); clear HO513 HB; obtain ⟨HO513, HB⟩ := n_; (try clear hb))); try go_wp2_with (first | ((with_reducible refine gw_ rfl ?_); (refine rl_ k48 48 11 ?_; intro v512 w5 ho6 hb hg_ hnew_; clear hg_ hnew_; (first | rw [← Ny511.out] at ho6 | (simp only [Int.reduceToNat] at ho6; rw [← Ny511.out] at ho6)); have n_ := ac_ (Kd.R_lower ho6 (below_size s1_)) <| Aside0.mk (below_step s1_ hb); clear HB; obtain ⟨HO513, HB⟩ := n_; clear hb ho6)) | (go_at_call 82; (with_reducible refine (spec_AreRules.calls k a0 _ _ l1 true _ ?side1 ?side2 A3.out).mono ?_); (case side1 => exact s14_); (case side2 => exact HC1.out); rintro e w7 ⟨rfl, hb⟩; have n_ := ac_ (Kd.R_below q17_5 hb) <| Aside0.mk (below_step s1_ hb); clear HO513 HB; obtain ⟨HO513, HB⟩ := n_; (try clear hb))))
  go_loopg [6, 7] k (fun kq v6 v7 w' => ∃ (x6_1 : List (S48)) (x7_1 : Int), v7 = .int .i64 x7_1 ∧ Aside0 (spec_LeftReduced.l0 kq a0 l1 x6_1 x7_1 = some (r1, r2)) ∧ Aside0 (kq ≤ k) ∧ Aside0 (Kd.R k48 48 w' w.heap.size (fun _ => True) v6 x6_1) ∧ Aside0 (Below w.heap.size w w'))
  case atStart => exact ⟨(y511), (0), s2_, H', ⟨Nat.le_refl _⟩, ⟨q17_5⟩, ⟨s1_⟩⟩
  case round =>
   clear H'
   try clear c1
   try clear p2
   try clear c3
   try clear c4
   obtain ⟨x6_1, x7_1, rfl, HA, HK1, HO_6, HB⟩ := hrel
   cases gk with
   | zero => exact absurd HA.out (by simp [spec_LeftReduced.l0])
   | succ k1 =>
    have H := HA.out; clear HA
    simp only [spec_LeftReduced.l0] at H
    by_cases c8 : x7_1 < (l1.length : Int)
    ·
     rw [if_pos c8] at H; have c8b0 : decide (x7_1 < (l1.length : Int)) = true := decide_eq_true c8; clear c8
     by_cases c9 : 0 ≤ x7_1
     ·
      rw [if_pos c9] at H; have c9b0 : decide (0 ≤ x7_1) = true := decide_eq_true c9; clear c9; have H' := Aside0.mk H; clear H
      have p515 : 0 ≤ (x7_1 : Int) := of_decide_eq_true (by first | (with_reducible assumption) | assumption)
      have q515 : x7_1 < (l1.length : Int) := of_decide_eq_true (by first | (with_reducible assumption) | assumption)
      obtain ⟨ad515, e515, hx515_0, hx515_1⟩ := at_T48 HR1.out x7_1 p515 q515
      cases e515
      replace hx515_0 := (HB.out.cell (World.block_lt_of_cell? w _ hx515_0)).trans hx515_0; replace hx515_1 := (HB.out.cell (World.block_lt_of_cell? w _ hx515_1)).trans hx515_1; replace p515 := eq_true p515; replace q515 := eq_true q515
      go_wp2_with ((with_reducible refine gw_ rfl ?_); (refine be_ 8 #[.int .i64 0, .int .i64 0] 48 ?_; intro gb516 hg w10 hbox hb; have n_ := ac_ (Kd.R_below (Kd.R_elderB s15_ gb516 (Nat.le_of_eq hg.symm)) hb) <| ac_ (below_step s1_ hb) <| ac_ (hbox) <| ac_ ((gz_ w hg s1_)) <| Aside0.mk ((gz_ w hg s1_)); clear HO_6 HB; obtain ⟨HO_6, HB, BK516, GW516, GE516⟩ := n_; clear hb hbox hg; have hcz11_0 : w10.cell? ⟨gb516, 0, none⟩ = some (.int .i64 0) := (blk_cell BK516.out 0).trans rfl; have hcz11_1 : w10.cell? ⟨gb516, 1, none⟩ = some (.int .i64 0) := (blk_cell BK516.out 1).trans rfl; have hfz11_0 := blk_frozen BK516.out 0; have hfz11_1 := blk_frozen BK516.out 1))
      repeat (go_quiet (first | (refine be_ 8 #[.int .i64 0, .int .i64 0] 48 ?_; intro gb516 hg w10 hbox hb; have n_ := ac_ (Kd.R_below (Kd.R_elderB s15_ gb516 (Nat.le_of_eq hg.symm)) hb) <| ac_ (below_step s1_ hb) <| ac_ (hbox) <| ac_ ((gz_ w hg s1_)) <| Aside0.mk ((gz_ w hg s1_)); clear HO_6 HB; obtain ⟨HO_6, HB, BK516, GW516, GE516⟩ := n_; clear hb hbox hg; have hcz11_0 : w10.cell? ⟨gb516, 0, none⟩ = some (.int .i64 0) := (blk_cell BK516.out 0).trans rfl; have hcz11_1 : w10.cell? ⟨gb516, 1, none⟩ = some (.int .i64 0) := (blk_cell BK516.out 1).trans rfl; have hfz11_0 := blk_frozen BK516.out 0; have hfz11_1 := blk_frozen BK516.out 1)); try go_wp2_with ((with_reducible refine gw_ rfl ?_); (refine be_ 8 #[.int .i64 0, .int .i64 0] 48 ?_; intro gb516 hg w10 hbox hb; have n_ := ac_ (Kd.R_below (Kd.R_elderB s15_ gb516 (Nat.le_of_eq hg.symm)) hb) <| ac_ (below_step s1_ hb) <| ac_ (hbox) <| ac_ ((gz_ w hg s1_)) <| Aside0.mk ((gz_ w hg s1_)); clear HO_6 HB; obtain ⟨HO_6, HB, BK516, GW516, GE516⟩ := n_; clear hb hbox hg; have hcz11_0 : w10.cell? ⟨gb516, 0, none⟩ = some (.int .i64 0) := (blk_cell BK516.out 0).trans rfl; have hcz11_1 : w10.cell? ⟨gb516, 1, none⟩ = some (.int .i64 0) := (blk_cell BK516.out 1).trans rfl; have hfz11_0 := blk_frozen BK516.out 0; have hfz11_1 := blk_frozen BK516.out 1)))
      go_loopg [9] k1 (fun kq v9 w' => ∃ (x9_2 : Int) (x517000_2 : Int), v9 = .int .i64 x9_2 ∧ Aside0 (spec_LeftReduced.l1 kq a0 l1 x6_1 x7_1 x9_2 x517000_2 ((rd_T48 l1 x7_1).f1) = some (r1, r2)) ∧ Aside0 (kq ≤ k1) ∧ Aside0 (Kd.R k48 48 w' w.heap.size (fun k_ => k_ ≠ gb516) u6 x6_1) ∧ Aside0 (w'.heap[gb516]? = some (.cells #[.int .i64 x517000_2, .int .i64 ((rd_T48 l1 x7_1).f1)] 48 (0, 0))) ∧ Aside0 (Below w.heap.size w w'))
      case atStart => exact ⟨(0), ((rd_T48 l1 x7_1).f0), s2_, H', ⟨Nat.le_refl _⟩, ⟨(by (with_reducible repeat (first | apply Kd.R_alloc | apply Kd.R_drewN | apply Kd.R_drew)); exact Kd.R_mono (Kd.R_far (p := ⟨gb516, 1, none⟩) (Kd.R_far (p := ⟨gb516, 0, none⟩) (Kd.R_mono HO_6.out (fun k_ hk => (⟨hk, hk.2⟩ : _ ∧ k_ ≠ gb516))) (fun _ hk => hk.2) (.int .i64 ((rd_T48 l1 x7_1).f0))) (fun _ hk => hk.2) (.int .i64 ((rd_T48 l1 x7_1).f1))) (fun _ hk => hk.1.2))⟩, ⟨(by (with_reducible repeat (first | refine blk_drewN ?_ _ | refine blk_drew ?_ | refine blk_alloc ?_ _)); refine blk_put (cs := #[.int .i64 ((rd_T48 l1 x7_1).f0), .int .i64 0]) ?_ 1 _ rfl; (with_reducible repeat (first | refine blk_drewN ?_ _ | refine blk_drew ?_ | refine blk_alloc ?_ _)); refine blk_put (cs := #[.int .i64 0, .int .i64 0]) ?_ 0 _ rfl; (with_reducible repeat (first | refine blk_drewN ?_ _ | refine blk_drew ?_ | refine blk_alloc ?_ _)); exact BK516.out)⟩, ⟨q17_2⟩⟩
      case round =>
       clear H'
       try clear c1
       try clear p2
       try clear c3
       try clear c4
       try clear p5
       try clear q5
       try clear hx5
       try clear c8
       try clear c8b0
       try clear c9
       try clear c9b0
       try clear hcz11_0
       try clear hcz11_1
       try clear hfz11_0
       try clear hfz11_1
       try clear hx515_0
       try clear hx515_1
       try clear p2
       try clear p515
       try clear q515
       obtain ⟨x9_2, x517000_2, rfl, HA, HK2, HO_6, BK516, HB⟩ := hrel
       cases gk with
       | zero => exact absurd HA.out (by simp [spec_LeftReduced.l1])
       | succ k2 =>
        have H := HA.out; clear HA
        simp only [spec_LeftReduced.l1] at H
        by_cases c12 : x9_2 < a0
        ·
         rw [if_pos c12] at H; have c12b0 : decide (x9_2 < a0) = true := decide_eq_true c12; clear c12; obtain ⟨ji13, hji13⟩ : ∃ j_ : Int, (IntKind.u64.wrap (x9_2)) = j_ := ⟨_, rfl⟩
         replace H : (if 0 ≤ (ji13) then (if (wrap64 (x517000_2 - (Go.bits .and .i64 x517000_2 (shl .i64 1 (ji13))))) = x517000_2 then (spec_LeftReduced.l1 k2 a0 l1 x6_1 x7_1 (wrap64 (x9_2 + 1)) x517000_2 ((rd_T48 l1 x7_1).f1)) else ((spec_l9Closed.f k2 l1 (wrap64 (x517000_2 - (Go.bits .and .i64 x517000_2 (shl .i64 1 (ji13)))))).bind fun t517 => (if (Go.bits .and .i64 t517 ((rd_T48 l1 x7_1).f1)) = ((rd_T48 l1 x7_1).f1) then (spec_LeftReduced.l1 k2 a0 l1 x6_1 x7_1 (wrap64 (x9_2 + 1)) (wrap64 (x517000_2 - (Go.bits .and .i64 x517000_2 (shl .i64 1 (ji13))))) ((rd_T48 l1 x7_1).f1)) else (spec_LeftReduced.l1 k2 a0 l1 x6_1 x7_1 (wrap64 (x9_2 + 1)) x517000_2 ((rd_T48 l1 x7_1).f1))))) else (none)) = some (r1, r2) := by first | (rw [hji13] at H; exact H) | (simp only [hji13] at H ⊢; exact H)
         by_cases c14 : 0 ≤ (ji13)
         ·
          rw [if_pos c14] at H; have c14b0 := eq_true c14; have c14b1 : decide (0 ≤ (ji13)) = true := decide_eq_true c14; clear c14; obtain ⟨ji15, hji15⟩ : ∃ j_ : Int, (shl .i64 1 (ji13)) = j_ := ⟨_, rfl⟩
          replace H : (if (wrap64 (x517000_2 - (Go.bits .and .i64 x517000_2 (ji15)))) = x517000_2 then (spec_LeftReduced.l1 k2 a0 l1 x6_1 x7_1 (wrap64 (x9_2 + 1)) x517000_2 ((rd_T48 l1 x7_1).f1)) else ((spec_l9Closed.f k2 l1 (wrap64 (x517000_2 - (Go.bits .and .i64 x517000_2 (ji15))))).bind fun t517 => (if (Go.bits .and .i64 t517 ((rd_T48 l1 x7_1).f1)) = ((rd_T48 l1 x7_1).f1) then (spec_LeftReduced.l1 k2 a0 l1 x6_1 x7_1 (wrap64 (x9_2 + 1)) (wrap64 (x517000_2 - (Go.bits .and .i64 x517000_2 (ji15)))) ((rd_T48 l1 x7_1).f1)) else (spec_LeftReduced.l1 k2 a0 l1 x6_1 x7_1 (wrap64 (x9_2 + 1)) x517000_2 ((rd_T48 l1 x7_1).f1))))) = some (r1, r2) := by first | (rw [hji15] at H; exact H) | (simp only [hji15] at H ⊢; exact H)
          have hji15_ : (IntKind.i64.wrap (1 * 2 ^ min (ji13).toNat 64)) = ji15 := hji15; have hji15z : (ji13) ≤ 64 → (IntKind.i64.wrap (1 * 2 ^ (ji13).toNat)) = ji15 := shl_small hji15
          have hji15u : (IntKind.i64.wrap (2 ^ min (ji13).toNat 64)) = ji15 := by have h_ := hji15_; rw [Int.one_mul] at h_; exact h_
          have hji15v : (ji13) ≤ 64 → (IntKind.i64.wrap (2 ^ (ji13).toNat)) = ji15 := fun hle_ => by have h_ := hji15z hle_; rw [Int.one_mul] at h_; exact h_
          have hji15y : (wrap64 (1 * 2 ^ min (ji13).toNat 64)) = ji15 := (i64_w _).symm.trans hji15_
          have hji15x : (ji13) ≤ 64 → (wrap64 (1 * 2 ^ (ji13).toNat)) = ji15 := fun h_ => (i64_w _).symm.trans (hji15z h_)
          by_cases c16 : (wrap64 (x517000_2 - (Go.bits .and .i64 x517000_2 (ji15)))) = x517000_2
          ·
           rw [if_pos c16] at H; have c16b0 : ((wrap64 (x517000_2 - (Go.bits .and .i64 x517000_2 (ji15)))) == x517000_2) = true := beq_iff_eq.mpr c16; have c16b1 : ((wrap64 (x517000_2 - (Go.bits .and .i64 x517000_2 (ji15)))) != x517000_2) = false := bne_eq_false_iff_eq.mpr c16; clear c16; have H' := Aside0.mk H; clear H; have hcz17_0 : wr.cell? ⟨gb516, 0, none⟩ = some (.int .i64 x517000_2) := (blk_cell BK516.out 0).trans rfl; have hcz17_1 : wr.cell? ⟨gb516, 1, none⟩ = some (.int .i64 ((rd_T48 l1 x7_1).f1)) := (blk_cell BK516.out 1).trans rfl; have hfz17_0 := blk_frozen BK516.out 0; have hfz17_1 := blk_frozen BK516.out 1
           go_wp2
           repeat (go_quiet (fail); try go_wp2)
           go_roundg k2
           case measure => have := HK1.out; have := HK2.out; omega
           case rel => exact ⟨(wrap64 (x9_2 + 1)), (x517000_2), s2_, H', ⟨by have := HK1.out; have := HK2.out; omega⟩, ⟨s15_⟩, ⟨q17_4⟩, ⟨q17_2⟩⟩
          ·
           rw [if_neg c16] at H; have c16b0 : ((wrap64 (x517000_2 - (Go.bits .and .i64 x517000_2 (ji15)))) == x517000_2) = false := beq_eq_false_iff_ne.mpr c16; have c16b1 : ((wrap64 (x517000_2 - (Go.bits .and .i64 x517000_2 (ji15)))) != x517000_2) = true := bne_iff_ne.mpr c16; obtain ⟨t517, A18, H⟩ := bnd17_ H
           by_cases c19 : (Go.bits .and .i64 t517 ((rd_T48 l1 x7_1).f1)) = ((rd_T48 l1 x7_1).f1)
           ·
            rw [if_pos c19] at H; have c19b0 : ((Go.bits .and .i64 t517 ((rd_T48 l1 x7_1).f1)) == ((rd_T48 l1 x7_1).f1)) = true := beq_iff_eq.mpr c19; have c19b1 : ((Go.bits .and .i64 t517 ((rd_T48 l1 x7_1).f1)) != ((rd_T48 l1 x7_1).f1)) = false := bne_eq_false_iff_eq.mpr c19; clear c19; have H' := Aside0.mk H; clear H; have hcz20_0 : wr.cell? ⟨gb516, 0, none⟩ = some (.int .i64 x517000_2) := (blk_cell BK516.out 0).trans rfl; have hcz20_1 : wr.cell? ⟨gb516, 1, none⟩ = some (.int .i64 ((rd_T48 l1 x7_1).f1)) := (blk_cell BK516.out 1).trans rfl; have hfz20_0 := blk_frozen BK516.out 0; have hfz20_1 := blk_frozen BK516.out 1
            go_wp2_with (first | (go_at_call 138; (with_reducible refine (spec_l9Closed.calls k2 _ _ l1 (wrap64 (x517000_2 - (Go.bits .and .i64 x517000_2 (ji15)))) t517 _ ?side1 ?side2 A18.out).mono ?_); (case side1 => exact s14_); (case side2 => exact HC1.out); rintro e w' ⟨rfl, ⟨nd, rfl⟩⟩; (try exact dn_)))
            repeat (go_quiet (first | (go_at_call 138; (with_reducible refine (spec_l9Closed.calls k2 _ _ l1 (wrap64 (x517000_2 - (Go.bits .and .i64 x517000_2 (ji15)))) t517 _ ?side1 ?side2 A18.out).mono ?_); (case side1 => exact s14_); (case side2 => exact HC1.out); rintro e w' ⟨rfl, ⟨nd, rfl⟩⟩; (try exact dn_))); try go_wp2_with (first | (go_at_call 138; (with_reducible refine (spec_l9Closed.calls k2 _ _ l1 (wrap64 (x517000_2 - (Go.bits .and .i64 x517000_2 (ji15)))) t517 _ ?side1 ?side2 A18.out).mono ?_); (case side1 => exact s14_); (case side2 => exact HC1.out); rintro e w' ⟨rfl, ⟨nd, rfl⟩⟩; (try exact dn_))))
            go_roundg k2
            case measure => have := HK1.out; have := HK2.out; omega
            case rel => exact ⟨(wrap64 (x9_2 + 1)), (wrap64 (x517000_2 - (Go.bits .and .i64 x517000_2 (ji15)))), s2_, H', ⟨by have := HK1.out; have := HK2.out; omega⟩, ⟨(by (with_reducible repeat (first | apply Kd.R_alloc | apply Kd.R_drewN | apply Kd.R_drew)); exact Kd.R_mono (Kd.R_far (p := ⟨gb516, 0, none⟩) (Kd.R_mono HO_6.out (fun k_ hk => (⟨hk, hk⟩ : _ ∧ k_ ≠ gb516))) (fun _ hk => hk.2) (.int .i64 (wrap64 (x517000_2 - (Go.bits .and .i64 x517000_2 (ji15)))))) (fun _ hk => hk.1))⟩, ⟨(by (with_reducible repeat (first | refine blk_drewN ?_ _ | refine blk_drew ?_ | refine blk_alloc ?_ _)); refine blk_put (cs := #[.int .i64 x517000_2, .int .i64 ((rd_T48 l1 x7_1).f1)]) ?_ 0 _ rfl; (with_reducible repeat (first | refine blk_drewN ?_ _ | refine blk_drew ?_ | refine blk_alloc ?_ _)); exact BK516.out)⟩, ⟨q17_2⟩⟩
           ·
            rw [if_neg c19] at H; have c19b0 : ((Go.bits .and .i64 t517 ((rd_T48 l1 x7_1).f1)) == ((rd_T48 l1 x7_1).f1)) = false := beq_eq_false_iff_ne.mpr c19; have c19b1 : ((Go.bits .and .i64 t517 ((rd_T48 l1 x7_1).f1)) != ((rd_T48 l1 x7_1).f1)) = true := bne_iff_ne.mpr c19; have H' := Aside0.mk H; clear H; have hcz21_0 : wr.cell? ⟨gb516, 0, none⟩ = some (.int .i64 x517000_2) := (blk_cell BK516.out 0).trans rfl; have hcz21_1 : wr.cell? ⟨gb516, 1, none⟩ = some (.int .i64 ((rd_T48 l1 x7_1).f1)) := (blk_cell BK516.out 1).trans rfl; have hfz21_0 := blk_frozen BK516.out 0; have hfz21_1 := blk_frozen BK516.out 1
            go_wp2_with (first | (go_at_call 138; (with_reducible refine (spec_l9Closed.calls k2 _ _ l1 (wrap64 (x517000_2 - (Go.bits .and .i64 x517000_2 (ji15)))) t517 _ ?side1 ?side2 A18.out).mono ?_); (case side1 => exact s14_); (case side2 => exact HC1.out); rintro e w' ⟨rfl, ⟨nd, rfl⟩⟩; (try exact dn_)))
            repeat (go_quiet (first | (go_at_call 138; (with_reducible refine (spec_l9Closed.calls k2 _ _ l1 (wrap64 (x517000_2 - (Go.bits .and .i64 x517000_2 (ji15)))) t517 _ ?side1 ?side2 A18.out).mono ?_); (case side1 => exact s14_); (case side2 => exact HC1.out); rintro e w' ⟨rfl, ⟨nd, rfl⟩⟩; (try exact dn_))); try go_wp2_with (first | (go_at_call 138; (with_reducible refine (spec_l9Closed.calls k2 _ _ l1 (wrap64 (x517000_2 - (Go.bits .and .i64 x517000_2 (ji15)))) t517 _ ?side1 ?side2 A18.out).mono ?_); (case side1 => exact s14_); (case side2 => exact HC1.out); rintro e w' ⟨rfl, ⟨nd, rfl⟩⟩; (try exact dn_))))
            go_roundg k2
            case measure => have := HK1.out; have := HK2.out; omega
            case rel => exact ⟨(wrap64 (x9_2 + 1)), (x517000_2), s2_, H', ⟨by have := HK1.out; have := HK2.out; omega⟩, ⟨s15_⟩, ⟨q17_4⟩, ⟨q17_2⟩⟩
         ·
          rw [if_neg c14] at H
          exact absurd H (by simp)
        ·
         rw [if_neg c12] at H; have c12b0 : decide (x9_2 < a0) = false := decide_eq_false c12; clear c12
         by_cases c22 : x6_1.length < 8796093022208
         ·
          rw [if_pos c22] at H; have LMc22 := Aside0.mk c22; clear c22; obtain ⟨y518, hy_⟩ : ∃ y_ : List (S48), y_ = (x6_1 ++ [(⟨x517000_2, ((rd_T48 l1 x7_1).f1)⟩ : S48)]) := ⟨_, rfl⟩
          replace H : (spec_LeftReduced.l0 k2 a0 l1 y518 (wrap64 (x7_1 + 1))) = some (r1, r2) := rH_
          have Ny518 := Aside0.mk hy_; clear hy_; have H' := Aside0.mk H; clear H; have hcz23_0 : wr.cell? ⟨gb516, 0, none⟩ = some (.int .i64 x517000_2) := (blk_cell BK516.out 0).trans rfl; have hcz23_1 : wr.cell? ⟨gb516, 1, none⟩ = some (.int .i64 ((rd_T48 l1 x7_1).f1)) := (blk_cell BK516.out 1).trans rfl; have hfz23_0 := blk_frozen BK516.out 0; have hfz23_1 := blk_frozen BK516.out 1
          go_wp2_with (first | ((with_reducible refine gate_builtin (b := .append) (xs := #[.tmp 58, .tmp 60]) rfl ?_); at_builtin; refine Kd.R_append k48 (w0 := w) w.heap.size rfl (.tmp 58) (.tmp 60) 24 48 (.agg #[(.int .i64 0), (.int .i64 0)]) 16 rfl Tryz.underlying24 info48 rfl (by decide) (by omega) u6 x6_1 (⟨x517000_2, ((rd_T48 l1 x7_1).f1)⟩ : S48) [.int .i64 x517000_2, .int .i64 ((rd_T48 l1 x7_1).f1)] (fun k_ => k_ ≠ gb516) (fun _ => False) rfl rfl ?aP (fun _ hk => hk.elim) ?aF ?aO ?aB ?aS ?aL ?_; (case aP => exact k48_mkM _ _ _ (⟨x517000_2, ((rd_T48 l1 x7_1).f1)⟩ : S48)); (case aB => exact q17_2); (case aF => exact (fun k_ hk => Kd.freshB (g := gb516) (o := .cells #[.int .i64 x517000_2, .int .i64 ((rd_T48 l1 x7_1).f1)] 48 (0, 0)) q17_4 k_ hk)); (case aO => exact s15_); (case aS => exact (below_size q17_2)); (case aL => have := LMc22.out; omega); intro v519 w24 ho hb hg hat; rw [← Ny518.out] at ho; have n_ := ac_ (blk_grown (g := gb516) (o := .cells #[.int .i64 x517000_2, .int .i64 ((rd_T48 l1 x7_1).f1)] 48 (0, 0)) q17_4 hg (Kd.R_away HO_6.out (fun _ hk => hk))) <| ac_ (hb) <| Aside0.mk (ho); clear BK516 HB HO_6; obtain ⟨BK516, HB, HO520⟩ := n_; clear ho hb hg hat))
          repeat (go_quiet (first | ((with_reducible refine gate_builtin (b := .append) (xs := #[.tmp 58, .tmp 60]) rfl ?_); at_builtin; refine Kd.R_append k48 (w0 := w) w.heap.size rfl (.tmp 58) (.tmp 60) 24 48 (.agg #[(.int .i64 0), (.int .i64 0)]) 16 rfl Tryz.underlying24 info48 rfl (by decide) (by omega) u6 x6_1 (⟨x517000_2, ((rd_T48 l1 x7_1).f1)⟩ : S48) [.int .i64 x517000_2, .int .i64 ((rd_T48 l1 x7_1).f1)] (fun k_ => k_ ≠ gb516) (fun _ => False) rfl rfl ?aP (fun _ hk => hk.elim) ?aF ?aO ?aB ?aS ?aL ?_; (case aP => exact k48_mkM _ _ _ (⟨x517000_2, ((rd_T48 l1 x7_1).f1)⟩ : S48)); (case aB => exact q17_2); (case aF => exact (fun k_ hk => Kd.freshB (g := gb516) (o := .cells #[.int .i64 x517000_2, .int .i64 ((rd_T48 l1 x7_1).f1)] 48 (0, 0)) q17_4 k_ hk)); (case aO => exact s15_); (case aS => exact (below_size q17_2)); (case aL => have := LMc22.out; omega); intro v519 w24 ho hb hg hat; rw [← Ny518.out] at ho; have n_ := ac_ (blk_grown (g := gb516) (o := .cells #[.int .i64 x517000_2, .int .i64 ((rd_T48 l1 x7_1).f1)] 48 (0, 0)) q17_4 hg (Kd.R_away HO_6.out (fun _ hk => hk))) <| ac_ (hb) <| Aside0.mk (ho); clear BK516 HB HO_6; obtain ⟨BK516, HB, HO520⟩ := n_; clear ho hb hg hat)); try go_wp2_with (first | ((with_reducible refine gate_builtin (b := .append) (xs := #[.tmp 58, .tmp 60]) rfl ?_); at_builtin; refine Kd.R_append k48 (w0 := w) w.heap.size rfl (.tmp 58) (.tmp 60) 24 48 (.agg #[(.int .i64 0), (.int .i64 0)]) 16 rfl Tryz.underlying24 info48 rfl (by decide) (by omega) u6 x6_1 (⟨x517000_2, ((rd_T48 l1 x7_1).f1)⟩ : S48) [.int .i64 x517000_2, .int .i64 ((rd_T48 l1 x7_1).f1)] (fun k_ => k_ ≠ gb516) (fun _ => False) rfl rfl ?aP (fun _ hk => hk.elim) ?aF ?aO ?aB ?aS ?aL ?_; (case aP => exact k48_mkM _ _ _ (⟨x517000_2, ((rd_T48 l1 x7_1).f1)⟩ : S48)); (case aB => exact q17_2); (case aF => exact (fun k_ hk => Kd.freshB (g := gb516) (o := .cells #[.int .i64 x517000_2, .int .i64 ((rd_T48 l1 x7_1).f1)] 48 (0, 0)) q17_4 k_ hk)); (case aO => exact s15_); (case aS => exact (below_size q17_2)); (case aL => have := LMc22.out; omega); intro v519 w24 ho hb hg hat; rw [← Ny518.out] at ho; have n_ := ac_ (blk_grown (g := gb516) (o := .cells #[.int .i64 x517000_2, .int .i64 ((rd_T48 l1 x7_1).f1)] 48 (0, 0)) q17_4 hg (Kd.R_away HO_6.out (fun _ hk => hk))) <| ac_ (hb) <| Aside0.mk (ho); clear BK516 HB HO_6; obtain ⟨BK516, HB, HO520⟩ := n_; clear ho hb hg hat)))
          go_roundg k2
          case measure => have := HK1.out; have := HK2.out; omega
          case rel => exact ⟨(y518), (wrap64 (x7_1 + 1)), s2_, H', ⟨by have := HK1.out; have := HK2.out; omega⟩, ⟨(by (with_reducible repeat (first | apply Kd.R_alloc | apply Kd.R_drewN | apply Kd.R_drew)); exact Kd.R_mono HO520.out (fun _ hk => trivial))⟩, ⟨q17_2⟩⟩
         ·
          rw [if_neg c22] at H
          exact absurd H (by simp)
     ·
      rw [if_neg c9] at H
      exact absurd H (by simp)
    ·
     rw [if_neg c8] at H; have c8b0 : decide (x7_1 < (l1.length : Int)) = false := decide_eq_false c8; clear c8
     simp only [Option.some.injEq, Prod.mk.injEq] at H
     obtain ⟨rfl, rfl⟩ := H
     go_wp2
     repeat (go_quiet (fail); try go_wp2)
     go_ret2
     exact ⟨_, (by first | rfl | (simp [errW_none, errW_some] <;> rfl) | (simp [*, errW_none, errW_some] <;> rfl)), s15_, s1_⟩
 ·
  replace c4 := Bool.eq_false_iff.mpr c4; subst c4
  rw [if_neg (show ¬ (false = true) by decide)] at H
  simp only [Option.some.injEq, Prod.mk.injEq] at H
  obtain ⟨rfl, rfl⟩ := H
  go_enter Tryz.func38, Tryz.ntmps38
  go_wp2_with (first | ((with_reducible refine gw_ rfl ?_); (refine rl_ k48 48 11 ?_; intro v512 w25 ho26 hb hg_ hnew_; clear hg_ hnew_; (first | rw [← Ny511.out] at ho26 | (simp only [Int.reduceToNat] at ho26; rw [← Ny511.out] at ho26)); have n_ := ac_ (Kd.R_lower ho26 (below_size s1_)) <| Aside0.mk (below_step s1_ hb); clear HB; obtain ⟨HO513, HB⟩ := n_; clear hb ho26)) | (go_at_call 82; (with_reducible refine (spec_AreRules.calls k a0 _ _ l1 false _ ?side1 ?side2 A3.out).mono ?_); (case side1 => exact s14_); (case side2 => exact HC1.out); rintro e w27 ⟨rfl, hb⟩; have n_ := ac_ (Kd.R_below q17_5 hb) <| Aside0.mk (below_step s1_ hb); clear HO513 HB; obtain ⟨HO513, HB⟩ := n_; (try clear hb)))
  repeat (go_quiet (first | (refine rl_ k48 48 11 ?_; intro v512 w25 ho26 hb hg_ hnew_; clear hg_ hnew_; (first | rw [← Ny511.out] at ho26 | (simp only [Int.reduceToNat] at ho26; rw [← Ny511.out] at ho26)); have n_ := ac_ (Kd.R_lower ho26 (below_size s1_)) <| Aside0.mk (below_step s1_ hb); clear HB; obtain ⟨HO513, HB⟩ := n_; clear hb ho26) | (go_at_call 82; (with_reducible refine (spec_AreRules.calls k a0 _ _ l1 false _ ?side1 ?side2 A3.out).mono ?_); (case side1 => exact s14_); (case side2 => exact HC1.out); rintro e w27 ⟨rfl, hb⟩; have n_ := ac_ (Kd.R_below q17_5 hb) <| Aside0.mk (below_step s1_ hb); clear HO513 HB; obtain ⟨HO513, HB⟩ := n_; (try clear hb))); try go_wp2_with (first | ((with_reducible refine gw_ rfl ?_); (refine rl_ k48 48 11 ?_; intro v512 w25 ho26 hb hg_ hnew_; clear hg_ hnew_; (first | rw [← Ny511.out] at ho26 | (simp only [Int.reduceToNat] at ho26; rw [← Ny511.out] at ho26)); have n_ := ac_ (Kd.R_lower ho26 (below_size s1_)) <| Aside0.mk (below_step s1_ hb); clear HB; obtain ⟨HO513, HB⟩ := n_; clear hb ho26)) | (go_at_call 82; (with_reducible refine (spec_AreRules.calls k a0 _ _ l1 false _ ?side1 ?side2 A3.out).mono ?_); (case side1 => exact s14_); (case side2 => exact HC1.out); rintro e w27 ⟨rfl, hb⟩; have n_ := ac_ (Kd.R_below q17_5 hb) <| Aside0.mk (below_step s1_ hb); clear HO513 HB; obtain ⟨HO513, HB⟩ := n_; (try clear hb))))
  go_ret2
  exact ⟨_, (by first | rfl | (simp [errW_none, errW_some] <;> rfl) | (simp [*, errW_none, errW_some] <;> rfl)), q17_5, s1_⟩
def spec_l11Without.f (l0 : List (S48)) (a1 : Int) : Option ((List (S48))) := (some (([] : List (S48)) : List (S48))).bind fun y521 => (if 0 ≤ a1 then (if a1 ≤ (l0.length : Int) then ((some (l0.take (a1 : Int).toNat : List (S48))).bind fun y524 => (if y521.length + y524.length < 8796093022208 then ((some (y521 ++ y524 : List (S48))).bind fun y528 => (if 0 ≤ (wrap64 (a1 + 1)) then (if (wrap64 (a1 + 1)) ≤ (l0.length : Int) then ((some (l0.drop ((wrap64 (a1 + 1)) : Int).toNat : List (S48))).bind fun y531 => (if y528.length + y531.length < 8796093022208 then (some (y528 ++ y531)) else (none))) else (none)) else (none))) else (none))) else (none)) else (none))
def spec_l11Without.T1 : Bool × List (List Nat × List Nat) := (true, [([], []), ([], []), ([], []), ([1, 2], [1, 2]), ([0, 3], [0, 3]), ([], []), ([], []), ([6], [6]), ([5, 7], [5, 7]), ([4, 8, 4], [4, 8]), ([9, 9, 0, 1, 2, 3, 4, 5, 6, 7, 8, 9], [9])])
def spec_l11Without.B1 : List Nat := [0, 0, 0, 6, 15, 0, 0, 64, 224, 511, 1023]
theorem spec_l11Without.tab1 : rtab .any (opsOf Tryz.f158 1) = spec_l11Without.T1 := by kernel_rfl
theorem spec_l11Without.bits1 : waitsOk spec_l11Without.T1.2 spec_l11Without.B1 = true := by kernel_rfl
theorem spec_l11Without.calls (A0 : Option Addr) (c0 : Nat) (l0 : List (S48)) (a1 : Int) (r : List (S48)) (w : World) (hr0 : Kd.C k48 w A0 l0.length l0) (hc0 : l0.length ≤ c0) (h : spec_l11Without.f l0 a1 = some r) :
  Calls Tryz.prog 158 #[.slice A0 l0.length c0, .int .i64 a1] w fun e w' => ∃ v0_ : Value, e = .returned (v0_) ∧ Kd.R k48 48 w' w.heap.size (fun _ => True) v0_ r ∧ Below w.heap.size w w' := by
 have HR0 := Aside0.mk hr0; have HC0 := Aside0.mk hc0; clear hr0 hc0; have HB := Aside0.mk (Below.refl w.heap.size w); have H := h; clear h; unfold spec_l11Without.f at H; obtain ⟨y521, hy_⟩ : ∃ y_ : List (S48), y_ = (([] : List (S48))) := ⟨_, rfl⟩
 replace H : (if 0 ≤ a1 then (if a1 ≤ (l0.length : Int) then ((some (l0.take (a1 : Int).toNat : List (S48))).bind fun y524 => (if y521.length + y524.length < 8796093022208 then ((some (y521 ++ y524 : List (S48))).bind fun y528 => (if 0 ≤ (wrap64 (a1 + 1)) then (if (wrap64 (a1 + 1)) ≤ (l0.length : Int) then ((some (l0.drop ((wrap64 (a1 + 1)) : Int).toNat : List (S48))).bind fun y531 => (if y528.length + y531.length < 8796093022208 then (some (y528 ++ y531)) else (none))) else (none)) else (none))) else (none))) else (none)) else (none)) = some r := rH_
 have Ny521 := Aside0.mk hy_; clear hy_
 by_cases c3 : 0 ≤ a1
 ·
  rw [if_pos c3] at H; have c3b0 := eq_true c3; have c3b1 : decide (0 ≤ a1) = true := decide_eq_true c3; clear c3
  by_cases c4 : a1 ≤ (l0.length : Int)
  ·
   rw [if_pos c4] at H; have c4b0 := eq_true c4; have c4b1 : decide (a1 ≤ (l0.length : Int)) = true := decide_eq_true c4; clear c4; obtain ⟨y524, hy_⟩ : ∃ y_ : List (S48), y_ = (l0.take (a1 : Int).toNat) := ⟨_, rfl⟩
   replace H : (if y521.length + y524.length < 8796093022208 then ((some (y521 ++ y524 : List (S48))).bind fun y528 => (if 0 ≤ (wrap64 (a1 + 1)) then (if (wrap64 (a1 + 1)) ≤ (l0.length : Int) then ((some (l0.drop ((wrap64 (a1 + 1)) : Int).toNat : List (S48))).bind fun y531 => (if y528.length + y531.length < 8796093022208 then (some (y528 ++ y531)) else (none))) else (none)) else (none))) else (none)) = some r := rH_
   have Ny524 := Aside0.mk hy_; clear hy_
   by_cases c5 : y521.length + y524.length < 8796093022208
   ·
    rw [if_pos c5] at H; have LMc5 := Aside0.mk c5; clear c5; obtain ⟨y528, hy_⟩ : ∃ y_ : List (S48), y_ = (y521 ++ y524) := ⟨_, rfl⟩
    replace H : (if 0 ≤ (wrap64 (a1 + 1)) then (if (wrap64 (a1 + 1)) ≤ (l0.length : Int) then ((some (l0.drop ((wrap64 (a1 + 1)) : Int).toNat : List (S48))).bind fun y531 => (if y528.length + y531.length < 8796093022208 then (some (y528 ++ y531)) else (none))) else (none)) else (none)) = some r := rH_
    have Ny528 := Aside0.mk hy_; clear hy_; obtain ⟨ji6, hji6⟩ : ∃ j_ : Int, (wrap64 (a1 + 1)) = j_ := ⟨_, rfl⟩
    replace H : (if 0 ≤ (ji6) then (if (ji6) ≤ (l0.length : Int) then ((some (l0.drop ((ji6) : Int).toNat : List (S48))).bind fun y531 => (if y528.length + y531.length < 8796093022208 then (some (y528 ++ y531)) else (none))) else (none)) else (none)) = some r := by first | (rw [hji6] at H; exact H) | (simp only [hji6] at H ⊢; exact H)
    have hji6w : (IntKind.i64.wrap (a1 + 1)) = ji6 := (i64_w _).trans hji6
    by_cases c7 : 0 ≤ (ji6)
    ·
     rw [if_pos c7] at H; have c7b0 := eq_true c7; have c7b1 : decide (0 ≤ (ji6)) = true := decide_eq_true c7; clear c7
     by_cases c8 : (ji6) ≤ (l0.length : Int)
     ·
      rw [if_pos c8] at H; have c8b0 := eq_true c8; have c8b1 : decide ((ji6) ≤ (l0.length : Int)) = true := decide_eq_true c8; clear c8; obtain ⟨y531, hy_⟩ : ∃ y_ : List (S48), y_ = (l0.drop ((ji6) : Int).toNat) := ⟨_, rfl⟩
      replace H : (if y528.length + y531.length < 8796093022208 then (some (y528 ++ y531)) else (none)) = some r := rH_
      have Ny531 := Aside0.mk hy_; clear hy_
      by_cases c9 : y528.length + y531.length < 8796093022208
      ·
       rw [if_pos c9] at H; have LMc9 := Aside0.mk c9; clear c9; obtain ⟨y535, hy_⟩ : ∃ y_ : List (S48), y_ = (y528 ++ y531) := ⟨_, rfl⟩
       replace H : (some y535) = some r := rH_
       have Ny535 := Aside0.mk hy_; clear hy_; obtain rfl := Option.some.inj H
       go_enter Tryz.func158, Tryz.ntmps158
       try go_wp2
       have n0_ := Aside0.mk (below_drew1 HB.out); clear HB; have HB := n0_; clear n0_; have q11 : (a1 : Int) ≤ ((l0.length : Int) : Int) := of_decide_eq_true s3_; obtain ⟨i011, hi011, _, hsz11, _⟩ := info_parts info48; have hroom11 : l0.length ≤ c0 := HC0.out; have hC11 : Kd.C k48 _ A0 l0.length l0 := HR0.out; have hcut11 := cut_to (P := Tryz.prog) 24 48 .i64 Tryz.underlying24 hi011 A0 l0.length c0 a1 (of_decide_eq_true s3_) q11 hroom11
       have hr11 := Kd.C_take (m := (a1 : Int).toNat) hC11 (by omega)
       have hy11 : y524.length = (a1 : Int).toNat := (by rw [Ny524.out, List.length_take]; omega)
       rw [← Ny524.out] at hr11; rw [← hy11] at hcut11; have HR527 := Aside0.mk hr11
       have HC527 := Aside0.mk (show y524.length ≤ c0 from by omega)
       clear hr11 hC11 hroom11 hi011 hsz11; have KY11 := Aside0.mk hy11; clear hy11; replace q11 := eq_true q11; have q12 : ((ji6) : Int) ≤ ((l0.length : Int) : Int) := of_decide_eq_true s3_; obtain ⟨i012, hi012, _, hsz12, _⟩ := info_parts info48; have hroom12 : l0.length ≤ c0 := HC0.out; have hC12 : Kd.C k48 _ A0 l0.length l0 := HR0.out; have q012 : (0 : Int) ≤ ((ji6) : Int) := of_decide_eq_true s3_; have hcut12 := cut_from (P := Tryz.prog) 24 48 .i64 Tryz.underlying24 hi012 2 hsz12 A0 l0.length c0 (ji6) q012 q12
       have hr12 := Kd.C_drop (m := ((ji6) : Int).toNat) (c := c0) hC12 (by omega) hroom12
       obtain ⟨A12, hA12⟩ : ∃ A1, A1 = (if c0 = ((ji6) : Int).toNat then A0 else (A0 : Option Addr).map (·.add (((ji6) : Int).toNat * 2))) := ⟨_, rfl⟩
       obtain ⟨c12, hc12⟩ : ∃ c1, c1 = c0 - ((ji6) : Int).toNat := ⟨_, rfl⟩
       have hy12 : y531.length = l0.length - ((ji6) : Int).toNat := (by rw [Ny531.out, List.length_drop] <;> omega)
       rw [show (l0).drop ((ji6) : Int).toNat = y531 from Ny531.out.symm] at hr12
       replace hr12 : Kd.C k48 _ A12 y531.length y531 := (by rw [hA12]; exact hr12)
       rw [← hy12, ← hA12, ← hc12] at hcut12; have HR534 := Aside0.mk hr12
       have HC534 := Aside0.mk (show y531.length ≤ c12 from by rw [hy12, hc12]; exact Nat.sub_le_sub_right hroom12 _)
       clear hr12 hC12 hroom12 hi012 hsz12 hc12; have KY12 := Aside0.mk hy12; have KA12 := Aside0.mk hA12; clear hy12 hA12; replace q12 := eq_true q12
       refine start_ (n := 11) (S := fun w' => True) (ds := []) (tb_ 11 0) (by kernel_rfl) rfl rfl trivial (fun hHeld => ?_); refine with_tabW spec_l11Without.tab1 spec_l11Without.bits1 (fun HT_ HW_ => ?_)
       generalize w.drew = w10 at HB HR527 HR534 hHeld ⊢
       refine pl_ 1 6 (tb_ 11 2) ?_; refine pl_ 2 7 (tb_ 11 6) ?_; refine pl_ 3 8 (tb_ 11 14) ?_; refine pl_ 5 10 (tb_ 11 46) ?_; refine pl_ 6 11 (tb_ 11 110) ?_; refine pl_ 7 12 (tb_ 11 238) ?_; refine pl_ 8 13 (tb_ 11 494) ?_
       refine on_ 0 5 (tb_ 11 495) (fun K hK => ?_)
       refine Kd.R_lit_step k48 _ 48 ?hg (N := 5) ?hd (xs := ([] : List (S48))) (inner := []) (ok := fun _ => True) (okp := fun _ => True) ?hr ?hp (fun _ hk => hk) trivial (Below.refl _ _) (Nat.le_refl _) (by simp) ?_; (case hd => rfl); (case hg => rfl); (case hr => first | (go_simp; done) | (go_simp; rfl)); (case hp => exact (Reps.none _ _))
       intro v522 w13 ho14 hb hg_ hnew_
       clear hg_ hnew_
       (first | rw [← Ny521.out] at ho14 | (simp only [Int.reduceToNat] at ho14; rw [← Ny521.out] at ho14))
       have n0_ := Aside0.mk (Kd.R_lower ho14 (below_size s1_)); have n1_ := Aside0.mk (below_step s1_ hb); clear HB; have HO523 := n0_; have HB := n1_; clear n0_ n1_; clear hb ho14
       refine hK.out _ _ trivial (fun hHeld => ?_)
       clear hK K
       refine norm_ (a' := ?_) ?_ ?_
       rotate_left
       ·
        show Act.put _ (some 5) _ = _
        exact s6_
       refine on_ 4 9 (tb_ 11 511) (fun K hK => ?_)
       refine Kd.R_append_rows_step k48 (w0 := w) w.heap.size (by rfl) (.tmp 5) (.tmp 8) 24 48 (.agg #[(.int .i64 0), (.int .i64 0)]) 16 rfl Tryz.underlying24 info48 rfl (by decide) (by omega) v522 y521 y524 _ _ _ (fun _ => True) (fun _ => False) rfl rfl ?aO ?aR (fun _ _ h => h) (fun _ h => h.elim) ?aF ?aB ?aS ?aL ?_
       (case aR => repeat (first | exact (Kd.C_below HR527.out HB.out) | (with_reducible refine Kd.C_alloc ?_ _) | (with_reducible refine Kd.C_drewN ?_ _) | (with_reducible refine Kd.C_drew ?_)))
       (case aB => exact s1_)
       (case aF => exact (fun _ _ => trivial))
       (case aO => exact (by (with_reducible repeat (first | apply Kd.R_alloc | apply Kd.R_drewN | apply Kd.R_drew)); exact HO523.out))
       (case aS => exact (below_size s1_))
       (case aL => have := LMc5.out; omega)
       intro v529 w15 ho hb hg hat
       rw [← Ny528.out] at ho; have n0_ := Aside0.mk (hb); have n1_ := Aside0.mk (ho); clear HB; clear HO523; have HB := n0_; have HO530 := n1_; clear n0_ n1_; clear ho hb hg hat
       refine hK.out _ _ trivial (fun hHeld => ?_)
       clear hK K
       refine norm_ (a' := ?_) ?_ ?_
       rotate_left
       ·
        show Act.put _ (some 9) _ = _
        exact s6_
       refine on_ 9 14 (tb_ 11 1023) (fun K hK => ?_)
       refine Kd.R_append_rows_step k48 (w0 := w) w.heap.size (by rfl) (.tmp 9) (.tmp 13) 24 48 (.agg #[(.int .i64 0), (.int .i64 0)]) 16 rfl Tryz.underlying24 info48 rfl (by decide) (by omega) v529 y528 y531 _ _ _ (fun _ => True) (fun _ => False) rfl rfl ?aO ?aR (fun _ _ h => h) (fun _ h => h.elim) ?aF ?aB ?aS ?aL ?_
       (case aR => repeat (first | exact (Kd.C_below HR534.out HB.out) | (with_reducible refine Kd.C_alloc ?_ _) | (with_reducible refine Kd.C_drewN ?_ _) | (with_reducible refine Kd.C_drew ?_)))
       (case aB => exact s1_)
       (case aF => exact (fun _ _ => trivial))
       (case aO => exact (by (with_reducible repeat (first | apply Kd.R_alloc | apply Kd.R_drewN | apply Kd.R_drew)); exact HO530.out))
       (case aS => exact (below_size s1_))
       (case aL => have := LMc9.out; omega)
       intro v536 w16 ho hb hg hat
       rw [← Ny535.out] at ho; have n0_ := Aside0.mk (hb); have n1_ := Aside0.mk (ho); clear HB; clear HO530; have HB := n0_; have HO537 := n1_; clear n0_ n1_; clear ho hb hg hat
       refine hK.out _ _ trivial (fun hHeld => ?_)
       clear hK K
       refine norm_ (a' := ?_) ?_ ?_
       rotate_left
       ·
        show Act.put _ (some 14) _ = _
        exact s6_
       refine pl_ 10 4 (tb_ 11 2047) ?_
       refine done_ (done_of HT_.out (by kernel_rfl)) ?_
       try go_wp2
       go_ret
       exact ⟨_, (by first | rfl | (simp [errW_none, errW_some] <;> rfl) | (simp only [← hji6]; first | rfl | (simp [errW_none, errW_some] <;> rfl)) | (simp [*, errW_none, errW_some] <;> rfl)), (by (with_reducible repeat (first | apply Kd.R_alloc | apply Kd.R_drewN | apply Kd.R_drew)); exact HO537.out), s1_⟩
      ·
       rw [if_neg c9] at H
       exact absurd H (by simp)
     ·
      rw [if_neg c8] at H
      exact absurd H (by simp)
    ·
     rw [if_neg c7] at H
     exact absurd H (by simp)
   ·
    rw [if_neg c5] at H
    exact absurd H (by simp)
  ·
   rw [if_neg c4] at H
   exact absurd H (by simp)
 ·
  rw [if_neg c3] at H
  exact absurd H (by simp)
def spec_IsRedundant.f (k : Nat) (l0 : List (S48)) (a1 : Int) : Option (Bool) := (spec_l1In.f a1 0 (wrap64 ((l0.length : Int) - 1))).bind fun t538 => (if t538 = true then ((spec_l11Without.f l0 a1).bind fun t539 => (if 0 ≤ a1 then (if a1 < (l0.length : Int) then ((spec_Follows.f k t539 ((rd_T48 l0 a1).f0) ((rd_T48 l0 a1).f1)).bind fun t543 => (some t543)) else (none)) else (none))) else (some false))
def spec_IsRedundant.T1 : Bool × List (List Nat × List Nat) := (true, [([], []), ([], []), ([1], [1]), ([2], [2]), ([0, 3], [0, 3]), ([4, 4], [4]), ([5], [5]), ([5], [5]), ([6, 7, 5, 5], [5, 6, 7]), ([5], [5]), ([5], [5]), ([9, 10, 5], [5, 9, 10]), ([11, 5], [5, 11]), ([8, 12, 8, 5], [5, 8, 12]), ([5, 13], [5, 13]), ([14, 13, 0, 1, 2, 3, 4, 5, 6, 7, 8, 9, 10, 11, 12, 13, 14], [14])])
def spec_IsRedundant.B1 : List Nat := [0, 0, 2, 6, 15, 31, 63, 63, 255, 63, 63, 1599, 3647, 8191, 16383, 32767]
theorem spec_IsRedundant.tab1 : rtab .any (opsOf Tryz.f48 1) = spec_IsRedundant.T1 := by kernel_rfl
theorem spec_IsRedundant.bits1 : waitsOk spec_IsRedundant.T1.2 spec_IsRedundant.B1 = true := by kernel_rfl
theorem spec_IsRedundant.calls (k : Nat) (A0 : Option Addr) (c0 : Nat) (l0 : List (S48)) (a1 : Int) (r : Bool) (w : World) (hr0 : Kd.C k48 w A0 l0.length l0) (hc0 : l0.length ≤ c0) (h : spec_IsRedundant.f k l0 a1 = some r) :
  Calls Tryz.prog 48 #[.slice A0 l0.length c0, .int .i64 a1] w fun e w' => e = .returned (.bool r) ∧ Below w.heap.size w w' := by
 have hu48 := Tryz.underlying48; have HR0 := Aside0.mk hr0; have HC0 := Aside0.mk hc0; clear hr0 hc0; have HB := Aside0.mk (Below.refl w.heap.size w); have H := h; clear h; unfold spec_IsRedundant.f at H; obtain ⟨t538, A3, H⟩ := bnd17_ H
 by_cases c4 : t538 = true
 ·
  subst c4; rw [if_pos rfl] at H; obtain ⟨t539, A5, H⟩ := bnd17_ H
  by_cases c6 : 0 ≤ a1
  ·
   rw [if_pos c6] at H; have c6b0 : decide (0 ≤ a1) = true := decide_eq_true c6; clear c6
   by_cases c7 : a1 < (l0.length : Int)
   ·
    rw [if_pos c7] at H; have c7b0 : decide (a1 < (l0.length : Int)) = true := decide_eq_true c7; clear c7; obtain ⟨t543, A8, H⟩ := bnd17_ H; obtain rfl := Option.some.inj H
    go_enter Tryz.func48, Tryz.ntmps48
    try go_wp2
    have n0_ := Aside0.mk (below_drew1 HB.out); clear HB; have HB := n0_; clear n0_
    have p542 : 0 ≤ (a1 : Int) := of_decide_eq_true (by first | (with_reducible assumption) | assumption)
    have q542 : a1 < (l0.length : Int) := of_decide_eq_true (by first | (with_reducible assumption) | assumption)
    obtain ⟨ad542, e542, hx542_0, hx542_1⟩ := at_T48 HR0.out a1 p542 q542; have hw542_1 := hx542_1; have hw542_0 := hx542_0
    cases e542
    replace hx542_0 := (HB.out.cell (World.block_lt_of_cell? w _ hx542_0)).trans hx542_0; replace hx542_1 := (HB.out.cell (World.block_lt_of_cell? w _ hx542_1)).trans hx542_1; replace p542 := eq_true p542; replace q542 := eq_true q542
    refine start_ (n := 16) (S := fun w' => w'.cell? (ad542.add ((a1).toNat * 2)) = some (.int .i64 ((rd_T48 l0 a1).f0)) ∧ w'.cell? ⟨(ad542.add ((a1).toNat * 2)).block, (ad542.add ((a1).toNat * 2)).off + 1, none⟩ = some (.int .i64 ((rd_T48 l0 a1).f1))) (ds := []) (tb_ 16 0) (by kernel_rfl) rfl rfl ⟨((HB.out.cell (World.block_lt_of_cell? w _ hw542_0)).trans hw542_0), ((HB.out.cell (World.block_lt_of_cell? w _ hw542_1)).trans hw542_1)⟩ (fun hHeld => ?_); refine with_tabW spec_IsRedundant.tab1 spec_IsRedundant.bits1 (fun HT_ HW_ => ?_)
    generalize w.drew = w9 at HB hx542_0 hx542_1 hHeld ⊢
    refine pl_ 0 5 (tb_ 16 1) ?_; refine pl_ 1 6 (tb_ 16 3) ?_; refine pl_ 2 7 (tb_ 16 7) ?_; refine pl_ 3 8 (tb_ 16 15) ?_
    refine on_ 4 9 (tb_ 16 31) (fun K hK => ?_)
    refine goes_ Tryz.func132 (by kernel_rfl) rfl #[.int .i64 a1, .int .i64 0, .int .i64 (wrap64 ((l0.length : Int) - 1))] (by rfl) rfl rfl s0_ ?_
    with_reducible refine (spec_l1In.calls a1 0 (wrap64 ((l0.length : Int) - 1)) true _ A3.out).mono ?_
    rintro e w' ⟨rfl, ⟨nd, rfl⟩⟩
    refine ⟨_, rfl, ?_⟩
    refine hK.out _ _ ⟨((HB.out.cell (World.block_lt_of_cell? w _ hw542_0)).trans hw542_0), ((HB.out.cell (World.block_lt_of_cell? w _ hw542_1)).trans hw542_1)⟩ (fun hHeld => ?_)
    clear hK K
    refine norm_ (a' := ?_) ?_ ?_
    rotate_left
    ·
     show Act.put _ (some 9) _ = _
     exact s6_
    refine pl_ 5 10 (tb_ 16 63) ?_; refine pl_ 6 11 (tb_ 16 127) ?_; refine pl_ 7 12 (tb_ 16 255) ?_; refine pl_ 9 14 (tb_ 16 767) ?_; refine pl_ 10 15 (tb_ 16 1791) ?_; refine pl_ 11 16 (tb_ 16 3839) ?_; refine tk_ 12 17 (tb_ 16 7935) hHeld ?_
    refine on_ 8 13 (tb_ 16 8191) (fun K hK => ?_)
    refine goes_ Tryz.func158 (by kernel_rfl) rfl #[.slice (some ad542) l0.length c0, .int .i64 a1] (by rfl) rfl rfl s0_ ?_
    with_reducible refine (spec_l11Without.calls _ _ l0 a1 t539 _ ?side1 ?side2 A5.out).mono ?_
    (case side1 => repeat (first | exact (Kd.C_below HR0.out s1_) | (with_reducible refine Kd.C_alloc ?_ _) | (with_reducible refine Kd.C_drewN ?_ _) | (with_reducible refine Kd.C_drew ?_)))
    (case side2 => exact HC0.out)
    rintro e w10 ⟨v540, rfl, ho0, hb⟩
    refine ⟨_, rfl, ?_⟩
    have n0_ := Aside0.mk (Kd.R_lower ho0 (below_size s1_)); have n1_ := Aside0.mk (below_step s1_ hb); clear HB; have HO541 := n0_; have HB := n1_; clear n0_ n1_
    (try clear hb)
    (try clear hb2)
    (try clear hk)
    (try clear hi)
    (try clear ho0)
    obtain ⟨Ao11, co11, eo11⟩ := Kd.R_slice HO541.out
    (first | subst eo11 | (injection eo11 with f1_ f2_ f3_; have f4_ := f1_.symm; have f5_ := f3_.symm; clear f1_ f2_ f3_; subst f4_; subst f5_))
    refine hK.out _ _ ⟨((HB.out.cell (World.block_lt_of_cell? w _ hw542_0)).trans hw542_0), ((HB.out.cell (World.block_lt_of_cell? w _ hw542_1)).trans hw542_1)⟩ (fun hHeld => ?_)
    clear hK K
    refine norm_ (a' := ?_) ?_ ?_
    rotate_left
    ·
     show Act.put _ (some 13) _ = _
     exact s6_
    refine on_ 13 18 (tb_ 16 16383) (fun K hK => ?_)
    refine goes_ Tryz.func49 (by kernel_rfl) rfl #[.slice Ao11 t539.length co11, .agg #[.int .i64 ((rd_T48 l0 a1).f0), .int .i64 ((rd_T48 l0 a1).f1)]] (by rfl) rfl rfl s0_ ?_
    with_reducible refine (spec_Follows.calls k _ _ t539 ((rd_T48 l0 a1).f0) ((rd_T48 l0 a1).f1) t543 _ ?side1 ?side2 A8.out).mono ?_
    (case side1 => repeat (first | exact (Kd.R_reads' HO541.out).2.2 | (with_reducible refine Kd.C_alloc ?_ _) | (with_reducible refine Kd.C_drewN ?_ _) | (with_reducible refine Kd.C_drew ?_)))
    (case side2 => exact (Kd.R_reads' HO541.out).2.1)
    rintro e w12 ⟨rfl, hb⟩
    refine ⟨_, rfl, ?_⟩
    have n0_ := Aside0.mk (Kd.R_below (by (with_reducible repeat (first | apply Kd.R_alloc | apply Kd.R_drewN | apply Kd.R_drew)); exact HO541.out) hb)
    have n1_ := Aside0.mk (below_step s1_ hb); clear HO541; clear HB; have HO541 := n0_; have HB := n1_; clear n0_ n1_
    (try clear hb)
    (try clear hb2)
    (try clear hk)
    (try clear hi)
    refine hK.out _ _ ⟨((HB.out.cell (World.block_lt_of_cell? w _ hw542_0)).trans hw542_0), ((HB.out.cell (World.block_lt_of_cell? w _ hw542_1)).trans hw542_1)⟩ (fun hHeld => ?_)
    clear hK K
    refine norm_ (a' := ?_) ?_ ?_
    rotate_left
    ·
     show Act.put _ (some 18) _ = _
     exact s6_
    refine pl_ 14 19 (tb_ 16 32767) ?_; refine pl_ 15 4 (tb_ 16 65535) ?_
    refine done_ (done_of HT_.out (by kernel_rfl)) ?_
    try go_wp2
    go_ret
    exact ⟨(by first | rfl | (simp [errW_none, errW_some] <;> rfl) | (simp [*, errW_none, errW_some] <;> rfl)), s1_⟩
   ·
    rw [if_neg c7] at H
    exact absurd H (by simp)
  ·
   rw [if_neg c6] at H
   exact absurd H (by simp)
 ·
  replace c4 := Bool.eq_false_iff.mpr c4; subst c4
  rw [if_neg (show ¬ (false = true) by decide)] at H
  obtain rfl := Option.some.inj H
  go_enter Tryz.func48, Tryz.ntmps48
  try go_wp2
  have n0_ := Aside0.mk (below_drew1 HB.out); clear HB; have HB := n0_; clear n0_
  refine start_ (n := 16) (S := fun w' => True) (ds := []) (tb_ 16 0) (by kernel_rfl) rfl rfl trivial (fun hHeld => ?_); refine with_tabW spec_IsRedundant.tab1 spec_IsRedundant.bits1 (fun HT_ HW_ => ?_)
  generalize w.drew = w13 at HB hHeld ⊢
  refine pl_ 0 5 (tb_ 16 1) ?_; refine pl_ 1 6 (tb_ 16 3) ?_; refine pl_ 2 7 (tb_ 16 7) ?_; refine pl_ 3 8 (tb_ 16 15) ?_
  refine on_ 4 9 (tb_ 16 31) (fun K hK => ?_)
  refine goes_ Tryz.func132 (by kernel_rfl) rfl #[.int .i64 a1, .int .i64 0, .int .i64 (wrap64 ((l0.length : Int) - 1))] (by rfl) rfl rfl s0_ ?_
  with_reducible refine (spec_l1In.calls a1 0 (wrap64 ((l0.length : Int) - 1)) false _ A3.out).mono ?_
  rintro e w' ⟨rfl, ⟨nd, rfl⟩⟩
  refine ⟨_, rfl, ?_⟩
  refine hK.out _ _ trivial (fun hHeld => ?_)
  clear hK K
  refine norm_ (a' := ?_) ?_ ?_
  rotate_left
  ·
   show Act.put _ (some 9) _ = _
   exact s6_
  refine pl_ 5 10 (tb_ 16 63) ?_; refine pr_ 6 11 (tb_ 16 127) ?_; refine pr_ 7 12 (tb_ 16 255) ?_; refine pr_ 8 13 (tb_ 16 511) ?_; refine pr_ 9 14 (tb_ 16 1023) ?_; refine pr_ 10 15 (tb_ 16 2047) ?_; refine pr_ 11 16 (tb_ 16 4095) ?_; refine pr_ 12 17 (tb_ 16 8191) ?_; refine pr_ 13 18 (tb_ 16 16383) ?_; refine pl_ 14 19 (tb_ 16 32767) ?_; refine pl_ 15 4 (tb_ 16 65535) ?_
  refine done_ (done_of HT_.out (by kernel_rfl)) ?_
  try go_wp2
  go_ret
  exact ⟨(by first | rfl | (simp [errW_none, errW_some] <;> rfl) | (simp [*, errW_none, errW_some] <;> rfl)), s1_⟩
theorem q17_16 {P : Prop} (h : P := by (with_reducible repeat (first | apply Kd.R_alloc | apply Kd.R_drewN | apply Kd.R_drew)); exact HO546.out) : P := h
def spec_MinimalRules.l0 : Nat → List (S48) → Int → Option ((List (S48)))
 | 0, _, _ => none
 | k + 1, x3, x4 => if x4 < (x3.length : Int) then ((spec_IsRedundant.f k x3 x4).bind fun t551 => (if t551 = true then ((spec_l11Without.f x3 x4).bind fun t552 => (spec_MinimalRules.l0 k t552 x4)) else (spec_MinimalRules.l0 k x3 (wrap64 (x4 + 1))))) else (some x3)
def spec_MinimalRules.f (k : Nat) (l0 : List (S48)) : Option ((List (S48))) := (some (([] : List (S48)) : List (S48))).bind fun y544 => ((spec_l9Sets.f k l0).bind fun t547 => (if t547 = true then (if y544.length + l0.length < 8796093022208 then (spec_MinimalRules.l0 k (y544 ++ l0) 0) else (none)) else (some y544)))
theorem spec_MinimalRules.calls (k : Nat) (A0 : Option Addr) (c0 : Nat) (l0 : List (S48)) (r : List (S48)) (w : World) (hr0 : Kd.C k48 w A0 l0.length l0) (hc0 : l0.length ≤ c0) (h : spec_MinimalRules.f k l0 = some r) :
  Calls Tryz.prog 44 #[.slice A0 l0.length c0] w fun e w' => ∃ v0_ : Value, e = .returned (v0_) ∧ Kd.R k48 48 w' w.heap.size (fun _ => True) v0_ r ∧ Below w.heap.size w w' := by
 have HR0 := Aside0.mk hr0; have HC0 := Aside0.mk hc0; clear hr0 hc0; have HB := Aside0.mk (Below.refl w.heap.size w); have H := h; clear h; unfold spec_MinimalRules.f at H; obtain ⟨y544, hy_⟩ : ∃ y_ : List (S48), y_ = (([] : List (S48))) := ⟨_, rfl⟩
 replace H : ((spec_l9Sets.f k l0).bind fun t547 => (if t547 = true then (if y544.length + l0.length < 8796093022208 then (spec_MinimalRules.l0 k (y544 ++ l0) 0) else (none)) else (some y544))) = some r := rH_
 have Ny544 := Aside0.mk hy_; clear hy_; obtain ⟨t547, A2, H⟩ := bnd17_ H
 by_cases c3 : t547 = true
 ·
  subst c3; rw [if_pos rfl] at H
  by_cases c4 : y544.length + l0.length < 8796093022208
  ·
   rw [if_pos c4] at H; have LMc4 := Aside0.mk c4; clear c4; obtain ⟨y548, hy_⟩ : ∃ y_ : List (S48), y_ = (y544 ++ l0) := ⟨_, rfl⟩
   replace H : (spec_MinimalRules.l0 k y548 0) = some r := rH_
   have Ny548 := Aside0.mk hy_; clear hy_; have H' := Aside0.mk H; clear H
   go_enter Tryz.func44, Tryz.ntmps44
   go_wp2_with (first | ((with_reducible refine gw_ rfl ?_); first | (refine rl_ k48 48 5 ?_; intro v545 w5 ho6 hb hg_ hnew_; clear hg_ hnew_; (first | rw [← Ny544.out] at ho6 | (simp only [Int.reduceToNat] at ho6; rw [← Ny544.out] at ho6)); have n_ := ac_ (Kd.R_lower ho6 (below_size s1_)) <| Aside0.mk (below_step s1_ hb); clear HB; obtain ⟨HO546, HB⟩ := n_; clear hb ho6) | (refine gL_ 156 7 Tryz.func156 #[.slice A0 l0.length c0] ?_; (with_reducible refine (spec_l9Sets.calls k _ _ l0 true _ ?side1 ?side2 A2.out).mono ?_); (case side1 => exact s5_); (case side2 => exact HC0.out); rintro e w7 ⟨rfl, hb⟩; refine ⟨_, rfl, ?_⟩; have n_ := ac_ (Kd.R_below q17_16 hb) <| Aside0.mk (below_step s1_ hb); clear HO546 HB; obtain ⟨HO546, HB⟩ := n_; (try clear hb))) | ((with_reducible refine gate_builtin (b := .append) (xs := #[.tmp 10, .tmp 11]) rfl ?_); at_builtin; refine Kd.R_append_rows k48 (w0 := w) w.heap.size rfl (.tmp 10) (.tmp 11) 24 48 (.agg #[(.int .i64 0), (.int .i64 0)]) 16 rfl Tryz.underlying24 info48 rfl (by decide) (by omega) v545 y544 l0 _ _ _ (fun _ => True) (fun _ => False) rfl rfl ?aO ?aR (fun _ _ h => h) (fun _ h => h.elim) ?aF ?aB ?aS ?aL ?_; (case aR => repeat (first | exact (Kd.C_below HR0.out HB.out) | (with_reducible refine Kd.C_alloc ?_ _) | (with_reducible refine Kd.C_drewN ?_ _) | (with_reducible refine Kd.C_drew ?_))); (case aB => exact s1_); (case aF => exact (fun _ _ => trivial)); (case aO => exact q17_16); (case aS => exact (below_size s1_)); (case aL => have := LMc4.out; omega); intro v549 w8 ho hb hg hat; rw [← Ny548.out] at ho; have n_ := ac_ (hb) <| Aside0.mk (ho); clear HB HO546; obtain ⟨HB, HO550⟩ := n_; clear ho hb hg hat))
   go_loopg [3, 4] k (fun kq v3 v4 w' => ∃ (x3_1 : List (S48)) (x4_1 : Int), v4 = .int .i64 x4_1 ∧ Aside0 (spec_MinimalRules.l0 kq x3_1 x4_1 = some r) ∧ Aside0 (kq ≤ k) ∧ Aside0 (Kd.R k48 48 w' w.heap.size (fun _ => True) v3 x3_1) ∧ Aside0 (Below w.heap.size w w'))
   case atStart => exact ⟨(y548), (0), s2_, H', ⟨Nat.le_refl _⟩, ⟨(by (with_reducible repeat (first | apply Kd.R_alloc | apply Kd.R_drewN | apply Kd.R_drew)); exact HO550.out)⟩, ⟨s1_⟩⟩
   case round =>
    clear H'
    try clear c1
    try clear p2
    try clear c3
    try clear c4
    obtain ⟨x3_1, x4_1, rfl, HA, HK1, HO_3, HB⟩ := hrel
    cases gk with
    | zero => exact absurd HA.out (by simp [spec_MinimalRules.l0])
    | succ k1 =>
     have H := HA.out; clear HA
     simp only [spec_MinimalRules.l0] at H
     by_cases c9 : x4_1 < (x3_1.length : Int)
     ·
      rw [if_pos c9] at H; have c9b0 : decide (x4_1 < (x3_1.length : Int)) = true := decide_eq_true c9; clear c9; obtain ⟨t551, A10, H⟩ := bnd17_ H
      by_cases c11 : t551 = true
      ·
       subst c11; rw [if_pos rfl] at H; obtain ⟨t552, A12, H⟩ := bnd17_ H; have H' := Aside0.mk H; clear H; obtain ⟨Ao13, co13, eo13⟩ := Kd.R_slice HO_3.out; subst eo13
       go_wp2_with ((with_reducible refine gw_ rfl ?_); first | (refine gL_ 48 19 Tryz.func48 #[.slice Ao13 x3_1.length co13, .int .i64 x4_1] ?_; (with_reducible refine (spec_IsRedundant.calls k1 _ _ x3_1 x4_1 true _ ?side1 ?side2 A10.out).mono ?_); (case side1 => exact s16_); (case side2 => exact (Kd.R_reads' HO_3.out).2.1); rintro e w14 ⟨rfl, hb⟩; refine ⟨_, rfl, ?_⟩; have n_ := ac_ (Kd.R_below s12_ hb) <| Aside0.mk (below_step s1_ hb); clear HO_3 HB; obtain ⟨HO_3, HB⟩ := n_; (try clear hb)) | (refine gL_ 158 22 Tryz.func158 #[.slice Ao13 x3_1.length co13, .int .i64 x4_1] ?_; (with_reducible refine (spec_l11Without.calls _ _ x3_1 x4_1 t552 _ ?side1 ?side2 A12.out).mono ?_); (case side1 => exact s16_); (case side2 => exact (Kd.R_reads' HO_3.out).2.1); rintro e w15 ⟨v553, rfl, ho0, hb⟩; refine ⟨_, rfl, ?_⟩; have n_ := ac_ (Kd.R_elder' s12_ (Kd.R_base ho0) hb) <| ac_ (Kd.R_lower (Kd.R_new' ho0 (Kd.R_lt s12_)) (below_size s1_)) <| Aside0.mk (below_step s1_ hb); clear HO_3 HB; obtain ⟨HO_3, HO554, HB⟩ := n_; (try clear hb ho0)))
       go_roundg k1
       case measure => have := HK1.out; omega
       case rel => exact ⟨(t552), (x4_1), s2_, H', ⟨by have := HK1.out; omega⟩, ⟨(by (with_reducible repeat (first | apply Kd.R_alloc | apply Kd.R_drewN | apply Kd.R_drew)); exact Kd.R_mono HO554.out (fun _ hk => trivial))⟩, ⟨s1_⟩⟩
      ·
       replace c11 := Bool.eq_false_iff.mpr c11; subst c11
       rw [if_neg (show ¬ (false = true) by decide)] at H
       have H' := Aside0.mk H; clear H; obtain ⟨Ao16, co16, eo16⟩ := Kd.R_slice HO_3.out; subst eo16
       go_wp2_with ((with_reducible refine gw_ rfl ?_); (refine gL_ 48 19 Tryz.func48 #[.slice Ao16 x3_1.length co16, .int .i64 x4_1] ?_; (with_reducible refine (spec_IsRedundant.calls k1 _ _ x3_1 x4_1 false _ ?side1 ?side2 A10.out).mono ?_); (case side1 => exact s16_); (case side2 => exact (Kd.R_reads' HO_3.out).2.1); rintro e w17 ⟨rfl, hb⟩; refine ⟨_, rfl, ?_⟩; have n_ := ac_ (Kd.R_below s12_ hb) <| Aside0.mk (below_step s1_ hb); clear HO_3 HB; obtain ⟨HO_3, HB⟩ := n_; (try clear hb)))
       go_roundg k1
       case measure => have := HK1.out; omega
       case rel => exact ⟨(x3_1), (wrap64 (x4_1 + 1)), s2_, H', ⟨by have := HK1.out; omega⟩, ⟨s12_⟩, ⟨s1_⟩⟩
     ·
      rw [if_neg c9] at H; have c9b0 : decide (x4_1 < (x3_1.length : Int)) = false := decide_eq_false c9; clear c9; obtain rfl := Option.some.inj H; obtain ⟨Ao18, co18, eo18⟩ := Kd.R_slice HO_3.out; subst eo18
      go_wp2
      go_ret
      exact ⟨_, (by first | rfl | (simp [errW_none, errW_some] <;> rfl) | (simp [*, errW_none, errW_some] <;> rfl)), s12_, s1_⟩
  ·
   rw [if_neg c4] at H
   exact absurd H (by simp)
 ·
  replace c3 := Bool.eq_false_iff.mpr c3; subst c3
  rw [if_neg (show ¬ (false = true) by decide)] at H
  obtain rfl := Option.some.inj H
  go_enter Tryz.func44, Tryz.ntmps44
  go_wp2_with ((with_reducible refine gw_ rfl ?_); first | (refine rl_ k48 48 5 ?_; intro v545 w19 ho20 hb hg_ hnew_; clear hg_ hnew_; (first | rw [← Ny544.out] at ho20 | (simp only [Int.reduceToNat] at ho20; rw [← Ny544.out] at ho20)); have n_ := ac_ (Kd.R_lower ho20 (below_size s1_)) <| Aside0.mk (below_step s1_ hb); clear HB; obtain ⟨HO546, HB⟩ := n_; clear hb ho20) | (refine gL_ 156 7 Tryz.func156 #[.slice A0 l0.length c0] ?_; (with_reducible refine (spec_l9Sets.calls k _ _ l0 false _ ?side1 ?side2 A2.out).mono ?_); (case side1 => exact s5_); (case side2 => exact HC0.out); rintro e w21 ⟨rfl, hb⟩; refine ⟨_, rfl, ?_⟩; have n_ := ac_ (Kd.R_below q17_16 hb) <| Aside0.mk (below_step s1_ hb); clear HO546 HB; obtain ⟨HO546, HB⟩ := n_; (try clear hb)))
  go_ret
  exact ⟨_, (by first | rfl | (simp [errW_none, errW_some] <;> rfl) | (simp [*, errW_none, errW_some] <;> rfl)), q17_16, s1_⟩
theorem eqA110 (d : Nat) (w : World) (x0 y0 : Int) (x1 y1 : Int) :
    (Op.equalIn (d + 2) 110 (.agg #[.int .i64 x0, .int .i64 x1]) (.agg #[.int .i64 y0, .int .i64 y1])).run Tryz.prog w = .ok (x0 == y0 && (x1 == y1)) w := by
  refine eqA_of Tryz.underlying110 (by kernel_rfl) ?_
  refine eqf_cons (by rfl) (by go_simp; rfl) (by go_simp; rfl) (by go_simp) ?_
  exact eqf_last (by rfl) (by go_simp; rfl) (by go_simp; rfl) (by go_simp)
end Go.Proofs.YtafnamchckehmaaGreatDoor.Pr
