/- What the law needs of the program's functions as plain functions, of the proofs that their calls answer so, and of plain laws: gathered by a program of this place (pack.py) out of its printed texts. No condition beyond what each statement says. -/
import Derived.Test.YtafnamchckehmaaGreatDoorZFnModels2
import Derived.Test.YtafnamchckehmaaGreatDoorZFnModels3
import Derived.Test.YtafnamchckehmaaGreatDoorZFnModels5
import Derived.Test.YtafnamchckehmaaGreatDoorZFnModels6
namespace Go.Proofs.YtafnamchckehmaaGreatDoor.Pr
open Go.RowKit Go.Proofs.YtafnamchckehmaaGreatDoorW.PrintWords Go.Proofs.YtafnamchckehmaaGreatDoorW.PrintLast Go.Proofs.YtafnamchckehmaaGreatDoorW.PrintMore
attribute [local go_sem] max2_int min2_int max_two min_two max_three min_three max_four min_four
set_option linter.unusedVariables false
set_option linter.unusedSimpArgs false
theorem bnd25_ {α β : Type} {o : Option α} {f : α → Option β} {r : β} (h : o.bind f = some r) : ∃ a, Aside0 (o = some a) ∧ f a = some r := by
 obtain ⟨a, h1, h2⟩ := Option.bind_eq_some_iff.mp h
 exact ⟨a, ⟨h1⟩, h2⟩
theorem q25_1 {P : Prop} (h : P := by (with_reducible repeat (first | refine blk_drewN ?_ _ | refine blk_drew ?_ | refine blk_alloc ?_ _)); refine blk_put (cs := #[.int .i64 0, .slice none 0 0]) ?_ 1 _ rfl; (with_reducible repeat (first | refine blk_drewN ?_ _ | refine blk_drew ?_ | refine blk_alloc ?_ _)); refine blk_put (cs := #[.int .i64 0, .slice none 0 0]) ?_ 0 _ rfl; (with_reducible repeat (first | refine blk_drewN ?_ _ | refine blk_drew ?_ | refine blk_alloc ?_ _)); exact BK393.out) : P := h
theorem q25_3 {P : Prop} (h : P := by repeat (first | (with_reducible first | exact HB.out | apply below_alloc | apply pw_below_drewN | apply below_drew1 | refine below_set ?_ GE393.out) | exact HB.out)) : P := h
theorem q25_7 {P : Prop} (h : P := by (with_reducible repeat (first | refine blk_drewN ?_ _ | refine blk_drew ?_ | refine blk_alloc ?_ _)); exact BK393.out) : P := h
def spec_ContextOfRules.f (k : Nat) (a0 : Int) (l1 : List (S48)) : Option (Int × List Int × Bool) := (spec_IrreducibleModels.f k a0 l1).bind fun bt394 => (if bt394.2 = true then (if (bt394.1.length : Int) > 8 then (some (0, ([] : List Int), false)) else (some (a0, bt394.1, true))) else (some (0, ([] : List Int), false)))
set_option maxHeartbeats 40000000 in
set_option maxRecDepth 100000 in
theorem spec_ContextOfRules.calls (k : Nat) (a0 : Int) (A1 : Option Addr) (c1 : Nat) (l1 : List (S48)) (r1 : Int) (r2 : List Int) (r3 : Bool) (w : World) (hr1 : Kd.C k48 w A1 l1.length l1) (hc1 : l1.length ≤ c1) (h : spec_ContextOfRules.f k a0 l1 = some (r1, r2, r3)) :
  Calls Tryz.prog 12 #[.int .i64 a0, .slice A1 l1.length c1] w fun e w' => ∃ v1_ : Value, e = .returned (.tuple #[.agg #[.int .i64 r1, v1_], .bool r3]) ∧ Kd.R (Kd.int .i64) 3 w' w.heap.size (fun _ => True) v1_ r2 ∧ Below w.heap.size w w' := by
 have hu29 := Tryz.underlying29; have HR1 := Aside0.mk hr1; have HC1 := Aside0.mk hc1; clear hr1 hc1; have HB := Aside0.mk (Below.refl w.heap.size w); have H := h; clear h; unfold spec_ContextOfRules.f at H; obtain ⟨⟨t394, t395⟩, A3, H⟩ := bnd25_ H; dsimp only at H
 by_cases c4 : t395 = true
 ·
  subst c4; rw [if_pos rfl] at H
  by_cases c5 : (t394.length : Int) > 8
  ·
   rw [if_pos c5] at H; have c5b0 : decide (8 < (t394.length : Int)) = true := decide_eq_true c5
   have c5b1 : decide (8 < t394.length) = true := decide_eq_true (by omega)
   clear c5
   simp only [Option.some.injEq, Prod.mk.injEq] at H
   obtain ⟨rfl, rfl, rfl⟩ := H
   go_enter Tryz.func12, Tryz.ntmps12
   go_wp2_with (first | ((with_reducible refine gate_dst (N := 4) rfl ?_); (try (refine gate_guard (by rfl) ?_; dsimp only)); refine box_event ?hg (N := 4) ?hd (cs := #[.int .i64 0, .slice none 0 0]) (t := 29) ?hr ?_; (case hd => rfl); (case hg => rfl); (case hr => first | (go_simp; done) | (go_simp; rfl)); intro gb393 hg w6 hbox hb; have n_ := ac_ (below_step s1_ hb) <| ac_ (hbox) <| ac_ ((gz_ w hg s1_)) <| Aside0.mk ((gz_ w hg s1_)); clear HB; obtain ⟨HB, BK393, GW393, GE393⟩ := n_; clear hb hbox hg) | (refine gL_ 16 11 Tryz.func16 #[.int .i64 a0, .slice A1 l1.length c1] ?_; (with_reducible refine (spec_IrreducibleModels.calls k a0 _ _ l1 t394 true _ ?side1 ?side2 A3.out).mono ?_); (case side1 => exact s13_); (case side2 => exact HC1.out); rintro e w7 ⟨v396, rfl, ho0, hb⟩; refine ⟨_, rfl, ?_⟩; have n_ := ac_ (Kd.R_lower ho0 (below_size q25_3)) <| ac_ (blk_below (g := gb393) (o := .cells #[.int .i64 0, .slice none 0 0] 29 (0, 0)) q25_7 hb) <| Aside0.mk (below_step q25_3 hb); clear BK393 HB; obtain ⟨HO397, BK393, HB⟩ := n_; (try clear hb ho0); obtain ⟨Ao8, co8, eo8⟩ := Kd.R_slice HO397.out; subst eo8; have hcz9_0 : w7.cell? ⟨gb393, 0, none⟩ = some (.int .i64 0) := (blk_cell BK393.out 0).trans rfl; have hcz9_1 : w7.cell? ⟨gb393, 1, none⟩ = some (.slice none 0 0) := (blk_cell BK393.out 1).trans rfl; have hfz9_0 := blk_frozen BK393.out 0; have hfz9_1 := blk_frozen BK393.out 1))
   refine bodyPost_ret (results_ct rfl _ _ gb393 29 #[.int .i64 0, .slice none 0 0] (0, 0) _ rfl q25_1 Tryz.underlying29 rfl (by kernel_rfl)) rfl ?_
   exact ⟨_, s7_, s18_, q25_3⟩
  ·
   rw [if_neg c5] at H; have c5b0 : decide (8 < (t394.length : Int)) = false := decide_eq_false c5
   have c5b1 : decide (8 < t394.length) = false := decide_eq_false (by omega)
   clear c5
   simp only [Option.some.injEq, Prod.mk.injEq] at H
   obtain ⟨rfl, rfl, rfl⟩ := H
   go_enter Tryz.func12, Tryz.ntmps12
   go_wp2_with (first | ((with_reducible refine gate_dst (N := 4) rfl ?_); (try (refine gate_guard (by rfl) ?_; dsimp only)); refine box_event ?hg (N := 4) ?hd (cs := #[.int .i64 0, .slice none 0 0]) (t := 29) ?hr ?_; (case hd => rfl); (case hg => rfl); (case hr => first | (go_simp; done) | (go_simp; rfl)); intro gb393 hg w10 hbox hb; have n_ := ac_ (below_step s1_ hb) <| ac_ (hbox) <| ac_ ((gz_ w hg s1_)) <| Aside0.mk ((gz_ w hg s1_)); clear HB; obtain ⟨HB, BK393, GW393, GE393⟩ := n_; clear hb hbox hg) | (refine gL_ 16 11 Tryz.func16 #[.int .i64 a0, .slice A1 l1.length c1] ?_; (with_reducible refine (spec_IrreducibleModels.calls k a0 _ _ l1 t394 true _ ?side1 ?side2 A3.out).mono ?_); (case side1 => exact s13_); (case side2 => exact HC1.out); rintro e w11 ⟨v396, rfl, ho0, hb⟩; refine ⟨_, rfl, ?_⟩; have n_ := ac_ (Kd.R_lower ho0 (below_size q25_3)) <| ac_ (blk_below (g := gb393) (o := .cells #[.int .i64 0, .slice none 0 0] 29 (0, 0)) q25_7 hb) <| Aside0.mk (below_step q25_3 hb); clear BK393 HB; obtain ⟨HO397, BK393, HB⟩ := n_; (try clear hb ho0); obtain ⟨Ao12, co12, eo12⟩ := Kd.R_slice HO397.out; subst eo12; have hcz13_0 : w11.cell? ⟨gb393, 0, none⟩ = some (.int .i64 0) := (blk_cell BK393.out 0).trans rfl; have hcz13_1 : w11.cell? ⟨gb393, 1, none⟩ = some (.slice none 0 0) := (blk_cell BK393.out 1).trans rfl; have hfz13_0 := blk_frozen BK393.out 0; have hfz13_1 := blk_frozen BK393.out 1))
   refine bodyPost_ret (results_ct rfl _ _ gb393 29 #[.int .i64 a0, .slice Ao12 t394.length co12] (0, 0) _ rfl (by (with_reducible repeat (first | refine blk_drewN ?_ _ | refine blk_drew ?_ | refine blk_alloc ?_ _)); refine blk_put (cs := #[.int .i64 a0, .slice none 0 0]) ?_ 1 _ rfl; (with_reducible repeat (first | refine blk_drewN ?_ _ | refine blk_drew ?_ | refine blk_alloc ?_ _)); refine blk_put (cs := #[.int .i64 0, .slice none 0 0]) ?_ 0 _ rfl; (with_reducible repeat (first | refine blk_drewN ?_ _ | refine blk_drew ?_ | refine blk_alloc ?_ _)); exact BK393.out) Tryz.underlying29 rfl (by kernel_rfl)) rfl ?_
   exact ⟨_, s7_, (by (with_reducible repeat (first | apply Kd.R_alloc | apply Kd.R_drewN | apply Kd.R_drew)); exact Kd.R_mono (Kd.R_far (p := ⟨gb393, 1, none⟩) (Kd.R_far (p := ⟨gb393, 0, none⟩) (Kd.R_types HO397.out BK393.out (by decide)) (fun _ hk => hk.2) (.int .i64 a0)) (fun _ hk => hk.2) (.slice Ao12 t394.length co12)) (fun _ hk => trivial)), q25_3⟩
 ·
  replace c4 := Bool.eq_false_iff.mpr c4; subst c4
  rw [if_neg (show ¬ (false = true) by decide)] at H
  simp only [Option.some.injEq, Prod.mk.injEq] at H
  obtain ⟨rfl, rfl, rfl⟩ := H
  go_enter Tryz.func12, Tryz.ntmps12
  go_wp2_with (first | ((with_reducible refine gate_dst (N := 4) rfl ?_); (try (refine gate_guard (by rfl) ?_; dsimp only)); refine box_event ?hg (N := 4) ?hd (cs := #[.int .i64 0, .slice none 0 0]) (t := 29) ?hr ?_; (case hd => rfl); (case hg => rfl); (case hr => first | (go_simp; done) | (go_simp; rfl)); intro gb393 hg w14 hbox hb; have n_ := ac_ (below_step s1_ hb) <| ac_ (hbox) <| ac_ ((gz_ w hg s1_)) <| Aside0.mk ((gz_ w hg s1_)); clear HB; obtain ⟨HB, BK393, GW393, GE393⟩ := n_; clear hb hbox hg) | (refine gL_ 16 11 Tryz.func16 #[.int .i64 a0, .slice A1 l1.length c1] ?_; (with_reducible refine (spec_IrreducibleModels.calls k a0 _ _ l1 t394 false _ ?side1 ?side2 A3.out).mono ?_); (case side1 => exact s13_); (case side2 => exact HC1.out); rintro e w15 ⟨v396, rfl, ho0, hb⟩; refine ⟨_, rfl, ?_⟩; have n_ := ac_ (Kd.R_lower ho0 (below_size q25_3)) <| ac_ (blk_below (g := gb393) (o := .cells #[.int .i64 0, .slice none 0 0] 29 (0, 0)) q25_7 hb) <| Aside0.mk (below_step q25_3 hb); clear BK393 HB; obtain ⟨HO397, BK393, HB⟩ := n_; (try clear hb ho0); have hcz16_0 : w15.cell? ⟨gb393, 0, none⟩ = some (.int .i64 0) := (blk_cell BK393.out 0).trans rfl; have hcz16_1 : w15.cell? ⟨gb393, 1, none⟩ = some (.slice none 0 0) := (blk_cell BK393.out 1).trans rfl; have hfz16_0 := blk_frozen BK393.out 0; have hfz16_1 := blk_frozen BK393.out 1))
  refine bodyPost_ret (results_ct rfl _ _ gb393 29 #[.int .i64 0, .slice none 0 0] (0, 0) _ rfl q25_1 Tryz.underlying29 rfl (by kernel_rfl)) rfl ?_
  exact ⟨_, s7_, s18_, q25_3⟩
theorem q25_9 {P : Prop} (h : P := by repeat (first | (with_reducible first | exact HB.out | apply below_alloc | apply pw_below_drewN | apply below_drew1 | refine below_set ?_ GE411.out | refine below_set ?_ GE412.out) | exact HB.out)) : P := h
theorem q25_11 {P : Prop} (h : P := by repeat (first | (with_reducible first | exact HB.out | apply below_alloc | apply pw_below_drewN | apply below_drew1 | refine below_set ?_ GE411.out) | exact HB.out)) : P := h
theorem q25_14 {P : Prop} (h : P := by (with_reducible repeat (first | refine blk_drewN ?_ _ | refine blk_drew ?_ | refine blk_alloc ?_ _)); exact BK411.out) : P := h
theorem q25_15 {P : Prop} (h : P := by (with_reducible repeat (first | refine blk_drewN ?_ _ | refine blk_drew ?_ | refine blk_alloc ?_ _)); exact BK412.out) : P := h
def spec_l5Concept.f (k : Nat) (a0_0 : Int) (l0_1 : List Int) (a1 : Int) : Option (Int × Int) := (spec_l4Extent.f k a0_0 l0_1 a1).bind fun t413 => ((spec_l4Intent.f k a0_0 l0_1 t413).bind fun t414 => (some (t413, t414)))
set_option maxHeartbeats 40000000 in
set_option maxRecDepth 100000 in
theorem spec_l5Concept.calls (k : Nat) (a0_0 : Int) (A0_1 : Option Addr) (c0_1 : Nat) (l0_1 : List Int) (a1 : Int) (r1 : Int) (r2 : Int) (w : World) (hr0_1 : Kd.C (Kd.int .i64) w A0_1 l0_1.length l0_1) (hc0_1 : l0_1.length ≤ c0_1) (h : spec_l5Concept.f k a0_0 l0_1 a1 = some (r1, r2)) :
  Calls Tryz.prog 136 #[.agg #[.int .i64 a0_0, .slice A0_1 l0_1.length c0_1], .int .i64 a1] w fun e w' => e = .returned (.agg #[.int .i64 r1, .int .i64 r2]) ∧ Below w.heap.size w w' := by
 have hu29 := Tryz.underlying29; have hu102 := Tryz.underlying102; have HR0_1 := Aside0.mk hr0_1; have HC0_1 := Aside0.mk hc0_1; clear hr0_1 hc0_1; have HB := Aside0.mk (Below.refl w.heap.size w); have H := h; clear h; unfold spec_l5Concept.f at H; obtain ⟨t413, A3, H⟩ := bnd25_ H; obtain ⟨t414, A4, H⟩ := bnd25_ H
 simp only [Option.some.injEq, Prod.mk.injEq] at H
 obtain ⟨rfl, rfl⟩ := H
 go_enter Tryz.func136, Tryz.ntmps136
 go_wp2_with (first | (refine be_ 2 #[.int .i64 a0_0, .slice A0_1 l0_1.length c0_1] 29 ?_; intro gb411 hg w5 hbox hb; have n_ := ac_ (below_step s1_ hb) <| ac_ (hbox) <| ac_ ((gz_ w hg s1_)) <| Aside0.mk ((gz_ w hg s1_)); clear HB; obtain ⟨HB, BK411, GW411, GE411⟩ := n_; clear hb hbox hg) | (refine be_ 4 #[.int .i64 0, .int .i64 0] 102 ?_; intro gb412 hg w6 hbox hb; have n_ := ac_ (blk_below (g := gb411) (o := .cells #[.int .i64 a0_0, .slice A0_1 l0_1.length c0_1] 29 (0, 0)) q25_14 hb) <| ac_ (below_step q25_11 hb) <| ac_ (hbox) <| ac_ ((gz_ w hg q25_11)) <| ac_ ((gz_ w hg q25_11)) <| ac_ ((nl_ hg (blk_lt (g := gb411) (o := .cells #[.int .i64 a0_0, .slice A0_1 l0_1.length c0_1] 29 (0, 0)) q25_14))) <| Aside0.mk ((ng_ hg (blk_lt (g := gb411) (o := .cells #[.int .i64 a0_0, .slice A0_1 l0_1.length c0_1] 29 (0, 0)) q25_14))); clear BK411 HB; obtain ⟨BK411, HB, BK412, GW412, GE412, NB411_412, NB412_411⟩ := n_; clear hb hbox hg; have hnb7 := NB411_412.out; have hnc7 := NB412_411.out; have hcz8_0 : w6.cell? ⟨gb411, 0, none⟩ = some (.int .i64 a0_0) := (blk_cell BK411.out 0).trans rfl; have hcz8_1 : w6.cell? ⟨gb411, 1, none⟩ = some (.slice A0_1 l0_1.length c0_1) := (blk_cell BK411.out 1).trans rfl; have hfz8_0 := blk_frozen BK411.out 0; have hfz8_1 := blk_frozen BK411.out 1) | (refine gL_ 214 8 Tryz.func214 #[.agg #[.int .i64 a0_0, .slice A0_1 l0_1.length c0_1], .int .i64 a1] ?_; (with_reducible refine (spec_l4Extent.calls k a0_0 _ _ l0_1 a1 t413 _ ?side1 ?side2 A3.out).mono ?_); (case side1 => exact s10_); (case side2 => exact HC0_1.out); rintro e w9 ⟨rfl, hb⟩; refine ⟨_, rfl, ?_⟩; have n_ := ac_ (blk_below (g := gb411) (o := .cells #[.int .i64 a0_0, .slice A0_1 l0_1.length c0_1] 29 (0, 0)) q25_14 hb) <| ac_ (blk_below (g := gb412) (o := .cells #[.int .i64 0, .int .i64 0] 102 (0, 0)) q25_15 hb) <| Aside0.mk (below_step q25_9 hb); clear BK411 BK412 HB; obtain ⟨BK411, BK412, HB⟩ := n_; (try clear hb); have hcz10_0 : w9.cell? ⟨gb411, 0, none⟩ = some (.int .i64 a0_0) := (blk_cell BK411.out 0).trans rfl; have hcz10_1 : w9.cell? ⟨gb411, 1, none⟩ = some (.slice A0_1 l0_1.length c0_1) := (blk_cell BK411.out 1).trans rfl; have hfz10_0 := blk_frozen BK411.out 0; have hfz10_1 := blk_frozen BK411.out 1) | (refine gL_ 197 12 Tryz.func197 #[.agg #[.int .i64 a0_0, .slice A0_1 l0_1.length c0_1], .int .i64 t413] ?_; (with_reducible refine (spec_l4Intent.calls k a0_0 _ _ l0_1 t413 t414 _ ?side1 ?side2 A4.out).mono ?_); (case side1 => exact s10_); (case side2 => exact HC0_1.out); rintro e w11 ⟨rfl, hb⟩; refine ⟨_, rfl, ?_⟩; have n_ := ac_ (blk_below (g := gb411) (o := .cells #[.int .i64 a0_0, .slice A0_1 l0_1.length c0_1] 29 (0, 0)) q25_14 hb) <| ac_ (blk_below (g := gb412) (o := .cells #[.int .i64 0, .int .i64 0] 102 (0, 0)) q25_15 hb) <| Aside0.mk (below_step q25_9 hb); clear BK411 BK412 HB; obtain ⟨BK411, BK412, HB⟩ := n_; (try clear hb); have hcz12_0 : w11.cell? ⟨gb412, 0, none⟩ = some (.int .i64 0) := (blk_cell BK412.out 0).trans rfl; have hcz12_1 : w11.cell? ⟨gb412, 1, none⟩ = some (.int .i64 0) := (blk_cell BK412.out 1).trans rfl; have hfz12_0 := blk_frozen BK412.out 0; have hfz12_1 := blk_frozen BK412.out 1))
 refine bodyPost_ret (results_cell_row rfl _ _ gb412 102 #[.int .i64 t413, .int .i64 t414] (0, 0) _ rfl (by (with_reducible repeat (first | refine blk_drewN ?_ _ | refine blk_drew ?_ | refine blk_alloc ?_ _)); refine blk_put (cs := #[.int .i64 t413, .int .i64 0]) ?_ 1 _ rfl; (with_reducible repeat (first | refine blk_drewN ?_ _ | refine blk_drew ?_ | refine blk_alloc ?_ _)); refine blk_put (cs := #[.int .i64 0, .int .i64 0]) ?_ 0 _ rfl; (with_reducible repeat (first | refine blk_drewN ?_ _ | refine blk_drew ?_ | refine blk_alloc ?_ _)); exact BK412.out) Tryz.underlying102 rfl (by kernel_rfl)) rfl ?_
 exact ⟨(by first | rfl | (simp [errW_none, errW_some] <;> rfl) | (simp [*, errW_none, errW_some] <;> rfl)), q25_9⟩
theorem q25_16 {P : Prop} (h : P := by repeat (first | exact (Kd.C_below HR0_1.out (by repeat (first | (with_reducible first | exact HB.out | apply below_alloc | apply pw_below_drewN | apply below_drew1 | refine below_set ?_ GE415.out) | exact HB.out))) | (with_reducible refine Kd.C_alloc ?_ _) | (with_reducible refine Kd.C_drewN ?_ _) | (with_reducible refine Kd.C_drew ?_))) : P := h
theorem q25_17 {P : Prop} (h : P := by (try simp only [List.map_toArray, List.map_cons, List.map_nil]); first | done | (simp only [hji11]; rfl) | rfl | (simp only [List.length_drop, List.length_take]; rfl)) : P := h
theorem q25_18 {P : Prop} (h : P := by repeat (first | (with_reducible first | exact HB.out | apply below_alloc | apply pw_below_drewN | apply below_drew1 | refine below_set ?_ GE415.out) | exact HB.out)) : P := h
theorem q25_21 {P : Prop} (h : P := by (with_reducible repeat (first | refine blk_drewN ?_ _ | refine blk_drew ?_ | refine blk_alloc ?_ _)); exact BK415.out) : P := h
def spec_l5Next.l0 : Nat → Int → Int → Int → List Int → Option (Int × Bool)
 | 0, _, _, _, _ => none
 | k + 1, x1, x6, x416000, x416001 => if x6 ≥ 0 then ((spec_l2Has.f x1 x6).bind fun t416 => (if t416 = true then (spec_l5Next.l0 k x1 (wrap64 (x6 - 1)) x416000 x416001) else ((spec_FullSet.f x6).bind fun t417 => (if 0 ≤ (IntKind.u64.wrap (x6)) then ((spec_l4Closure.f k x416000 x416001 (Go.bits .or .i64 (Go.bits .and .i64 x1 t417) (shl .i64 1 (IntKind.u64.wrap (x6))))).bind fun t418 => ((spec_FullSet.f x6).bind fun t419 => (if (Go.bits .and .i64 t418 t419) = (Go.bits .and .i64 x1 t417) then (some (t418, true)) else (spec_l5Next.l0 k x1 (wrap64 (x6 - 1)) x416000 x416001)))) else (none))))) else (some (0, false))
def spec_l5Next.f (k : Nat) (a0_0 : Int) (l0_1 : List Int) (a1 : Int) : Option (Int × Bool) := spec_l5Next.l0 k a1 (wrap64 (a0_0 - 1)) a0_0 l0_1
set_option maxHeartbeats 40000000 in
set_option maxRecDepth 100000 in
theorem spec_l5Next.calls (k : Nat) (a0_0 : Int) (A0_1 : Option Addr) (c0_1 : Nat) (l0_1 : List Int) (a1 : Int) (r1 : Int) (r2 : Bool) (w : World) (hr0_1 : Kd.C (Kd.int .i64) w A0_1 l0_1.length l0_1) (hc0_1 : l0_1.length ≤ c0_1) (h : spec_l5Next.f k a0_0 l0_1 a1 = some (r1, r2)) :
  Calls Tryz.prog 137 #[.agg #[.int .i64 a0_0, .slice A0_1 l0_1.length c0_1], .int .i64 a1] w fun e w' => e = .returned (.tuple #[.int .i64 r1, .bool r2]) ∧ Below w.heap.size w w' := by
 have hu29 := Tryz.underlying29; have HR0_1 := Aside0.mk hr0_1; have HC0_1 := Aside0.mk hc0_1; clear hr0_1 hc0_1; have HB := Aside0.mk (Below.refl w.heap.size w); have H := h; clear h; unfold spec_l5Next.f at H; have H' := Aside0.mk H; clear H
 go_enter Tryz.func137, Tryz.ntmps137
 go_wp2_with (first | (refine be_ 2 #[.int .i64 a0_0, .slice A0_1 l0_1.length c0_1] 29 ?_; intro gb415 hg w3 hbox hb; have n_ := ac_ (below_step s1_ hb) <| ac_ (hbox) <| ac_ ((gz_ w hg s1_)) <| Aside0.mk ((gz_ w hg s1_)); clear HB; obtain ⟨HB, BK415, GW415, GE415⟩ := n_; clear hb hbox hg; have hcz4_0 : w3.cell? ⟨gb415, 0, none⟩ = some (.int .i64 a0_0) := (blk_cell BK415.out 0).trans rfl; have hcz4_1 : w3.cell? ⟨gb415, 1, none⟩ = some (.slice A0_1 l0_1.length c0_1) := (blk_cell BK415.out 1).trans rfl; have hfz4_0 := blk_frozen BK415.out 0; have hfz4_1 := blk_frozen BK415.out 1))
 go_loopg [6] k (fun kq v6 w' => ∃ (x6_1 : Int), v6 = .int .i64 x6_1 ∧ Aside0 (spec_l5Next.l0 kq a1 x6_1 a0_0 l0_1 = some (r1, r2)) ∧ Aside0 (kq ≤ k) ∧ Aside0 (w'.heap[gb415]? = some (.cells #[.int .i64 a0_0, (.slice A0_1 l0_1.length c0_1)] 29 (0, 0))) ∧ Aside0 (Below w.heap.size w w'))
 case atStart => exact ⟨(wrap64 (a0_0 - 1)), s2_, H', ⟨Nat.le_refl _⟩, ⟨q25_21⟩, ⟨q25_18⟩⟩
 case round =>
  clear H'
  try clear c1
  try clear p2
  try clear hcz4_0
  try clear hcz4_1
  try clear hfz4_0
  try clear hfz4_1
  obtain ⟨x6_1, rfl, HA, HK1, BK415, HB⟩ := hrel
  cases gk with
  | zero => exact absurd HA.out (by simp [spec_l5Next.l0])
  | succ k1 =>
   have H := HA.out; clear HA
   simp only [spec_l5Next.l0] at H
   by_cases c5 : x6_1 ≥ 0
   ·
    rw [if_pos c5] at H; have c5b0 : decide (0 ≤ x6_1) = true := decide_eq_true c5; clear c5; obtain ⟨t416, A6, H⟩ := bnd25_ H
    by_cases c7 : t416 = true
    ·
     subst c7; rw [if_pos rfl] at H; have H' := Aside0.mk H; clear H
     go_wp2_with (first | (refine gL_ 215 18 Tryz.func215 #[.int .i64 a1, .int .i64 x6_1] ?_; (with_reducible refine (spec_l2Has.calls a1 x6_1 true _ A6.out).mono ?_); rintro e w' ⟨rfl, ⟨nd, rfl⟩⟩; refine ⟨_, rfl, ?_⟩))
     go_roundg k1
     case measure => have := HK1.out; omega
     case rel => exact ⟨(wrap64 (x6_1 - 1)), s2_, H', ⟨by have := HK1.out; omega⟩, ⟨q25_21⟩, ⟨q25_18⟩⟩
    ·
     replace c7 := Bool.eq_false_iff.mpr c7; subst c7
     rw [if_neg (show ¬ (false = true) by decide)] at H
     obtain ⟨t417, A8, H⟩ := bnd25_ H; obtain ⟨ji9, hji9⟩ : ∃ j_ : Int, (IntKind.u64.wrap (x6_1)) = j_ := ⟨_, rfl⟩
     replace H : (if 0 ≤ (ji9) then ((spec_l4Closure.f k1 a0_0 l0_1 (Go.bits .or .i64 (Go.bits .and .i64 a1 t417) (shl .i64 1 (ji9)))).bind fun t418 => ((spec_FullSet.f x6_1).bind fun t419 => (if (Go.bits .and .i64 t418 t419) = (Go.bits .and .i64 a1 t417) then (some (t418, true)) else (spec_l5Next.l0 k1 a1 (wrap64 (x6_1 - 1)) a0_0 l0_1)))) else (none)) = some (r1, r2) := by first | (rw [hji9] at H; exact H) | (simp only [hji9] at H ⊢; exact H)
     (try rw [hji9] at A6)
     (try rw [hji9] at A8)
     by_cases c10 : 0 ≤ (ji9)
     ·
      rw [if_pos c10] at H; have c10b0 := eq_true c10; have c10b1 : decide (0 ≤ (ji9)) = true := decide_eq_true c10; clear c10; obtain ⟨ji11, hji11⟩ : ∃ j_ : Int, (shl .i64 1 (ji9)) = j_ := ⟨_, rfl⟩
      replace H : ((spec_l4Closure.f k1 a0_0 l0_1 (Go.bits .or .i64 (Go.bits .and .i64 a1 t417) (ji11))).bind fun t418 => ((spec_FullSet.f x6_1).bind fun t419 => (if (Go.bits .and .i64 t418 t419) = (Go.bits .and .i64 a1 t417) then (some (t418, true)) else (spec_l5Next.l0 k1 a1 (wrap64 (x6_1 - 1)) a0_0 l0_1)))) = some (r1, r2) := by first | (rw [hji11] at H; exact H) | (simp only [hji11] at H ⊢; exact H)
      (try rw [hji11] at A6)
      (try rw [hji11] at A8)
      have hji11_ : (IntKind.i64.wrap (1 * 2 ^ min (ji9).toNat 64)) = ji11 := hji11; have hji11z : (ji9) ≤ 64 → (IntKind.i64.wrap (1 * 2 ^ (ji9).toNat)) = ji11 := shl_small hji11
      have hji11u : (IntKind.i64.wrap (2 ^ min (ji9).toNat 64)) = ji11 := by have h_ := hji11_; rw [Int.one_mul] at h_; exact h_
      have hji11v : (ji9) ≤ 64 → (IntKind.i64.wrap (2 ^ (ji9).toNat)) = ji11 := fun hle_ => by have h_ := hji11z hle_; rw [Int.one_mul] at h_; exact h_
      have hji11y : (wrap64 (1 * 2 ^ min (ji9).toNat 64)) = ji11 := (i64_w _).symm.trans hji11_
      have hji11x : (ji9) ≤ 64 → (wrap64 (1 * 2 ^ (ji9).toNat)) = ji11 := fun h_ => (i64_w _).symm.trans (hji11z h_)
      obtain ⟨t418, A12, H⟩ := bnd25_ H; obtain ⟨t419, A13, H⟩ := bnd25_ H
      by_cases c14 : (Go.bits .and .i64 t418 t419) = (Go.bits .and .i64 a1 t417)
      ·
       rw [if_pos c14] at H; have c14b0 : ((Go.bits .and .i64 t418 t419) == (Go.bits .and .i64 a1 t417)) = true := beq_iff_eq.mpr c14; have c14b1 : ((Go.bits .and .i64 t418 t419) != (Go.bits .and .i64 a1 t417)) = false := bne_eq_false_iff_eq.mpr c14; clear c14
       simp only [Option.some.injEq, Prod.mk.injEq] at H
       obtain ⟨rfl, rfl⟩ := H
       go_wp2_with (first | (refine gL_ 215 18 Tryz.func215 #[.int .i64 a1, .int .i64 x6_1] ?_; (with_reducible refine (spec_l2Has.calls a1 x6_1 false _ A6.out).mono ?_); rintro e w' ⟨rfl, ⟨nd, rfl⟩⟩; refine ⟨_, rfl, ?_⟩) | (refine gL_ 62 21 Tryz.func62 #[.int .i64 x6_1] ?_; (with_reducible refine (spec_FullSet.calls x6_1 t417 _ A8.out).mono ?_); rintro e w' ⟨rfl, ⟨nd, rfl⟩⟩; refine ⟨_, rfl, ?_⟩; have hcz15_0 : wr.cell? ⟨gb415, 0, none⟩ = some (.int .i64 a0_0) := (blk_cell BK415.out 0).trans rfl; have hcz15_1 : wr.cell? ⟨gb415, 1, none⟩ = some (.slice A0_1 l0_1.length c0_1) := (blk_cell BK415.out 1).trans rfl; have hfz15_0 := blk_frozen BK415.out 0; have hfz15_1 := blk_frozen BK415.out 1) | ((with_reducible refine gate_callee (f := 135) rfl ?_); refine goesL_ (some 29) rfl rfl Tryz.func135 (by kernel_rfl) rfl #[.agg #[.int .i64 a0_0, .slice A0_1 l0_1.length c0_1], .int .i64 (Go.bits .or .i64 (Go.bits .and .i64 a1 t417) (ji11))] rfl q25_17 ?_; (with_reducible refine (spec_l4Closure.calls k1 a0_0 _ _ l0_1 (Go.bits .or .i64 (Go.bits .and .i64 a1 t417) (ji11)) t418 _ ?side1 ?side2 A12.out).mono ?_); (case side1 => exact q25_16); (case side2 => exact HC0_1.out); rintro e w16 ⟨rfl, hb⟩; refine ⟨_, rfl, ?_⟩; have n_ := ac_ (blk_below (g := gb415) (o := .cells #[.int .i64 a0_0, .slice A0_1 l0_1.length c0_1] 29 (0, 0)) q25_21 hb) <| Aside0.mk (below_step q25_18 hb); clear BK415 HB; obtain ⟨BK415, HB⟩ := n_; (try clear hb)) | (refine gL_ 62 32 Tryz.func62 #[.int .i64 x6_1] ?_; (with_reducible refine (spec_FullSet.calls x6_1 t419 _ A13.out).mono ?_); rintro e w' ⟨rfl, ⟨nd, rfl⟩⟩; refine ⟨_, rfl, ?_⟩))
       go_ret2
       exact ⟨(by first | rfl | (simp [errW_none, errW_some] <;> rfl) | (simp only [← hji9, ← hji11]; first | rfl | (simp [errW_none, errW_some] <;> rfl)) | (simp [*, errW_none, errW_some] <;> rfl)), q25_18⟩
      ·
       rw [if_neg c14] at H; have c14b0 : ((Go.bits .and .i64 t418 t419) == (Go.bits .and .i64 a1 t417)) = false := beq_eq_false_iff_ne.mpr c14; have c14b1 : ((Go.bits .and .i64 t418 t419) != (Go.bits .and .i64 a1 t417)) = true := bne_iff_ne.mpr c14; have H' := Aside0.mk H; clear H
       go_wp2_with (first | (refine gL_ 215 18 Tryz.func215 #[.int .i64 a1, .int .i64 x6_1] ?_; (with_reducible refine (spec_l2Has.calls a1 x6_1 false _ A6.out).mono ?_); rintro e w' ⟨rfl, ⟨nd, rfl⟩⟩; refine ⟨_, rfl, ?_⟩) | (refine gL_ 62 21 Tryz.func62 #[.int .i64 x6_1] ?_; (with_reducible refine (spec_FullSet.calls x6_1 t417 _ A8.out).mono ?_); rintro e w' ⟨rfl, ⟨nd, rfl⟩⟩; refine ⟨_, rfl, ?_⟩; have hcz17_0 : wr.cell? ⟨gb415, 0, none⟩ = some (.int .i64 a0_0) := (blk_cell BK415.out 0).trans rfl; have hcz17_1 : wr.cell? ⟨gb415, 1, none⟩ = some (.slice A0_1 l0_1.length c0_1) := (blk_cell BK415.out 1).trans rfl; have hfz17_0 := blk_frozen BK415.out 0; have hfz17_1 := blk_frozen BK415.out 1) | ((with_reducible refine gate_callee (f := 135) rfl ?_); refine goesL_ (some 29) rfl rfl Tryz.func135 (by kernel_rfl) rfl #[.agg #[.int .i64 a0_0, .slice A0_1 l0_1.length c0_1], .int .i64 (Go.bits .or .i64 (Go.bits .and .i64 a1 t417) (ji11))] rfl q25_17 ?_; (with_reducible refine (spec_l4Closure.calls k1 a0_0 _ _ l0_1 (Go.bits .or .i64 (Go.bits .and .i64 a1 t417) (ji11)) t418 _ ?side1 ?side2 A12.out).mono ?_); (case side1 => exact q25_16); (case side2 => exact HC0_1.out); rintro e w18 ⟨rfl, hb⟩; refine ⟨_, rfl, ?_⟩; have n_ := ac_ (blk_below (g := gb415) (o := .cells #[.int .i64 a0_0, .slice A0_1 l0_1.length c0_1] 29 (0, 0)) q25_21 hb) <| Aside0.mk (below_step q25_18 hb); clear BK415 HB; obtain ⟨BK415, HB⟩ := n_; (try clear hb)) | (refine gL_ 62 32 Tryz.func62 #[.int .i64 x6_1] ?_; (with_reducible refine (spec_FullSet.calls x6_1 t419 _ A13.out).mono ?_); rintro e w' ⟨rfl, ⟨nd, rfl⟩⟩; refine ⟨_, rfl, ?_⟩))
       go_roundg k1
       case measure => have := HK1.out; omega
       case rel => exact ⟨(wrap64 (x6_1 - 1)), s2_, H', ⟨by have := HK1.out; omega⟩, ⟨q25_21⟩, ⟨q25_18⟩⟩
     ·
      rw [if_neg c10] at H
      exact absurd H (by simp)
   ·
    rw [if_neg c5] at H; have c5b0 : decide (0 ≤ x6_1) = false := decide_eq_false c5; clear c5
    simp only [Option.some.injEq, Prod.mk.injEq] at H
    obtain ⟨rfl, rfl⟩ := H
    go_wp2
    go_ret2
    exact ⟨(by first | rfl | (simp [errW_none, errW_some] <;> rfl) | (simp [*, errW_none, errW_some] <;> rfl)), q25_18⟩
theorem q25_24 {P : Prop} (h : P := by repeat (first | (with_reducible first | exact HB.out | apply below_alloc | apply pw_below_drewN | apply below_drew1 | refine below_set ?_ GE420.out) | exact HB.out)) : P := h
theorem q25_27 {P : Prop} (h : P := by (with_reducible repeat (first | refine blk_drewN ?_ _ | refine blk_drew ?_ | refine blk_alloc ?_ _)); exact BK420.out) : P := h
theorem q25_28 {P : Prop} (h : P := by (with_reducible repeat (first | apply Kd.R_alloc | apply Kd.R_drewN | apply Kd.R_drew)); exact HO423.out) : P := h
theorem q25_29 {P : Prop} (h : P := by (with_reducible repeat (first | apply Kd.R_alloc | apply Kd.R_drewN | apply Kd.R_drew)); exact HO430.out) : P := h
def spec_Concepts.l0 : Nat → List (S102) → Int → Int → List Int → Option ((List (S102)))
 | 0, _, _, _, _ => none
 | k + 1, x3, x4, x421000, x421001 => (spec_l5Concept.f k x421000 x421001 x4).bind fun bt426 => (if x3.length < 8796093022208 then ((some (x3 ++ [(⟨bt426.1, bt426.2⟩ : S102)] : List (S102))).bind fun y428 => ((spec_l5Next.f k x421000 x421001 x4).bind fun bt431 => (if bt431.2 = true then (spec_Concepts.l0 k y428 bt431.1 x421000 x421001) else (some y428)))) else (none))
def spec_Concepts.f (k : Nat) (a0_0 : Int) (l0_1 : List Int) : Option ((List (S102))) := (some (([] : List (S102)) : List (S102))).bind fun y421 => ((spec_IsContext.f k a0_0 l0_1).bind fun t424 => (if t424 = true then ((spec_l4Closure.f k a0_0 l0_1 0).bind fun t425 => (spec_Concepts.l0 k y421 t425 a0_0 l0_1)) else (some y421)))
set_option maxHeartbeats 40000000 in
set_option maxRecDepth 100000 in
theorem spec_Concepts.calls (k : Nat) (a0_0 : Int) (A0_1 : Option Addr) (c0_1 : Nat) (l0_1 : List Int) (r : List (S102)) (w : World) (hr0_1 : Kd.C (Kd.int .i64) w A0_1 l0_1.length l0_1) (hc0_1 : l0_1.length ≤ c0_1) (h : spec_Concepts.f k a0_0 l0_1 = some r) :
  Calls Tryz.prog 25 #[.agg #[.int .i64 a0_0, .slice A0_1 l0_1.length c0_1]] w fun e w' => ∃ v0_ : Value, e = .returned (v0_) ∧ Kd.R k102 102 w' w.heap.size (fun _ => True) v0_ r ∧ Below w.heap.size w w' := by
 have hu29 := Tryz.underlying29; have HR0_1 := Aside0.mk hr0_1; have HC0_1 := Aside0.mk hc0_1; clear hr0_1 hc0_1; have HB := Aside0.mk (Below.refl w.heap.size w); have H := h; clear h; unfold spec_Concepts.f at H; obtain ⟨y421, hy421⟩ : ∃ y_ : List (S102), y_ = (([] : List (S102))) := ⟨_, rfl⟩
 replace H : ((spec_IsContext.f k a0_0 l0_1).bind fun t424 => (if t424 = true then ((spec_l4Closure.f k a0_0 l0_1 0).bind fun t425 => (spec_Concepts.l0 k y421 t425 a0_0 l0_1)) else (some y421))) = some r := by first | (rw [hy421]; with_reducible exact H) | (have H2_ := (Option.bind_some _ _).symm.trans H; rw [hy421]; with_reducible exact H2_) | (have H2_ := (Option.bind_some _ _).symm.trans H; with_reducible exact H2_) | with_reducible exact H | (rw [hy421]; exact H) | exact H
 have Ny421 := Aside0.mk hy421; clear hy421; obtain ⟨t424, A2, H⟩ := bnd25_ H
 by_cases c3 : t424 = true
 ·
  subst c3; rw [if_pos rfl] at H; obtain ⟨t425, A4, H⟩ := bnd25_ H; have H' := Aside0.mk H; clear H
  go_enter Tryz.func25, Tryz.ntmps25
  go_wp2_with (first | (refine be_ 1 #[.int .i64 a0_0, .slice A0_1 l0_1.length c0_1] 29 ?_; intro gb420 hg w5 hbox hb; have n_ := ac_ (below_step s1_ hb) <| ac_ (hbox) <| ac_ ((gz_ w hg s1_)) <| Aside0.mk ((gz_ w hg s1_)); clear HB; obtain ⟨HB, BK420, GW420, GE420⟩ := n_; clear hb hbox hg) | ((with_reducible refine gate_dst (N := 7) rfl ?_); refine Kd.R_lit k102 _ 102 ?hg (N := 7) ?hd (xs := ([] : List (S102))) (inner := []) (ok := fun _ => True) (okp := fun _ => True) ?hr ?hp (fun _ hk => hk) trivial (Below.refl _ _) (Nat.le_refl _) (by simp) ?_; (case hd => rfl); (case hg => rfl); (case hr => first | (go_simp; done) | (go_simp; rfl)); (case hp => exact (Reps.none _ _)); intro v422 w6 ho7 hb hg_ hnew_; clear hg_ hnew_; (first | rw [← Ny421.out] at ho7 | (simp only [Int.reduceToNat] at ho7; rw [← Ny421.out] at ho7)); have n_ := ac_ (Kd.R_lower ho7 (below_size q25_24)) <| ac_ (blk_below (g := gb420) (o := .cells #[.int .i64 a0_0, .slice A0_1 l0_1.length c0_1] 29 (0, 0)) q25_27 hb) <| Aside0.mk (below_step q25_24 hb); clear BK420 HB; obtain ⟨HO423, BK420, HB⟩ := n_; clear hb ho7; have hcz8_0 : w6.cell? ⟨gb420, 0, none⟩ = some (.int .i64 a0_0) := (blk_cell BK420.out 0).trans rfl; have hcz8_1 : w6.cell? ⟨gb420, 1, none⟩ = some (.slice A0_1 l0_1.length c0_1) := (blk_cell BK420.out 1).trans rfl; have hfz8_0 := blk_frozen BK420.out 0; have hfz8_1 := blk_frozen BK420.out 1) | (refine gL_ 61 9 Tryz.func61 #[.agg #[.int .i64 a0_0, .slice A0_1 l0_1.length c0_1]] ?_; (with_reducible refine (spec_IsContext.calls k a0_0 _ _ l0_1 true _ ?side1 ?side2 A2.out).mono ?_); (case side1 => exact s10_); (case side2 => exact HC0_1.out); rintro e w9 ⟨rfl, hb⟩; refine ⟨_, rfl, ?_⟩; have n_ := ac_ (Kd.R_below q25_28 hb) <| ac_ (blk_below (g := gb420) (o := .cells #[.int .i64 a0_0, .slice A0_1 l0_1.length c0_1] 29 (0, 0)) q25_27 hb) <| Aside0.mk (below_step q25_24 hb); clear HO423 BK420 HB; obtain ⟨HO423, BK420, HB⟩ := n_; (try clear hb); have hcz10_0 : w9.cell? ⟨gb420, 0, none⟩ = some (.int .i64 a0_0) := (blk_cell BK420.out 0).trans rfl; have hcz10_1 : w9.cell? ⟨gb420, 1, none⟩ = some (.slice A0_1 l0_1.length c0_1) := (blk_cell BK420.out 1).trans rfl; have hfz10_0 := blk_frozen BK420.out 0; have hfz10_1 := blk_frozen BK420.out 1) | (refine gL_ 135 13 Tryz.func135 #[.agg #[.int .i64 a0_0, .slice A0_1 l0_1.length c0_1], .int .i64 0] ?_; (with_reducible refine (spec_l4Closure.calls k a0_0 _ _ l0_1 0 t425 _ ?side1 ?side2 A4.out).mono ?_); (case side1 => exact s10_); (case side2 => exact HC0_1.out); rintro e w11 ⟨rfl, hb⟩; refine ⟨_, rfl, ?_⟩; have n_ := ac_ (Kd.R_below q25_28 hb) <| ac_ (blk_below (g := gb420) (o := .cells #[.int .i64 a0_0, .slice A0_1 l0_1.length c0_1] 29 (0, 0)) q25_27 hb) <| Aside0.mk (below_step q25_24 hb); clear HO423 BK420 HB; obtain ⟨HO423, BK420, HB⟩ := n_; (try clear hb)))
  go_loopg [3, 4] k (fun kq v3 v4 w' => ∃ (x3_1 : List (S102)) (x4_1 : Int), v4 = .int .i64 x4_1 ∧ Aside0 (spec_Concepts.l0 kq x3_1 x4_1 a0_0 l0_1 = some r) ∧ Aside0 (kq ≤ k) ∧ Aside0 (Kd.R k102 102 w' w.heap.size (fun _ => True) v3 x3_1) ∧ Aside0 (w'.heap[gb420]? = some (.cells #[.int .i64 a0_0, (.slice A0_1 l0_1.length c0_1)] 29 (0, 0))) ∧ Aside0 (Below w.heap.size w w'))
  case atStart => exact ⟨(y421), (t425), (by first | rfl | (simp; done) | (simp [*]; done) | (simp [i64_w, i32_w]; done)), H', ⟨Nat.le_refl _⟩, ⟨q25_28⟩, ⟨q25_27⟩, ⟨q25_24⟩⟩
  case round =>
   clear H'
   try clear c1
   try clear c2
   try clear p2
   try clear c3
   try clear c6
   try clear hcz10_0
   try clear hcz10_1
   try clear hcz8_0
   try clear hcz8_1
   try clear hfz10_0
   try clear hfz10_1
   try clear hfz8_0
   try clear hfz8_1
   obtain ⟨x3_1, x4_1, rfl, HA, HK1, HO_3, BK420, HB⟩ := hrel
   cases gk with
   | zero => exact absurd HA.out (by simp [spec_Concepts.l0])
   | succ k1 =>
    have H := HA.out; clear HA
    simp only [spec_Concepts.l0] at H
    obtain ⟨⟨t426, t427⟩, A12, H⟩ := bnd25_ H; dsimp only at H
    by_cases c13 : x3_1.length < 8796093022208
    ·
     rw [if_pos c13] at H; have LMc13 := Aside0.mk c13; clear c13; obtain ⟨y428, hy428⟩ : ∃ y_ : List (S102), y_ = (x3_1 ++ [(⟨t426, t427⟩ : S102)]) := ⟨_, rfl⟩
     replace H : ((spec_l5Next.f k1 a0_0 l0_1 x4_1).bind fun bt431 => (if bt431.2 = true then (spec_Concepts.l0 k1 y428 bt431.1 a0_0 l0_1) else (some y428))) = some r := by first | (rw [hy428]; with_reducible exact H) | (have H2_ := (Option.bind_some _ _).symm.trans H; rw [hy428]; with_reducible exact H2_) | (have H2_ := (Option.bind_some _ _).symm.trans H; with_reducible exact H2_) | with_reducible exact H | (rw [hy428]; exact H) | exact H
     have Ny428 := Aside0.mk hy428; clear hy428; obtain ⟨⟨t431, t432⟩, A14, H⟩ := bnd25_ H; dsimp only at H
     by_cases c15 : t432 = true
     ·
      subst c15; rw [if_pos rfl] at H; have H' := Aside0.mk H; clear H; have hcz16_0 : wr.cell? ⟨gb420, 0, none⟩ = some (.int .i64 a0_0) := (blk_cell BK420.out 0).trans rfl; have hcz16_1 : wr.cell? ⟨gb420, 1, none⟩ = some (.slice A0_1 l0_1.length c0_1) := (blk_cell BK420.out 1).trans rfl; have hfz16_0 := blk_frozen BK420.out 0; have hfz16_1 := blk_frozen BK420.out 1
      go_wp2_with (first | (refine gL_ 136 17 Tryz.func136 #[.agg #[.int .i64 a0_0, .slice A0_1 l0_1.length c0_1], .int .i64 x4_1] ?_; (with_reducible refine (spec_l5Concept.calls k1 a0_0 _ _ l0_1 x4_1 t426 t427 _ ?side1 ?side2 A12.out).mono ?_); (case side1 => exact s10_); (case side2 => exact HC0_1.out); rintro e w17 ⟨rfl, hb⟩; refine ⟨_, rfl, ?_⟩; have n_ := ac_ (Kd.R_below s9_ hb) <| ac_ (blk_below (g := gb420) (o := .cells #[.int .i64 a0_0, .slice A0_1 l0_1.length c0_1] 29 (0, 0)) q25_27 hb) <| Aside0.mk (below_step q25_24 hb); clear HO_3 BK420 HB; obtain ⟨HO_3, BK420, HB⟩ := n_; (try clear hb)) | ((with_reducible refine gate_builtin (b := .append) (xs := #[.tmp 14, .tmp 18]) rfl ?_); at_builtin; refine Kd.R_append k102 (w0 := w) w.heap.size rfl (.tmp 14) (.tmp 18) 41 102 (.agg #[(.int .i64 0), (.int .i64 0)]) 16 rfl Tryz.underlying41 info102 rfl (by decide) (by omega) u3 x3_1 (⟨t426, t427⟩ : S102) [.int .i64 t426, .int .i64 t427] (fun _ => True) (fun _ => False) rfl rfl ?aP (fun _ hk => hk.elim) ?aF ?aO ?aB ?aS ?aL ?_; (case aP => exact k102_mkM _ _ _ (⟨t426, t427⟩ : S102)); (case aB => exact q25_24); (case aF => exact (fun _ _ => trivial)); (case aO => exact s9_); (case aS => exact (below_size q25_24)); (case aL => have := LMc13.out; omega); intro v429 w18 ho hb hg hat; rw [← Ny428.out] at ho; have n_ := ac_ (blk_grown (g := gb420) (o := .cells #[.int .i64 a0_0, .slice A0_1 l0_1.length c0_1] 29 (0, 0)) q25_27 hg (Kd.R_ne HO_3.out BK420.out (by decide))) <| ac_ (hb) <| Aside0.mk (ho); clear BK420 HB HO_3; obtain ⟨BK420, HB, HO430⟩ := n_; clear ho hb hg hat; have hcz19_0 : w18.cell? ⟨gb420, 0, none⟩ = some (.int .i64 a0_0) := (blk_cell BK420.out 0).trans rfl; have hcz19_1 : w18.cell? ⟨gb420, 1, none⟩ = some (.slice A0_1 l0_1.length c0_1) := (blk_cell BK420.out 1).trans rfl; have hfz19_0 := blk_frozen BK420.out 0; have hfz19_1 := blk_frozen BK420.out 1) | (refine gL_ 137 23 Tryz.func137 #[.agg #[.int .i64 a0_0, .slice A0_1 l0_1.length c0_1], .int .i64 x4_1] ?_; (with_reducible refine (spec_l5Next.calls k1 a0_0 _ _ l0_1 x4_1 t431 true _ ?side1 ?side2 A14.out).mono ?_); (case side1 => exact s10_); (case side2 => exact HC0_1.out); rintro e w20 ⟨rfl, hb⟩; refine ⟨_, rfl, ?_⟩; have n_ := ac_ (Kd.R_below q25_29 hb) <| ac_ (blk_below (g := gb420) (o := .cells #[.int .i64 a0_0, .slice A0_1 l0_1.length c0_1] 29 (0, 0)) q25_27 hb) <| Aside0.mk (below_step q25_24 hb); clear HO430 BK420 HB; obtain ⟨HO430, BK420, HB⟩ := n_; (try clear hb)))
      go_roundg k1
      case measure => have := HK1.out; omega
      case rel => exact ⟨(y428), (t431), (by first | rfl | (simp; done) | (simp [*]; done) | (simp [i64_w, i32_w]; done)), H', ⟨by have := HK1.out; omega⟩, ⟨q25_29⟩, ⟨q25_27⟩, ⟨q25_24⟩⟩
     ·
      replace c15 := Bool.eq_false_iff.mpr c15; subst c15
      rw [if_neg (show ¬ (false = true) by decide)] at H
      obtain rfl := Option.some.inj H; have hcz21_0 : wr.cell? ⟨gb420, 0, none⟩ = some (.int .i64 a0_0) := (blk_cell BK420.out 0).trans rfl; have hcz21_1 : wr.cell? ⟨gb420, 1, none⟩ = some (.slice A0_1 l0_1.length c0_1) := (blk_cell BK420.out 1).trans rfl; have hfz21_0 := blk_frozen BK420.out 0; have hfz21_1 := blk_frozen BK420.out 1
      go_wp2_with (first | (refine gL_ 136 17 Tryz.func136 #[.agg #[.int .i64 a0_0, .slice A0_1 l0_1.length c0_1], .int .i64 x4_1] ?_; (with_reducible refine (spec_l5Concept.calls k1 a0_0 _ _ l0_1 x4_1 t426 t427 _ ?side1 ?side2 A12.out).mono ?_); (case side1 => exact s10_); (case side2 => exact HC0_1.out); rintro e w22 ⟨rfl, hb⟩; refine ⟨_, rfl, ?_⟩; have n_ := ac_ (Kd.R_below s9_ hb) <| ac_ (blk_below (g := gb420) (o := .cells #[.int .i64 a0_0, .slice A0_1 l0_1.length c0_1] 29 (0, 0)) q25_27 hb) <| Aside0.mk (below_step q25_24 hb); clear HO_3 BK420 HB; obtain ⟨HO_3, BK420, HB⟩ := n_; (try clear hb)) | ((with_reducible refine gate_builtin (b := .append) (xs := #[.tmp 14, .tmp 18]) rfl ?_); at_builtin; refine Kd.R_append k102 (w0 := w) w.heap.size rfl (.tmp 14) (.tmp 18) 41 102 (.agg #[(.int .i64 0), (.int .i64 0)]) 16 rfl Tryz.underlying41 info102 rfl (by decide) (by omega) u3 x3_1 (⟨t426, t427⟩ : S102) [.int .i64 t426, .int .i64 t427] (fun _ => True) (fun _ => False) rfl rfl ?aP (fun _ hk => hk.elim) ?aF ?aO ?aB ?aS ?aL ?_; (case aP => exact k102_mkM _ _ _ (⟨t426, t427⟩ : S102)); (case aB => exact q25_24); (case aF => exact (fun _ _ => trivial)); (case aO => exact s9_); (case aS => exact (below_size q25_24)); (case aL => have := LMc13.out; omega); intro v429 w23 ho hb hg hat; rw [← Ny428.out] at ho; have n_ := ac_ (blk_grown (g := gb420) (o := .cells #[.int .i64 a0_0, .slice A0_1 l0_1.length c0_1] 29 (0, 0)) q25_27 hg (Kd.R_ne HO_3.out BK420.out (by decide))) <| ac_ (hb) <| Aside0.mk (ho); clear BK420 HB HO_3; obtain ⟨BK420, HB, HO430⟩ := n_; clear ho hb hg hat; have hcz24_0 : w23.cell? ⟨gb420, 0, none⟩ = some (.int .i64 a0_0) := (blk_cell BK420.out 0).trans rfl; have hcz24_1 : w23.cell? ⟨gb420, 1, none⟩ = some (.slice A0_1 l0_1.length c0_1) := (blk_cell BK420.out 1).trans rfl; have hfz24_0 := blk_frozen BK420.out 0; have hfz24_1 := blk_frozen BK420.out 1) | (refine gL_ 137 23 Tryz.func137 #[.agg #[.int .i64 a0_0, .slice A0_1 l0_1.length c0_1], .int .i64 x4_1] ?_; (with_reducible refine (spec_l5Next.calls k1 a0_0 _ _ l0_1 x4_1 t431 false _ ?side1 ?side2 A14.out).mono ?_); (case side1 => exact s10_); (case side2 => exact HC0_1.out); rintro e w25 ⟨rfl, hb⟩; refine ⟨_, rfl, ?_⟩; have n_ := ac_ (Kd.R_below q25_29 hb) <| ac_ (blk_below (g := gb420) (o := .cells #[.int .i64 a0_0, .slice A0_1 l0_1.length c0_1] 29 (0, 0)) q25_27 hb) <| Aside0.mk (below_step q25_24 hb); clear HO430 BK420 HB; obtain ⟨HO430, BK420, HB⟩ := n_; (try clear hb)))
      go_ret
      exact ⟨_, (by first | rfl | (simp [errW_none, errW_some] <;> rfl) | (simp [*, errW_none, errW_some] <;> rfl)), q25_29, q25_24⟩
    ·
     rw [if_neg c13] at H
     exact absurd H (by simp)
 ·
  replace c3 := Bool.eq_false_iff.mpr c3; subst c3
  rw [if_neg (show ¬ (false = true) by decide)] at H
  obtain rfl := Option.some.inj H
  go_enter Tryz.func25, Tryz.ntmps25
  go_wp2_with (first | (refine be_ 1 #[.int .i64 a0_0, .slice A0_1 l0_1.length c0_1] 29 ?_; intro gb420 hg w26 hbox hb; have n_ := ac_ (below_step s1_ hb) <| ac_ (hbox) <| ac_ ((gz_ w hg s1_)) <| Aside0.mk ((gz_ w hg s1_)); clear HB; obtain ⟨HB, BK420, GW420, GE420⟩ := n_; clear hb hbox hg) | ((with_reducible refine gate_dst (N := 7) rfl ?_); refine Kd.R_lit k102 _ 102 ?hg (N := 7) ?hd (xs := ([] : List (S102))) (inner := []) (ok := fun _ => True) (okp := fun _ => True) ?hr ?hp (fun _ hk => hk) trivial (Below.refl _ _) (Nat.le_refl _) (by simp) ?_; (case hd => rfl); (case hg => rfl); (case hr => first | (go_simp; done) | (go_simp; rfl)); (case hp => exact (Reps.none _ _)); intro v422 w27 ho28 hb hg_ hnew_; clear hg_ hnew_; (first | rw [← Ny421.out] at ho28 | (simp only [Int.reduceToNat] at ho28; rw [← Ny421.out] at ho28)); have n_ := ac_ (Kd.R_lower ho28 (below_size q25_24)) <| ac_ (blk_below (g := gb420) (o := .cells #[.int .i64 a0_0, .slice A0_1 l0_1.length c0_1] 29 (0, 0)) q25_27 hb) <| Aside0.mk (below_step q25_24 hb); clear BK420 HB; obtain ⟨HO423, BK420, HB⟩ := n_; clear hb ho28; have hcz29_0 : w27.cell? ⟨gb420, 0, none⟩ = some (.int .i64 a0_0) := (blk_cell BK420.out 0).trans rfl; have hcz29_1 : w27.cell? ⟨gb420, 1, none⟩ = some (.slice A0_1 l0_1.length c0_1) := (blk_cell BK420.out 1).trans rfl; have hfz29_0 := blk_frozen BK420.out 0; have hfz29_1 := blk_frozen BK420.out 1) | (refine gL_ 61 9 Tryz.func61 #[.agg #[.int .i64 a0_0, .slice A0_1 l0_1.length c0_1]] ?_; (with_reducible refine (spec_IsContext.calls k a0_0 _ _ l0_1 false _ ?side1 ?side2 A2.out).mono ?_); (case side1 => exact s10_); (case side2 => exact HC0_1.out); rintro e w30 ⟨rfl, hb⟩; refine ⟨_, rfl, ?_⟩; have n_ := ac_ (Kd.R_below q25_28 hb) <| ac_ (blk_below (g := gb420) (o := .cells #[.int .i64 a0_0, .slice A0_1 l0_1.length c0_1] 29 (0, 0)) q25_27 hb) <| Aside0.mk (below_step q25_24 hb); clear HO423 BK420 HB; obtain ⟨HO423, BK420, HB⟩ := n_; (try clear hb)))
  go_ret
  exact ⟨_, (by first | rfl | (simp [errW_none, errW_some] <;> rfl) | (simp [*, errW_none, errW_some] <;> rfl)), q25_28, q25_24⟩
def spec_l2List.l0 : Nat → List Int → Int → Int → List Int → Int → Int → Option (List Int × Int × Int)
 | 0, _, _, _, _, _, _ => none
 | k + 1, x3, x4, x5, x1000, x1001, x1002 => if x5 < x4 then ((spec_l1Below.f x1000 x1001 x1002 16).bind fun bt475 => (if x3.length < 17592186044416 then (spec_l2List.l0 k (x3 ++ [bt475.1]) x4 (wrap64 (x5 + 1)) x1000 bt475.2.1 bt475.2.2) else (none))) else ((spec_l1Once.f x1000 x1001 x1002 10).bind fun bt481 => (if bt481.1 = true then ((spec_l2Bent.f x1000 bt481.2.1 bt481.2.2).bind fun bt484 => (if x3.length < 17592186044416 then (some ((x3 ++ [bt484.1]), bt484.2.1, bt484.2.2)) else (none))) else (some (x3, bt481.2.1, bt481.2.2))))
def spec_l2List.f (k : Nat) (s0_0 : List Int) (s0_1 : Int) (s0_2 : Int) : Option (List Int × Int × Int) := (spec_l1Below.f s0_0 s0_1 s0_2 6).bind fun bt472 => (spec_l2List.l0 k (([] : List Int)) bt472.1 0 s0_0 bt472.2.1 bt472.2.2)
set_option maxHeartbeats 40000000 in
set_option maxRecDepth 100000 in
theorem spec_l2List.calls (k : Nat) (g : Nat) (s0_0 : List Int) (s0_1 : Int) (s0_2 : Int) (r1 : List Int) (r2 : Int) (r3 : Int) (w0 w : World) (hI : IsS152 w0 w g s0_0 s0_1 s0_2) (hB : Below w0.heap.size w0 w) (h : spec_l2List.f k s0_0 s0_1 s0_2 = some (r1, r2, r3)) :
  Calls Tryz.prog 210 #[.pointer (some ⟨g, 0, none⟩)] w fun e w' => ∃ v0_ : Value, e = .returned (v0_) ∧ Kd.R (Kd.int .i64) 3 w' w.heap.size (fun _ => True) v0_ r1 ∧ IsS152 w0 w' g s0_0 r2 r3 ∧ Below w0.heap.size w0 w' ∧ KeepBut w w' g none := by
 have HI0 := Aside0.mk hI; have HK := Aside0.mk (KeepBut.refl w g none); have HL := Aside0.mk hB.size; clear hI; have HW0 := Aside0.mk hB.size; have HB := Aside0.mk hB; clear hB; have H := h; clear h; unfold spec_l2List.f at H; obtain ⟨y469, hy469⟩ : ∃ y_ : List Int, y_ = (([] : List Int)) := ⟨_, rfl⟩
 replace H : ((spec_l1Below.f s0_0 s0_1 s0_2 6).bind fun bt472 => (spec_l2List.l0 k y469 bt472.1 0 s0_0 bt472.2.1 bt472.2.2)) = some (r1, r2, r3) := by first | (rw [hy469]; with_reducible exact H) | (have H2_ := (Option.bind_some _ _).symm.trans H; rw [hy469]; with_reducible exact H2_) | (have H2_ := (Option.bind_some _ _).symm.trans H; with_reducible exact H2_) | with_reducible exact H | (rw [hy469]; exact H) | exact H
 have Ny469 := Aside0.mk hy469; clear hy469; obtain ⟨⟨t472, t473, t474⟩, A2, H⟩ := bnd25_ H; dsimp only at H; have H' := Aside0.mk H; clear H
 go_enter Tryz.func210, Tryz.ntmps210
 go_wp2_with (first | ((with_reducible refine gate_dst (N := 6) rfl ?_); refine Kd.R_lit (Kd.int .i64) _ 3 ?hg (N := 6) ?hd (xs := ([] : List Int)) (inner := []) (ok := fun _ => True) (okp := fun _ => True) ?hr ?hp (fun _ hk => hk) trivial (Below.refl _ _) (Nat.le_refl _) (by simp) ?_; (case hd => rfl); (case hg => rfl); (case hr => first | (go_simp; done) | (go_simp; rfl)); (case hp => exact (Reps.none _ _)); intro v470 w3 ho4 hb hg_ hnew_; clear hg_ hnew_; (first | rw [← Ny469.out] at ho4 | (simp only [Int.reduceToNat] at ho4; rw [← Ny469.out] at ho4)); have n_ := ac_ (Kd.R_lower ho4 (keep_size (w := w) (g := g) (row := none) s6_)) <| ac_ (IsS152.below s5_ hb) <| ac_ (KeepBut.trans s6_ (KeepBut.of_below hb g none) (.inl rfl)) <| Aside0.mk (below_step s8_ hb); clear HI0 HK HB; obtain ⟨HO471, HI0, HK, HB⟩ := n_; clear hb ho4) | (refine gL_ 146 8 Tryz.func146 #[.pointer (some ⟨g, 0, none⟩), .int .i64 6] ?_; (with_reducible refine (spec_l1Below.calls g s0_0 s0_1 s0_2 6 t472 t473 t474 w0 _ ?side1 ?side2 A2.out).mono ?_); (case side1 => exact s5_); (case side2 => exact s8_); rintro e w5 ⟨rfl, hi, hb, hk⟩; refine ⟨_, rfl, ?_⟩; have n_ := ac_ (Kd.R_mono (Kd.R_keep (IsS152.apart (show IsS152 w0 _ g s0_0 s0_1 s0_2 from s5_) (by (with_reducible repeat (first | apply Kd.R_alloc | apply Kd.R_drewN | apply Kd.R_drew)); exact HO471.out) (by decide)) hk (fun _ h => h.2)) (fun _ h => h.1)) <| ac_ (KeepBut.trans s6_ hk (.inl rfl)) <| ac_ (hb) <| Aside0.mk (hi); clear HO471 HK HB HI0; obtain ⟨HO471, HK, HB, HI0⟩ := n_; (try clear hb hk hi)))
 go_loopg [3, 5] k (fun kq v3 v5 w' => ∃ (x3_1 : List Int) (x5_1 : Int) (x1001_1 : Int) (x1002_1 : Int), v5 = .int .i64 x5_1 ∧ Aside0 (spec_l2List.l0 kq x3_1 t472 x5_1 s0_0 x1001_1 x1002_1 = some (r1, r2, r3)) ∧ Aside0 (kq ≤ k) ∧ Aside0 (Kd.R (Kd.int .i64) 3 w' w.heap.size (fun _ => True) v3 x3_1) ∧ Aside0 (IsS152 w0 w' g s0_0 x1001_1 x1002_1) ∧ Aside0 (KeepBut w w' g none) ∧ Aside0 (Below w0.heap.size w0 w'))
 case atStart => exact ⟨(y469), (0), (t473), (t474), (by first | rfl | (simp; done) | (simp [*]; done) | (simp [i64_w, i32_w]; done)), H', ⟨Nat.le_refl _⟩, ⟨(by (with_reducible repeat (first | apply Kd.R_alloc | apply Kd.R_drewN | apply Kd.R_drew)); exact HO471.out)⟩, ⟨s5_⟩, ⟨s6_⟩, ⟨s8_⟩⟩
 case round =>
  clear H'
  try clear c1
  try clear c2
  try clear p2
  obtain ⟨x3_1, x5_1, x1001_1, x1002_1, rfl, HA, HK1, HO_3, HI0, HK, HB⟩ := hrel
  cases gk with
  | zero => exact absurd HA.out (by simp [spec_l2List.l0])
  | succ k1 =>
   have H := HA.out; clear HA
   simp only [spec_l2List.l0] at H
   by_cases c6 : x5_1 < t472
   ·
    rw [if_pos c6] at H; have c6b0 : decide (x5_1 < t472) = true := decide_eq_true c6; clear c6; obtain ⟨⟨t475, t476, t477⟩, A7, H⟩ := bnd25_ H; dsimp only at H
    by_cases c8 : x3_1.length < 17592186044416
    ·
     rw [if_pos c8] at H; have LMc8 := Aside0.mk c8; clear c8; obtain ⟨y478, hy478⟩ : ∃ y_ : List Int, y_ = (x3_1 ++ [t475]) := ⟨_, rfl⟩
     replace H : (spec_l2List.l0 k1 y478 t472 (wrap64 (x5_1 + 1)) s0_0 t476 t477) = some (r1, r2, r3) := by first | (rw [hy478]; with_reducible exact H) | (have H2_ := (Option.bind_some _ _).symm.trans H; rw [hy478]; with_reducible exact H2_) | (have H2_ := (Option.bind_some _ _).symm.trans H; with_reducible exact H2_) | with_reducible exact H | (rw [hy478]; exact H) | exact H
     have Ny478 := Aside0.mk hy478; clear hy478; have H' := Aside0.mk H; clear H
     go_wp2_with (first | (refine gL_ 146 16 Tryz.func146 #[.pointer (some ⟨g, 0, none⟩), .int .i64 16] ?_; (with_reducible refine (spec_l1Below.calls g s0_0 x1001_1 x1002_1 16 t475 t476 t477 w0 _ ?side1 ?side2 A7.out).mono ?_); (case side1 => exact s5_); (case side2 => exact s8_); rintro e w9 ⟨rfl, hi, hb, hk⟩; refine ⟨_, rfl, ?_⟩; have n_ := ac_ (Kd.R_mono (Kd.R_keep (IsS152.apart (show IsS152 w0 _ g s0_0 x1001_1 x1002_1 from s5_) s9_ (by decide)) hk (fun _ h => h.2)) (fun _ h => h.1)) <| ac_ (KeepBut.trans s6_ hk (.inl rfl)) <| ac_ (hb) <| Aside0.mk (hi); clear HO_3 HK HB HI0; obtain ⟨HO_3, HK, HB, HI0⟩ := n_; (try clear hb hk hi)) | ((with_reducible refine gate_builtin (b := .append) (xs := #[.tmp 14, .tmp 17]) rfl ?_); at_builtin; refine Kd.R_append (Kd.int .i64) w.heap.size rfl (.tmp 14) (.tmp 17) 27 3 (.int .i64 0) 8 rfl Tryz.underlying27 info3 rfl (by decide) (by omega) u3 x3_1 t475 [.int .i64 t475] (fun _ => True) (fun _ => False) rfl rfl ?aP (fun _ hk => hk.elim) ?aF ?aO (Below.refl _ _) ?aS ?aL ?_; (case aP => exact rfl); (case aF => exact (fun _ _ => trivial)); (case aO => exact s9_); (case aS => exact (keep_size (w := w) (g := g) (row := none) s6_)); (case aL => have := LMc8.out; omega); intro v479 w10 ho hb hg hat; rw [← Ny478.out] at ho; have n_ := ac_ (IsS152.grown s5_ hg (IsS152.own_ne HI0.out HO_3.out (by decide))) <| ac_ (below_weaken s8_ HL.out hb) <| ac_ (KeepBut.trans s6_ (KeepBut.of_grown hg g) (Kd.R_base2 HO_3.out)) <| Aside0.mk (ho); clear HI0 HB HK HO_3; obtain ⟨HI0, HB, HK, HO480⟩ := n_; clear ho hb hg hat))
     go_roundg k1
     case measure => have := HK1.out; omega
     case rel => exact ⟨(y478), (wrap64 (x5_1 + 1)), (t476), (t477), (by first | rfl | (simp; done) | (simp [*]; done) | (simp [i64_w, i32_w]; done)), H', ⟨by have := HK1.out; omega⟩, ⟨(by (with_reducible repeat (first | apply Kd.R_alloc | apply Kd.R_drewN | apply Kd.R_drew)); exact HO480.out)⟩, ⟨s5_⟩, ⟨s6_⟩, ⟨s8_⟩⟩
    ·
     rw [if_neg c8] at H
     exact absurd H (by simp)
   ·
    rw [if_neg c6] at H; have c6b0 : decide (x5_1 < t472) = false := decide_eq_false c6; clear c6; obtain ⟨⟨t481, t482, t483⟩, A11, H⟩ := bnd25_ H; dsimp only at H
    by_cases c12 : t481 = true
    ·
     subst c12; rw [if_pos rfl] at H; obtain ⟨⟨t484, t485, t486⟩, A13, H⟩ := bnd25_ H; dsimp only at H
     by_cases c14 : x3_1.length < 17592186044416
     ·
      rw [if_pos c14] at H; have LMc14 := Aside0.mk c14; clear c14; obtain ⟨y487, hy487⟩ : ∃ y_ : List Int, y_ = (x3_1 ++ [t484]) := ⟨_, rfl⟩
      replace H : (some (y487, t485, t486)) = some (r1, r2, r3) := by first | (rw [hy487]; with_reducible exact H) | (have H2_ := (Option.bind_some _ _).symm.trans H; rw [hy487]; with_reducible exact H2_) | (have H2_ := (Option.bind_some _ _).symm.trans H; with_reducible exact H2_) | with_reducible exact H | (rw [hy487]; exact H) | exact H
      have Ny487 := Aside0.mk hy487; clear hy487
      simp only [Option.some.injEq, Prod.mk.injEq] at H
      obtain ⟨rfl, rfl, rfl⟩ := H
      go_wp2_with (first | (refine gL_ 145 20 Tryz.func145 #[.pointer (some ⟨g, 0, none⟩), .int .i64 10] ?_; (with_reducible refine (spec_l1Once.calls g s0_0 x1001_1 x1002_1 10 true t482 t483 w0 _ ?side1 ?side2 A11.out).mono ?_); (case side1 => exact s5_); (case side2 => exact s8_); rintro e w15 ⟨rfl, hi, hb, hk⟩; refine ⟨_, rfl, ?_⟩; have n_ := ac_ (Kd.R_mono (Kd.R_keep (IsS152.apart (show IsS152 w0 _ g s0_0 x1001_1 x1002_1 from s5_) s9_ (by decide)) hk (fun _ h => h.2)) (fun _ h => h.1)) <| ac_ (KeepBut.trans s6_ hk (.inl rfl)) <| ac_ (hb) <| Aside0.mk (hi); clear HO_3 HK HB HI0; obtain ⟨HO_3, HK, HB, HI0⟩ := n_; (try clear hb hk hi)) | (refine gL_ 176 23 Tryz.func176 #[.pointer (some ⟨g, 0, none⟩)] ?_; (with_reducible refine (spec_l2Bent.calls g s0_0 t482 t483 t484 t485 t486 w0 _ ?side1 ?side2 A13.out).mono ?_); (case side1 => exact s5_); (case side2 => exact s8_); rintro e w16 ⟨rfl, hi, hb, hk⟩; refine ⟨_, rfl, ?_⟩; have n_ := ac_ (Kd.R_mono (Kd.R_keep (IsS152.apart (show IsS152 w0 _ g s0_0 t482 t483 from s5_) s9_ (by decide)) hk (fun _ h => h.2)) (fun _ h => h.1)) <| ac_ (KeepBut.trans s6_ hk (.inl rfl)) <| ac_ (hb) <| Aside0.mk (hi); clear HO_3 HK HB HI0; obtain ⟨HO_3, HK, HB, HI0⟩ := n_; (try clear hb hk hi)) | ((with_reducible refine gate_builtin (b := .append) (xs := #[.tmp 21, .tmp 24]) rfl ?_); at_builtin; refine Kd.R_append (Kd.int .i64) w.heap.size rfl (.tmp 21) (.tmp 24) 27 3 (.int .i64 0) 8 rfl Tryz.underlying27 info3 rfl (by decide) (by omega) u3 x3_1 t484 [.int .i64 t484] (fun _ => True) (fun _ => False) rfl rfl ?aP (fun _ hk => hk.elim) ?aF ?aO (Below.refl _ _) ?aS ?aL ?_; (case aP => exact rfl); (case aF => exact (fun _ _ => trivial)); (case aO => exact s9_); (case aS => exact (keep_size (w := w) (g := g) (row := none) s6_)); (case aL => have := LMc14.out; omega); intro v488 w17 ho hb hg hat; rw [← Ny487.out] at ho; have n_ := ac_ (IsS152.grown s5_ hg (IsS152.own_ne HI0.out HO_3.out (by decide))) <| ac_ (below_weaken s8_ HL.out hb) <| ac_ (KeepBut.trans s6_ (KeepBut.of_grown hg g) (Kd.R_base2 HO_3.out)) <| Aside0.mk (ho); clear HI0 HB HK HO_3; obtain ⟨HI0, HB, HK, HO489⟩ := n_; clear ho hb hg hat))
      go_ret
      exact ⟨_, (by first | rfl | (simp [errW_none, errW_some] <;> rfl) | (simp [*, errW_none, errW_some] <;> rfl)), (by (with_reducible repeat (first | apply Kd.R_alloc | apply Kd.R_drewN | apply Kd.R_drew)); exact HO489.out), s5_, s8_, s6_⟩
     ·
      rw [if_neg c14] at H
      exact absurd H (by simp)
    ·
     replace c12 := Bool.eq_false_iff.mpr c12; subst c12
     rw [if_neg (show ¬ (false = true) by decide)] at H
     simp only [Option.some.injEq, Prod.mk.injEq] at H
     obtain ⟨rfl, rfl, rfl⟩ := H
     go_wp2_with (first | (refine gL_ 145 20 Tryz.func145 #[.pointer (some ⟨g, 0, none⟩), .int .i64 10] ?_; (with_reducible refine (spec_l1Once.calls g s0_0 x1001_1 x1002_1 10 false t482 t483 w0 _ ?side1 ?side2 A11.out).mono ?_); (case side1 => exact s5_); (case side2 => exact s8_); rintro e w18 ⟨rfl, hi, hb, hk⟩; refine ⟨_, rfl, ?_⟩; have n_ := ac_ (Kd.R_mono (Kd.R_keep (IsS152.apart (show IsS152 w0 _ g s0_0 x1001_1 x1002_1 from s5_) s9_ (by decide)) hk (fun _ h => h.2)) (fun _ h => h.1)) <| ac_ (KeepBut.trans s6_ hk (.inl rfl)) <| ac_ (hb) <| Aside0.mk (hi); clear HO_3 HK HB HI0; obtain ⟨HO_3, HK, HB, HI0⟩ := n_; (try clear hb hk hi)))
     go_ret
     exact ⟨_, (by first | rfl | (simp [errW_none, errW_some] <;> rfl) | (simp [*, errW_none, errW_some] <;> rfl)), s9_, s5_, s8_, s6_⟩
end Go.Proofs.YtafnamchckehmaaGreatDoor.Pr
namespace Go.Proofs.YtafnamchckehmaaGreatDoor.Pr
open Go.RowKit Go.Proofs.YtafnamchckehmaaGreatDoorW.PrintWords Go.Proofs.YtafnamchckehmaaGreatDoorW.PrintLast Go.Proofs.YtafnamchckehmaaGreatDoorW.PrintMore
attribute [local go_sem] max2_int min2_int max_two min_two max_three min_three max_four min_four
set_option linter.unusedVariables false
set_option linter.unusedSimpArgs false
theorem bnd10_ {α β : Type} {o : Option α} {f : α → Option β} {r : β} (h : o.bind f = some r) : ∃ a, Aside0 (o = some a) ∧ f a = some r := by
 obtain ⟨a, h1, h2⟩ := Option.bind_eq_some_iff.mp h
 exact ⟨a, ⟨h1⟩, h2⟩
theorem q10_1 {P : Prop} (h : P := by (with_reducible repeat (first | refine blk_drewN ?_ _ | refine blk_drew ?_ | refine blk_alloc ?_ _)); refine blk_put (cs := #[.int .i64 a1, u435001]) ?_ 1 _ rfl; (with_reducible repeat (first | refine blk_drewN ?_ _ | refine blk_drew ?_ | refine blk_alloc ?_ _)); exact BK434.out) : P := h
theorem q10_2 {P : Prop} (h : P := by (with_reducible repeat (first | refine blk_drewN ?_ _ | refine blk_drew ?_ | refine blk_alloc ?_ _)); refine blk_far ?_ NB433_434.out _; (with_reducible repeat (first | refine blk_drewN ?_ _ | refine blk_drew ?_ | refine blk_alloc ?_ _)); exact BK433.out) : P := h
theorem q10_3 {P : Prop} (h : P := by repeat (first | (with_reducible first | exact HI0.out | apply IsS152.alloc | apply IsS152.drewN | apply IsS152.drew | apply IsS152.set_1 | apply IsS152.set_2 | refine IsS152.far ?_ NB0_433.out _ | refine IsS152.far ?_ NB0_434.out _) | exact HI0.out)) : P := h
theorem q10_4 {P : Prop} (h : P := by repeat (first | (with_reducible first | exact HB.out | apply below_alloc | apply pw_below_drewN | apply below_drew1 | refine below_set ?_ (IsS152.ge HI0.out) | refine below_set ?_ GE433.out | refine below_set ?_ GE434.out) | exact HB.out)) : P := h
theorem q10_5 {P : Prop} (h : P := by repeat (first | (with_reducible first | exact HI0.out | apply IsS152.alloc | apply IsS152.drewN | apply IsS152.drew | apply IsS152.set_1 | apply IsS152.set_2 | refine IsS152.far ?_ NB0_433.out _) | exact HI0.out)) : P := h
theorem q10_6 {P : Prop} (h : P := by repeat (first | (with_reducible first | exact HK.out | apply KeepBut.set_ | apply keep_drewN | apply keep_drew | apply keep_alloc | refine keep_far ?_ GW433.out _ | refine keep_far ?_ GW434.out _) | exact HK.out)) : P := h
theorem q10_7 {P : Prop} (h : P := by repeat (first | (with_reducible first | exact HK.out | apply KeepBut.set_ | apply keep_drewN | apply keep_drew | apply keep_alloc | refine keep_far ?_ GW433.out _) | exact HK.out)) : P := h
theorem q10_9 {P : Prop} (h : P := by (try simp only [List.map_toArray, List.map_cons, List.map_nil]); first | done | (simp only [hji27]; rfl) | rfl | (simp only [List.length_drop, List.length_take]; rfl)) : P := h
theorem q10_12 {P : Prop} (h : P := by (with_reducible repeat (first | refine blk_drewN ?_ _ | refine blk_drew ?_ | refine blk_alloc ?_ _)); exact BK433.out) : P := h
theorem q10_13 {P : Prop} (h : P := by (with_reducible repeat (first | refine blk_drewN ?_ _ | refine blk_drew ?_ | refine blk_alloc ?_ _)); exact BK434.out) : P := h
theorem q10_14 {P : Prop} (h : P := by (with_reducible repeat (first | apply Kd.R_alloc | apply Kd.R_drewN | apply Kd.R_drew)); exact HO_435001.out) : P := h
def spec_l3Make.l0 : Nat → Int → Int → Int → List Int → Int → Int → Int → List Int → Option (Int × List Int × Int × Int)
 | 0, _, _, _, _, _, _, _, _ => none
 | k + 1, x1, x8, x9, x1000, x1001, x1002, x435000, x435001 => if x9 < x8 then ((spec_l1Once.f x1000 x1001 x1002 2).bind fun bt438 => (if bt438.1 = true then (if 0 ≤ (IntKind.u64.wrap (x1)) then ((spec_l1Below.f x1000 bt438.2.1 bt438.2.2 (shl .i64 1 (IntKind.u64.wrap (x1)))).bind fun bt441 => (if x435001.length < 17592186044416 then (spec_l3Make.l0 k x1 x8 (wrap64 (x9 + 1)) x1000 bt441.2.1 bt441.2.2 x435000 (x435001 ++ [bt441.1])) else (none))) else (none)) else (if 0 ≤ (IntKind.u64.wrap (x1)) then ((spec_l1Below.f x1000 bt438.2.1 bt438.2.2 (shl .i64 1 (IntKind.u64.wrap (x1)))).bind fun bt447 => ((spec_l1Below.f x1000 bt447.2.1 bt447.2.2 (shl .i64 1 (IntKind.u64.wrap (x1)))).bind fun bt450 => (if x435001.length < 17592186044416 then (spec_l3Make.l0 k x1 x8 (wrap64 (x9 + 1)) x1000 bt450.2.1 bt450.2.2 x435000 (x435001 ++ [Go.bits .or .i64 bt447.1 bt450.1])) else (none)))) else (none)))) else (some (x435000, x435001, x1001, x1002))
def spec_l3Make.f (k : Nat) (s0_0 : List Int) (s0_1 : Int) (s0_2 : Int) (a1 : Int) (a2 : Int) : Option (Int × List Int × Int × Int) := (spec_l1Below.f s0_0 s0_1 s0_2 (wrap64 (a2 + 1))).bind fun bt435 => (spec_l3Make.l0 k a1 bt435.1 0 s0_0 bt435.2.1 bt435.2.2 a1 ([] : List Int))
def spec_l3Make.T7 : Bool × List (List Nat × List Nat) := (true, [([], []), ([0], [0]), ([], []), ([], []), ([3], [3]), ([4], [4]), ([2, 5], [2, 5]), ([6], [6]), ([1, 7, 6], [1, 7]), ([0, 1, 2, 3, 4, 5, 6, 7, 8], []), ([9, 8, 8, 0, 1, 2, 3, 4, 5, 6, 7, 8], [8, 9])])
def spec_l3Make.B7 : List Nat := [0, 1, 0, 0, 8, 24, 60, 124, 255, 511, 1023]
theorem spec_l3Make.tab7 : rtab .any (opsOf Tryz.f245 7) = spec_l3Make.T7 := by kernel_rfl
theorem spec_l3Make.bits7 : waitsOk spec_l3Make.T7.2 spec_l3Make.B7 = true := by kernel_rfl
def spec_l3Make.T8 : Bool × List (List Nat × List Nat) := (true, [([], []), ([0], [0]), ([], []), ([], []), ([3], [3]), ([4], [4]), ([2, 5], [2, 5]), ([], []), ([], []), ([8], [8]), ([9], [9]), ([7, 10, 6], [7, 10]), ([6, 11], [6, 11]), ([12], [12]), ([1, 13, 11], [1, 13]), ([0, 1, 2, 3, 4, 5, 6, 7, 8, 9, 10, 11, 12, 13, 14], []), ([15, 14, 14, 0, 1, 2, 3, 4, 5, 6, 7, 8, 9, 10, 11, 12, 13, 14], [14, 15])])
def spec_l3Make.B8 : List Nat := [0, 1, 0, 0, 8, 24, 60, 0, 0, 256, 768, 2044, 4092, 8188, 16383, 32767, 65535]
theorem spec_l3Make.tab8 : rtab .any (opsOf Tryz.f245 8) = spec_l3Make.T8 := by kernel_rfl
theorem spec_l3Make.bits8 : waitsOk spec_l3Make.T8.2 spec_l3Make.B8 = true := by kernel_rfl
set_option maxHeartbeats 40000000 in
set_option maxRecDepth 100000 in
theorem spec_l3Make.calls (k : Nat) (g : Nat) (s0_0 : List Int) (s0_1 : Int) (s0_2 : Int) (a1 : Int) (a2 : Int) (r1 : Int) (r2 : List Int) (r3 : Int) (r4 : Int) (w0 w : World) (hI : IsS152 w0 w g s0_0 s0_1 s0_2) (hB : Below w0.heap.size w0 w) (h : spec_l3Make.f k s0_0 s0_1 s0_2 a1 a2 = some (r1, r2, r3, r4)) :
  Calls Tryz.prog 245 #[.pointer (some ⟨g, 0, none⟩), .int .i64 a1, .int .i64 a2] w fun e w' => ∃ v1_ : Value, e = .returned (.agg #[.int .i64 r1, v1_]) ∧ Kd.R (Kd.int .i64) 3 w' w.heap.size (fun _ => True) v1_ r2 ∧ IsS152 w0 w' g s0_0 r3 r4 ∧ Below w0.heap.size w0 w' ∧ KeepBut w w' g none := by
 have hu29 := Tryz.underlying29; have HI0 := Aside0.mk hI; have HK := Aside0.mk (KeepBut.refl w g none); have HL := Aside0.mk hB.size; clear hI; have HW0 := Aside0.mk hB.size; have HB := Aside0.mk hB; clear hB; have H := h; clear h; unfold spec_l3Make.f at H; obtain ⟨⟨t435, t436, t437⟩, A4, H⟩ := bnd10_ H; dsimp only at H; have H' := Aside0.mk H; clear H
 go_enter Tryz.func245, Tryz.ntmps245
 go_wp2_with (first | (refine be_ 6 #[.int .i64 0, .slice none 0 0] 29 ?_; intro gb433 hg w5 hbox hb; have n_ := ac_ (IsS152.below s5_ hb) <| ac_ (KeepBut.trans s6_ (KeepBut.of_below hb g none) (.inl rfl)) <| ac_ (below_step (by repeat (first | (with_reducible first | exact HB.out | apply below_alloc | apply pw_below_drewN | apply below_drew1 | refine below_set ?_ (IsS152.ge HI0.out)) | exact HB.out)) hb) <| ac_ (hbox) <| ac_ ((by rw [hg]; exact (keep_size (w := w) (g := g) (row := none) s6_) : w.heap.size ≤ gb433)) <| ac_ ((Nat.le_trans HW0.out (by rw [hg]; exact (keep_size (w := w) (g := g) (row := none) s6_) : w.heap.size ≤ gb433) : w0.heap.size ≤ gb433)) <| ac_ ((nl_ hg (IsS152.lt (show IsS152 w0 _ g s0_0 s0_1 s0_2 from s5_)))) <| Aside0.mk ((ng_ hg (IsS152.lt (show IsS152 w0 _ g s0_0 s0_1 s0_2 from s5_)))); clear HI0 HK HB; obtain ⟨HI0, HK, HB, BK433, GW433, GE433, NB0_433, NB433_0⟩ := n_; clear hb hbox hg) | (refine be_ 7 #[.int .i64 0, .slice none 0 0] 29 ?_; intro gb434 hg w6 hbox hb; have n_ := ac_ (IsS152.below q10_5 hb) <| ac_ (blk_below (g := gb433) (o := .cells #[.int .i64 0, .slice none 0 0] 29 (0, 0)) q10_12 hb) <| ac_ (KeepBut.trans q10_7 (KeepBut.of_below hb g none) (.inl rfl)) <| ac_ (below_step (by repeat (first | (with_reducible first | exact HB.out | apply below_alloc | apply pw_below_drewN | apply below_drew1 | refine below_set ?_ (IsS152.ge HI0.out) | refine below_set ?_ GE433.out) | exact HB.out)) hb) <| ac_ (hbox) <| ac_ ((by rw [hg]; exact (keep_size (w := w) (g := g) (row := none) q10_7) : w.heap.size ≤ gb434)) <| ac_ ((Nat.le_trans HW0.out (by rw [hg]; exact (keep_size (w := w) (g := g) (row := none) q10_7) : w.heap.size ≤ gb434) : w0.heap.size ≤ gb434)) <| ac_ ((nl_ hg (blk_lt (g := gb433) (o := .cells #[.int .i64 0, .slice none 0 0] 29 (0, 0)) q10_12))) <| ac_ ((ng_ hg (blk_lt (g := gb433) (o := .cells #[.int .i64 0, .slice none 0 0] 29 (0, 0)) q10_12))) <| ac_ ((nl_ hg (IsS152.lt (show IsS152 w0 _ g s0_0 s0_1 s0_2 from q10_5)))) <| Aside0.mk ((ng_ hg (IsS152.lt (show IsS152 w0 _ g s0_0 s0_1 s0_2 from q10_5)))); clear HI0 BK433 HK HB; obtain ⟨HI0, BK433, HK, HB, BK434, GW434, GE434, NB433_434, NB434_433, NB0_434, NB434_0⟩ := n_; clear hb hbox hg; have hnb7 := NB434_433.out; have hnc7 := NB433_434.out; have hnb8 := NB434_0.out; have hnc8 := NB0_434.out; have hcz9_0 : w6.cell? ⟨gb434, 0, none⟩ = some (.int .i64 0) := (blk_cell BK434.out 0).trans rfl; have hcz9_1 : w6.cell? ⟨gb434, 1, none⟩ = some (.slice none 0 0) := (blk_cell BK434.out 1).trans rfl; have hfz9_0 := blk_frozen BK434.out 0; have hfz9_1 := blk_frozen BK434.out 1) | (refine gL_ 146 15 Tryz.func146 #[.pointer (some ⟨g, 0, none⟩), .int .i64 (wrap64 (a2 + 1))] ?_; (with_reducible refine (spec_l1Below.calls g s0_0 s0_1 s0_2 (wrap64 (a2 + 1)) t435 t436 t437 w0 _ ?side1 ?side2 A4.out).mono ?_); (case side1 => exact q10_3); (case side2 => exact q10_4); rintro e w10 ⟨rfl, hi, hb, hk⟩; refine ⟨_, rfl, ?_⟩; have n_ := ac_ (KeepBut.blk hk (g' := gb433) (o := .cells #[.int .i64 0, .slice none 0 0] 29 (0, 0)) (by (with_reducible repeat (first | refine blk_drewN ?_ _ | refine blk_drew ?_ | refine blk_alloc ?_ _)); refine blk_far ?_ NB433_434.out _; (with_reducible repeat (first | refine blk_drewN ?_ _ | refine blk_drew ?_ | refine blk_alloc ?_ _)); refine blk_far ?_ NB433_434.out _; (with_reducible repeat (first | refine blk_drewN ?_ _ | refine blk_drew ?_ | refine blk_alloc ?_ _)); exact BK433.out) NB433_0.out (by simp)) <| ac_ (KeepBut.blk hk (g' := gb434) (o := .cells #[.int .i64 a1, .slice none 0 0] 29 (0, 0)) (by (with_reducible repeat (first | refine blk_drewN ?_ _ | refine blk_drew ?_ | refine blk_alloc ?_ _)); refine blk_put (cs := #[.int .i64 a1, .slice none 0 0]) ?_ 1 _ rfl; (with_reducible repeat (first | refine blk_drewN ?_ _ | refine blk_drew ?_ | refine blk_alloc ?_ _)); refine blk_put (cs := #[.int .i64 0, .slice none 0 0]) ?_ 0 _ rfl; (with_reducible repeat (first | refine blk_drewN ?_ _ | refine blk_drew ?_ | refine blk_alloc ?_ _)); exact BK434.out) NB434_0.out (by simp)) <| ac_ (KeepBut.trans q10_6 hk (.inl rfl)) <| ac_ (hb) <| Aside0.mk (hi); clear BK433 BK434 HK HB HI0; obtain ⟨BK433, BK434, HK, HB, HI0⟩ := n_; (try clear hb hk hi)))
 go_loopg [9] k (fun kq v9 w' => ∃ (x9_1 : Int) (x1001_1 : Int) (x1002_1 : Int) (x435001_1 : List Int) (u435001 : Value), v9 = .int .i64 x9_1 ∧ Aside0 (spec_l3Make.l0 kq a1 t435 x9_1 s0_0 x1001_1 x1002_1 a1 x435001_1 = some (r1, r2, r3, r4)) ∧ Aside0 (kq ≤ k) ∧ Aside0 (Kd.R (Kd.int .i64) 3 w' w.heap.size (fun _ => True) u435001 x435001_1) ∧ Aside0 (w'.heap[gb433]? = some (.cells #[.int .i64 0, (.slice none 0 0)] 29 (0, 0))) ∧ Aside0 (w'.heap[gb434]? = some (.cells #[.int .i64 a1, u435001] 29 (0, 0))) ∧ Aside0 (IsS152 w0 w' g s0_0 x1001_1 x1002_1) ∧ Aside0 (KeepBut w w' g none) ∧ Aside0 (Below w0.heap.size w0 w'))
 case atStart => exact ⟨(0), (t436), (t437), (([] : List Int)), (.slice none 0 0), s2_, H', ⟨Nat.le_refl _⟩, ⟨(by first | exact Kd.R_nil _ _ _ _ _ | exact Kd.N_nil _ _ _ _ _ | exact Kd.V_nil _ _ _ _ _ | exact Kd.Q_nil _ _ _ _ _ | exact Kd.S_nil _ _ _ _ _)⟩, ⟨q10_12⟩, ⟨q10_13⟩, ⟨q10_3⟩, ⟨q10_6⟩, ⟨q10_4⟩⟩
 case round =>
  clear H'
  try clear c1
  try clear c2
  try clear p2
  try clear p6
  try clear c7
  try clear c8
  try clear hcz9_0
  try clear hcz9_1
  try clear hfz9_0
  try clear hfz9_1
  obtain ⟨x9_1, x1001_1, x1002_1, x435001_1, u435001, rfl, HA, HK1, HO_435001, BK433, BK434, HI0, HK, HB⟩ := hrel
  cases gk with
  | zero => exact absurd HA.out (by simp [spec_l3Make.l0])
  | succ k1 =>
   have H := HA.out; clear HA
   simp only [spec_l3Make.l0] at H
   by_cases c11 : x9_1 < t435
   ·
    rw [if_pos c11] at H; have c11b0 : decide (x9_1 < t435) = true := decide_eq_true c11; clear c11; obtain ⟨⟨t438, t439, t440⟩, A12, H⟩ := bnd10_ H; dsimp only at H
    by_cases c13 : t438 = true
    ·
     subst c13; rw [if_pos rfl] at H; obtain ⟨ji14, hji14⟩ : ∃ j_ : Int, (IntKind.u64.wrap (a1)) = j_ := ⟨_, rfl⟩
     replace H : (if 0 ≤ (ji14) then ((spec_l1Below.f s0_0 t439 t440 (shl .i64 1 (ji14))).bind fun bt441 => (if x435001_1.length < 17592186044416 then (spec_l3Make.l0 k1 a1 t435 (wrap64 (x9_1 + 1)) s0_0 bt441.2.1 bt441.2.2 a1 (x435001_1 ++ [bt441.1])) else (none))) else (none)) = some (r1, r2, r3, r4) := by first | (rw [hji14] at H; exact H) | (simp only [hji14] at H ⊢; exact H)
     (try rw [hji14] at A12)
     by_cases c15 : 0 ≤ (ji14)
     ·
      rw [if_pos c15] at H; have c15b0 := eq_true c15; have c15b1 : decide (0 ≤ (ji14)) = true := decide_eq_true c15; clear c15; obtain ⟨ji16, hji16⟩ : ∃ j_ : Int, (shl .i64 1 (ji14)) = j_ := ⟨_, rfl⟩
      replace H : ((spec_l1Below.f s0_0 t439 t440 (ji16)).bind fun bt441 => (if x435001_1.length < 17592186044416 then (spec_l3Make.l0 k1 a1 t435 (wrap64 (x9_1 + 1)) s0_0 bt441.2.1 bt441.2.2 a1 (x435001_1 ++ [bt441.1])) else (none))) = some (r1, r2, r3, r4) := by first | (rw [hji16] at H; exact H) | (simp only [hji16] at H ⊢; exact H)
      (try rw [hji16] at A12)
      have hji16_ : (IntKind.i64.wrap (1 * 2 ^ min (ji14).toNat 64)) = ji16 := hji16; have hji16z : (ji14) ≤ 64 → (IntKind.i64.wrap (1 * 2 ^ (ji14).toNat)) = ji16 := shl_small hji16
      have hji16u : (IntKind.i64.wrap (2 ^ min (ji14).toNat 64)) = ji16 := by have h_ := hji16_; rw [Int.one_mul] at h_; exact h_
      have hji16v : (ji14) ≤ 64 → (IntKind.i64.wrap (2 ^ (ji14).toNat)) = ji16 := fun hle_ => by have h_ := hji16z hle_; rw [Int.one_mul] at h_; exact h_
      have hji16y : (wrap64 (1 * 2 ^ min (ji14).toNat 64)) = ji16 := (i64_w _).symm.trans hji16_
      have hji16x : (ji14) ≤ 64 → (wrap64 (1 * 2 ^ (ji14).toNat)) = ji16 := fun h_ => (i64_w _).symm.trans (hji16z h_)
      obtain ⟨⟨t441, t442, t443⟩, A17, H⟩ := bnd10_ H; dsimp only at H
      by_cases c18 : x435001_1.length < 17592186044416
      ·
       rw [if_pos c18] at H; have LMc18 := Aside0.mk c18; clear c18; obtain ⟨y444, hy444⟩ : ∃ y_ : List Int, y_ = (x435001_1 ++ [t441]) := ⟨_, rfl⟩
       replace H : (spec_l3Make.l0 k1 a1 t435 (wrap64 (x9_1 + 1)) s0_0 t442 t443 a1 y444) = some (r1, r2, r3, r4) := by first | (rw [hy444]; with_reducible exact H) | (have H2_ := (Option.bind_some _ _).symm.trans H; rw [hy444]; with_reducible exact H2_) | (have H2_ := (Option.bind_some _ _).symm.trans H; with_reducible exact H2_) | with_reducible exact H | (rw [hy444]; exact H) | exact H
       have Ny444 := Aside0.mk hy444; clear hy444; have H' := Aside0.mk H; clear H
       try go_wp2_with (first | (refine gL_ 145 22 Tryz.func145 #[.pointer (some ⟨g, 0, none⟩), .int .i64 2] ?_; (with_reducible refine (spec_l1Once.calls g s0_0 x1001_1 x1002_1 2 true t439 t440 w0 _ ?side1 ?side2 A12.out).mono ?_); (case side1 => exact q10_3); (case side2 => exact q10_4); rintro e w19 ⟨rfl, hi, hb, hk⟩; refine ⟨_, rfl, ?_⟩; have n_ := ac_ (Kd.R_mono (Kd.R_keep (IsS152.apart (show IsS152 w0 _ g s0_0 x1001_1 x1002_1 from q10_3) q10_14 (by decide)) hk (fun _ h => h.2)) (fun _ h => h.1)) <| ac_ (KeepBut.blk hk (g' := gb433) (o := .cells #[.int .i64 0, .slice none 0 0] 29 (0, 0)) q10_12 NB433_0.out (by simp)) <| ac_ (KeepBut.blk hk (g' := gb434) (o := .cells #[.int .i64 a1, u435001] 29 (0, 0)) q10_13 NB434_0.out (by simp)) <| ac_ (KeepBut.trans q10_6 hk (.inl rfl)) <| ac_ (hb) <| Aside0.mk (hi); clear HO_435001 BK433 BK434 HK HB HI0; obtain ⟨HO_435001, BK433, BK434, HK, HB, HI0⟩ := n_; (try clear hb hk hi)))
       have n0_ := Aside0.mk (Kd.R_drew HO_435001.out); have n1_ := Aside0.mk (blk_drew BK433.out); have n2_ := Aside0.mk (blk_drew BK434.out); have n3_ := Aside0.mk (IsS152.drew HI0.out); have n4_ := Aside0.mk (keep_drew HK.out); have n5_ := Aside0.mk (below_drew1 HB.out); clear HO_435001; clear BK433; clear BK434; clear HI0; clear HK; clear HB; have HO_435001 := n0_; have BK433 := n1_; have BK434 := n2_; have HI0 := n3_; have HK := n4_; have HB := n5_; clear n0_ n1_ n2_ n3_ n4_ n5_
       refine start_ (n := 11) (S := fun w' => w'.cell? ⟨gb434, 0, none⟩ = some (.int .i64 a1) ∧ w'.cell? ⟨gb434, 1, none⟩ = some (u435001)) (ds := [10]) (tb_ 11 0) (by kernel_rfl) rfl rfl ⟨(blk_cell BK434.out 0).trans rfl, (blk_cell BK434.out 1).trans rfl⟩ (fun hHeld => ?_); refine with_tabW spec_l3Make.tab7 spec_l3Make.bits7 (fun HT_ HW_ => ?_)
       generalize w19.drew = w20 at HO_435001 BK433 BK434 HI0 HK HB hHeld ⊢
       refine pl_ 0 23 (tb_ 11 1) ?_; refine pl_ 2 25 (tb_ 11 5) ?_; refine pl_ 3 26 (tb_ 11 13) ?_; refine pl_ 4 27 (tb_ 11 29) ?_; refine pl_ 5 28 (tb_ 11 61) ?_; refine tk_ 1 24 (tb_ 11 63) hHeld ?_
       refine on_ 6 29 (tb_ 11 127) (fun K hK => ?_)
       refine goes_ Tryz.func146 (by kernel_rfl) rfl #[.pointer (some ⟨g, 0, none⟩), .int .i64 ji16] (by rfl) rfl rfl (by (try simp only [List.map_toArray, List.map_cons, List.map_nil]); first | done | (simp only [hji16]; rfl) | rfl | (simp only [List.length_drop, List.length_take]; rfl)) ?_
       with_reducible refine (spec_l1Below.calls g s0_0 t439 t440 ji16 t441 t442 t443 w0 _ ?side1 ?side2 A17.out).mono ?_
       (case side1 => exact q10_3)
       (case side2 => exact q10_4)
       rintro e w21 ⟨rfl, hi, hb, hk⟩
       refine ⟨_, rfl, ?_⟩
       have n0_ := Aside0.mk (Kd.R_mono (Kd.R_keep (IsS152.apart (show IsS152 w0 _ g s0_0 t439 t440 from q10_3) q10_14 (by decide)) hk (fun _ h => h.2)) (fun _ h => h.1))
       have n1_ := Aside0.mk (KeepBut.blk hk (g' := gb433) (o := .cells #[.int .i64 0, .slice none 0 0] 29 (0, 0)) q10_12 NB433_0.out (by simp))
       have n2_ := Aside0.mk (KeepBut.blk hk (g' := gb434) (o := .cells #[.int .i64 a1, u435001] 29 (0, 0)) q10_13 NB434_0.out (by simp))
       have n3_ := Aside0.mk (KeepBut.trans q10_6 hk (.inl rfl)); have n4_ := Aside0.mk (hb); have n5_ := Aside0.mk (hi); clear HO_435001; clear BK433; clear BK434; clear HK; clear HB; clear HI0; have HO_435001 := n0_; have BK433 := n1_; have BK434 := n2_; have HK := n3_; have HB := n4_; have HI0 := n5_; clear n0_ n1_ n2_ n3_ n4_ n5_
       (try clear hb)
       (try clear hb2)
       (try clear hk)
       (try clear hi)
       refine hK.out _ _ ⟨(blk_cell BK434.out 0).trans rfl, (blk_cell BK434.out 1).trans rfl⟩ (fun hHeld => ?_)
       clear hK K
       refine norm_ (a' := ?_) ?_ ?_
       rotate_left
       ·
        show Act.put _ (some 29) _ = _
        exact s14_
       refine on_ 7 30 (tb_ 11 255) (fun K hK => ?_)
       refine value_ (w1 := ?_) (v := ?_) (by rfl) rfl ?_ ?_
       rotate_left 2
       ·
        go_simp
        constructor
        ·
         rfl
        ·
         rfl
       refine hK.out _ _ ⟨(blk_cell (blk_alloc BK434.out _) 0).trans rfl, (blk_cell (blk_alloc BK434.out _) 1).trans rfl⟩ (fun hHeld => ?_)
       clear hK K
       refine norm_ (a' := ?_) ?_ ?_
       rotate_left
       ·
        show Act.put _ (some 30) _ = _
        exact s14_
       refine on_ 8 31 (tb_ 11 511) (fun K hK => ?_)
       refine Kd.R_append_step (Kd.int .i64) w.heap.size (by rfl) (.tmp 24) (.tmp 30) 27 3 (.int .i64 0) 8 rfl Tryz.underlying27 info3 rfl (by decide) (by omega) u435001 x435001_1 t441 [.int .i64 t441] (fun _ => True) (fun _ => False) rfl rfl ?aP (fun _ hk => hk.elim) ?aF ?aO (Below.refl _ _) ?aS ?aL ?_
       (case aP => exact rfl)
       (case aF => exact (fun _ _ => trivial))
       (case aO => exact q10_14)
       (case aS => exact (keep_size (w := w) (g := g) (row := none) q10_6))
       (case aL => have := LMc18.out; omega)
       intro v445 w22 ho hb hg hat
       rw [← Ny444.out] at ho
       have n0_ := Aside0.mk (blk_grown (g := gb433) (o := .cells #[.int .i64 0, .slice none 0 0] 29 (0, 0)) q10_12 hg (Kd.R_ne HO_435001.out BK433.out (by decide)))
       have n1_ := Aside0.mk (blk_grown (g := gb434) (o := .cells #[.int .i64 a1, u435001] 29 (0, 0)) q10_13 hg (Kd.R_ne HO_435001.out BK434.out (by decide)))
       have n2_ := Aside0.mk (IsS152.grown q10_3 hg (IsS152.own_ne HI0.out HO_435001.out (by decide)))
       have n3_ := Aside0.mk (below_weaken q10_4 HL.out hb); have n4_ := Aside0.mk (KeepBut.trans q10_6 (KeepBut.of_grown hg g) (Kd.R_base2 HO_435001.out)); have n5_ := Aside0.mk (ho); clear BK433; clear BK434; clear HI0; clear HB; clear HK; clear HO_435001; have BK433 := n0_; have BK434 := n1_; have HI0 := n2_; have HB := n3_; have HK := n4_; have HO446 := n5_; clear n0_ n1_ n2_ n3_ n4_ n5_; clear ho hb hg hat; obtain ⟨Ao23, co23, eo23⟩ := Kd.R_slice HO446.out
       (first | subst eo23 | (injection eo23 with f1_ f2_ f3_; have f4_ := f1_.symm; have f5_ := f3_.symm; clear f1_ f2_ f3_; subst f4_; subst f5_))
       refine hK.out _ _ ⟨(blk_cell BK434.out 0).trans rfl, (blk_cell BK434.out 1).trans rfl⟩ (fun hHeld => ?_)
       clear hK K
       refine norm_ (a' := ?_) ?_ ?_
       rotate_left
       ·
        show Act.put _ (some 31) _ = _
        exact s14_
       refine pl_ 9 32 (tb_ 11 1023) ?_
       refine last_ (i := 10) (N := none) (tb_ 11 2047) rfl rfl (one_of HT_.out (by kernel_rfl)) (by decide) (fun K hK => ?_)
       have hs24 : w22.cell? ⟨gb434, 1, none⟩ = some (u435001) := (blk_cell BK434.out 1).trans rfl; have hfs24 := blk_frozen BK434.out 1; have hns24_0 := NB433_434.out; have hms24_0 := NB434_433.out
       refine skip_ (w1 := ?_) (by rfl) rfl ?_ ?_
       rotate_left
       ·
        go_simp
        rfl
       refine hK.out _ _ ?_
       clear hK K
       refine done_ (done_of HT_.out (by kernel_rfl)) ?_
       try go_wp2
       go_roundg k1
       case measure => have := HK1.out; omega
       case rel => exact ⟨(wrap64 (x9_1 + 1)), (t442), (t443), (y444), (.slice Ao23 y444.length co23), s2_, H', ⟨by have := HK1.out; omega⟩, ⟨(by (with_reducible repeat (first | apply Kd.R_alloc | apply Kd.R_drewN | apply Kd.R_drew)); exact Kd.R_mono (Kd.R_far (p := ⟨gb434, 1, none⟩) (Kd.R_types HO446.out BK434.out (by decide)) (fun _ hk => hk.2) (.slice Ao23 y444.length co23)) (fun _ hk => trivial))⟩, ⟨q10_2⟩, ⟨q10_1⟩, ⟨q10_3⟩, ⟨q10_6⟩, ⟨q10_4⟩⟩
      ·
       rw [if_neg c18] at H
       exact absurd H (by simp)
     ·
      rw [if_neg c15] at H
      exact absurd H (by simp)
    ·
     replace c13 := Bool.eq_false_iff.mpr c13; subst c13
     rw [if_neg (show ¬ (false = true) by decide)] at H
     obtain ⟨ji25, hji25⟩ : ∃ j_ : Int, (IntKind.u64.wrap (a1)) = j_ := ⟨_, rfl⟩
     replace H : (if 0 ≤ (ji25) then ((spec_l1Below.f s0_0 t439 t440 (shl .i64 1 (ji25))).bind fun bt447 => ((spec_l1Below.f s0_0 bt447.2.1 bt447.2.2 (shl .i64 1 (ji25))).bind fun bt450 => (if x435001_1.length < 17592186044416 then (spec_l3Make.l0 k1 a1 t435 (wrap64 (x9_1 + 1)) s0_0 bt450.2.1 bt450.2.2 a1 (x435001_1 ++ [Go.bits .or .i64 bt447.1 bt450.1])) else (none)))) else (none)) = some (r1, r2, r3, r4) := by first | (rw [hji25] at H; exact H) | (simp only [hji25] at H ⊢; exact H)
     (try rw [hji25] at A12)
     by_cases c26 : 0 ≤ (ji25)
     ·
      rw [if_pos c26] at H; have c26b0 := eq_true c26; have c26b1 : decide (0 ≤ (ji25)) = true := decide_eq_true c26; clear c26; obtain ⟨ji27, hji27⟩ : ∃ j_ : Int, (shl .i64 1 (ji25)) = j_ := ⟨_, rfl⟩
      replace H : ((spec_l1Below.f s0_0 t439 t440 (ji27)).bind fun bt447 => ((spec_l1Below.f s0_0 bt447.2.1 bt447.2.2 (ji27)).bind fun bt450 => (if x435001_1.length < 17592186044416 then (spec_l3Make.l0 k1 a1 t435 (wrap64 (x9_1 + 1)) s0_0 bt450.2.1 bt450.2.2 a1 (x435001_1 ++ [Go.bits .or .i64 bt447.1 bt450.1])) else (none)))) = some (r1, r2, r3, r4) := by first | (rw [hji27] at H; exact H) | (simp only [hji27] at H ⊢; exact H)
      (try rw [hji27] at A12)
      have hji27_ : (IntKind.i64.wrap (1 * 2 ^ min (ji25).toNat 64)) = ji27 := hji27; have hji27z : (ji25) ≤ 64 → (IntKind.i64.wrap (1 * 2 ^ (ji25).toNat)) = ji27 := shl_small hji27
      have hji27u : (IntKind.i64.wrap (2 ^ min (ji25).toNat 64)) = ji27 := by have h_ := hji27_; rw [Int.one_mul] at h_; exact h_
      have hji27v : (ji25) ≤ 64 → (IntKind.i64.wrap (2 ^ (ji25).toNat)) = ji27 := fun hle_ => by have h_ := hji27z hle_; rw [Int.one_mul] at h_; exact h_
      have hji27y : (wrap64 (1 * 2 ^ min (ji25).toNat 64)) = ji27 := (i64_w _).symm.trans hji27_
      have hji27x : (ji25) ≤ 64 → (wrap64 (1 * 2 ^ (ji25).toNat)) = ji27 := fun h_ => (i64_w _).symm.trans (hji27z h_)
      obtain ⟨⟨t447, t448, t449⟩, A28, H⟩ := bnd10_ H; dsimp only at H
      have c29b0 := eq_true (of_decide_eq_true (by first | (with_reducible assumption) | assumption) : 0 ≤ (ji25))
      obtain ⟨⟨t450, t451, t452⟩, A30, H⟩ := bnd10_ H; dsimp only at H
      by_cases c31 : x435001_1.length < 17592186044416
      ·
       rw [if_pos c31] at H; have LMc31 := Aside0.mk c31; clear c31; obtain ⟨y453, hy453⟩ : ∃ y_ : List Int, y_ = (x435001_1 ++ [Go.bits .or .i64 t447 t450]) := ⟨_, rfl⟩
       replace H : (spec_l3Make.l0 k1 a1 t435 (wrap64 (x9_1 + 1)) s0_0 t451 t452 a1 y453) = some (r1, r2, r3, r4) := by first | (rw [hy453]; with_reducible exact H) | (have H2_ := (Option.bind_some _ _).symm.trans H; rw [hy453]; with_reducible exact H2_) | (have H2_ := (Option.bind_some _ _).symm.trans H; with_reducible exact H2_) | with_reducible exact H | (rw [hy453]; exact H) | exact H
       have Ny453 := Aside0.mk hy453; clear hy453; have H' := Aside0.mk H; clear H
       try go_wp2_with (first | (refine gL_ 145 22 Tryz.func145 #[.pointer (some ⟨g, 0, none⟩), .int .i64 2] ?_; (with_reducible refine (spec_l1Once.calls g s0_0 x1001_1 x1002_1 2 false t439 t440 w0 _ ?side1 ?side2 A12.out).mono ?_); (case side1 => exact q10_3); (case side2 => exact q10_4); rintro e w32 ⟨rfl, hi, hb, hk⟩; refine ⟨_, rfl, ?_⟩; have n_ := ac_ (Kd.R_mono (Kd.R_keep (IsS152.apart (show IsS152 w0 _ g s0_0 x1001_1 x1002_1 from q10_3) q10_14 (by decide)) hk (fun _ h => h.2)) (fun _ h => h.1)) <| ac_ (KeepBut.blk hk (g' := gb433) (o := .cells #[.int .i64 0, .slice none 0 0] 29 (0, 0)) q10_12 NB433_0.out (by simp)) <| ac_ (KeepBut.blk hk (g' := gb434) (o := .cells #[.int .i64 a1, u435001] 29 (0, 0)) q10_13 NB434_0.out (by simp)) <| ac_ (KeepBut.trans q10_6 hk (.inl rfl)) <| ac_ (hb) <| Aside0.mk (hi); clear HO_435001 BK433 BK434 HK HB HI0; obtain ⟨HO_435001, BK433, BK434, HK, HB, HI0⟩ := n_; (try clear hb hk hi)))
       have n0_ := Aside0.mk (Kd.R_drew HO_435001.out); have n1_ := Aside0.mk (blk_drew BK433.out); have n2_ := Aside0.mk (blk_drew BK434.out); have n3_ := Aside0.mk (IsS152.drew HI0.out); have n4_ := Aside0.mk (keep_drew HK.out); have n5_ := Aside0.mk (below_drew1 HB.out); clear HO_435001; clear BK433; clear BK434; clear HI0; clear HK; clear HB; have HO_435001 := n0_; have BK433 := n1_; have BK434 := n2_; have HI0 := n3_; have HK := n4_; have HB := n5_; clear n0_ n1_ n2_ n3_ n4_ n5_
       refine start_ (n := 17) (S := fun w' => w'.cell? ⟨gb434, 0, none⟩ = some (.int .i64 a1) ∧ w'.cell? ⟨gb434, 1, none⟩ = some (u435001)) (ds := [16]) (tb_ 17 0) (by kernel_rfl) rfl rfl ⟨(blk_cell BK434.out 0).trans rfl, (blk_cell BK434.out 1).trans rfl⟩ (fun hHeld => ?_); refine with_tabW spec_l3Make.tab8 spec_l3Make.bits8 (fun HT_ HW_ => ?_)
       generalize w32.drew = w33 at HO_435001 BK433 BK434 HI0 HK HB hHeld ⊢
       refine pl_ 0 33 (tb_ 17 1) ?_; refine pl_ 2 35 (tb_ 17 5) ?_; refine pl_ 3 36 (tb_ 17 13) ?_; refine pl_ 4 37 (tb_ 17 29) ?_; refine pl_ 5 38 (tb_ 17 61) ?_; refine pl_ 7 40 (tb_ 17 189) ?_; refine pl_ 8 41 (tb_ 17 445) ?_; refine pl_ 9 42 (tb_ 17 957) ?_; refine pl_ 10 43 (tb_ 17 1981) ?_; refine tk_ 1 34 (tb_ 17 1983) hHeld ?_
       refine on_ 6 39 (tb_ 17 2047) (fun K hK => ?_)
       refine goes_ Tryz.func146 (by kernel_rfl) rfl #[.pointer (some ⟨g, 0, none⟩), .int .i64 ji27] (by rfl) rfl rfl q10_9 ?_
       with_reducible refine (spec_l1Below.calls g s0_0 t439 t440 ji27 t447 t448 t449 w0 _ ?side1 ?side2 A28.out).mono ?_
       (case side1 => exact q10_3)
       (case side2 => exact q10_4)
       rintro e w34 ⟨rfl, hi, hb, hk⟩
       refine ⟨_, rfl, ?_⟩
       have n0_ := Aside0.mk (Kd.R_mono (Kd.R_keep (IsS152.apart (show IsS152 w0 _ g s0_0 t439 t440 from q10_3) q10_14 (by decide)) hk (fun _ h => h.2)) (fun _ h => h.1))
       have n1_ := Aside0.mk (KeepBut.blk hk (g' := gb433) (o := .cells #[.int .i64 0, .slice none 0 0] 29 (0, 0)) q10_12 NB433_0.out (by simp))
       have n2_ := Aside0.mk (KeepBut.blk hk (g' := gb434) (o := .cells #[.int .i64 a1, u435001] 29 (0, 0)) q10_13 NB434_0.out (by simp))
       have n3_ := Aside0.mk (KeepBut.trans q10_6 hk (.inl rfl)); have n4_ := Aside0.mk (hb); have n5_ := Aside0.mk (hi); clear HO_435001; clear BK433; clear BK434; clear HK; clear HB; clear HI0; have HO_435001 := n0_; have BK433 := n1_; have BK434 := n2_; have HK := n3_; have HB := n4_; have HI0 := n5_; clear n0_ n1_ n2_ n3_ n4_ n5_
       (try clear hb)
       (try clear hb2)
       (try clear hk)
       (try clear hi)
       refine hK.out _ _ ⟨(blk_cell BK434.out 0).trans rfl, (blk_cell BK434.out 1).trans rfl⟩ (fun hHeld => ?_)
       clear hK K
       refine norm_ (a' := ?_) ?_ ?_
       rotate_left
       ·
        show Act.put _ (some 39) _ = _
        exact s14_
       refine on_ 11 44 (tb_ 17 4095) (fun K hK => ?_)
       refine goes_ Tryz.func146 (by kernel_rfl) rfl #[.pointer (some ⟨g, 0, none⟩), .int .i64 ji27] (by rfl) rfl rfl q10_9 ?_
       with_reducible refine (spec_l1Below.calls g s0_0 t448 t449 ji27 t450 t451 t452 w0 _ ?side1 ?side2 A30.out).mono ?_
       (case side1 => exact q10_3)
       (case side2 => exact q10_4)
       rintro e w35 ⟨rfl, hi, hb, hk⟩
       refine ⟨_, rfl, ?_⟩
       have n0_ := Aside0.mk (Kd.R_mono (Kd.R_keep (IsS152.apart (show IsS152 w0 _ g s0_0 t448 t449 from q10_3) q10_14 (by decide)) hk (fun _ h => h.2)) (fun _ h => h.1))
       have n1_ := Aside0.mk (KeepBut.blk hk (g' := gb433) (o := .cells #[.int .i64 0, .slice none 0 0] 29 (0, 0)) q10_12 NB433_0.out (by simp))
       have n2_ := Aside0.mk (KeepBut.blk hk (g' := gb434) (o := .cells #[.int .i64 a1, u435001] 29 (0, 0)) q10_13 NB434_0.out (by simp))
       have n3_ := Aside0.mk (KeepBut.trans q10_6 hk (.inl rfl)); have n4_ := Aside0.mk (hb); have n5_ := Aside0.mk (hi); clear HO_435001; clear BK433; clear BK434; clear HK; clear HB; clear HI0; have HO_435001 := n0_; have BK433 := n1_; have BK434 := n2_; have HK := n3_; have HB := n4_; have HI0 := n5_; clear n0_ n1_ n2_ n3_ n4_ n5_
       (try clear hb)
       (try clear hb2)
       (try clear hk)
       (try clear hi)
       refine hK.out _ _ ⟨(blk_cell BK434.out 0).trans rfl, (blk_cell BK434.out 1).trans rfl⟩ (fun hHeld => ?_)
       clear hK K
       refine norm_ (a' := ?_) ?_ ?_
       rotate_left
       ·
        show Act.put _ (some 44) _ = _
        exact s14_
       refine pl_ 12 45 (tb_ 17 8191) ?_
       refine on_ 13 46 (tb_ 17 16383) (fun K hK => ?_)
       refine value_ (w1 := ?_) (v := ?_) (by rfl) rfl ?_ ?_
       rotate_left 2
       ·
        go_simp
        constructor
        ·
         rfl
        ·
         rfl
       refine hK.out _ _ ⟨(blk_cell (blk_alloc BK434.out _) 0).trans rfl, (blk_cell (blk_alloc BK434.out _) 1).trans rfl⟩ (fun hHeld => ?_)
       clear hK K
       refine norm_ (a' := ?_) ?_ ?_
       rotate_left
       ·
        show Act.put _ (some 46) _ = _
        exact s14_
       refine on_ 14 47 (tb_ 17 32767) (fun K hK => ?_)
       refine Kd.R_append_step (Kd.int .i64) w.heap.size (by rfl) (.tmp 34) (.tmp 46) 27 3 (.int .i64 0) 8 rfl Tryz.underlying27 info3 rfl (by decide) (by omega) u435001 x435001_1 (Go.bits .or .i64 t447 t450) [.int .i64 (Go.bits .or .i64 t447 t450)] (fun _ => True) (fun _ => False) rfl rfl ?aP (fun _ hk => hk.elim) ?aF ?aO (Below.refl _ _) ?aS ?aL ?_
       (case aP => exact rfl)
       (case aF => exact (fun _ _ => trivial))
       (case aO => exact q10_14)
       (case aS => exact (keep_size (w := w) (g := g) (row := none) q10_6))
       (case aL => have := LMc31.out; omega)
       intro v454 w36 ho hb hg hat
       rw [← Ny453.out] at ho
       have n0_ := Aside0.mk (blk_grown (g := gb433) (o := .cells #[.int .i64 0, .slice none 0 0] 29 (0, 0)) q10_12 hg (Kd.R_ne HO_435001.out BK433.out (by decide)))
       have n1_ := Aside0.mk (blk_grown (g := gb434) (o := .cells #[.int .i64 a1, u435001] 29 (0, 0)) q10_13 hg (Kd.R_ne HO_435001.out BK434.out (by decide)))
       have n2_ := Aside0.mk (IsS152.grown q10_3 hg (IsS152.own_ne HI0.out HO_435001.out (by decide)))
       have n3_ := Aside0.mk (below_weaken q10_4 HL.out hb); have n4_ := Aside0.mk (KeepBut.trans q10_6 (KeepBut.of_grown hg g) (Kd.R_base2 HO_435001.out)); have n5_ := Aside0.mk (ho); clear BK433; clear BK434; clear HI0; clear HB; clear HK; clear HO_435001; have BK433 := n0_; have BK434 := n1_; have HI0 := n2_; have HB := n3_; have HK := n4_; have HO455 := n5_; clear n0_ n1_ n2_ n3_ n4_ n5_; clear ho hb hg hat; obtain ⟨Ao37, co37, eo37⟩ := Kd.R_slice HO455.out
       (first | subst eo37 | (injection eo37 with f1_ f2_ f3_; have f4_ := f1_.symm; have f5_ := f3_.symm; clear f1_ f2_ f3_; subst f4_; subst f5_))
       refine hK.out _ _ ⟨(blk_cell BK434.out 0).trans rfl, (blk_cell BK434.out 1).trans rfl⟩ (fun hHeld => ?_)
       clear hK K
       refine norm_ (a' := ?_) ?_ ?_
       rotate_left
       ·
        show Act.put _ (some 47) _ = _
        exact s14_
       refine pl_ 15 48 (tb_ 17 65535) ?_
       refine last_ (i := 16) (N := none) (tb_ 17 131071) rfl rfl (one_of HT_.out (by kernel_rfl)) (by decide) (fun K hK => ?_)
       have hs38 : w36.cell? ⟨gb434, 1, none⟩ = some (u435001) := (blk_cell BK434.out 1).trans rfl; have hfs38 := blk_frozen BK434.out 1; have hns38_0 := NB433_434.out; have hms38_0 := NB434_433.out
       refine skip_ (w1 := ?_) (by rfl) rfl ?_ ?_
       rotate_left
       ·
        go_simp
        rfl
       refine hK.out _ _ ?_
       clear hK K
       refine done_ (done_of HT_.out (by kernel_rfl)) ?_
       try go_wp2
       go_roundg k1
       case measure => have := HK1.out; omega
       case rel => exact ⟨(wrap64 (x9_1 + 1)), (t451), (t452), (y453), (.slice Ao37 y453.length co37), s2_, H', ⟨by have := HK1.out; omega⟩, ⟨(by (with_reducible repeat (first | apply Kd.R_alloc | apply Kd.R_drewN | apply Kd.R_drew)); exact Kd.R_mono (Kd.R_far (p := ⟨gb434, 1, none⟩) (Kd.R_types HO455.out BK434.out (by decide)) (fun _ hk => hk.2) (.slice Ao37 y453.length co37)) (fun _ hk => trivial))⟩, ⟨q10_2⟩, ⟨q10_1⟩, ⟨q10_3⟩, ⟨q10_6⟩, ⟨q10_4⟩⟩
      ·
       rw [if_neg c31] at H
       exact absurd H (by simp)
     ·
      rw [if_neg c26] at H
      exact absurd H (by simp)
   ·
    rw [if_neg c11] at H; have c11b0 : decide (x9_1 < t435) = false := decide_eq_false c11; clear c11
    simp only [Option.some.injEq, Prod.mk.injEq] at H
    obtain ⟨rfl, rfl, rfl, rfl⟩ := H; have hnb39 := NB434_433.out; have hnc39 := NB433_434.out; have hnb40 := NB434_0.out; have hnc40 := NB0_434.out; have hcz41_0 : wr.cell? ⟨gb434, 0, none⟩ = some (.int .i64 a1) := (blk_cell BK434.out 0).trans rfl; have hcz41_1 : wr.cell? ⟨gb434, 1, none⟩ = some (u435001) := (blk_cell BK434.out 1).trans rfl; have hfz41_0 := blk_frozen BK434.out 0; have hfz41_1 := blk_frozen BK434.out 1; have hnb42 := NB433_0.out; have hnc42 := NB0_433.out; have hcz43_0 : wr.cell? ⟨gb433, 0, none⟩ = some (.int .i64 0) := (blk_cell BK433.out 0).trans rfl; have hcz43_1 : wr.cell? ⟨gb433, 1, none⟩ = some (.slice none 0 0) := (blk_cell BK433.out 1).trans rfl; have hfz43_0 := blk_frozen BK433.out 0; have hfz43_1 := blk_frozen BK433.out 1; obtain ⟨Ao44, co44, eo44⟩ := Kd.R_slice HO_435001.out; subst eo44
    go_wp2
    refine bodyPost_ret (results_cell_row rfl _ _ gb433 29 #[.int .i64 a1, .slice Ao44 x435001_1.length co44] (0, 0) _ rfl (by (with_reducible repeat (first | refine blk_drewN ?_ _ | refine blk_drew ?_ | refine blk_alloc ?_ _)); refine blk_put (cs := #[.int .i64 a1, .slice none 0 0]) ?_ 1 _ rfl; (with_reducible repeat (first | refine blk_drewN ?_ _ | refine blk_drew ?_ | refine blk_alloc ?_ _)); refine blk_put (cs := #[.int .i64 0, .slice none 0 0]) ?_ 0 _ rfl; (with_reducible repeat (first | refine blk_drewN ?_ _ | refine blk_drew ?_ | refine blk_alloc ?_ _)); exact BK433.out) Tryz.underlying29 rfl (by kernel_rfl)) rfl ?_
    exact ⟨_, (by first | rfl | (simp [errW_none, errW_some] <;> rfl) | (simp [*, errW_none, errW_some] <;> rfl)), (by (with_reducible repeat (first | apply Kd.R_alloc | apply Kd.R_drewN | apply Kd.R_drew)); exact Kd.R_mono (Kd.R_far (p := ⟨gb433, 1, none⟩) (Kd.R_far (p := ⟨gb433, 0, none⟩) (Kd.R_types HO_435001.out BK433.out (by decide)) (fun _ hk => hk.2) (.int .i64 a1)) (fun _ hk => hk.2) (.slice Ao44 x435001_1.length co44)) (fun _ hk => trivial)), q10_3, q10_4, q10_6⟩
theorem q10_16 {P : Prop} (h : P := by repeat (first | (with_reducible first | exact HI0.out | apply IsS152.alloc | apply IsS152.drewN | apply IsS152.drew | apply IsS152.set_1 | apply IsS152.set_2 | refine IsS152.far ?_ NB0_456.out _) | exact HI0.out)) : P := h
theorem q10_17 {P : Prop} (h : P := by repeat (first | (with_reducible first | exact HB.out | apply below_alloc | apply pw_below_drewN | apply below_drew1 | refine below_set ?_ (IsS152.ge HI0.out) | refine below_set ?_ GE456.out) | exact HB.out)) : P := h
theorem q10_18 {P : Prop} (h : P := by repeat (first | (with_reducible first | exact HK.out | apply KeepBut.set_ | apply keep_drewN | apply keep_drew | apply keep_alloc | refine keep_far ?_ GW456.out _) | exact HK.out)) : P := h
theorem q10_22 {P : Prop} (h : P := by (with_reducible repeat (first | refine blk_drewN ?_ _ | refine blk_drew ?_ | refine blk_alloc ?_ _)); exact BK456.out) : P := h
theorem q10_23 {P : Prop} (h : P := by (with_reducible repeat (first | apply Kd.R_alloc | apply Kd.R_drewN | apply Kd.R_drew)); exact HO459.out) : P := h
def spec_l3Draw.f (k : Nat) (s0_0 : List Int) (s0_1 : Int) (s0_2 : Int) : Option (Int × List Int × Int × Int) := (spec_l1PickInt.f s0_0 s0_1 s0_2 (([0, 1, 2, 3, 3, 4, 4, 5, 5] : List Int))).bind fun bt460 => ((spec_l3Make.f k s0_0 bt460.2.1 bt460.2.2 bt460.1 6).bind fun bt463 => (some (bt463.1, bt463.2.1, bt463.2.2.1, bt463.2.2.2)))
set_option maxHeartbeats 40000000 in
set_option maxRecDepth 100000 in
theorem spec_l3Draw.calls (k : Nat) (g : Nat) (s0_0 : List Int) (s0_1 : Int) (s0_2 : Int) (r1 : Int) (r2 : List Int) (r3 : Int) (r4 : Int) (w0 w : World) (hI : IsS152 w0 w g s0_0 s0_1 s0_2) (hB : Below w0.heap.size w0 w) (h : spec_l3Draw.f k s0_0 s0_1 s0_2 = some (r1, r2, r3, r4)) :
  Calls Tryz.prog 205 #[.pointer (some ⟨g, 0, none⟩)] w fun e w' => ∃ v1_ : Value, e = .returned (.agg #[.int .i64 r1, v1_]) ∧ Kd.R (Kd.int .i64) 3 w' w.heap.size (fun _ => True) v1_ r2 ∧ IsS152 w0 w' g s0_0 r3 r4 ∧ Below w0.heap.size w0 w' ∧ KeepBut w w' g none := by
 have hu29 := Tryz.underlying29; have HI0 := Aside0.mk hI; have HK := Aside0.mk (KeepBut.refl w g none); have HL := Aside0.mk hB.size; clear hI; have HW0 := Aside0.mk hB.size; have HB := Aside0.mk hB; clear hB; have H := h; clear h; unfold spec_l3Draw.f at H; obtain ⟨y457, hy457⟩ : ∃ y_ : List Int, y_ = (([0, 1, 2, 3, 3, 4, 4, 5, 5] : List Int)) := ⟨_, rfl⟩
 replace H : ((spec_l1PickInt.f s0_0 s0_1 s0_2 y457).bind fun bt460 => ((spec_l3Make.f k s0_0 bt460.2.1 bt460.2.2 bt460.1 6).bind fun bt463 => (some (bt463.1, bt463.2.1, bt463.2.2.1, bt463.2.2.2)))) = some (r1, r2, r3, r4) := by first | (rw [hy457]; with_reducible exact H) | (have H2_ := (Option.bind_some _ _).symm.trans H; rw [hy457]; with_reducible exact H2_) | (have H2_ := (Option.bind_some _ _).symm.trans H; with_reducible exact H2_) | with_reducible exact H | (rw [hy457]; exact H) | exact H
 have Ny457 := Aside0.mk hy457; clear hy457; obtain ⟨⟨t460, t461, t462⟩, A2, H⟩ := bnd10_ H; dsimp only at H; obtain ⟨⟨t463, t464, t467, t468⟩, A3, H⟩ := bnd10_ H; dsimp only at H
 simp only [Option.some.injEq, Prod.mk.injEq] at H
 obtain ⟨rfl, rfl, rfl, rfl⟩ := H
 go_enter Tryz.func205, Tryz.ntmps205
 go_wp2_with (first | (refine be_ 2 #[.int .i64 0, .slice none 0 0] 29 ?_; intro gb456 hg w4 hbox hb; have n_ := ac_ (IsS152.below s5_ hb) <| ac_ (KeepBut.trans s6_ (KeepBut.of_below hb g none) (.inl rfl)) <| ac_ (below_step (by repeat (first | (with_reducible first | exact HB.out | apply below_alloc | apply pw_below_drewN | apply below_drew1 | refine below_set ?_ (IsS152.ge HI0.out)) | exact HB.out)) hb) <| ac_ (hbox) <| ac_ ((by rw [hg]; exact (keep_size (w := w) (g := g) (row := none) s6_) : w.heap.size ≤ gb456)) <| ac_ ((Nat.le_trans HW0.out (by rw [hg]; exact (keep_size (w := w) (g := g) (row := none) s6_) : w.heap.size ≤ gb456) : w0.heap.size ≤ gb456)) <| ac_ ((nl_ hg (IsS152.lt (show IsS152 w0 _ g s0_0 s0_1 s0_2 from s5_)))) <| Aside0.mk ((ng_ hg (IsS152.lt (show IsS152 w0 _ g s0_0 s0_1 s0_2 from s5_)))); clear HI0 HK HB; obtain ⟨HI0, HK, HB, BK456, GW456, GE456, NB0_456, NB456_0⟩ := n_; clear hb hbox hg) | ((with_reducible refine gate_dst (N := 5) rfl ?_); refine Kd.R_lit (Kd.int .i64) _ 3 ?hg (N := 5) ?hd (xs := ([0, 1, 2, 3, 3, 4, 4, 5, 5] : List Int)) (inner := [.int .i64 0, .int .i64 1, .int .i64 2, .int .i64 3, .int .i64 3, .int .i64 4, .int .i64 4, .int .i64 5, .int .i64 5]) (ok := fun _ => True) (okp := fun _ => True) ?hr ?hp (fun _ hk => hk) trivial (Below.refl _ _) (Nat.le_refl _) (by simp) ?_; (case hd => rfl); (case hg => rfl); (case hr => first | (go_simp; done) | (go_simp; rfl)); (case hp => exact (Reps.one (show Kd.M (Kd.int .i64) _ _ _ 0 [.int .i64 0] from rfl) (Reps.one (show Kd.M (Kd.int .i64) _ _ _ 1 [.int .i64 1] from rfl) (Reps.one (show Kd.M (Kd.int .i64) _ _ _ 2 [.int .i64 2] from rfl) (Reps.one (show Kd.M (Kd.int .i64) _ _ _ 3 [.int .i64 3] from rfl) (Reps.one (show Kd.M (Kd.int .i64) _ _ _ 3 [.int .i64 3] from rfl) (Reps.one (show Kd.M (Kd.int .i64) _ _ _ 4 [.int .i64 4] from rfl) (Reps.one (show Kd.M (Kd.int .i64) _ _ _ 4 [.int .i64 4] from rfl) (Reps.one (show Kd.M (Kd.int .i64) _ _ _ 5 [.int .i64 5] from rfl) (Reps.one (show Kd.M (Kd.int .i64) _ _ _ 5 [.int .i64 5] from rfl) (Reps.none _ _))))))))))); intro v458 w5 ho6 hb hg_ hnew_; clear hg_ hnew_; (first | rw [← Ny457.out] at ho6 | (simp only [Int.reduceToNat] at ho6; rw [← Ny457.out] at ho6)); have n_ := ac_ (Kd.R_lower ho6 (keep_size (w := w) (g := g) (row := none) q10_18)) <| ac_ (IsS152.below q10_16 hb) <| ac_ (blk_below (g := gb456) (o := .cells #[.int .i64 0, .slice none 0 0] 29 (0, 0)) q10_22 hb) <| ac_ (KeepBut.trans q10_18 (KeepBut.of_below hb g none) (.inl rfl)) <| Aside0.mk (below_step q10_17 hb); clear HI0 BK456 HK HB; obtain ⟨HO459, HI0, BK456, HK, HB⟩ := n_; clear hb ho6; obtain ⟨Ao7, co7, eo7⟩ := Kd.R_slice HO459.out; subst eo7) | (refine gL_ 147 6 Tryz.func147 #[.pointer (some ⟨g, 0, none⟩), .slice Ao7 y457.length co7] ?_; (with_reducible refine (spec_l1PickInt.calls g s0_0 s0_1 s0_2 _ _ y457 t460 t461 t462 w0 _ ?side1 ?side2 ?side3 ?side4 ?side5 A2.out).mono ?_); (case side1 => exact q10_16); (case side2 => exact q10_17); (case side3 => repeat (first | exact (Kd.R_reads' HO459.out).2.2 | (with_reducible refine Kd.C_alloc ?_ _) | (with_reducible refine Kd.C_drewN ?_ _) | (with_reducible refine Kd.C_drew ?_))); (case side4 => exact (Kd.R_reads' HO459.out).2.1); (case side5 => exact far_slice (IsS152.own_ne HI0.out HO459.out (by decide))); rintro e w8 ⟨rfl, hi, hb, hk⟩; refine ⟨_, rfl, ?_⟩; have n_ := ac_ (KeepBut.blk hk (g' := gb456) (o := .cells #[.int .i64 0, .slice none 0 0] 29 (0, 0)) q10_22 NB456_0.out (by simp)) <| ac_ (Kd.R_mono (Kd.R_keep (IsS152.apart (show IsS152 w0 _ g s0_0 s0_1 s0_2 from q10_16) q10_23 (by decide)) hk (fun _ h => h.2)) (fun _ h => h.1)) <| ac_ (KeepBut.trans q10_18 hk (.inl rfl)) <| ac_ (hb) <| Aside0.mk (hi); clear BK456 HO459 HK HB HI0; obtain ⟨BK456, HO459, HK, HB, HI0⟩ := n_; (try clear hb hk hi)) | (refine gL_ 245 9 Tryz.func245 #[.pointer (some ⟨g, 0, none⟩), .int .i64 t460, .int .i64 6] ?_; (with_reducible refine (spec_l3Make.calls k g s0_0 t461 t462 t460 6 t463 t464 t467 t468 w0 _ ?side1 ?side2 A3.out).mono ?_); (case side1 => exact q10_16); (case side2 => exact q10_17); rintro e w9 ⟨v465, rfl, ho0, hi, hb, hk⟩; refine ⟨_, rfl, ?_⟩; have n_ := ac_ (KeepBut.blk hk (g' := gb456) (o := .cells #[.int .i64 0, .slice none 0 0] 29 (0, 0)) q10_22 NB456_0.out (by simp)) <| ac_ (Kd.R_mono (Kd.R_told (Kd.R_oldK (IsS152.apart (show IsS152 w0 _ g s0_0 t461 t462 from q10_16) q10_23 (by decide)) hk) (Kd.R_base ho0)) (fun _ h_ => h_.1)) <| ac_ (Kd.R_lower (Kd.R_new' ho0 (Kd.R_lt q10_23)) (keep_size (w := w) (g := g) (row := none) q10_18)) <| ac_ (KeepBut.trans q10_18 hk (.inl rfl)) <| ac_ (hb) <| Aside0.mk (hi); clear BK456 HO459 HK HB HI0; obtain ⟨BK456, HO459, HO466, HK, HB, HI0⟩ := n_; (try clear hb hk hi ho0); have hnb10 := NB456_0.out; have hnc10 := NB0_456.out; have hcz11_0 : w9.cell? ⟨gb456, 0, none⟩ = some (.int .i64 0) := (blk_cell BK456.out 0).trans rfl; have hcz11_1 : w9.cell? ⟨gb456, 1, none⟩ = some (.slice none 0 0) := (blk_cell BK456.out 1).trans rfl; have hfz11_0 := blk_frozen BK456.out 0; have hfz11_1 := blk_frozen BK456.out 1; obtain ⟨Ao12, co12, eo12⟩ := Kd.R_slice HO466.out; subst eo12))
 refine bodyPost_ret (results_cell_row rfl _ _ gb456 29 #[.int .i64 t463, .slice Ao12 t464.length co12] (0, 0) _ rfl (by (with_reducible repeat (first | refine blk_drewN ?_ _ | refine blk_drew ?_ | refine blk_alloc ?_ _)); refine blk_put (cs := #[.int .i64 t463, .slice none 0 0]) ?_ 1 _ rfl; (with_reducible repeat (first | refine blk_drewN ?_ _ | refine blk_drew ?_ | refine blk_alloc ?_ _)); refine blk_put (cs := #[.int .i64 0, .slice none 0 0]) ?_ 0 _ rfl; (with_reducible repeat (first | refine blk_drewN ?_ _ | refine blk_drew ?_ | refine blk_alloc ?_ _)); exact BK456.out) Tryz.underlying29 rfl (by kernel_rfl)) rfl ?_
 exact ⟨_, (by first | rfl | (simp [errW_none, errW_some] <;> rfl) | (simp [*, errW_none, errW_some] <;> rfl)), (by (with_reducible repeat (first | apply Kd.R_alloc | apply Kd.R_drewN | apply Kd.R_drew)); exact Kd.R_mono (Kd.R_far (p := ⟨gb456, 1, none⟩) (Kd.R_far (p := ⟨gb456, 0, none⟩) (Kd.R_types HO466.out BK456.out (by decide)) (fun _ hk => hk.2) (.int .i64 t463)) (fun _ hk => hk.2) (.slice Ao12 t464.length co12)) (fun _ hk => trivial)), q10_16, q10_17, q10_18⟩
end Go.Proofs.YtafnamchckehmaaGreatDoor.Pr
