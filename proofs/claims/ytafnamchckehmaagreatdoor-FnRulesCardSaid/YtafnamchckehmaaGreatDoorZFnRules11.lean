/- Functions of the program as plain functions, proofs that their calls answer so, and plain laws: what the law needs. No condition beyond what each statement says. -/
import Derived.Test.YtafnamchckehmaaGreatDoorZFnRules10
import Derived.WalkSmall
import Derived.Lib.SplitLaws
import Derived.Test.YtafnamchckehmaaGreatDoorZFnRules8
namespace Go.Proofs.YtafnamchckehmaaGreatDoor.Pr
set_option maxHeartbeats 40000000
set_option maxRecDepth 100000
open Go.RowKit Go.Proofs.YtafnamchckehmaaGreatDoorW.PrintWords Go.Proofs.YtafnamchckehmaaGreatDoorW.PrintLast Go.Proofs.YtafnamchckehmaaGreatDoorW.PrintMore
attribute [local go_sem] max2_int min2_int max_two min_two max_three min_three max_four min_four
set_option linter.unusedVariables false
set_option linter.unusedSimpArgs false
theorem bnd33_ {α β : Type} {o : Option α} {f : α → Option β} {r : β} (h : o.bind f = some r) : ∃ a, Aside0 (o = some a) ∧ f a = some r := by
 obtain ⟨a, h1, h2⟩ := Option.bind_eq_some_iff.mp h
 exact ⟨a, ⟨h1⟩, h2⟩
theorem q33_2 {P : Prop} (h : P := by repeat (first | (with_reducible first | exact HB.out | apply below_alloc | apply pw_below_drewN | apply below_drew1 | refine below_set ?_ GE809.out) | exact HB.out)) : P := h
theorem q33_5 {P : Prop} (h : P := by (with_reducible repeat (first | refine blk_drewN ?_ _ | refine blk_drew ?_ | refine blk_alloc ?_ _)); exact BK809.out) : P := h
def impl_areAttributes.f (a0_0 : Int) (l0_1 : List Int) (a1 : Int) : Option (Bool) := (impl_IsContext.f a0_0 l0_1).bind fun t810 => (if t810 = true then ((impl_IsSet.f a0_0 a1).bind fun t811 => (some t811)) else (some false))
theorem impl_areAttributes.calls (a0_0 : Int) (A0_1 : Option Addr) (c0_1 : Nat) (l0_1 : List Int) (a1 : Int) (r : Bool) (w : World) (hr0_1 : Kd.C (Kd.int .i64) w A0_1 l0_1.length l0_1) (hc0_1 : l0_1.length ≤ c0_1) (h : impl_areAttributes.f a0_0 l0_1 a1 = some r) :
  Calls Tryz.prog 175 #[.agg #[.int .i64 a0_0, .slice A0_1 l0_1.length c0_1], .int .i64 a1] w fun e w' => e = .returned (.bool r) ∧ Below w.heap.size w w' := by
 have hu29 := Tryz.underlying29; have HR0_1 := Aside0.mk hr0_1; have HC0_1 := Aside0.mk hc0_1; clear hr0_1 hc0_1; have HB := Aside0.mk (Below.refl w.heap.size w); have H := h; clear h; unfold impl_areAttributes.f at H; obtain ⟨t810, A3, H⟩ := bnd33_ H
 by_cases c4 : t810 = true
 ·
  subst c4; rw [if_pos rfl] at H; obtain ⟨t811, A5, H⟩ := bnd33_ H; obtain rfl := Option.some.inj H
  go_enter Tryz.func175, Tryz.ntmps175
  go_wp2_with (first | ((with_reducible refine gw_ rfl ?_); first | (refine be_ 2 #[.int .i64 a0_0, .slice A0_1 l0_1.length c0_1] 29 ?_; intro gb809 hg w6 hbox hb; have n_ := ac_ (below_step s1_ hb) <| ac_ (hbox) <| ac_ ((gz_ w hg s1_)) <| Aside0.mk ((gz_ w hg s1_)); clear HB; obtain ⟨HB, BK809, GW809, GE809⟩ := n_; clear hb hbox hg; have hcz7_0 : w6.cell? ⟨gb809, 0, none⟩ = some (.int .i64 a0_0) := (blk_cell BK809.out 0).trans rfl; have hcz7_1 : w6.cell? ⟨gb809, 1, none⟩ = some (.slice A0_1 l0_1.length c0_1) := (blk_cell BK809.out 1).trans rfl; have hfz7_0 := blk_frozen BK809.out 0; have hfz7_1 := blk_frozen BK809.out 1) | (refine gL_ 164 6 Tryz.func164 #[.agg #[.int .i64 a0_0, .slice A0_1 l0_1.length c0_1]] ?_; (with_reducible refine (impl_IsContext.calls a0_0 _ _ l0_1 true _ ?side1 ?side2 A3.out).mono ?_); (case side1 => exact s7_); (case side2 => exact HC0_1.out); rintro e w8 ⟨rfl, hb⟩; refine ⟨_, rfl, ?_⟩; have n_ := ac_ (blk_below (g := gb809) (o := .cells #[.int .i64 a0_0, .slice A0_1 l0_1.length c0_1] 29 (0, 0)) q33_5 hb) <| Aside0.mk (below_step q33_2 hb); clear BK809 HB; obtain ⟨BK809, HB⟩ := n_; (try clear hb); have hcz9_0 : w8.cell? ⟨gb809, 0, none⟩ = some (.int .i64 a0_0) := (blk_cell BK809.out 0).trans rfl; have hcz9_1 : w8.cell? ⟨gb809, 1, none⟩ = some (.slice A0_1 l0_1.length c0_1) := (blk_cell BK809.out 1).trans rfl; have hfz9_0 := blk_frozen BK809.out 0; have hfz9_1 := blk_frozen BK809.out 1)) | (go_at_call 130; (with_reducible refine (impl_IsSet.calls a0_0 a1 t811 _ A5.out).mono ?_); rintro e w' ⟨rfl, ⟨nd, rfl⟩⟩))
  go_ret
  exact ⟨(by first | rfl | (simp [errW_none, errW_some] <;> rfl) | (simp [*, errW_none, errW_some] <;> rfl)), q33_2⟩
 ·
  replace c4 := Bool.eq_false_iff.mpr c4; subst c4
  rw [if_neg (show ¬ (false = true) by decide)] at H
  obtain rfl := Option.some.inj H
  go_enter Tryz.func175, Tryz.ntmps175
  go_wp2_with ((with_reducible refine gw_ rfl ?_); first | (refine be_ 2 #[.int .i64 a0_0, .slice A0_1 l0_1.length c0_1] 29 ?_; intro gb809 hg w10 hbox hb; have n_ := ac_ (below_step s1_ hb) <| ac_ (hbox) <| ac_ ((gz_ w hg s1_)) <| Aside0.mk ((gz_ w hg s1_)); clear HB; obtain ⟨HB, BK809, GW809, GE809⟩ := n_; clear hb hbox hg; have hcz11_0 : w10.cell? ⟨gb809, 0, none⟩ = some (.int .i64 a0_0) := (blk_cell BK809.out 0).trans rfl; have hcz11_1 : w10.cell? ⟨gb809, 1, none⟩ = some (.slice A0_1 l0_1.length c0_1) := (blk_cell BK809.out 1).trans rfl; have hfz11_0 := blk_frozen BK809.out 0; have hfz11_1 := blk_frozen BK809.out 1) | (refine gL_ 164 6 Tryz.func164 #[.agg #[.int .i64 a0_0, .slice A0_1 l0_1.length c0_1]] ?_; (with_reducible refine (impl_IsContext.calls a0_0 _ _ l0_1 false _ ?side1 ?side2 A3.out).mono ?_); (case side1 => exact s7_); (case side2 => exact HC0_1.out); rintro e w12 ⟨rfl, hb⟩; refine ⟨_, rfl, ?_⟩; have n_ := ac_ (blk_below (g := gb809) (o := .cells #[.int .i64 a0_0, .slice A0_1 l0_1.length c0_1] 29 (0, 0)) q33_5 hb) <| Aside0.mk (below_step q33_2 hb); clear BK809 HB; obtain ⟨BK809, HB⟩ := n_; (try clear hb)))
  go_ret
  exact ⟨(by first | rfl | (simp [errW_none, errW_some] <;> rfl) | (simp [*, errW_none, errW_some] <;> rfl)), q33_2⟩
theorem q33_7 {P : Prop} (h : P := by repeat (first | (with_reducible first | exact HB.out | apply below_alloc | apply pw_below_drewN | apply below_drew1 | refine below_set ?_ GE813.out) | exact HB.out)) : P := h
theorem q33_10 {P : Prop} (h : P := by (with_reducible repeat (first | refine blk_drewN ?_ _ | refine blk_drew ?_ | refine blk_alloc ?_ _)); exact BK813.out) : P := h
def impl_areObjects.f (a0_0 : Int) (l0_1 : List Int) (a1 : Int) : Option (Bool) := (impl_IsContext.f a0_0 l0_1).bind fun t814 => (if t814 = true then ((impl_IsSet.f (l0_1.length : Int) a1).bind fun t815 => (some t815)) else (some false))
theorem impl_areObjects.calls (a0_0 : Int) (A0_1 : Option Addr) (c0_1 : Nat) (l0_1 : List Int) (a1 : Int) (r : Bool) (w : World) (hr0_1 : Kd.C (Kd.int .i64) w A0_1 l0_1.length l0_1) (hc0_1 : l0_1.length ≤ c0_1) (h : impl_areObjects.f a0_0 l0_1 a1 = some r) :
  Calls Tryz.prog 256 #[.agg #[.int .i64 a0_0, .slice A0_1 l0_1.length c0_1], .int .i64 a1] w fun e w' => e = .returned (.bool r) ∧ Below w.heap.size w w' := by
 have hu29 := Tryz.underlying29; have HR0_1 := Aside0.mk hr0_1; have HC0_1 := Aside0.mk hc0_1; clear hr0_1 hc0_1; have HB := Aside0.mk (Below.refl w.heap.size w); have H := h; clear h; unfold impl_areObjects.f at H; obtain ⟨t814, A3, H⟩ := bnd33_ H
 by_cases c4 : t814 = true
 ·
  subst c4; rw [if_pos rfl] at H; obtain ⟨t815, A5, H⟩ := bnd33_ H; obtain rfl := Option.some.inj H
  go_enter Tryz.func256, Tryz.ntmps256
  go_wp2_with (first | ((with_reducible refine gw_ rfl ?_); (refine gL_ 164 6 Tryz.func164 #[.agg #[.int .i64 a0_0, .slice A0_1 l0_1.length c0_1]] ?_; (with_reducible refine (impl_IsContext.calls a0_0 _ _ l0_1 true _ ?side1 ?side2 A3.out).mono ?_); (case side1 => exact s7_); (case side2 => exact HC0_1.out); rintro e w8 ⟨rfl, hb⟩; refine ⟨_, rfl, ?_⟩; have n_ := ac_ (blk_below (g := gb813) (o := .cells #[.int .i64 a0_0, .slice A0_1 l0_1.length c0_1] 29 (0, 0)) q33_10 hb) <| Aside0.mk (below_step q33_7 hb); clear BK813 HB; obtain ⟨BK813, HB⟩ := n_; (try clear hb); have hcz9_0 : w8.cell? ⟨gb813, 0, none⟩ = some (.int .i64 a0_0) := (blk_cell BK813.out 0).trans rfl; have hcz9_1 : w8.cell? ⟨gb813, 1, none⟩ = some (.slice A0_1 l0_1.length c0_1) := (blk_cell BK813.out 1).trans rfl; have hfz9_0 := blk_frozen BK813.out 0; have hfz9_1 := blk_frozen BK813.out 1)) | ((with_reducible refine gate_dst (N := 2) rfl ?_); (try (refine gate_guard (by rfl) ?_; dsimp only)); refine box_event ?hg (N := 2) ?hd (cs := #[.int .i64 a0_0, .slice A0_1 l0_1.length c0_1]) (t := 29) ?hr ?_; (case hd => rfl); (case hg => rfl); (case hr => first | (go_simp; done) | (go_simp; rfl)); intro gb813 hg w6 hbox hb; have n_ := ac_ (below_step s1_ hb) <| ac_ (hbox) <| ac_ ((gz_ w hg s1_)) <| Aside0.mk ((gz_ w hg s1_)); clear HB; obtain ⟨HB, BK813, GW813, GE813⟩ := n_; clear hb hbox hg; have hcz7_0 : w6.cell? ⟨gb813, 0, none⟩ = some (.int .i64 a0_0) := (blk_cell BK813.out 0).trans rfl; have hcz7_1 : w6.cell? ⟨gb813, 1, none⟩ = some (.slice A0_1 l0_1.length c0_1) := (blk_cell BK813.out 1).trans rfl; have hfz7_0 := blk_frozen BK813.out 0; have hfz7_1 := blk_frozen BK813.out 1) | (go_at_call 130; (with_reducible refine (impl_IsSet.calls (l0_1.length : Int) a1 t815 _ A5.out).mono ?_); rintro e w' ⟨rfl, ⟨nd, rfl⟩⟩))
  go_ret
  exact ⟨(by first | rfl | (simp [errW_none, errW_some] <;> rfl) | (simp [*, errW_none, errW_some] <;> rfl)), q33_7⟩
 ·
  replace c4 := Bool.eq_false_iff.mpr c4; subst c4
  rw [if_neg (show ¬ (false = true) by decide)] at H
  obtain rfl := Option.some.inj H
  go_enter Tryz.func256, Tryz.ntmps256
  go_wp2_with (first | ((with_reducible refine gw_ rfl ?_); (refine gL_ 164 6 Tryz.func164 #[.agg #[.int .i64 a0_0, .slice A0_1 l0_1.length c0_1]] ?_; (with_reducible refine (impl_IsContext.calls a0_0 _ _ l0_1 false _ ?side1 ?side2 A3.out).mono ?_); (case side1 => exact s7_); (case side2 => exact HC0_1.out); rintro e w12 ⟨rfl, hb⟩; refine ⟨_, rfl, ?_⟩; have n_ := ac_ (blk_below (g := gb813) (o := .cells #[.int .i64 a0_0, .slice A0_1 l0_1.length c0_1] 29 (0, 0)) q33_10 hb) <| Aside0.mk (below_step q33_7 hb); clear BK813 HB; obtain ⟨BK813, HB⟩ := n_; (try clear hb))) | ((with_reducible refine gate_dst (N := 2) rfl ?_); (try (refine gate_guard (by rfl) ?_; dsimp only)); refine box_event ?hg (N := 2) ?hd (cs := #[.int .i64 a0_0, .slice A0_1 l0_1.length c0_1]) (t := 29) ?hr ?_; (case hd => rfl); (case hg => rfl); (case hr => first | (go_simp; done) | (go_simp; rfl)); intro gb813 hg w10 hbox hb; have n_ := ac_ (below_step s1_ hb) <| ac_ (hbox) <| ac_ ((gz_ w hg s1_)) <| Aside0.mk ((gz_ w hg s1_)); clear HB; obtain ⟨HB, BK813, GW813, GE813⟩ := n_; clear hb hbox hg; have hcz11_0 : w10.cell? ⟨gb813, 0, none⟩ = some (.int .i64 a0_0) := (blk_cell BK813.out 0).trans rfl; have hcz11_1 : w10.cell? ⟨gb813, 1, none⟩ = some (.slice A0_1 l0_1.length c0_1) := (blk_cell BK813.out 1).trans rfl; have hfz11_0 := blk_frozen BK813.out 0; have hfz11_1 := blk_frozen BK813.out 1))
  go_ret
  exact ⟨(by first | rfl | (simp [errW_none, errW_some] <;> rfl) | (simp [*, errW_none, errW_some] <;> rfl)), q33_7⟩
theorem q33_11 {P : Prop} (h : P := by repeat (first | exact (Kd.C_below HR0_1.out (by repeat (first | (with_reducible first | exact HB.out | apply below_alloc | apply pw_below_drewN | apply below_drew1 | refine below_set ?_ GE818.out) | exact HB.out))) | (with_reducible refine Kd.C_alloc ?_ _) | (with_reducible refine Kd.C_drewN ?_ _) | (with_reducible refine Kd.C_drew ?_))) : P := h
theorem q33_13 {P : Prop} (h : P := by repeat (first | (with_reducible first | exact HB.out | apply below_alloc | apply pw_below_drewN | apply below_drew1 | refine below_set ?_ GE818.out) | exact HB.out)) : P := h
theorem q33_15 {P : Prop} (h : P := by (with_reducible repeat (first | refine blk_drewN ?_ _ | refine blk_drew ?_ | refine blk_alloc ?_ _)); exact BK818.out) : P := h
def impl_IntentOf.f (k : Nat) (a0_0 : Int) (l0_1 : List Int) (a1 : Int) : Option (Int) := (impl_areObjects.f a0_0 l0_1 a1).bind fun t819 => (if t819 = true then ((impl_FullSet.f a0_0).bind fun t820 => ((impl_common.f k l0_1 a1 t820).bind fun t821 => (some t821))) else (some 0))
theorem impl_IntentOf.calls (k : Nat) (a0_0 : Int) (A0_1 : Option Addr) (c0_1 : Nat) (l0_1 : List Int) (a1 : Int) (r : Int) (w : World) (hr0_1 : Kd.C (Kd.int .i64) w A0_1 l0_1.length l0_1) (hc0_1 : l0_1.length ≤ c0_1) (h : impl_IntentOf.f k a0_0 l0_1 a1 = some r) :
  Calls Tryz.prog 226 #[.agg #[.int .i64 a0_0, .slice A0_1 l0_1.length c0_1], .int .i64 a1] w fun e w' => e = .returned (.int .i64 r) ∧ Below w.heap.size w w' := by
 have hu29 := Tryz.underlying29; have HR0_1 := Aside0.mk hr0_1; have HC0_1 := Aside0.mk hc0_1; clear hr0_1 hc0_1; have HB := Aside0.mk (Below.refl w.heap.size w); have H := h; clear h; unfold impl_IntentOf.f at H; obtain ⟨t819, A3, H⟩ := bnd33_ H
 by_cases c4 : t819 = true
 ·
  subst c4; rw [if_pos rfl] at H; obtain ⟨t820, A5, H⟩ := bnd33_ H; obtain ⟨t821, A6, H⟩ := bnd33_ H; obtain rfl := Option.some.inj H
  go_enter Tryz.func226, Tryz.ntmps226
  go_wp2_with (first | ((with_reducible refine gw_ rfl ?_); (refine be_ 2 #[.int .i64 a0_0, .slice A0_1 l0_1.length c0_1] 29 ?_; intro gb818 hg w7 hbox hb; have n_ := ac_ (below_step s1_ hb) <| ac_ (hbox) <| ac_ ((gz_ w hg s1_)) <| Aside0.mk ((gz_ w hg s1_)); clear HB; obtain ⟨HB, BK818, GW818, GE818⟩ := n_; clear hb hbox hg; have hcz8_0 : w7.cell? ⟨gb818, 0, none⟩ = some (.int .i64 a0_0) := (blk_cell BK818.out 0).trans rfl; have hcz8_1 : w7.cell? ⟨gb818, 1, none⟩ = some (.slice A0_1 l0_1.length c0_1) := (blk_cell BK818.out 1).trans rfl; have hfz8_0 := blk_frozen BK818.out 0; have hfz8_1 := blk_frozen BK818.out 1)) | (go_at_call 256; (with_reducible refine (impl_areObjects.calls a0_0 _ _ l0_1 a1 true _ ?side1 ?side2 A3.out).mono ?_); (case side1 => exact s7_); (case side2 => exact HC0_1.out); rintro e w9 ⟨rfl, hb⟩; have n_ := ac_ (blk_below (g := gb818) (o := .cells #[.int .i64 a0_0, .slice A0_1 l0_1.length c0_1] 29 (0, 0)) q33_15 hb) <| Aside0.mk (below_step q33_13 hb); clear BK818 HB; obtain ⟨BK818, HB⟩ := n_; (try clear hb); have hcz10_0 : w9.cell? ⟨gb818, 0, none⟩ = some (.int .i64 a0_0) := (blk_cell BK818.out 0).trans rfl; have hcz10_1 : w9.cell? ⟨gb818, 1, none⟩ = some (.slice A0_1 l0_1.length c0_1) := (blk_cell BK818.out 1).trans rfl; have hfz10_0 := blk_frozen BK818.out 0; have hfz10_1 := blk_frozen BK818.out 1) | (go_at_call 129; (with_reducible refine (impl_FullSet.calls a0_0 t820 _ A5.out).mono ?_); rintro e w' ⟨rfl, ⟨nd, rfl⟩⟩; (try exact dn_)) | (go_at_call 257; (with_reducible refine (impl_common.calls k _ _ l0_1 a1 t820 t821 _ ?side1 ?side2 A6.out).mono ?_); (case side1 => exact q33_11); (case side2 => exact HC0_1.out); rintro e w' ⟨rfl, ⟨nd, rfl⟩⟩; (try exact dn_)))
  repeat (go_quiet (first | (refine be_ 2 #[.int .i64 a0_0, .slice A0_1 l0_1.length c0_1] 29 ?_; intro gb818 hg w7 hbox hb; have n_ := ac_ (below_step s1_ hb) <| ac_ (hbox) <| ac_ ((gz_ w hg s1_)) <| Aside0.mk ((gz_ w hg s1_)); clear HB; obtain ⟨HB, BK818, GW818, GE818⟩ := n_; clear hb hbox hg; have hcz8_0 : w7.cell? ⟨gb818, 0, none⟩ = some (.int .i64 a0_0) := (blk_cell BK818.out 0).trans rfl; have hcz8_1 : w7.cell? ⟨gb818, 1, none⟩ = some (.slice A0_1 l0_1.length c0_1) := (blk_cell BK818.out 1).trans rfl; have hfz8_0 := blk_frozen BK818.out 0; have hfz8_1 := blk_frozen BK818.out 1) | (go_at_call 256; (with_reducible refine (impl_areObjects.calls a0_0 _ _ l0_1 a1 true _ ?side1 ?side2 A3.out).mono ?_); (case side1 => exact s7_); (case side2 => exact HC0_1.out); rintro e w9 ⟨rfl, hb⟩; have n_ := ac_ (blk_below (g := gb818) (o := .cells #[.int .i64 a0_0, .slice A0_1 l0_1.length c0_1] 29 (0, 0)) q33_15 hb) <| Aside0.mk (below_step q33_13 hb); clear BK818 HB; obtain ⟨BK818, HB⟩ := n_; (try clear hb); have hcz10_0 : w9.cell? ⟨gb818, 0, none⟩ = some (.int .i64 a0_0) := (blk_cell BK818.out 0).trans rfl; have hcz10_1 : w9.cell? ⟨gb818, 1, none⟩ = some (.slice A0_1 l0_1.length c0_1) := (blk_cell BK818.out 1).trans rfl; have hfz10_0 := blk_frozen BK818.out 0; have hfz10_1 := blk_frozen BK818.out 1) | (go_at_call 129; (with_reducible refine (impl_FullSet.calls a0_0 t820 _ A5.out).mono ?_); rintro e w' ⟨rfl, ⟨nd, rfl⟩⟩; (try exact dn_)) | (go_at_call 257; (with_reducible refine (impl_common.calls k _ _ l0_1 a1 t820 t821 _ ?side1 ?side2 A6.out).mono ?_); (case side1 => exact q33_11); (case side2 => exact HC0_1.out); rintro e w' ⟨rfl, ⟨nd, rfl⟩⟩; (try exact dn_))); try go_wp2_with (first | ((with_reducible refine gw_ rfl ?_); (refine be_ 2 #[.int .i64 a0_0, .slice A0_1 l0_1.length c0_1] 29 ?_; intro gb818 hg w7 hbox hb; have n_ := ac_ (below_step s1_ hb) <| ac_ (hbox) <| ac_ ((gz_ w hg s1_)) <| Aside0.mk ((gz_ w hg s1_)); clear HB; obtain ⟨HB, BK818, GW818, GE818⟩ := n_; clear hb hbox hg; have hcz8_0 : w7.cell? ⟨gb818, 0, none⟩ = some (.int .i64 a0_0) := (blk_cell BK818.out 0).trans rfl; have hcz8_1 : w7.cell? ⟨gb818, 1, none⟩ = some (.slice A0_1 l0_1.length c0_1) := (blk_cell BK818.out 1).trans rfl; have hfz8_0 := blk_frozen BK818.out 0; have hfz8_1 := blk_frozen BK818.out 1)) | (go_at_call 256; (with_reducible refine (impl_areObjects.calls a0_0 _ _ l0_1 a1 true _ ?side1 ?side2 A3.out).mono ?_); (case side1 => exact s7_); (case side2 => exact HC0_1.out); rintro e w9 ⟨rfl, hb⟩; have n_ := ac_ (blk_below (g := gb818) (o := .cells #[.int .i64 a0_0, .slice A0_1 l0_1.length c0_1] 29 (0, 0)) q33_15 hb) <| Aside0.mk (below_step q33_13 hb); clear BK818 HB; obtain ⟨BK818, HB⟩ := n_; (try clear hb); have hcz10_0 : w9.cell? ⟨gb818, 0, none⟩ = some (.int .i64 a0_0) := (blk_cell BK818.out 0).trans rfl; have hcz10_1 : w9.cell? ⟨gb818, 1, none⟩ = some (.slice A0_1 l0_1.length c0_1) := (blk_cell BK818.out 1).trans rfl; have hfz10_0 := blk_frozen BK818.out 0; have hfz10_1 := blk_frozen BK818.out 1) | (go_at_call 129; (with_reducible refine (impl_FullSet.calls a0_0 t820 _ A5.out).mono ?_); rintro e w' ⟨rfl, ⟨nd, rfl⟩⟩; (try exact dn_)) | (go_at_call 257; (with_reducible refine (impl_common.calls k _ _ l0_1 a1 t820 t821 _ ?side1 ?side2 A6.out).mono ?_); (case side1 => exact q33_11); (case side2 => exact HC0_1.out); rintro e w' ⟨rfl, ⟨nd, rfl⟩⟩; (try exact dn_))))
  go_ret
  exact ⟨(by first | rfl | (simp [errW_none, errW_some] <;> rfl) | (simp [*, errW_none, errW_some] <;> rfl)), q33_13⟩
 ·
  replace c4 := Bool.eq_false_iff.mpr c4; subst c4
  rw [if_neg (show ¬ (false = true) by decide)] at H
  obtain rfl := Option.some.inj H
  go_enter Tryz.func226, Tryz.ntmps226
  go_wp2_with (first | ((with_reducible refine gw_ rfl ?_); (refine be_ 2 #[.int .i64 a0_0, .slice A0_1 l0_1.length c0_1] 29 ?_; intro gb818 hg w11 hbox hb; have n_ := ac_ (below_step s1_ hb) <| ac_ (hbox) <| ac_ ((gz_ w hg s1_)) <| Aside0.mk ((gz_ w hg s1_)); clear HB; obtain ⟨HB, BK818, GW818, GE818⟩ := n_; clear hb hbox hg; have hcz12_0 : w11.cell? ⟨gb818, 0, none⟩ = some (.int .i64 a0_0) := (blk_cell BK818.out 0).trans rfl; have hcz12_1 : w11.cell? ⟨gb818, 1, none⟩ = some (.slice A0_1 l0_1.length c0_1) := (blk_cell BK818.out 1).trans rfl; have hfz12_0 := blk_frozen BK818.out 0; have hfz12_1 := blk_frozen BK818.out 1)) | (go_at_call 256; (with_reducible refine (impl_areObjects.calls a0_0 _ _ l0_1 a1 false _ ?side1 ?side2 A3.out).mono ?_); (case side1 => exact s7_); (case side2 => exact HC0_1.out); rintro e w13 ⟨rfl, hb⟩; have n_ := ac_ (blk_below (g := gb818) (o := .cells #[.int .i64 a0_0, .slice A0_1 l0_1.length c0_1] 29 (0, 0)) q33_15 hb) <| Aside0.mk (below_step q33_13 hb); clear BK818 HB; obtain ⟨BK818, HB⟩ := n_; (try clear hb)))
  repeat (go_quiet (first | (refine be_ 2 #[.int .i64 a0_0, .slice A0_1 l0_1.length c0_1] 29 ?_; intro gb818 hg w11 hbox hb; have n_ := ac_ (below_step s1_ hb) <| ac_ (hbox) <| ac_ ((gz_ w hg s1_)) <| Aside0.mk ((gz_ w hg s1_)); clear HB; obtain ⟨HB, BK818, GW818, GE818⟩ := n_; clear hb hbox hg; have hcz12_0 : w11.cell? ⟨gb818, 0, none⟩ = some (.int .i64 a0_0) := (blk_cell BK818.out 0).trans rfl; have hcz12_1 : w11.cell? ⟨gb818, 1, none⟩ = some (.slice A0_1 l0_1.length c0_1) := (blk_cell BK818.out 1).trans rfl; have hfz12_0 := blk_frozen BK818.out 0; have hfz12_1 := blk_frozen BK818.out 1) | (go_at_call 256; (with_reducible refine (impl_areObjects.calls a0_0 _ _ l0_1 a1 false _ ?side1 ?side2 A3.out).mono ?_); (case side1 => exact s7_); (case side2 => exact HC0_1.out); rintro e w13 ⟨rfl, hb⟩; have n_ := ac_ (blk_below (g := gb818) (o := .cells #[.int .i64 a0_0, .slice A0_1 l0_1.length c0_1] 29 (0, 0)) q33_15 hb) <| Aside0.mk (below_step q33_13 hb); clear BK818 HB; obtain ⟨BK818, HB⟩ := n_; (try clear hb))); try go_wp2_with (first | ((with_reducible refine gw_ rfl ?_); (refine be_ 2 #[.int .i64 a0_0, .slice A0_1 l0_1.length c0_1] 29 ?_; intro gb818 hg w11 hbox hb; have n_ := ac_ (below_step s1_ hb) <| ac_ (hbox) <| ac_ ((gz_ w hg s1_)) <| Aside0.mk ((gz_ w hg s1_)); clear HB; obtain ⟨HB, BK818, GW818, GE818⟩ := n_; clear hb hbox hg; have hcz12_0 : w11.cell? ⟨gb818, 0, none⟩ = some (.int .i64 a0_0) := (blk_cell BK818.out 0).trans rfl; have hcz12_1 : w11.cell? ⟨gb818, 1, none⟩ = some (.slice A0_1 l0_1.length c0_1) := (blk_cell BK818.out 1).trans rfl; have hfz12_0 := blk_frozen BK818.out 0; have hfz12_1 := blk_frozen BK818.out 1)) | (go_at_call 256; (with_reducible refine (impl_areObjects.calls a0_0 _ _ l0_1 a1 false _ ?side1 ?side2 A3.out).mono ?_); (case side1 => exact s7_); (case side2 => exact HC0_1.out); rintro e w13 ⟨rfl, hb⟩; have n_ := ac_ (blk_below (g := gb818) (o := .cells #[.int .i64 a0_0, .slice A0_1 l0_1.length c0_1] 29 (0, 0)) q33_15 hb) <| Aside0.mk (below_step q33_13 hb); clear BK818 HB; obtain ⟨BK818, HB⟩ := n_; (try clear hb))))
  go_ret
  exact ⟨(by first | rfl | (simp [errW_none, errW_some] <;> rfl) | (simp [*, errW_none, errW_some] <;> rfl)), q33_13⟩
theorem q33_17 {P : Prop} (h : P := by repeat (first | (with_reducible first | exact HB.out | apply below_alloc | apply pw_below_drewN | apply below_drew1 | refine below_set ?_ GE822.out) | exact HB.out)) : P := h
theorem q33_20 {P : Prop} (h : P := by (with_reducible repeat (first | refine blk_drewN ?_ _ | refine blk_drew ?_ | refine blk_alloc ?_ _)); exact BK822.out) : P := h
def impl_isAttribute.f (a0_0 : Int) (l0_1 : List Int) (a1 : Int) : Option (Bool) := (impl_IsContext.f a0_0 l0_1).bind fun t823 => (if t823 = true then ((impl_within.f a1 0 (wrap64 (a0_0 - 1))).bind fun t824 => (some t824)) else (some false))
theorem impl_isAttribute.calls (a0_0 : Int) (A0_1 : Option Addr) (c0_1 : Nat) (l0_1 : List Int) (a1 : Int) (r : Bool) (w : World) (hr0_1 : Kd.C (Kd.int .i64) w A0_1 l0_1.length l0_1) (hc0_1 : l0_1.length ≤ c0_1) (h : impl_isAttribute.f a0_0 l0_1 a1 = some r) :
  Calls Tryz.prog 291 #[.agg #[.int .i64 a0_0, .slice A0_1 l0_1.length c0_1], .int .i64 a1] w fun e w' => e = .returned (.bool r) ∧ Below w.heap.size w w' := by
 have hu29 := Tryz.underlying29; have HR0_1 := Aside0.mk hr0_1; have HC0_1 := Aside0.mk hc0_1; clear hr0_1 hc0_1; have HB := Aside0.mk (Below.refl w.heap.size w); have H := h; clear h; unfold impl_isAttribute.f at H; obtain ⟨t823, A3, H⟩ := bnd33_ H
 by_cases c4 : t823 = true
 ·
  subst c4; rw [if_pos rfl] at H; obtain ⟨t824, A5, H⟩ := bnd33_ H; obtain rfl := Option.some.inj H
  go_enter Tryz.func291, Tryz.ntmps291
  go_wp2_with (first | ((with_reducible refine gw_ rfl ?_); first | (refine be_ 2 #[.int .i64 a0_0, .slice A0_1 l0_1.length c0_1] 29 ?_; intro gb822 hg w6 hbox hb; have n_ := ac_ (below_step s1_ hb) <| ac_ (hbox) <| ac_ ((gz_ w hg s1_)) <| Aside0.mk ((gz_ w hg s1_)); clear HB; obtain ⟨HB, BK822, GW822, GE822⟩ := n_; clear hb hbox hg; have hcz7_0 : w6.cell? ⟨gb822, 0, none⟩ = some (.int .i64 a0_0) := (blk_cell BK822.out 0).trans rfl; have hcz7_1 : w6.cell? ⟨gb822, 1, none⟩ = some (.slice A0_1 l0_1.length c0_1) := (blk_cell BK822.out 1).trans rfl; have hfz7_0 := blk_frozen BK822.out 0; have hfz7_1 := blk_frozen BK822.out 1) | (refine gL_ 164 6 Tryz.func164 #[.agg #[.int .i64 a0_0, .slice A0_1 l0_1.length c0_1]] ?_; (with_reducible refine (impl_IsContext.calls a0_0 _ _ l0_1 true _ ?side1 ?side2 A3.out).mono ?_); (case side1 => exact s7_); (case side2 => exact HC0_1.out); rintro e w8 ⟨rfl, hb⟩; refine ⟨_, rfl, ?_⟩; have n_ := ac_ (blk_below (g := gb822) (o := .cells #[.int .i64 a0_0, .slice A0_1 l0_1.length c0_1] 29 (0, 0)) q33_20 hb) <| Aside0.mk (below_step q33_17 hb); clear BK822 HB; obtain ⟨BK822, HB⟩ := n_; (try clear hb); have hcz9_0 : w8.cell? ⟨gb822, 0, none⟩ = some (.int .i64 a0_0) := (blk_cell BK822.out 0).trans rfl; have hcz9_1 : w8.cell? ⟨gb822, 1, none⟩ = some (.slice A0_1 l0_1.length c0_1) := (blk_cell BK822.out 1).trans rfl; have hfz9_0 := blk_frozen BK822.out 0; have hfz9_1 := blk_frozen BK822.out 1)) | (go_at_call 127; (with_reducible refine (impl_within.calls a1 0 (wrap64 (a0_0 - 1)) t824 _ A5.out).mono ?_); rintro e w' ⟨rfl, ⟨nd, rfl⟩⟩))
  go_ret
  exact ⟨(by first | rfl | (simp [errW_none, errW_some] <;> rfl) | (simp [*, errW_none, errW_some] <;> rfl)), q33_17⟩
 ·
  replace c4 := Bool.eq_false_iff.mpr c4; subst c4
  rw [if_neg (show ¬ (false = true) by decide)] at H
  obtain rfl := Option.some.inj H
  go_enter Tryz.func291, Tryz.ntmps291
  go_wp2_with ((with_reducible refine gw_ rfl ?_); first | (refine be_ 2 #[.int .i64 a0_0, .slice A0_1 l0_1.length c0_1] 29 ?_; intro gb822 hg w10 hbox hb; have n_ := ac_ (below_step s1_ hb) <| ac_ (hbox) <| ac_ ((gz_ w hg s1_)) <| Aside0.mk ((gz_ w hg s1_)); clear HB; obtain ⟨HB, BK822, GW822, GE822⟩ := n_; clear hb hbox hg; have hcz11_0 : w10.cell? ⟨gb822, 0, none⟩ = some (.int .i64 a0_0) := (blk_cell BK822.out 0).trans rfl; have hcz11_1 : w10.cell? ⟨gb822, 1, none⟩ = some (.slice A0_1 l0_1.length c0_1) := (blk_cell BK822.out 1).trans rfl; have hfz11_0 := blk_frozen BK822.out 0; have hfz11_1 := blk_frozen BK822.out 1) | (refine gL_ 164 6 Tryz.func164 #[.agg #[.int .i64 a0_0, .slice A0_1 l0_1.length c0_1]] ?_; (with_reducible refine (impl_IsContext.calls a0_0 _ _ l0_1 false _ ?side1 ?side2 A3.out).mono ?_); (case side1 => exact s7_); (case side2 => exact HC0_1.out); rintro e w12 ⟨rfl, hb⟩; refine ⟨_, rfl, ?_⟩; have n_ := ac_ (blk_below (g := gb822) (o := .cells #[.int .i64 a0_0, .slice A0_1 l0_1.length c0_1] 29 (0, 0)) q33_20 hb) <| Aside0.mk (below_step q33_17 hb); clear BK822 HB; obtain ⟨BK822, HB⟩ := n_; (try clear hb)))
  go_ret
  exact ⟨(by first | rfl | (simp [errW_none, errW_some] <;> rfl) | (simp [*, errW_none, errW_some] <;> rfl)), q33_17⟩
theorem q33_22 {P : Prop} (h : P := by repeat (first | (with_reducible first | exact HB.out | apply below_alloc | apply pw_below_drewN | apply below_drew1 | refine below_set ?_ GE825.out) | exact HB.out)) : P := h
theorem q33_25 {P : Prop} (h : P := by (with_reducible repeat (first | refine blk_drewN ?_ _ | refine blk_drew ?_ | refine blk_alloc ?_ _)); exact BK825.out) : P := h
def impl_ColumnOf.l0 : Nat → Int → Int → List Int → Int → Int → Option (Int)
 | 0, _, _, _, _, _ => none
 | k + 1, x1, x5, x13, x14, x15 => if x15 < x14 then (if 0 ≤ x15 then (if x15 < (x13.length : Int) then (if 0 ≤ x1 then (impl_ColumnOf.l0 k x1 (Go.bits .or .i64 x5 (shl .i64 (Go.bits .and .i64 (shr .i64 (rd x13 x15) x1) 1) x15)) x13 x14 (wrap64 (x15 + 1))) else (none)) else (none)) else (none)) else (some x5)
def impl_ColumnOf.f (k : Nat) (a0_0 : Int) (l0_1 : List Int) (a1 : Int) : Option (Int) := (impl_isAttribute.f a0_0 l0_1 a1).bind fun t826 => (if t826 = true then (impl_ColumnOf.l0 k a1 0 l0_1 (l0_1.length : Int) 0) else (some 0))
theorem impl_ColumnOf.calls (k : Nat) (a0_0 : Int) (A0_1 : Option Addr) (c0_1 : Nat) (l0_1 : List Int) (a1 : Int) (r : Int) (w : World) (hr0_1 : Kd.C (Kd.int .i64) w A0_1 l0_1.length l0_1) (hc0_1 : l0_1.length ≤ c0_1) (h : impl_ColumnOf.f k a0_0 l0_1 a1 = some r) :
  Calls Tryz.prog 274 #[.agg #[.int .i64 a0_0, .slice A0_1 l0_1.length c0_1], .int .i64 a1] w fun e w' => e = .returned (.int .i64 r) ∧ Below w.heap.size w w' := by
 have hu29 := Tryz.underlying29; have HR0_1 := Aside0.mk hr0_1; have HC0_1 := Aside0.mk hc0_1; clear hr0_1 hc0_1; have HB := Aside0.mk (Below.refl w.heap.size w); have H := h; clear h; unfold impl_ColumnOf.f at H; obtain ⟨t826, A3, H⟩ := bnd33_ H
 by_cases c4 : t826 = true
 ·
  subst c4; rw [if_pos rfl] at H; have H' := Aside0.mk H; clear H
  go_enter Tryz.func274, Tryz.ntmps274
  go_wp2_with ((with_reducible refine gw_ rfl ?_); first | (refine be_ 2 #[.int .i64 a0_0, .slice A0_1 l0_1.length c0_1] 29 ?_; intro gb825 hg w5 hbox hb; have n_ := ac_ (below_step s1_ hb) <| ac_ (hbox) <| ac_ ((gz_ w hg s1_)) <| Aside0.mk ((gz_ w hg s1_)); clear HB; obtain ⟨HB, BK825, GW825, GE825⟩ := n_; clear hb hbox hg; have hcz6_0 : w5.cell? ⟨gb825, 0, none⟩ = some (.int .i64 a0_0) := (blk_cell BK825.out 0).trans rfl; have hcz6_1 : w5.cell? ⟨gb825, 1, none⟩ = some (.slice A0_1 l0_1.length c0_1) := (blk_cell BK825.out 1).trans rfl; have hfz6_0 := blk_frozen BK825.out 0; have hfz6_1 := blk_frozen BK825.out 1) | (refine gL_ 291 10 Tryz.func291 #[.agg #[.int .i64 a0_0, .slice A0_1 l0_1.length c0_1], .int .i64 a1] ?_; (with_reducible refine (impl_isAttribute.calls a0_0 _ _ l0_1 a1 true _ ?side1 ?side2 A3.out).mono ?_); (case side1 => exact s7_); (case side2 => exact HC0_1.out); rintro e w7 ⟨rfl, hb⟩; refine ⟨_, rfl, ?_⟩; have n_ := ac_ (blk_below (g := gb825) (o := .cells #[.int .i64 a0_0, .slice A0_1 l0_1.length c0_1] 29 (0, 0)) q33_25 hb) <| Aside0.mk (below_step q33_22 hb); clear BK825 HB; obtain ⟨BK825, HB⟩ := n_; (try clear hb); have hcz8_0 : w7.cell? ⟨gb825, 0, none⟩ = some (.int .i64 a0_0) := (blk_cell BK825.out 0).trans rfl; have hcz8_1 : w7.cell? ⟨gb825, 1, none⟩ = some (.slice A0_1 l0_1.length c0_1) := (blk_cell BK825.out 1).trans rfl; have hfz8_0 := blk_frozen BK825.out 0; have hfz8_1 := blk_frozen BK825.out 1))
  go_loopg [5, 15] k (fun kq v5 v15 w' => ∃ (x5_1 : Int) (x15_1 : Int), v5 = .int .i64 x5_1 ∧ v15 = .int .i64 x15_1 ∧ Aside0 (impl_ColumnOf.l0 kq a1 x5_1 l0_1 (l0_1.length : Int) x15_1 = some r) ∧ Aside0 (kq ≤ k) ∧ Aside0 (w'.heap[gb825]? = some (.cells #[.int .i64 a0_0, (.slice A0_1 l0_1.length c0_1)] 29 (0, 0))) ∧ Aside0 (Below w.heap.size w w'))
  case atStart => exact ⟨(0), (0), s3_, s3_, H', ⟨Nat.le_refl _⟩, ⟨q33_25⟩, ⟨q33_22⟩⟩
  case round =>
   clear H'
   try clear c2
   try clear p2
   try clear c4
   try clear hcz6_0
   try clear hcz6_1
   try clear hcz8_0
   try clear hcz8_1
   try clear hfz6_0
   try clear hfz6_1
   try clear hfz8_0
   try clear hfz8_1
   obtain ⟨x5_1, x15_1, rfl, rfl, HA, HK1, BK825, HB⟩ := hrel
   cases gk with
   | zero => exact absurd HA.out (by simp [impl_ColumnOf.l0])
   | succ k1 =>
    have H := HA.out; clear HA
    simp only [impl_ColumnOf.l0] at H
    by_cases c9 : x15_1 < (l0_1.length : Int)
    ·
     rw [if_pos c9] at H; have c9b0 : decide (x15_1 < (l0_1.length : Int)) = true := decide_eq_true c9; clear c9
     by_cases c10 : 0 ≤ x15_1
     ·
      rw [if_pos c10] at H; have c10b0 : decide (0 ≤ x15_1) = true := decide_eq_true c10; clear c10
      by_cases c11 : x15_1 < (l0_1.length : Int)
      ·
       rw [if_pos c11] at H; have c11b0 : decide (x15_1 < (l0_1.length : Int)) = true := decide_eq_true c11; clear c11
       by_cases c12 : 0 ≤ a1
       ·
        rw [if_pos c12] at H; have c12b0 := eq_true c12; have c12b1 : decide (0 ≤ a1) = true := decide_eq_true c12; clear c12; obtain ⟨ji13, hji13⟩ : ∃ j_ : Int, (shr .i64 (rd l0_1 x15_1) a1) = j_ := ⟨_, rfl⟩
        replace H : (impl_ColumnOf.l0 k1 a1 (Go.bits .or .i64 x5_1 (shl .i64 (Go.bits .and .i64 (ji13) 1) x15_1)) l0_1 (l0_1.length : Int) (wrap64 (x15_1 + 1))) = some r := by first | (rw [hji13] at H; exact H) | (simp only [hji13] at H ⊢; exact H)
        have hji13_ : ((rd l0_1 x15_1) / 2 ^ min a1.toNat 64) = ji13 := hji13; have hji13z : a1 ≤ 64 → ((rd l0_1 x15_1) / 2 ^ a1.toNat) = ji13 := shr_small hji13
        have c14b0 := eq_true (of_decide_eq_true (by first | (with_reducible assumption) | assumption) : 0 ≤ x15_1)
        obtain ⟨ji15, hji15⟩ : ∃ j_ : Int, (shl .i64 (Go.bits .and .i64 (ji13) 1) x15_1) = j_ := ⟨_, rfl⟩
        replace H : (impl_ColumnOf.l0 k1 a1 (Go.bits .or .i64 x5_1 (ji15)) l0_1 (l0_1.length : Int) (wrap64 (x15_1 + 1))) = some r := by first | (rw [hji15] at H; exact H) | (simp only [hji15] at H ⊢; exact H)
        have hji15_ : (IntKind.i64.wrap ((Go.bits .and .i64 (ji13) 1) * 2 ^ min x15_1.toNat 64)) = ji15 := hji15; have hji15z : x15_1 ≤ 64 → (IntKind.i64.wrap ((Go.bits .and .i64 (ji13) 1) * 2 ^ x15_1.toNat)) = ji15 := shl_small hji15; have hji15y : (wrap64 ((Go.bits .and .i64 (ji13) 1) * 2 ^ min x15_1.toNat 64)) = ji15 := (i64_w _).symm.trans hji15_
        have hji15x : x15_1 ≤ 64 → (wrap64 ((Go.bits .and .i64 (ji13) 1) * 2 ^ x15_1.toNat)) = ji15 := fun h_ => (i64_w _).symm.trans (hji15z h_)
        have H' := Aside0.mk H; clear H
        have p827 : 0 ≤ (x15_1 : Int) := of_decide_eq_true (by first | (with_reducible assumption) | assumption)
        have q827 : x15_1 < (l0_1.length : Int) := of_decide_eq_true (by first | (with_reducible assumption) | assumption)
        obtain ⟨ad827, e827, hx827_0⟩ := Kd.at_int HR0_1.out x15_1 p827 q827
        cases e827
        replace hx827_0 := (HB.out.cell (World.block_lt_of_cell? w _ hx827_0)).trans hx827_0; replace p827 := eq_true p827; replace q827 := eq_true q827
        go_wp2
        go_roundg k1
        case measure => have := HK1.out; omega
        case rel => exact ⟨(Go.bits .or .i64 x5_1 (ji15)), (wrap64 (x15_1 + 1)), (by first | rfl | (simp; done) | (simp only [← hji15] <;> (first | rfl | simp)) | (simp [*]; done)), s3_, H', ⟨by have := HK1.out; omega⟩, ⟨q33_25⟩, ⟨q33_22⟩⟩
       ·
        rw [if_neg c12] at H
        exact absurd H (by simp)
      ·
       rw [if_neg c11] at H
       exact absurd H (by simp)
     ·
      rw [if_neg c10] at H
      exact absurd H (by simp)
    ·
     rw [if_neg c9] at H; have c9b0 : decide (x15_1 < (l0_1.length : Int)) = false := decide_eq_false c9; clear c9; obtain rfl := Option.some.inj H
     go_wp2
     go_ret
     exact ⟨(by first | rfl | (simp [errW_none, errW_some] <;> rfl) | (simp [*, errW_none, errW_some] <;> rfl)), q33_22⟩
 ·
  replace c4 := Bool.eq_false_iff.mpr c4; subst c4
  rw [if_neg (show ¬ (false = true) by decide)] at H
  obtain rfl := Option.some.inj H
  go_enter Tryz.func274, Tryz.ntmps274
  go_wp2_with ((with_reducible refine gw_ rfl ?_); first | (refine be_ 2 #[.int .i64 a0_0, .slice A0_1 l0_1.length c0_1] 29 ?_; intro gb825 hg w16 hbox hb; have n_ := ac_ (below_step s1_ hb) <| ac_ (hbox) <| ac_ ((gz_ w hg s1_)) <| Aside0.mk ((gz_ w hg s1_)); clear HB; obtain ⟨HB, BK825, GW825, GE825⟩ := n_; clear hb hbox hg; have hcz17_0 : w16.cell? ⟨gb825, 0, none⟩ = some (.int .i64 a0_0) := (blk_cell BK825.out 0).trans rfl; have hcz17_1 : w16.cell? ⟨gb825, 1, none⟩ = some (.slice A0_1 l0_1.length c0_1) := (blk_cell BK825.out 1).trans rfl; have hfz17_0 := blk_frozen BK825.out 0; have hfz17_1 := blk_frozen BK825.out 1) | (refine gL_ 291 10 Tryz.func291 #[.agg #[.int .i64 a0_0, .slice A0_1 l0_1.length c0_1], .int .i64 a1] ?_; (with_reducible refine (impl_isAttribute.calls a0_0 _ _ l0_1 a1 false _ ?side1 ?side2 A3.out).mono ?_); (case side1 => exact s7_); (case side2 => exact HC0_1.out); rintro e w18 ⟨rfl, hb⟩; refine ⟨_, rfl, ?_⟩; have n_ := ac_ (blk_below (g := gb825) (o := .cells #[.int .i64 a0_0, .slice A0_1 l0_1.length c0_1] 29 (0, 0)) q33_25 hb) <| Aside0.mk (below_step q33_22 hb); clear BK825 HB; obtain ⟨BK825, HB⟩ := n_; (try clear hb)))
  go_ret
  exact ⟨(by first | rfl | (simp [errW_none, errW_some] <;> rfl) | (simp [*, errW_none, errW_some] <;> rfl)), q33_22⟩
theorem q33_27 {P : Prop} (h : P := by repeat (first | (with_reducible first | exact HB.out | apply below_alloc | apply pw_below_drewN | apply below_drew1 | refine below_set ?_ GE828.out) | exact HB.out)) : P := h
theorem q33_29 {P : Prop} (h : P := by (with_reducible repeat (first | refine blk_drewN ?_ _ | refine blk_drew ?_ | refine blk_alloc ?_ _)); exact BK828.out) : P := h
def impl_columns.l0 : Nat → List Int → Int → Int → Int → List Int → Option (List Int)
 | 0, _, _, _, _, _ => none
 | k + 1, x3, x7, x8, x829000, x829001 => if x8 < x7 then ((impl_ColumnOf.f k x829000 x829001 x8).bind fun t832 => (if x3.length < 17592186044416 then (impl_columns.l0 k (x3 ++ [t832]) x7 (wrap64 (x8 + 1)) x829000 x829001) else (none))) else (some x3)
def impl_columns.f (k : Nat) (a0_0 : Int) (l0_1 : List Int) : Option (List Int) := impl_columns.l0 k (([] : List Int)) a0_0 0 a0_0 l0_1
theorem impl_columns.calls (k : Nat) (a0_0 : Int) (A0_1 : Option Addr) (c0_1 : Nat) (l0_1 : List Int) (r : List Int) (w : World) (hr0_1 : Kd.C (Kd.int .i64) w A0_1 l0_1.length l0_1) (hc0_1 : l0_1.length ≤ c0_1) (h : impl_columns.f k a0_0 l0_1 = some r) :
  Calls Tryz.prog 258 #[.agg #[.int .i64 a0_0, .slice A0_1 l0_1.length c0_1]] w fun e w' => ∃ v0_ : Value, e = .returned (v0_) ∧ Kd.R (Kd.int .i64) 3 w' w.heap.size (fun _ => True) v0_ r ∧ Below w.heap.size w w' := by
 have hu29 := Tryz.underlying29; have HR0_1 := Aside0.mk hr0_1; have HC0_1 := Aside0.mk hc0_1; clear hr0_1 hc0_1; have HB := Aside0.mk (Below.refl w.heap.size w); have H := h; clear h; unfold impl_columns.f at H; obtain ⟨y829, hy_⟩ : ∃ y_ : List Int, y_ = (([] : List Int)) := ⟨_, rfl⟩
 replace H : (impl_columns.l0 k y829 a0_0 0 a0_0 l0_1) = some r := rH_
 have Ny829 := Aside0.mk hy_; clear hy_; have H' := Aside0.mk H; clear H
 go_enter Tryz.func258, Tryz.ntmps258
 go_wp2_with ((with_reducible refine gw_ rfl ?_); first | (refine be_ 1 #[.int .i64 a0_0, .slice A0_1 l0_1.length c0_1] 29 ?_; intro gb828 hg w2 hbox hb; have n_ := ac_ (below_step s1_ hb) <| ac_ (hbox) <| ac_ ((gz_ w hg s1_)) <| Aside0.mk ((gz_ w hg s1_)); clear HB; obtain ⟨HB, BK828, GW828, GE828⟩ := n_; clear hb hbox hg) | (refine rl_ (Kd.int .i64) 3 5 ?_; intro v830 w3 ho4 hb hg_ hnew_; clear hg_ hnew_; (first | rw [← Ny829.out] at ho4 | (simp only [Int.reduceToNat] at ho4; rw [← Ny829.out] at ho4)); have n_ := ac_ (Kd.R_lower ho4 (below_size q33_27)) <| ac_ (blk_below (g := gb828) (o := .cells #[.int .i64 a0_0, .slice A0_1 l0_1.length c0_1] 29 (0, 0)) q33_29 hb) <| Aside0.mk (below_step q33_27 hb); clear BK828 HB; obtain ⟨HO831, BK828, HB⟩ := n_; clear hb ho4; have hcz5_0 : w3.cell? ⟨gb828, 0, none⟩ = some (.int .i64 a0_0) := (blk_cell BK828.out 0).trans rfl; have hcz5_1 : w3.cell? ⟨gb828, 1, none⟩ = some (.slice A0_1 l0_1.length c0_1) := (blk_cell BK828.out 1).trans rfl; have hfz5_0 := blk_frozen BK828.out 0; have hfz5_1 := blk_frozen BK828.out 1))
 go_loopg [3, 8] k (fun kq v3 v8 w' => ∃ (x3_1 : List Int) (x8_1 : Int), v8 = .int .i64 x8_1 ∧ Aside0 (impl_columns.l0 kq x3_1 a0_0 x8_1 a0_0 l0_1 = some r) ∧ Aside0 (kq ≤ k) ∧ Aside0 (Kd.R (Kd.int .i64) 3 w' w.heap.size (fun _ => True) v3 x3_1) ∧ Aside0 (w'.heap[gb828]? = some (.cells #[.int .i64 a0_0, (.slice A0_1 l0_1.length c0_1)] 29 (0, 0))) ∧ Aside0 (Below w.heap.size w w'))
 case atStart => exact ⟨(y829), (0), rf_, H', ⟨Nat.le_refl _⟩, ⟨(by (with_reducible repeat (first | apply Kd.R_alloc | apply Kd.R_drewN | apply Kd.R_drew)); exact HO831.out)⟩, ⟨q33_29⟩, ⟨q33_27⟩⟩
 case round =>
  clear H'
  try clear c2
  try clear p2
  try clear hcz5_0
  try clear hcz5_1
  try clear hfz5_0
  try clear hfz5_1
  obtain ⟨x3_1, x8_1, rfl, HA, HK1, HO_3, BK828, HB⟩ := hrel
  cases gk with
  | zero => exact absurd HA.out (by simp [impl_columns.l0])
  | succ k1 =>
   have H := HA.out; clear HA
   simp only [impl_columns.l0] at H
   by_cases c6 : x8_1 < a0_0
   ·
    rw [if_pos c6] at H; have c6b0 : decide (x8_1 < a0_0) = true := decide_eq_true c6; clear c6; obtain ⟨t832, A7, H⟩ := bnd33_ H
    by_cases c8 : x3_1.length < 17592186044416
    ·
     rw [if_pos c8] at H; have LMc8 := Aside0.mk c8; clear c8; obtain ⟨y833, hy_⟩ : ∃ y_ : List Int, y_ = (x3_1 ++ [t832]) := ⟨_, rfl⟩
     replace H : (impl_columns.l0 k1 y833 a0_0 (wrap64 (x8_1 + 1)) a0_0 l0_1) = some r := rH_
     have Ny833 := Aside0.mk hy_; clear hy_; have H' := Aside0.mk H; clear H; have hcz9_0 : wr.cell? ⟨gb828, 0, none⟩ = some (.int .i64 a0_0) := (blk_cell BK828.out 0).trans rfl; have hcz9_1 : wr.cell? ⟨gb828, 1, none⟩ = some (.slice A0_1 l0_1.length c0_1) := (blk_cell BK828.out 1).trans rfl; have hfz9_0 := blk_frozen BK828.out 0; have hfz9_1 := blk_frozen BK828.out 1
     go_wp2_with (first | ((with_reducible refine gate_callee (f := 274) rfl ?_); refine goesL_ (some 14) rfl rfl Tryz.func274 (by kernel_rfl) rfl #[.agg #[.int .i64 a0_0, .slice A0_1 l0_1.length c0_1], .int .i64 x8_1] rfl (by (try simp only [List.map_toArray, List.map_cons, List.map_nil]); first | done | rfl | (simp only [List.length_drop, List.length_take]; rfl)) ?_; (with_reducible refine (impl_ColumnOf.calls k1 a0_0 _ _ l0_1 x8_1 t832 _ ?side1 ?side2 A7.out).mono ?_); (case side1 => repeat (first | exact (Kd.C_below HR0_1.out HB.out) | (with_reducible refine Kd.C_alloc ?_ _) | (with_reducible refine Kd.C_drewN ?_ _) | (with_reducible refine Kd.C_drew ?_))); (case side2 => exact HC0_1.out); rintro e w10 ⟨rfl, hb⟩; refine ⟨_, rfl, ?_⟩; have n_ := ac_ (Kd.R_below s11_ hb) <| ac_ (blk_below (g := gb828) (o := .cells #[.int .i64 a0_0, .slice A0_1 l0_1.length c0_1] 29 (0, 0)) q33_29 hb) <| Aside0.mk (below_step q33_27 hb); clear HO_3 BK828 HB; obtain ⟨HO_3, BK828, HB⟩ := n_; (try clear hb)) | ((with_reducible refine gate_builtin (b := .append) (xs := #[.tmp 11, .tmp 15]) rfl ?_); at_builtin; refine Kd.R_append (Kd.int .i64) (w0 := w) w.heap.size rfl (.tmp 11) (.tmp 15) 27 3 (.int .i64 0) 8 rfl Tryz.underlying27 info3 rfl (by decide) (by omega) u3 x3_1 t832 [.int .i64 t832] (fun _ => True) (fun _ => False) rfl rfl ?aP (fun _ hk => hk.elim) ?aF ?aO ?aB ?aS ?aL ?_; (case aP => exact rfl); (case aB => exact q33_27); (case aF => exact (fun _ _ => trivial)); (case aO => exact s11_); (case aS => exact (below_size q33_27)); (case aL => have := LMc8.out; omega); intro v834 w11 ho hb hg hat; rw [← Ny833.out] at ho; have n_ := ac_ (blk_grown (g := gb828) (o := .cells #[.int .i64 a0_0, .slice A0_1 l0_1.length c0_1] 29 (0, 0)) q33_29 hg (Kd.R_ne HO_3.out BK828.out (by decide))) <| ac_ (hb) <| Aside0.mk (ho); clear BK828 HB HO_3; obtain ⟨BK828, HB, HO835⟩ := n_; clear ho hb hg hat))
     go_roundg k1
     case measure => have := HK1.out; omega
     case rel => exact ⟨(y833), (wrap64 (x8_1 + 1)), rf_, H', ⟨by have := HK1.out; omega⟩, ⟨(by (with_reducible repeat (first | apply Kd.R_alloc | apply Kd.R_drewN | apply Kd.R_drew)); exact HO835.out)⟩, ⟨q33_29⟩, ⟨q33_27⟩⟩
    ·
     rw [if_neg c8] at H
     exact absurd H (by simp)
   ·
    rw [if_neg c6] at H; have c6b0 : decide (x8_1 < a0_0) = false := decide_eq_false c6; clear c6; obtain rfl := Option.some.inj H
    go_wp2
    go_ret
    exact ⟨_, (by first | rfl | (simp [errW_none, errW_some] <;> rfl) | (simp [*, errW_none, errW_some] <;> rfl)), s11_, q33_27⟩
theorem q33_32 {P : Prop} (h : P := by repeat (first | (with_reducible first | exact HB.out | apply below_alloc | apply pw_below_drewN | apply below_drew1 | refine below_set ?_ GE836.out) | exact HB.out)) : P := h
theorem q33_35 {P : Prop} (h : P := by (with_reducible repeat (first | refine blk_drewN ?_ _ | refine blk_drew ?_ | refine blk_alloc ?_ _)); exact BK836.out) : P := h
def impl_ExtentOf.f (k : Nat) (a0_0 : Int) (l0_1 : List Int) (a1 : Int) : Option (Int) := (impl_areAttributes.f a0_0 l0_1 a1).bind fun t837 => (if t837 = true then ((impl_columns.f k a0_0 l0_1).bind fun t838 => ((impl_FullSet.f (l0_1.length : Int)).bind fun t841 => ((impl_common.f k t838 a1 t841).bind fun t842 => (some t842)))) else (some 0))
def impl_ExtentOf.T3 : Bool × List (List Nat × List Nat) := (true, [([], []), ([0], [0]), ([], []), ([], []), ([3], [3]), ([4], [4]), ([5, 1], [5]), ([1, 2, 6, 6], [1, 2, 6]), ([7, 7, 0, 1, 2, 3, 4, 5, 6, 7], [7])])
def impl_ExtentOf.B3 : List Nat := [0, 1, 0, 0, 8, 24, 59, 127, 255]
theorem impl_ExtentOf.tab3 : rtab .any (opsOf Tryz.f227 3) = impl_ExtentOf.T3 := by kernel_rfl
theorem impl_ExtentOf.bits3 : waitsOk impl_ExtentOf.T3.2 impl_ExtentOf.B3 = true := by kernel_rfl
theorem impl_ExtentOf.calls (k : Nat) (a0_0 : Int) (A0_1 : Option Addr) (c0_1 : Nat) (l0_1 : List Int) (a1 : Int) (r : Int) (w : World) (hr0_1 : Kd.C (Kd.int .i64) w A0_1 l0_1.length l0_1) (hc0_1 : l0_1.length ≤ c0_1) (h : impl_ExtentOf.f k a0_0 l0_1 a1 = some r) :
  Calls Tryz.prog 227 #[.agg #[.int .i64 a0_0, .slice A0_1 l0_1.length c0_1], .int .i64 a1] w fun e w' => e = .returned (.int .i64 r) ∧ Below w.heap.size w w' := by
 have hu29 := Tryz.underlying29; have HR0_1 := Aside0.mk hr0_1; have HC0_1 := Aside0.mk hc0_1; clear hr0_1 hc0_1; have HB := Aside0.mk (Below.refl w.heap.size w); have H := h; clear h; unfold impl_ExtentOf.f at H; obtain ⟨t837, A3, H⟩ := bnd33_ H
 by_cases c4 : t837 = true
 ·
  subst c4; rw [if_pos rfl] at H; obtain ⟨t838, A5, H⟩ := bnd33_ H; obtain ⟨t841, A6, H⟩ := bnd33_ H; obtain ⟨t842, A7, H⟩ := bnd33_ H; obtain rfl := Option.some.inj H
  go_enter Tryz.func227, Tryz.ntmps227
  try go_wp2_with ((with_reducible refine gw_ rfl ?_); first | (refine be_ 2 #[.int .i64 a0_0, .slice A0_1 l0_1.length c0_1] 29 ?_; intro gb836 hg w8 hbox hb; have n_ := ac_ (below_step s1_ hb) <| ac_ (hbox) <| ac_ ((gz_ w hg s1_)) <| Aside0.mk ((gz_ w hg s1_)); clear HB; obtain ⟨HB, BK836, GW836, GE836⟩ := n_; clear hb hbox hg; have hcz9_0 : w8.cell? ⟨gb836, 0, none⟩ = some (.int .i64 a0_0) := (blk_cell BK836.out 0).trans rfl; have hcz9_1 : w8.cell? ⟨gb836, 1, none⟩ = some (.slice A0_1 l0_1.length c0_1) := (blk_cell BK836.out 1).trans rfl; have hfz9_0 := blk_frozen BK836.out 0; have hfz9_1 := blk_frozen BK836.out 1) | (refine gL_ 175 7 Tryz.func175 #[.agg #[.int .i64 a0_0, .slice A0_1 l0_1.length c0_1], .int .i64 a1] ?_; (with_reducible refine (impl_areAttributes.calls a0_0 _ _ l0_1 a1 true _ ?side1 ?side2 A3.out).mono ?_); (case side1 => exact s7_); (case side2 => exact HC0_1.out); rintro e w10 ⟨rfl, hb⟩; refine ⟨_, rfl, ?_⟩; have n_ := ac_ (blk_below (g := gb836) (o := .cells #[.int .i64 a0_0, .slice A0_1 l0_1.length c0_1] 29 (0, 0)) q33_35 hb) <| Aside0.mk (below_step q33_32 hb); clear BK836 HB; obtain ⟨BK836, HB⟩ := n_; (try clear hb)))
  have n0_ := Aside0.mk (blk_drew BK836.out); have n1_ := Aside0.mk (below_drew1 HB.out); clear BK836; clear HB; have BK836 := n0_; have HB := n1_; clear n0_ n1_
  refine start_ (n := 9) (S := fun w' => w'.cell? ⟨gb836, 0, none⟩ = some (.int .i64 a0_0) ∧ w'.cell? ⟨gb836, 1, none⟩ = some (.slice A0_1 l0_1.length c0_1)) (ds := []) (tb_ 9 0) (by kernel_rfl) rfl rfl ⟨(blk_cell BK836.out 0).trans rfl, (blk_cell BK836.out 1).trans rfl⟩ (fun hHeld => ?_); refine with_tabW impl_ExtentOf.tab3 impl_ExtentOf.bits3 (fun HT_ HW_ => ?_)
  generalize w10.drew = w11 at BK836 HB hHeld ⊢
  refine pl_ 2 11 (tb_ 9 4) ?_; refine pl_ 3 12 (tb_ 9 12) ?_; refine tk_ 0 9 (tb_ 9 13) hHeld ?_; refine tk_ 4 13 (tb_ 9 29) hHeld ?_; refine pl_ 5 14 (tb_ 9 61) ?_
  refine on_ 1 10 (tb_ 9 63) (fun K hK => ?_)
  refine goes_ Tryz.func258 (by kernel_rfl) rfl #[.agg #[.int .i64 a0_0, .slice A0_1 l0_1.length c0_1]] (by rfl) rfl rfl s0_ ?_
  with_reducible refine (impl_columns.calls k a0_0 _ _ l0_1 t838 _ ?side1 ?side2 A5.out).mono ?_
  (case side1 => exact s7_)
  (case side2 => exact HC0_1.out)
  rintro e w12 ⟨v839, rfl, ho0, hb⟩
  refine ⟨_, rfl, ?_⟩
  have n0_ := Aside0.mk (Kd.R_lower ho0 (below_size q33_32)); have n1_ := Aside0.mk (blk_below (g := gb836) (o := .cells #[.int .i64 a0_0, .slice A0_1 l0_1.length c0_1] 29 (0, 0)) q33_35 hb); have n2_ := Aside0.mk (below_step q33_32 hb); clear BK836; clear HB; have HO840 := n0_; have BK836 := n1_; have HB := n2_; clear n0_ n1_ n2_
  (try clear hb)
  (try clear hb2)
  (try clear hk)
  (try clear hi)
  (try clear ho0)
  refine hK.out _ _ ⟨(blk_cell BK836.out 0).trans rfl, (blk_cell BK836.out 1).trans rfl⟩ (fun hHeld => ?_)
  clear hK K
  refine norm_ (a' := ?_) ?_ ?_
  rotate_left
  ·
   show Act.put _ (some 10) _ = _
   exact s9_
  refine on_ 6 15 (tb_ 9 127) (fun K hK => ?_)
  refine goes_ Tryz.func129 (by kernel_rfl) rfl #[.int .i64 (l0_1.length : Int)] (by rfl) rfl rfl s0_ ?_
  with_reducible refine (impl_FullSet.calls (l0_1.length : Int) t841 _ A6.out).mono ?_
  rintro e w' ⟨rfl, ⟨nd, rfl⟩⟩
  refine ⟨_, rfl, ?_⟩
  obtain ⟨Ao13, co13, eo13⟩ := Kd.R_slice HO840.out
  (first | subst eo13 | (injection eo13 with f1_ f2_ f3_; have f4_ := f1_.symm; have f5_ := f3_.symm; clear f1_ f2_ f3_; subst f4_; subst f5_))
  refine hK.out _ _ ⟨(blk_cell BK836.out 0).trans rfl, (blk_cell BK836.out 1).trans rfl⟩ (fun hHeld => ?_)
  clear hK K
  refine norm_ (a' := ?_) ?_ ?_
  rotate_left
  ·
   show Act.put _ (some 15) _ = _
   exact s9_
  refine on_ 7 16 (tb_ 9 255) (fun K hK => ?_)
  refine goes_ Tryz.func257 (by kernel_rfl) rfl #[.slice Ao13 t838.length co13, .int .i64 a1, .int .i64 t841] (by rfl) rfl rfl s0_ ?_
  with_reducible refine (impl_common.calls k _ _ t838 a1 t841 t842 _ ?side1 ?side2 A7.out).mono ?_
  (case side1 => repeat (first | exact (Kd.R_reads' HO840.out).2.2 | (with_reducible refine Kd.C_alloc ?_ _) | (with_reducible refine Kd.C_drewN ?_ _) | (with_reducible refine Kd.C_drew ?_)))
  (case side2 => exact (Kd.R_reads' HO840.out).2.1)
  rintro e w' ⟨rfl, ⟨nd, rfl⟩⟩
  refine ⟨_, rfl, ?_⟩
  refine hK.out _ _ ⟨(blk_cell BK836.out 0).trans rfl, (blk_cell BK836.out 1).trans rfl⟩ (fun hHeld => ?_)
  clear hK K
  refine norm_ (a' := ?_) ?_ ?_
  rotate_left
  ·
   show Act.put _ (some 16) _ = _
   exact s9_
  refine pl_ 8 4 (tb_ 9 511) ?_
  refine done_ (done_of HT_.out (by kernel_rfl)) ?_
  try go_wp2
  go_ret
  exact ⟨(by first | rfl | (simp [errW_none, errW_some] <;> rfl) | (simp [*, errW_none, errW_some] <;> rfl)), q33_32⟩
 ·
  replace c4 := Bool.eq_false_iff.mpr c4; subst c4
  rw [if_neg (show ¬ (false = true) by decide)] at H
  obtain rfl := Option.some.inj H
  go_enter Tryz.func227, Tryz.ntmps227
  go_wp2_with ((with_reducible refine gw_ rfl ?_); first | (refine be_ 2 #[.int .i64 a0_0, .slice A0_1 l0_1.length c0_1] 29 ?_; intro gb836 hg w14 hbox hb; have n_ := ac_ (below_step s1_ hb) <| ac_ (hbox) <| ac_ ((gz_ w hg s1_)) <| Aside0.mk ((gz_ w hg s1_)); clear HB; obtain ⟨HB, BK836, GW836, GE836⟩ := n_; clear hb hbox hg; have hcz15_0 : w14.cell? ⟨gb836, 0, none⟩ = some (.int .i64 a0_0) := (blk_cell BK836.out 0).trans rfl; have hcz15_1 : w14.cell? ⟨gb836, 1, none⟩ = some (.slice A0_1 l0_1.length c0_1) := (blk_cell BK836.out 1).trans rfl; have hfz15_0 := blk_frozen BK836.out 0; have hfz15_1 := blk_frozen BK836.out 1) | (refine gL_ 175 7 Tryz.func175 #[.agg #[.int .i64 a0_0, .slice A0_1 l0_1.length c0_1], .int .i64 a1] ?_; (with_reducible refine (impl_areAttributes.calls a0_0 _ _ l0_1 a1 false _ ?side1 ?side2 A3.out).mono ?_); (case side1 => exact s7_); (case side2 => exact HC0_1.out); rintro e w16 ⟨rfl, hb⟩; refine ⟨_, rfl, ?_⟩; have n_ := ac_ (blk_below (g := gb836) (o := .cells #[.int .i64 a0_0, .slice A0_1 l0_1.length c0_1] 29 (0, 0)) q33_35 hb) <| Aside0.mk (below_step q33_32 hb); clear BK836 HB; obtain ⟨BK836, HB⟩ := n_; (try clear hb)))
  go_ret
  exact ⟨(by first | rfl | (simp [errW_none, errW_some] <;> rfl) | (simp [*, errW_none, errW_some] <;> rfl)), q33_32⟩
theorem q33_37 {P : Prop} (h : P := by repeat (first | (with_reducible first | exact HB.out | apply below_alloc | apply pw_below_drewN | apply below_drew1 | refine below_set ?_ GE843.out) | exact HB.out)) : P := h
theorem q33_40 {P : Prop} (h : P := by (with_reducible repeat (first | refine blk_drewN ?_ _ | refine blk_drew ?_ | refine blk_alloc ?_ _)); exact BK843.out) : P := h
def impl_ClosureOf.f (k : Nat) (a0_0 : Int) (l0_1 : List Int) (a1 : Int) : Option (Int) := (impl_areAttributes.f a0_0 l0_1 a1).bind fun t844 => (if t844 = true then ((impl_ExtentOf.f k a0_0 l0_1 a1).bind fun t845 => ((impl_IntentOf.f k a0_0 l0_1 t845).bind fun t846 => (some t846))) else (some 0))
theorem impl_ClosureOf.calls (k : Nat) (a0_0 : Int) (A0_1 : Option Addr) (c0_1 : Nat) (l0_1 : List Int) (a1 : Int) (r : Int) (w : World) (hr0_1 : Kd.C (Kd.int .i64) w A0_1 l0_1.length l0_1) (hc0_1 : l0_1.length ≤ c0_1) (h : impl_ClosureOf.f k a0_0 l0_1 a1 = some r) :
  Calls Tryz.prog 163 #[.agg #[.int .i64 a0_0, .slice A0_1 l0_1.length c0_1], .int .i64 a1] w fun e w' => e = .returned (.int .i64 r) ∧ Below w.heap.size w w' := by
 have hu29 := Tryz.underlying29; have HR0_1 := Aside0.mk hr0_1; have HC0_1 := Aside0.mk hc0_1; clear hr0_1 hc0_1; have HB := Aside0.mk (Below.refl w.heap.size w); have H := h; clear h; unfold impl_ClosureOf.f at H; obtain ⟨t844, A3, H⟩ := bnd33_ H
 by_cases c4 : t844 = true
 ·
  subst c4; rw [if_pos rfl] at H; obtain ⟨t845, A5, H⟩ := bnd33_ H; obtain ⟨t846, A6, H⟩ := bnd33_ H; obtain rfl := Option.some.inj H
  go_enter Tryz.func163, Tryz.ntmps163
  try go_wp2_with ((with_reducible refine gw_ rfl ?_); first | (refine be_ 2 #[.int .i64 a0_0, .slice A0_1 l0_1.length c0_1] 29 ?_; intro gb843 hg w7 hbox hb; have n_ := ac_ (below_step s1_ hb) <| ac_ (hbox) <| ac_ ((gz_ w hg s1_)) <| Aside0.mk ((gz_ w hg s1_)); clear HB; obtain ⟨HB, BK843, GW843, GE843⟩ := n_; clear hb hbox hg; have hcz8_0 : w7.cell? ⟨gb843, 0, none⟩ = some (.int .i64 a0_0) := (blk_cell BK843.out 0).trans rfl; have hcz8_1 : w7.cell? ⟨gb843, 1, none⟩ = some (.slice A0_1 l0_1.length c0_1) := (blk_cell BK843.out 1).trans rfl; have hfz8_0 := blk_frozen BK843.out 0; have hfz8_1 := blk_frozen BK843.out 1) | (refine gL_ 175 7 Tryz.func175 #[.agg #[.int .i64 a0_0, .slice A0_1 l0_1.length c0_1], .int .i64 a1] ?_; (with_reducible refine (impl_areAttributes.calls a0_0 _ _ l0_1 a1 true _ ?side1 ?side2 A3.out).mono ?_); (case side1 => exact s7_); (case side2 => exact HC0_1.out); rintro e w9 ⟨rfl, hb⟩; refine ⟨_, rfl, ?_⟩; have n_ := ac_ (blk_below (g := gb843) (o := .cells #[.int .i64 a0_0, .slice A0_1 l0_1.length c0_1] 29 (0, 0)) q33_40 hb) <| Aside0.mk (below_step q33_37 hb); clear BK843 HB; obtain ⟨BK843, HB⟩ := n_; (try clear hb)))
  have n0_ := Aside0.mk (blk_drew BK843.out); have n1_ := Aside0.mk (below_drew1 HB.out); clear BK843; clear HB; have BK843 := n0_; have HB := n1_; clear n0_ n1_
  refine start_ (n := 6) (S := fun w' => w'.cell? ⟨gb843, 0, none⟩ = some (.int .i64 a0_0) ∧ w'.cell? ⟨gb843, 1, none⟩ = some (.slice A0_1 l0_1.length c0_1)) (ds := []) (tb_ 6 0) (by kernel_rfl) rfl rfl ⟨(blk_cell BK843.out 0).trans rfl, (blk_cell BK843.out 1).trans rfl⟩ (fun hHeld => ?_)
  generalize w9.drew = w10 at BK843 HB hHeld ⊢
  refine pl_ 2 11 (tb_ 6 4) ?_
  refine take_ (i := 0) (N := some 9) (v := ?_) (a' := ?_) (tb_ 6 5) rfl rfl (by kernel_rfl) (fun _ _ _ h => h) (Or.inl ⟨by rfl, ?_⟩) hHeld ?_ ?_
  rotate_left
  ·
   rintro w' ⟨s0, s1⟩
   go_simp; with_reducible rfl
  rotate_left
  ·
   exact s9_
  refine take_ (i := 1) (N := some 10) (v := ?_) (a' := ?_) (tb_ 6 7) rfl rfl (by kernel_rfl) (fun _ _ _ h => h) (Or.inl ⟨by rfl, ?_⟩) hHeld ?_ ?_
  rotate_left
  ·
   rintro w' ⟨s0, s1⟩
   go_simp; with_reducible rfl
  rotate_left
  ·
   exact s9_
  refine one_ (i := 3) (N := some 12) (tb_ 6 15) rfl rfl (by kernel_rfl) (by decide) (fun K hK => ?_)
  refine goes_ Tryz.func227 (by kernel_rfl) rfl #[.agg #[.int .i64 a0_0, .slice A0_1 l0_1.length c0_1], .int .i64 a1] (by rfl) rfl rfl s0_ ?_
  with_reducible refine (impl_ExtentOf.calls k a0_0 _ _ l0_1 a1 t845 _ ?side1 ?side2 A5.out).mono ?_
  (case side1 => exact s7_)
  (case side2 => exact HC0_1.out)
  rintro e w11 ⟨rfl, hb⟩
  refine ⟨_, rfl, ?_⟩
  have n0_ := Aside0.mk (blk_below (g := gb843) (o := .cells #[.int .i64 a0_0, .slice A0_1 l0_1.length c0_1] 29 (0, 0)) q33_40 hb); have n1_ := Aside0.mk (below_step q33_37 hb); clear BK843; clear HB; have BK843 := n0_; have HB := n1_; clear n0_ n1_
  (try clear hb)
  (try clear hb2)
  (try clear hk)
  (try clear hi)
  refine hK.out _ _ ⟨(blk_cell BK843.out 0).trans rfl, (blk_cell BK843.out 1).trans rfl⟩ (fun hHeld => ?_)
  clear hK K
  refine norm_ (a' := ?_) ?_ ?_
  rotate_left
  ·
   show Act.put _ (some 12) _ = _
   exact s9_
  refine one_ (i := 4) (N := some 13) (tb_ 6 31) rfl rfl (by kernel_rfl) (by decide) (fun K hK => ?_)
  refine goes_ Tryz.func226 (by kernel_rfl) rfl #[.agg #[.int .i64 a0_0, .slice A0_1 l0_1.length c0_1], .int .i64 t845] (by rfl) rfl rfl s0_ ?_
  with_reducible refine (impl_IntentOf.calls k a0_0 _ _ l0_1 t845 t846 _ ?side1 ?side2 A6.out).mono ?_
  (case side1 => exact s7_)
  (case side2 => exact HC0_1.out)
  rintro e w12 ⟨rfl, hb⟩
  refine ⟨_, rfl, ?_⟩
  have n0_ := Aside0.mk (blk_below (g := gb843) (o := .cells #[.int .i64 a0_0, .slice A0_1 l0_1.length c0_1] 29 (0, 0)) q33_40 hb); have n1_ := Aside0.mk (below_step q33_37 hb); clear BK843; clear HB; have BK843 := n0_; have HB := n1_; clear n0_ n1_
  (try clear hb)
  (try clear hb2)
  (try clear hk)
  (try clear hi)
  refine hK.out _ _ ⟨(blk_cell BK843.out 0).trans rfl, (blk_cell BK843.out 1).trans rfl⟩ (fun hHeld => ?_)
  clear hK K
  refine norm_ (a' := ?_) ?_ ?_
  rotate_left
  ·
   show Act.put _ (some 13) _ = _
   exact s9_
  refine pl_ 5 4 (tb_ 6 63) ?_
  refine done_ (by kernel_rfl) ?_
  try go_wp2
  go_ret
  exact ⟨(by first | rfl | (simp [errW_none, errW_some] <;> rfl) | (simp [*, errW_none, errW_some] <;> rfl)), q33_37⟩
 ·
  replace c4 := Bool.eq_false_iff.mpr c4; subst c4
  rw [if_neg (show ¬ (false = true) by decide)] at H
  obtain rfl := Option.some.inj H
  go_enter Tryz.func163, Tryz.ntmps163
  go_wp2_with ((with_reducible refine gw_ rfl ?_); first | (refine be_ 2 #[.int .i64 a0_0, .slice A0_1 l0_1.length c0_1] 29 ?_; intro gb843 hg w13 hbox hb; have n_ := ac_ (below_step s1_ hb) <| ac_ (hbox) <| ac_ ((gz_ w hg s1_)) <| Aside0.mk ((gz_ w hg s1_)); clear HB; obtain ⟨HB, BK843, GW843, GE843⟩ := n_; clear hb hbox hg; have hcz14_0 : w13.cell? ⟨gb843, 0, none⟩ = some (.int .i64 a0_0) := (blk_cell BK843.out 0).trans rfl; have hcz14_1 : w13.cell? ⟨gb843, 1, none⟩ = some (.slice A0_1 l0_1.length c0_1) := (blk_cell BK843.out 1).trans rfl; have hfz14_0 := blk_frozen BK843.out 0; have hfz14_1 := blk_frozen BK843.out 1) | (refine gL_ 175 7 Tryz.func175 #[.agg #[.int .i64 a0_0, .slice A0_1 l0_1.length c0_1], .int .i64 a1] ?_; (with_reducible refine (impl_areAttributes.calls a0_0 _ _ l0_1 a1 false _ ?side1 ?side2 A3.out).mono ?_); (case side1 => exact s7_); (case side2 => exact HC0_1.out); rintro e w15 ⟨rfl, hb⟩; refine ⟨_, rfl, ?_⟩; have n_ := ac_ (blk_below (g := gb843) (o := .cells #[.int .i64 a0_0, .slice A0_1 l0_1.length c0_1] 29 (0, 0)) q33_40 hb) <| Aside0.mk (below_step q33_37 hb); clear BK843 HB; obtain ⟨BK843, HB⟩ := n_; (try clear hb)))
  go_ret
  exact ⟨(by first | rfl | (simp [errW_none, errW_some] <;> rfl) | (simp [*, errW_none, errW_some] <;> rfl)), q33_37⟩
theorem bnd34_ {α β : Type} {o : Option α} {f : α → Option β} {r : β} (h : o.bind f = some r) : ∃ a, Aside0 (o = some a) ∧ f a = some r := by
 obtain ⟨a, h1, h2⟩ := Option.bind_eq_some_iff.mp h
 exact ⟨a, ⟨h1⟩, h2⟩
theorem q34_1 {P : Prop} (h : P := by repeat (first | (with_reducible first | exact HB.out | apply below_alloc | apply pw_below_drewN | apply below_drew1 | refine below_set ?_ GE847.out | refine below_set ?_ GE848.out) | exact HB.out)) : P := h
theorem q34_3 {P : Prop} (h : P := by repeat (first | (with_reducible first | exact HB.out | apply below_alloc | apply pw_below_drewN | apply below_drew1 | refine below_set ?_ GE847.out) | exact HB.out)) : P := h
theorem q34_6 {P : Prop} (h : P := by (with_reducible repeat (first | refine blk_drewN ?_ _ | refine blk_drew ?_ | refine blk_alloc ?_ _)); exact BK847.out) : P := h
theorem q34_7 {P : Prop} (h : P := by (with_reducible repeat (first | refine blk_drewN ?_ _ | refine blk_drew ?_ | refine blk_alloc ?_ _)); exact BK848.out) : P := h
def impl_HoldsIn.f (k : Nat) (a0_0 : Int) (l0_1 : List Int) (a1_0 : Int) (a1_1 : Int) : Option (Bool) := (impl_areAttributes.f a0_0 l0_1 a1_0).bind fun t849 => (if t849 = true then ((impl_areAttributes.f a0_0 l0_1 a1_1).bind fun t850 => (if t850 = true then ((impl_ClosureOf.f k a0_0 l0_1 a1_0).bind fun t851 => ((impl_inSet.f a1_1 t851).bind fun t852 => (some t852))) else (some false))) else (some false))
def impl_HoldsIn.T1 : Bool × List (List Nat × List Nat) := (true, [([], []), ([], []), ([1], [1]), ([0, 2], [0, 2]), ([3, 3], [3]), ([4], [4]), ([4], [4]), ([6, 4], [4, 6]), ([5, 7, 4, 4], [4, 5, 7]), ([4, 8], [4, 8]), ([9, 8], [9]), ([10], [10]), ([11, 10], [10, 11]), ([10], [10]), ([10], [10]), ([14, 10], [10, 14]), ([13, 15, 10, 10], [10, 13, 15]), ([12, 16, 16, 10], [10, 12, 16]), ([10, 17], [10, 17]), ([18, 17, 0, 1, 2, 3, 4, 5, 6, 7, 8, 9, 10, 11, 12, 13, 14, 15, 16, 17, 18], [18])])
def impl_HoldsIn.B1 : List Nat := [0, 0, 2, 7, 15, 31, 31, 95, 255, 511, 1023, 2047, 4095, 2047, 2047, 18431, 59391, 131071, 262143, 524287]
theorem impl_HoldsIn.tab1 : rtab .any (opsOf Tryz.f66 1) = impl_HoldsIn.T1 := by kernel_rfl
theorem impl_HoldsIn.bits1 : waitsOk impl_HoldsIn.T1.2 impl_HoldsIn.B1 = true := by kernel_rfl
set_option maxHeartbeats 40000000 in
set_option maxRecDepth 100000 in
theorem impl_HoldsIn.calls (k : Nat) (a0_0 : Int) (A0_1 : Option Addr) (c0_1 : Nat) (l0_1 : List Int) (a1_0 : Int) (a1_1 : Int) (r : Bool) (w : World) (hr0_1 : Kd.C (Kd.int .i64) w A0_1 l0_1.length l0_1) (hc0_1 : l0_1.length ≤ c0_1) (h : impl_HoldsIn.f k a0_0 l0_1 a1_0 a1_1 = some r) :
  Calls Tryz.prog 66 #[.agg #[.int .i64 a0_0, .slice A0_1 l0_1.length c0_1], .agg #[.int .i64 a1_0, .int .i64 a1_1]] w fun e w' => e = .returned (.bool r) ∧ Below w.heap.size w w' := by
 have hu29 := Tryz.underlying29; have hu48 := Tryz.underlying48; have HR0_1 := Aside0.mk hr0_1; have HC0_1 := Aside0.mk hc0_1; clear hr0_1 hc0_1; have HB := Aside0.mk (Below.refl w.heap.size w); have H := h; clear h; unfold impl_HoldsIn.f at H; obtain ⟨t849, A3, H⟩ := bnd34_ H
 by_cases c4 : t849 = true
 ·
  subst c4; rw [if_pos rfl] at H; obtain ⟨t850, A5, H⟩ := bnd34_ H
  by_cases c6 : t850 = true
  ·
   subst c6; rw [if_pos rfl] at H; obtain ⟨t851, A7, H⟩ := bnd34_ H; obtain ⟨t852, A8, H⟩ := bnd34_ H; obtain rfl := Option.some.inj H
   go_enter Tryz.func66, Tryz.ntmps66
   try go_wp2_with ((with_reducible refine gw_ rfl ?_); first | (refine be_ 2 #[.int .i64 a0_0, .slice A0_1 l0_1.length c0_1] 29 ?_; intro gb847 hg w9 hbox hb; have n_ := ac_ (below_step s1_ hb) <| ac_ (hbox) <| ac_ ((gz_ w hg s1_)) <| Aside0.mk ((gz_ w hg s1_)); clear HB; obtain ⟨HB, BK847, GW847, GE847⟩ := n_; clear hb hbox hg) | (refine be_ 3 #[.int .i64 a1_0, .int .i64 a1_1] 48 ?_; intro gb848 hg w10 hbox hb; have n_ := ac_ (blk_below (g := gb847) (o := .cells #[.int .i64 a0_0, .slice A0_1 l0_1.length c0_1] 29 (0, 0)) q34_6 hb) <| ac_ (below_step q34_3 hb) <| ac_ (hbox) <| ac_ ((gz_ w hg q34_3)) <| ac_ ((gz_ w hg q34_3)) <| ac_ ((nl_ hg (blk_lt (g := gb847) (o := .cells #[.int .i64 a0_0, .slice A0_1 l0_1.length c0_1] 29 (0, 0)) q34_6))) <| Aside0.mk ((ng_ hg (blk_lt (g := gb847) (o := .cells #[.int .i64 a0_0, .slice A0_1 l0_1.length c0_1] 29 (0, 0)) q34_6))); clear BK847 HB; obtain ⟨BK847, HB, BK848, GW848, GE848, NB847_848, NB848_847⟩ := n_; clear hb hbox hg))
   have n0_ := Aside0.mk (blk_drew BK847.out); have n1_ := Aside0.mk (blk_drew BK848.out); have n2_ := Aside0.mk (below_drew1 HB.out); clear BK847; clear BK848; clear HB; have BK847 := n0_; have BK848 := n1_; have HB := n2_; clear n0_ n1_ n2_
   refine start_ (n := 20) (S := fun w' => w'.cell? ⟨gb847, 0, none⟩ = some (.int .i64 a0_0) ∧ w'.cell? ⟨gb847, 1, none⟩ = some (.slice A0_1 l0_1.length c0_1) ∧ w'.cell? ⟨gb848, 0, none⟩ = some (.int .i64 a1_0) ∧ w'.cell? ⟨gb848, 1, none⟩ = some (.int .i64 a1_1)) (ds := []) (tb_ 20 0) (by kernel_rfl) rfl rfl ⟨(blk_cell BK847.out 0).trans rfl, (blk_cell BK847.out 1).trans rfl, (blk_cell BK848.out 0).trans rfl, (blk_cell BK848.out 1).trans rfl⟩ (fun hHeld => ?_); refine with_tabW impl_HoldsIn.tab1 impl_HoldsIn.bits1 (fun HT_ HW_ => ?_)
   generalize w10.drew = w11 at BK847 BK848 HB hHeld ⊢
   refine pl_ 1 6 (tb_ 20 2) ?_; refine tk_ 0 5 (tb_ 20 3) hHeld ?_; refine tk_ 2 7 (tb_ 20 7) hHeld ?_
   refine on_ 3 8 (tb_ 20 15) (fun K hK => ?_)
   refine goes_ Tryz.func175 (by kernel_rfl) rfl #[.agg #[.int .i64 a0_0, .slice A0_1 l0_1.length c0_1], .int .i64 a1_0] (by rfl) rfl rfl s0_ ?_
   with_reducible refine (impl_areAttributes.calls a0_0 _ _ l0_1 a1_0 true _ ?side1 ?side2 A3.out).mono ?_
   (case side1 => exact s7_)
   (case side2 => exact HC0_1.out)
   rintro e w12 ⟨rfl, hb⟩
   refine ⟨_, rfl, ?_⟩
   have n0_ := Aside0.mk (blk_below (g := gb847) (o := .cells #[.int .i64 a0_0, .slice A0_1 l0_1.length c0_1] 29 (0, 0)) q34_6 hb); have n1_ := Aside0.mk (blk_below (g := gb848) (o := .cells #[.int .i64 a1_0, .int .i64 a1_1] 48 (0, 0)) q34_7 hb); have n2_ := Aside0.mk (below_step q34_1 hb); clear BK847; clear BK848; clear HB; have BK847 := n0_; have BK848 := n1_; have HB := n2_; clear n0_ n1_ n2_
   (try clear hb)
   (try clear hb2)
   (try clear hk)
   (try clear hi)
   refine hK.out _ _ ⟨(blk_cell BK847.out 0).trans rfl, (blk_cell BK847.out 1).trans rfl, (blk_cell BK848.out 0).trans rfl, (blk_cell BK848.out 1).trans rfl⟩ (fun hHeld => ?_)
   clear hK K
   refine norm_ (a' := ?_) ?_ ?_
   rotate_left
   ·
    show Act.put _ (some 8) _ = _
    exact s9_
   refine pl_ 4 9 (tb_ 20 31) ?_; refine pl_ 6 11 (tb_ 20 95) ?_; refine tk_ 5 10 (tb_ 20 127) hHeld ?_; refine tk_ 7 12 (tb_ 20 255) hHeld ?_
   refine on_ 8 13 (tb_ 20 511) (fun K hK => ?_)
   refine goes_ Tryz.func175 (by kernel_rfl) rfl #[.agg #[.int .i64 a0_0, .slice A0_1 l0_1.length c0_1], .int .i64 a1_1] (by rfl) rfl rfl s0_ ?_
   with_reducible refine (impl_areAttributes.calls a0_0 _ _ l0_1 a1_1 true _ ?side1 ?side2 A5.out).mono ?_
   (case side1 => exact s7_)
   (case side2 => exact HC0_1.out)
   rintro e w13 ⟨rfl, hb⟩
   refine ⟨_, rfl, ?_⟩
   have n0_ := Aside0.mk (blk_below (g := gb847) (o := .cells #[.int .i64 a0_0, .slice A0_1 l0_1.length c0_1] 29 (0, 0)) q34_6 hb); have n1_ := Aside0.mk (blk_below (g := gb848) (o := .cells #[.int .i64 a1_0, .int .i64 a1_1] 48 (0, 0)) q34_7 hb); have n2_ := Aside0.mk (below_step q34_1 hb); clear BK847; clear BK848; clear HB; have BK847 := n0_; have BK848 := n1_; have HB := n2_; clear n0_ n1_ n2_
   (try clear hb)
   (try clear hb2)
   (try clear hk)
   (try clear hi)
   refine hK.out _ _ ⟨(blk_cell BK847.out 0).trans rfl, (blk_cell BK847.out 1).trans rfl, (blk_cell BK848.out 0).trans rfl, (blk_cell BK848.out 1).trans rfl⟩ (fun hHeld => ?_)
   clear hK K
   refine norm_ (a' := ?_) ?_ ?_
   rotate_left
   ·
    show Act.put _ (some 13) _ = _
    exact s9_
   refine pl_ 9 14 (tb_ 20 1023) ?_; refine pl_ 10 15 (tb_ 20 2047) ?_; refine pl_ 11 16 (tb_ 20 4095) ?_; refine pl_ 14 19 (tb_ 20 20479) ?_; refine tk_ 12 17 (tb_ 20 24575) hHeld ?_; refine tk_ 13 18 (tb_ 20 32767) hHeld ?_; refine tk_ 15 20 (tb_ 20 65535) hHeld ?_
   refine on_ 16 21 (tb_ 20 131071) (fun K hK => ?_)
   refine goes_ Tryz.func163 (by kernel_rfl) rfl #[.agg #[.int .i64 a0_0, .slice A0_1 l0_1.length c0_1], .int .i64 a1_0] (by rfl) rfl rfl s0_ ?_
   with_reducible refine (impl_ClosureOf.calls k a0_0 _ _ l0_1 a1_0 t851 _ ?side1 ?side2 A7.out).mono ?_
   (case side1 => exact s7_)
   (case side2 => exact HC0_1.out)
   rintro e w14 ⟨rfl, hb⟩
   refine ⟨_, rfl, ?_⟩
   have n0_ := Aside0.mk (blk_below (g := gb847) (o := .cells #[.int .i64 a0_0, .slice A0_1 l0_1.length c0_1] 29 (0, 0)) q34_6 hb); have n1_ := Aside0.mk (blk_below (g := gb848) (o := .cells #[.int .i64 a1_0, .int .i64 a1_1] 48 (0, 0)) q34_7 hb); have n2_ := Aside0.mk (below_step q34_1 hb); clear BK847; clear BK848; clear HB; have BK847 := n0_; have BK848 := n1_; have HB := n2_; clear n0_ n1_ n2_
   (try clear hb)
   (try clear hb2)
   (try clear hk)
   (try clear hi)
   refine hK.out _ _ ⟨(blk_cell BK847.out 0).trans rfl, (blk_cell BK847.out 1).trans rfl, (blk_cell BK848.out 0).trans rfl, (blk_cell BK848.out 1).trans rfl⟩ (fun hHeld => ?_)
   clear hK K
   refine norm_ (a' := ?_) ?_ ?_
   rotate_left
   ·
    show Act.put _ (some 21) _ = _
    exact s9_
   refine on_ 17 22 (tb_ 20 262143) (fun K hK => ?_)
   refine goes_ Tryz.func141 (by kernel_rfl) rfl #[.int .i64 a1_1, .int .i64 t851] (by rfl) rfl rfl s0_ ?_
   with_reducible refine (impl_inSet.calls a1_1 t851 t852 _ A8.out).mono ?_
   rintro e w' ⟨rfl, ⟨nd, rfl⟩⟩
   refine ⟨_, rfl, ?_⟩
   refine hK.out _ _ ⟨(blk_cell BK847.out 0).trans rfl, (blk_cell BK847.out 1).trans rfl, (blk_cell BK848.out 0).trans rfl, (blk_cell BK848.out 1).trans rfl⟩ (fun hHeld => ?_)
   clear hK K
   refine norm_ (a' := ?_) ?_ ?_
   rotate_left
   ·
    show Act.put _ (some 22) _ = _
    exact s9_
   refine pl_ 18 23 (tb_ 20 524287) ?_; refine pl_ 19 4 (tb_ 20 1048575) ?_
   refine done_ (done_of HT_.out (by kernel_rfl)) ?_
   try go_wp2
   go_ret
   exact ⟨s2_, q34_1⟩
  ·
   replace c6 := Bool.eq_false_iff.mpr c6; subst c6
   rw [if_neg (show ¬ (false = true) by decide)] at H
   obtain rfl := Option.some.inj H
   go_enter Tryz.func66, Tryz.ntmps66
   try go_wp2_with ((with_reducible refine gw_ rfl ?_); first | (refine be_ 2 #[.int .i64 a0_0, .slice A0_1 l0_1.length c0_1] 29 ?_; intro gb847 hg w15 hbox hb; have n_ := ac_ (below_step s1_ hb) <| ac_ (hbox) <| ac_ ((gz_ w hg s1_)) <| Aside0.mk ((gz_ w hg s1_)); clear HB; obtain ⟨HB, BK847, GW847, GE847⟩ := n_; clear hb hbox hg) | (refine be_ 3 #[.int .i64 a1_0, .int .i64 a1_1] 48 ?_; intro gb848 hg w16 hbox hb; have n_ := ac_ (blk_below (g := gb847) (o := .cells #[.int .i64 a0_0, .slice A0_1 l0_1.length c0_1] 29 (0, 0)) q34_6 hb) <| ac_ (below_step q34_3 hb) <| ac_ (hbox) <| ac_ ((gz_ w hg q34_3)) <| ac_ ((gz_ w hg q34_3)) <| ac_ ((nl_ hg (blk_lt (g := gb847) (o := .cells #[.int .i64 a0_0, .slice A0_1 l0_1.length c0_1] 29 (0, 0)) q34_6))) <| Aside0.mk ((ng_ hg (blk_lt (g := gb847) (o := .cells #[.int .i64 a0_0, .slice A0_1 l0_1.length c0_1] 29 (0, 0)) q34_6))); clear BK847 HB; obtain ⟨BK847, HB, BK848, GW848, GE848, NB847_848, NB848_847⟩ := n_; clear hb hbox hg))
   have n0_ := Aside0.mk (blk_drew BK847.out); have n1_ := Aside0.mk (blk_drew BK848.out); have n2_ := Aside0.mk (below_drew1 HB.out); clear BK847; clear BK848; clear HB; have BK847 := n0_; have BK848 := n1_; have HB := n2_; clear n0_ n1_ n2_
   refine start_ (n := 20) (S := fun w' => w'.cell? ⟨gb847, 0, none⟩ = some (.int .i64 a0_0) ∧ w'.cell? ⟨gb847, 1, none⟩ = some (.slice A0_1 l0_1.length c0_1) ∧ w'.cell? ⟨gb848, 0, none⟩ = some (.int .i64 a1_0) ∧ w'.cell? ⟨gb848, 1, none⟩ = some (.int .i64 a1_1)) (ds := []) (tb_ 20 0) (by kernel_rfl) rfl rfl ⟨(blk_cell BK847.out 0).trans rfl, (blk_cell BK847.out 1).trans rfl, (blk_cell BK848.out 0).trans rfl, (blk_cell BK848.out 1).trans rfl⟩ (fun hHeld => ?_); refine with_tabW impl_HoldsIn.tab1 impl_HoldsIn.bits1 (fun HT_ HW_ => ?_)
   generalize w16.drew = w17 at BK847 BK848 HB hHeld ⊢
   refine pl_ 1 6 (tb_ 20 2) ?_; refine tk_ 0 5 (tb_ 20 3) hHeld ?_; refine tk_ 2 7 (tb_ 20 7) hHeld ?_
   refine on_ 3 8 (tb_ 20 15) (fun K hK => ?_)
   refine goes_ Tryz.func175 (by kernel_rfl) rfl #[.agg #[.int .i64 a0_0, .slice A0_1 l0_1.length c0_1], .int .i64 a1_0] (by rfl) rfl rfl s0_ ?_
   with_reducible refine (impl_areAttributes.calls a0_0 _ _ l0_1 a1_0 true _ ?side1 ?side2 A3.out).mono ?_
   (case side1 => exact s7_)
   (case side2 => exact HC0_1.out)
   rintro e w18 ⟨rfl, hb⟩
   refine ⟨_, rfl, ?_⟩
   have n0_ := Aside0.mk (blk_below (g := gb847) (o := .cells #[.int .i64 a0_0, .slice A0_1 l0_1.length c0_1] 29 (0, 0)) q34_6 hb); have n1_ := Aside0.mk (blk_below (g := gb848) (o := .cells #[.int .i64 a1_0, .int .i64 a1_1] 48 (0, 0)) q34_7 hb); have n2_ := Aside0.mk (below_step q34_1 hb); clear BK847; clear BK848; clear HB; have BK847 := n0_; have BK848 := n1_; have HB := n2_; clear n0_ n1_ n2_
   (try clear hb)
   (try clear hb2)
   (try clear hk)
   (try clear hi)
   refine hK.out _ _ ⟨(blk_cell BK847.out 0).trans rfl, (blk_cell BK847.out 1).trans rfl, (blk_cell BK848.out 0).trans rfl, (blk_cell BK848.out 1).trans rfl⟩ (fun hHeld => ?_)
   clear hK K
   refine norm_ (a' := ?_) ?_ ?_
   rotate_left
   ·
    show Act.put _ (some 8) _ = _
    exact s9_
   refine pl_ 4 9 (tb_ 20 31) ?_; refine pl_ 6 11 (tb_ 20 95) ?_; refine tk_ 5 10 (tb_ 20 127) hHeld ?_; refine tk_ 7 12 (tb_ 20 255) hHeld ?_
   refine on_ 8 13 (tb_ 20 511) (fun K hK => ?_)
   refine goes_ Tryz.func175 (by kernel_rfl) rfl #[.agg #[.int .i64 a0_0, .slice A0_1 l0_1.length c0_1], .int .i64 a1_1] (by rfl) rfl rfl s0_ ?_
   with_reducible refine (impl_areAttributes.calls a0_0 _ _ l0_1 a1_1 false _ ?side1 ?side2 A5.out).mono ?_
   (case side1 => exact s7_)
   (case side2 => exact HC0_1.out)
   rintro e w19 ⟨rfl, hb⟩
   refine ⟨_, rfl, ?_⟩
   have n0_ := Aside0.mk (blk_below (g := gb847) (o := .cells #[.int .i64 a0_0, .slice A0_1 l0_1.length c0_1] 29 (0, 0)) q34_6 hb); have n1_ := Aside0.mk (blk_below (g := gb848) (o := .cells #[.int .i64 a1_0, .int .i64 a1_1] 48 (0, 0)) q34_7 hb); have n2_ := Aside0.mk (below_step q34_1 hb); clear BK847; clear BK848; clear HB; have BK847 := n0_; have BK848 := n1_; have HB := n2_; clear n0_ n1_ n2_
   (try clear hb)
   (try clear hb2)
   (try clear hk)
   (try clear hi)
   refine hK.out _ _ ⟨(blk_cell BK847.out 0).trans rfl, (blk_cell BK847.out 1).trans rfl, (blk_cell BK848.out 0).trans rfl, (blk_cell BK848.out 1).trans rfl⟩ (fun hHeld => ?_)
   clear hK K
   refine norm_ (a' := ?_) ?_ ?_
   rotate_left
   ·
    show Act.put _ (some 13) _ = _
    exact s9_
   refine pl_ 9 14 (tb_ 20 1023) ?_; refine pl_ 10 15 (tb_ 20 2047) ?_; refine pr_ 11 16 (tb_ 20 4095) ?_; refine pr_ 12 17 (tb_ 20 8191) ?_; refine pr_ 13 18 (tb_ 20 16383) ?_; refine pr_ 14 19 (tb_ 20 32767) ?_; refine pr_ 15 20 (tb_ 20 65535) ?_; refine pr_ 16 21 (tb_ 20 131071) ?_; refine pr_ 17 22 (tb_ 20 262143) ?_; refine pl_ 18 23 (tb_ 20 524287) ?_; refine pl_ 19 4 (tb_ 20 1048575) ?_
   refine done_ (done_of HT_.out (by kernel_rfl)) ?_
   try go_wp2
   go_ret
   exact ⟨s2_, q34_1⟩
 ·
  replace c4 := Bool.eq_false_iff.mpr c4; subst c4
  rw [if_neg (show ¬ (false = true) by decide)] at H
  obtain rfl := Option.some.inj H
  go_enter Tryz.func66, Tryz.ntmps66
  try go_wp2_with ((with_reducible refine gw_ rfl ?_); first | (refine be_ 2 #[.int .i64 a0_0, .slice A0_1 l0_1.length c0_1] 29 ?_; intro gb847 hg w20 hbox hb; have n_ := ac_ (below_step s1_ hb) <| ac_ (hbox) <| ac_ ((gz_ w hg s1_)) <| Aside0.mk ((gz_ w hg s1_)); clear HB; obtain ⟨HB, BK847, GW847, GE847⟩ := n_; clear hb hbox hg) | (refine be_ 3 #[.int .i64 a1_0, .int .i64 a1_1] 48 ?_; intro gb848 hg w21 hbox hb; have n_ := ac_ (blk_below (g := gb847) (o := .cells #[.int .i64 a0_0, .slice A0_1 l0_1.length c0_1] 29 (0, 0)) q34_6 hb) <| ac_ (below_step q34_3 hb) <| ac_ (hbox) <| ac_ ((gz_ w hg q34_3)) <| ac_ ((gz_ w hg q34_3)) <| ac_ ((nl_ hg (blk_lt (g := gb847) (o := .cells #[.int .i64 a0_0, .slice A0_1 l0_1.length c0_1] 29 (0, 0)) q34_6))) <| Aside0.mk ((ng_ hg (blk_lt (g := gb847) (o := .cells #[.int .i64 a0_0, .slice A0_1 l0_1.length c0_1] 29 (0, 0)) q34_6))); clear BK847 HB; obtain ⟨BK847, HB, BK848, GW848, GE848, NB847_848, NB848_847⟩ := n_; clear hb hbox hg))
  have n0_ := Aside0.mk (blk_drew BK847.out); have n1_ := Aside0.mk (blk_drew BK848.out); have n2_ := Aside0.mk (below_drew1 HB.out); clear BK847; clear BK848; clear HB; have BK847 := n0_; have BK848 := n1_; have HB := n2_; clear n0_ n1_ n2_
  refine start_ (n := 20) (S := fun w' => w'.cell? ⟨gb847, 0, none⟩ = some (.int .i64 a0_0) ∧ w'.cell? ⟨gb847, 1, none⟩ = some (.slice A0_1 l0_1.length c0_1) ∧ w'.cell? ⟨gb848, 0, none⟩ = some (.int .i64 a1_0) ∧ w'.cell? ⟨gb848, 1, none⟩ = some (.int .i64 a1_1)) (ds := []) (tb_ 20 0) (by kernel_rfl) rfl rfl ⟨(blk_cell BK847.out 0).trans rfl, (blk_cell BK847.out 1).trans rfl, (blk_cell BK848.out 0).trans rfl, (blk_cell BK848.out 1).trans rfl⟩ (fun hHeld => ?_); refine with_tabW impl_HoldsIn.tab1 impl_HoldsIn.bits1 (fun HT_ HW_ => ?_)
  generalize w21.drew = w22 at BK847 BK848 HB hHeld ⊢
  refine pl_ 1 6 (tb_ 20 2) ?_; refine tk_ 0 5 (tb_ 20 3) hHeld ?_; refine tk_ 2 7 (tb_ 20 7) hHeld ?_
  refine on_ 3 8 (tb_ 20 15) (fun K hK => ?_)
  refine goes_ Tryz.func175 (by kernel_rfl) rfl #[.agg #[.int .i64 a0_0, .slice A0_1 l0_1.length c0_1], .int .i64 a1_0] (by rfl) rfl rfl s0_ ?_
  with_reducible refine (impl_areAttributes.calls a0_0 _ _ l0_1 a1_0 false _ ?side1 ?side2 A3.out).mono ?_
  (case side1 => exact s7_)
  (case side2 => exact HC0_1.out)
  rintro e w23 ⟨rfl, hb⟩
  refine ⟨_, rfl, ?_⟩
  have n0_ := Aside0.mk (blk_below (g := gb847) (o := .cells #[.int .i64 a0_0, .slice A0_1 l0_1.length c0_1] 29 (0, 0)) q34_6 hb); have n1_ := Aside0.mk (blk_below (g := gb848) (o := .cells #[.int .i64 a1_0, .int .i64 a1_1] 48 (0, 0)) q34_7 hb); have n2_ := Aside0.mk (below_step q34_1 hb); clear BK847; clear BK848; clear HB; have BK847 := n0_; have BK848 := n1_; have HB := n2_; clear n0_ n1_ n2_
  (try clear hb)
  (try clear hb2)
  (try clear hk)
  (try clear hi)
  refine hK.out _ _ ⟨(blk_cell BK847.out 0).trans rfl, (blk_cell BK847.out 1).trans rfl, (blk_cell BK848.out 0).trans rfl, (blk_cell BK848.out 1).trans rfl⟩ (fun hHeld => ?_)
  clear hK K
  refine norm_ (a' := ?_) ?_ ?_
  rotate_left
  ·
   show Act.put _ (some 8) _ = _
   exact s9_
  refine pl_ 4 9 (tb_ 20 31) ?_; refine pr_ 5 10 (tb_ 20 63) ?_; refine pr_ 6 11 (tb_ 20 127) ?_; refine pr_ 7 12 (tb_ 20 255) ?_; refine pr_ 8 13 (tb_ 20 511) ?_; refine pl_ 9 14 (tb_ 20 1023) ?_; refine pl_ 10 15 (tb_ 20 2047) ?_; refine pr_ 11 16 (tb_ 20 4095) ?_; refine pr_ 12 17 (tb_ 20 8191) ?_; refine pr_ 13 18 (tb_ 20 16383) ?_; refine pr_ 14 19 (tb_ 20 32767) ?_; refine pr_ 15 20 (tb_ 20 65535) ?_; refine pr_ 16 21 (tb_ 20 131071) ?_; refine pr_ 17 22 (tb_ 20 262143) ?_; refine pl_ 18 23 (tb_ 20 524287) ?_; refine pl_ 19 4 (tb_ 20 1048575) ?_
  refine done_ (done_of HT_.out (by kernel_rfl)) ?_
  try go_wp2
  go_ret
  exact ⟨s2_, q34_1⟩
end Go.Proofs.YtafnamchckehmaaGreatDoor.Pr
namespace Go.Proofs.YtafnamchckehmaaGreatDoor.Pr
open Go.RowKit Go.Proofs.YtafnamchckehmaaGreatDoorW.PrintWords Go.Proofs.YtafnamchckehmaaGreatDoorW.PrintLast Go.Proofs.YtafnamchckehmaaGreatDoorW.PrintMore
set_option linter.unusedVariables false
def strings_Join.f (l0 : List ByteArray) (a1 : ByteArray) : Option ByteArray :=
  if l0.length ≤ 140737488355328 ∧ (Lib.join (l0.map (·.data.toList)) a1.data.toList).length ≤ 140737488355328 then some ⟨(Lib.join (l0.map (·.data.toList)) a1.data.toList).toArray⟩ else none
theorem cell_spot {w : World} {ad : Addr} {v : Value} (h : w.cell? ad = some v) : ad.spot = none := by
  unfold World.cell? at h
  split at h
  · split at h
    · cases h
    · rename_i hs
      cases e : ad.spot with
      | none => rfl
      | some x => rw [e] at hs; exact absurd rfl hs
  · cases h
theorem strings_Join.calls (A0 : Option Addr) (c0 : Nat) (l0 : List ByteArray) (a1 : ByteArray) (r : ByteArray) (w : World) (hr0 : Kd.C Kd.string w A0 l0.length l0) (hc0 : l0.length ≤ c0) (h : strings_Join.f l0 a1 = some r) :
    Calls Tryz.prog 235 #[.slice A0 l0.length c0, .string a1] w fun e w' => e = .returned (.string r) ∧ Below w.heap.size w w' := by
  unfold strings_Join.f at h
  by_cases hlen : l0.length ≤ 140737488355328 ∧ (Lib.join (l0.map (·.data.toList)) a1.data.toList).length ≤ 140737488355328
  · rw [if_pos hlen] at h
    obtain rfl := Option.some.inj h
    cases l0 with
    | nil =>
      refine (Tryz.strings_Join_none A0 c0 a1 w).mono ?_
      rintro e w' ⟨rfl, rfl⟩
      exact ⟨rfl, Below.refl _ _⟩
    | cons x l =>
      obtain ⟨ad, rfl, h0⟩ := Kd.at_string hr0 0 (by omega) (by simp)
      have hs := cell_spot h0
      obtain ⟨b, o, q⟩ := ad
      obtain rfl : q = none := hs
      have hcells : ∀ (j : Nat) y, (x :: l)[j]? = some y → w.cell? ⟨b, o + j, none⟩ = some (.string y) := by
        intro j y hy
        have hj : j < (x :: l).length := (List.getElem?_eq_some_iff.1 hy).1
        obtain ⟨ad, e, h1⟩ := Kd.at_string hr0 (j : Int) (by omega) (by omega)
        obtain rfl := Option.some.inj e
        rw [Int.toNat_natCast] at h1
        have e2 : rdOf ByteArray.empty (x :: l) (j : Int) = y := by unfold rdOf; rw [Int.toNat_natCast, List.getD_eq_getElem?_getD, hy]; rfl
        rw [e2] at h1
        have e3 : (⟨b, o, none⟩ : Addr).add j = ⟨b, o + j, none⟩ := by
          unfold Addr.add
          split <;> simp_all
        rw [e3] at h1
        exact h1
      refine (Tryz.strings_Join b o c0 (x :: l) a1 w hcells (World.block_lt_of_cell? w ⟨b, o + 0, none⟩ (hcells 0 x rfl)) hlen.1 hc0 hlen.2).mono ?_
      rintro e w' ⟨rfl, hb⟩
      exact ⟨rfl, hb⟩
  · rw [if_neg hlen] at h
    cases h
end Go.Proofs.YtafnamchckehmaaGreatDoor.Pr
namespace Go.Proofs.YtafnamchckehmaaGreatDoor.Pr
open Go.RowKit Go.Proofs.YtafnamchckehmaaGreatDoorW.PrintWords Go.Proofs.YtafnamchckehmaaGreatDoorW.PrintLast Go.Proofs.YtafnamchckehmaaGreatDoorW.PrintMore
attribute [local go_sem] max2_int min2_int max_two min_two max_three min_three max_four min_four
set_option linter.unusedVariables false
set_option linter.unusedSimpArgs false
theorem bnd36_ {α β : Type} {o : Option α} {f : α → Option β} {r : β} (h : o.bind f = some r) : ∃ a, Aside0 (o = some a) ∧ f a = some r := by
 obtain ⟨a, h1, h2⟩ := Option.bind_eq_some_iff.mp h
 exact ⟨a, ⟨h1⟩, h2⟩
theorem q36_1 {P : Prop} (h : P := by first | rfl | (simp [errW_none, errW_some] <;> rfl) | (simp only [← hji3]; first | rfl | (simp [errW_none, errW_some] <;> rfl)) | (simp [*, errW_none, errW_some] <;> rfl)) : P := h
def impl_Join.l0 : Nat → List ByteArray → ByteArray → Int → List ByteArray → Int → Int → Option (ByteArray)
 | 0, _, _, _, _, _, _ => none
 | k + 1, x0, x1, x5, x15, x16, x17 => if x17 < x16 then (if 0 ≤ x17 then (if x17 < (x15.length : Int) then (impl_Join.l0 k x0 x1 (wrap64 (x5 + ((rdOf ByteArray.empty x15 x17).size : Int))) x15 x16 (wrap64 (x17 + 1))) else (none)) else (none)) else (if x5 > 1048576 then (some (⟨#[]⟩ : ByteArray)) else ((strings_Join.f x0 x1).bind fun t1056 => (some t1056)))
def impl_Join.f (k : Nat) (l0 : List ByteArray) (a1 : ByteArray) : Option (ByteArray) := impl_Join.l0 k l0 a1 (wrap64 ((mx (wrap64 ((l0.length : Int) - 1)) 0) * (a1.size : Int))) l0 (l0.length : Int) 0
set_option maxHeartbeats 40000000 in
set_option maxRecDepth 100000 in
theorem impl_Join.calls (k : Nat) (A0 : Option Addr) (c0 : Nat) (l0 : List ByteArray) (a1 : ByteArray) (r : ByteArray) (w : World) (hr0 : Kd.C Kd.string w A0 l0.length l0) (hc0 : l0.length ≤ c0) (h : impl_Join.f k l0 a1 = some r) :
  Calls Tryz.prog 184 #[.slice A0 l0.length c0, .string a1] w fun e w' => e = .returned (.string r) ∧ Below w.heap.size w w' := by
 have HR0 := Aside0.mk hr0; have HC0 := Aside0.mk hc0; clear hr0 hc0; have HB := Aside0.mk (Below.refl w.heap.size w); have H := h; clear h; unfold impl_Join.f at H; obtain ⟨ji3, hji3⟩ : ∃ j_ : Int, (mx (wrap64 ((l0.length : Int) - 1)) 0) = j_ := ⟨_, rfl⟩
 replace H : (impl_Join.l0 k l0 a1 (wrap64 ((ji3) * (a1.size : Int))) l0 (l0.length : Int) 0) = some r := by first | (rw [hji3] at H; exact H) | (simp only [hji3] at H ⊢; exact H)
 (try (have hji3l : 0 ≤ ji3 := by (rw [← hji3]; unfold mx; (repeat' split) <;> omega)))
 (try (have hji3m : 0 ≤ ji3 := by omega))
 have hji3_ : (if (wrap64 ((l0.length : Int) - 1)) < 0 then 0 else (wrap64 ((l0.length : Int) - 1))) = ji3 := hji3
 have H' := Aside0.mk H; clear H
 go_enter Tryz.func184, Tryz.ntmps184
 go_wp2
 go_loopg [5, 17] k (fun kq v5 v17 w' => ∃ (x5_1 : Int) (x17_1 : Int), v5 = .int .i64 x5_1 ∧ v17 = .int .i64 x17_1 ∧ Aside0 (impl_Join.l0 kq l0 a1 x5_1 l0 (l0.length : Int) x17_1 = some r) ∧ Aside0 (kq ≤ k) ∧ Aside0 (Below w.heap.size w w'))
 case atStart => exact ⟨(wrap64 ((ji3) * (a1.size : Int))), (0), (by first | rfl | (simp; done) | (simp only [← hji3] <;> (first | rfl | simp)) | (simp [*]; done)), s3_, H', ⟨Nat.le_refl _⟩, ⟨s1_⟩⟩
 case round =>
  clear H'
  try clear c1
  try clear p2
  obtain ⟨x5_1, x17_1, rfl, rfl, HA, HK1, HB⟩ := hrel
  cases gk with
  | zero => exact absurd HA.out (by simp [impl_Join.l0])
  | succ k1 =>
   have H := HA.out; clear HA
   simp only [impl_Join.l0] at H
   by_cases c4 : x17_1 < (l0.length : Int)
   ·
    rw [if_pos c4] at H; have c4b0 : decide (x17_1 < (l0.length : Int)) = true := decide_eq_true c4; clear c4
    by_cases c5 : 0 ≤ x17_1
    ·
     rw [if_pos c5] at H; have c5b0 : decide (0 ≤ x17_1) = true := decide_eq_true c5; clear c5
     by_cases c6 : x17_1 < (l0.length : Int)
     ·
      rw [if_pos c6] at H; have c6b0 : decide (x17_1 < (l0.length : Int)) = true := decide_eq_true c6; clear c6; have H' := Aside0.mk H; clear H
      have p1055 : 0 ≤ (x17_1 : Int) := of_decide_eq_true (by first | (with_reducible assumption) | assumption)
      have q1055 : x17_1 < (l0.length : Int) := of_decide_eq_true (by first | (with_reducible assumption) | assumption)
      obtain ⟨ad1055, e1055, hx1055_0⟩ := Kd.at_string HR0.out x17_1 p1055 q1055
      cases e1055
      replace hx1055_0 := (HB.out.cell (World.block_lt_of_cell? w _ hx1055_0)).trans hx1055_0; replace p1055 := eq_true p1055; replace q1055 := eq_true q1055
      go_wp2
      go_roundg k1
      case measure => have := HK1.out; omega
      case rel => exact ⟨(wrap64 (x5_1 + ((rdOf ByteArray.empty l0 x17_1).size : Int))), (wrap64 (x17_1 + 1)), s3_, s3_, H', ⟨by have := HK1.out; omega⟩, ⟨s1_⟩⟩
     ·
      rw [if_neg c6] at H
      exact absurd H (by simp)
    ·
     rw [if_neg c5] at H
     exact absurd H (by simp)
   ·
    rw [if_neg c4] at H; have c4b0 : decide (x17_1 < (l0.length : Int)) = false := decide_eq_false c4; clear c4
    by_cases c7 : x5_1 > 1048576
    ·
     rw [if_pos c7] at H; have c7b0 : decide (1048576 < x5_1) = true := decide_eq_true c7; clear c7; obtain rfl := Option.some.inj H
     go_wp2
     go_ret
     exact ⟨q36_1, s1_⟩
    ·
     rw [if_neg c7] at H; have c7b0 : decide (1048576 < x5_1) = false := decide_eq_false c7; clear c7; obtain ⟨t1056, A8, H⟩ := bnd36_ H; obtain rfl := Option.some.inj H
     go_wp2_with (first | ((with_reducible refine gate_callee (f := 235) rfl ?_); refine goesL_ (some 30) rfl rfl Tryz.func235 (by kernel_rfl) rfl #[.slice A0 l0.length c0, .string a1] rfl (by (try simp only [List.map_toArray, List.map_cons, List.map_nil]); first | done | rfl | (simp only [List.length_drop, List.length_take]; rfl)) ?_; (with_reducible refine (strings_Join.calls _ _ l0 a1 t1056 _ ?side1 ?side2 A8.out).mono ?_); (case side1 => repeat (first | exact (Kd.C_below HR0.out HB.out) | (with_reducible refine Kd.C_alloc ?_ _) | (with_reducible refine Kd.C_drewN ?_ _) | (with_reducible refine Kd.C_drew ?_))); (case side2 => exact HC0.out); rintro e w9 ⟨rfl, hb⟩; refine ⟨_, rfl, ?_⟩; have n_ := Aside0.mk (below_step s1_ hb); clear HB; have HB := n_; clear n_; (try clear hb)))
     go_ret
     exact ⟨q36_1, s1_⟩
theorem bnd41_ {α β : Type} {o : Option α} {f : α → Option β} {r : β} (h : o.bind f = some r) : ∃ a, Aside0 (o = some a) ∧ f a = some r := by
 obtain ⟨a, h1, h2⟩ := Option.bind_eq_some_iff.mp h
 exact ⟨a, ⟨h1⟩, h2⟩
theorem q41_1 {P : Prop} (h : P := by repeat (first | (with_reducible first | exact HB.out | apply below_alloc | apply pw_below_drewN | apply below_drew1 | refine below_set ?_ GE1062.out) | exact HB.out)) : P := h
def impl_RulesText.l0 : Nat → List ByteArray → List (S48) → Int → Int → Option (ByteArray)
 | 0, _, _, _, _ => none
 | k + 1, x3, x15, x16, x17 => if x17 < x16 then (if 0 ≤ x17 then (if x17 < (x15.length : Int) then ((impl_RuleText.f k ((rd_T48 x15 x17).f0) ((rd_T48 x15 x17).f1)).bind fun t1063 => (if x3.length < 8796093022208 then (impl_RulesText.l0 k (x3 ++ [t1063]) x15 x16 (wrap64 (x17 + 1))) else (none))) else (none)) else (none)) else ((impl_Join.f k x3 (⟨#[32]⟩ : ByteArray)).bind fun t1067 => (some t1067))
def impl_RulesText.f (k : Nat) (l0 : List (S48)) : Option (ByteArray) := if (l0.length : Int) = 0 then (some (⟨#[110, 111, 110, 101]⟩ : ByteArray)) else ((impl_areAnyRules.f l0).bind fun t1057 => (if t1057 = true then (impl_RulesText.l0 k (([] : List ByteArray)) l0 (l0.length : Int) 0) else (some (⟨#[]⟩ : ByteArray))))
set_option maxHeartbeats 40000000 in
set_option maxRecDepth 100000 in
theorem impl_RulesText.calls (k : Nat) (A0 : Option Addr) (c0 : Nat) (l0 : List (S48)) (r : ByteArray) (w : World) (hr0 : Kd.C k48 w A0 l0.length l0) (hc0 : l0.length ≤ c0) (h : impl_RulesText.f k l0 = some r) :
  Calls Tryz.prog 77 #[.slice A0 l0.length c0] w fun e w' => e = .returned (.string r) ∧ Below w.heap.size w w' := by
 have hu48 := Tryz.underlying48; have HR0 := Aside0.mk hr0; have HC0 := Aside0.mk hc0; clear hr0 hc0; have HB := Aside0.mk (Below.refl w.heap.size w); have H := h; clear h; unfold impl_RulesText.f at H
 by_cases c2 : (l0.length : Int) = 0
 ·
  rw [if_pos c2] at H; have c2b0 : ((l0.length : Int) == 0) = true := beq_iff_eq.mpr c2; have c2b1 : ((l0.length : Int) != 0) = false := bne_eq_false_iff_eq.mpr c2; clear c2; obtain rfl := Option.some.inj H
  go_enter Tryz.func77, Tryz.ntmps77
  go_wp2
  go_ret
  exact ⟨s2_, s1_⟩
 ·
  rw [if_neg c2] at H; have c2b0 : ((l0.length : Int) == 0) = false := beq_eq_false_iff_ne.mpr c2; have c2b1 : ((l0.length : Int) != 0) = true := bne_iff_ne.mpr c2
  have c2b2 : ¬ (l0 = []) := fun h_ => c2 (by rw [h_]; rfl)
  obtain ⟨t1057, A3, H⟩ := bnd41_ H
  by_cases c4 : t1057 = true
  ·
   subst c4; rw [if_pos rfl] at H; obtain ⟨y1058, hy_⟩ : ∃ y_ : List ByteArray, y_ = (([] : List ByteArray)) := ⟨_, rfl⟩
   replace H : (impl_RulesText.l0 k y1058 l0 (l0.length : Int) 0) = some r := rH_
   have Ny1058 := Aside0.mk hy_; clear hy_; have H' := Aside0.mk H; clear H
   go_enter Tryz.func77, Tryz.ntmps77
   go_wp2_with (first | ((with_reducible refine gw_ rfl ?_); (refine gL_ 149 12 Tryz.func149 #[.slice A0 l0.length c0] ?_; (with_reducible refine (impl_areAnyRules.calls _ _ l0 true _ ?side1 ?side2 A3.out).mono ?_); (case side1 => exact s15_); (case side2 => exact HC0.out); rintro e w5 ⟨rfl, hb⟩; refine ⟨_, rfl, ?_⟩; have n_ := Aside0.mk (below_step s1_ hb); clear HB; have HB := n_; clear n_; (try clear hb))) | ((with_reducible refine gate_dst (N := 14) rfl ?_); refine Kd.R_lit Kd.string _ 9 ?hg (N := 14) ?hd (xs := ([] : List ByteArray)) (inner := []) (ok := fun _ => True) (okp := fun _ => True) ?hr ?hp (fun _ hk => hk) trivial (Below.refl _ _) (Nat.le_refl _) (by simp) ?_; (case hd => rfl); (case hg => rfl); (case hr => first | (go_simp; done) | (go_simp; rfl)); (case hp => exact (Reps.none _ _)); intro v1059 w6 ho7 hb hg_ hnew_; clear hg_ hnew_; (first | rw [← Ny1058.out] at ho7 | (simp only [Int.reduceToNat] at ho7; rw [← Ny1058.out] at ho7)); have n_ := ac_ (Kd.R_lower ho7 (below_size s1_)) <| Aside0.mk (below_step s1_ hb); clear HB; obtain ⟨HO1060, HB⟩ := n_; clear hb ho7))
   go_loopg [3, 17] k (fun kq v3 v17 w' => ∃ (x3_1 : List ByteArray) (x17_1 : Int), v17 = .int .i64 x17_1 ∧ Aside0 (impl_RulesText.l0 kq x3_1 l0 (l0.length : Int) x17_1 = some r) ∧ Aside0 (kq ≤ k) ∧ Aside0 (Kd.R Kd.string 9 w' w.heap.size (fun _ => True) v3 x3_1) ∧ Aside0 (Below w.heap.size w w'))
   case atStart => exact ⟨(y1058), (0), rf_, H', ⟨Nat.le_refl _⟩, ⟨(by (with_reducible repeat (first | apply Kd.R_alloc | apply Kd.R_drewN | apply Kd.R_drew)); exact HO1060.out)⟩, ⟨s1_⟩⟩
   case round =>
    clear H'
    try clear c1
    try clear c2
    try clear c2b0
    try clear c2b1
    try clear c2b2
    try clear p2
    try clear c4
    try clear c7
    obtain ⟨x3_1, x17_1, rfl, HA, HK1, HO_3, HB⟩ := hrel
    cases gk with
    | zero => exact absurd HA.out (by simp [impl_RulesText.l0])
    | succ k1 =>
     have H := HA.out; clear HA
     simp only [impl_RulesText.l0] at H
     by_cases c8 : x17_1 < (l0.length : Int)
     ·
      rw [if_pos c8] at H; have c8b0 : decide (x17_1 < (l0.length : Int)) = true := decide_eq_true c8; clear c8
      by_cases c9 : 0 ≤ x17_1
      ·
       rw [if_pos c9] at H; have c9b0 : decide (0 ≤ x17_1) = true := decide_eq_true c9; clear c9
       by_cases c10 : x17_1 < (l0.length : Int)
       ·
        rw [if_pos c10] at H; have c10b0 : decide (x17_1 < (l0.length : Int)) = true := decide_eq_true c10; clear c10; obtain ⟨t1063, A11, H⟩ := bnd41_ H
        by_cases c12 : x3_1.length < 8796093022208
        ·
         rw [if_pos c12] at H; have LMc12 := Aside0.mk c12; clear c12; obtain ⟨y1064, hy_⟩ : ∃ y_ : List ByteArray, y_ = (x3_1 ++ [t1063]) := ⟨_, rfl⟩
         replace H : (impl_RulesText.l0 k1 y1064 l0 (l0.length : Int) (wrap64 (x17_1 + 1))) = some r := rH_
         have Ny1064 := Aside0.mk hy_; clear hy_; have H' := Aside0.mk H; clear H
         have p1061 : 0 ≤ (x17_1 : Int) := of_decide_eq_true (by first | (with_reducible assumption) | assumption)
         have q1061 : x17_1 < (l0.length : Int) := of_decide_eq_true (by first | (with_reducible assumption) | assumption)
         obtain ⟨ad1061, e1061, hx1061_0, hx1061_1⟩ := at_T48 HR0.out x17_1 p1061 q1061
         cases e1061
         replace hx1061_0 := (HB.out.cell (World.block_lt_of_cell? w _ hx1061_0)).trans hx1061_0; replace hx1061_1 := (HB.out.cell (World.block_lt_of_cell? w _ hx1061_1)).trans hx1061_1; replace p1061 := eq_true p1061; replace q1061 := eq_true q1061
         go_wp2_with (first | ((with_reducible refine gw_ rfl ?_); first | (refine be_ 5 #[.int .i64 0, .int .i64 0] 48 ?_; intro gb1062 hg w13 hbox hb; have n_ := ac_ (Kd.R_below s11_ hb) <| ac_ (below_step s1_ hb) <| ac_ (hbox) <| ac_ ((gz_ w hg s1_)) <| Aside0.mk ((gz_ w hg s1_)); clear HO_3 HB; obtain ⟨HO_3, HB, BK1062, GW1062, GE1062⟩ := n_; clear hb hbox hg; have hcz14_0 : w13.cell? ⟨gb1062, 0, none⟩ = some (.int .i64 0) := (blk_cell BK1062.out 0).trans rfl; have hcz14_1 : w13.cell? ⟨gb1062, 1, none⟩ = some (.int .i64 0) := (blk_cell BK1062.out 1).trans rfl; have hfz14_0 := blk_frozen BK1062.out 0; have hfz14_1 := blk_frozen BK1062.out 1) | (refine gL_ 84 23 Tryz.func84 #[.agg #[.int .i64 ((rd_T48 l0 x17_1).f0), .int .i64 ((rd_T48 l0 x17_1).f1)]] ?_; (with_reducible refine (impl_RuleText.calls k1 ((rd_T48 l0 x17_1).f0) ((rd_T48 l0 x17_1).f1) t1063 _ A11.out).mono ?_); rintro e w15 ⟨rfl, hb⟩; refine ⟨_, rfl, ?_⟩; have n_ := ac_ (Kd.R_below (by (with_reducible repeat (first | apply Kd.R_alloc | apply Kd.R_drewN | apply Kd.R_drew)); exact (Kd.R_mono (Kd.R_far (p := ⟨gb1062, 1, none⟩) (Kd.R_far (p := ⟨gb1062, 0, none⟩) (Kd.R_types HO_3.out BK1062.out (by decide)) (fun _ hk => hk.2) (.int .i64 ((rd_T48 l0 x17_1).f0))) (fun _ hk => hk.2) (.int .i64 ((rd_T48 l0 x17_1).f1))) (fun _ h_ => h_.1))) hb) <| ac_ (blk_below (g := gb1062) (o := .cells #[.int .i64 ((rd_T48 l0 x17_1).f0), .int .i64 ((rd_T48 l0 x17_1).f1)] 48 (0, 0)) (by (with_reducible repeat (first | refine blk_drewN ?_ _ | refine blk_drew ?_ | refine blk_alloc ?_ _)); refine blk_put (cs := #[.int .i64 ((rd_T48 l0 x17_1).f0), .int .i64 0]) ?_ 1 _ rfl; (with_reducible repeat (first | refine blk_drewN ?_ _ | refine blk_drew ?_ | refine blk_alloc ?_ _)); refine blk_put (cs := #[.int .i64 0, .int .i64 0]) ?_ 0 _ rfl; (with_reducible repeat (first | refine blk_drewN ?_ _ | refine blk_drew ?_ | refine blk_alloc ?_ _)); exact BK1062.out) hb) <| Aside0.mk (below_step q41_1 hb); clear HO_3 BK1062 HB; obtain ⟨HO_3, BK1062, HB⟩ := n_; (try clear hb))) | ((with_reducible refine gate_builtin (b := .append) (xs := #[.tmp 21, .tmp 24]) rfl ?_); at_builtin; refine Kd.R_append Kd.string (w0 := w) w.heap.size rfl (.tmp 21) (.tmp 24) 132 9 (.string ⟨#[]⟩) 16 rfl Tryz.underlying132 info9 rfl (by decide) (by omega) u3 x3_1 t1063 [.string t1063] (fun _ => True) (fun _ => False) rfl rfl ?aP (fun _ hk => hk.elim) ?aF ?aO ?aB ?aS ?aL ?_; (case aP => exact rfl); (case aB => exact q41_1); (case aF => exact (fun _ _ => trivial)); (case aO => exact s11_); (case aS => exact (below_size q41_1)); (case aL => have := LMc12.out; omega); intro v1065 w16 ho hb hg hat; rw [← Ny1064.out] at ho; have n_ := ac_ (blk_grown (g := gb1062) (o := .cells #[.int .i64 ((rd_T48 l0 x17_1).f0), .int .i64 ((rd_T48 l0 x17_1).f1)] 48 (0, 0)) (by (with_reducible repeat (first | refine blk_drewN ?_ _ | refine blk_drew ?_ | refine blk_alloc ?_ _)); exact BK1062.out) hg (Kd.R_ne HO_3.out BK1062.out (by decide))) <| ac_ (hb) <| Aside0.mk (ho); clear BK1062 HB HO_3; obtain ⟨BK1062, HB, HO1066⟩ := n_; clear ho hb hg hat))
         go_roundg k1
         case measure => have := HK1.out; omega
         case rel => exact ⟨(y1064), (wrap64 (x17_1 + 1)), rf_, H', ⟨by have := HK1.out; omega⟩, ⟨(by (with_reducible repeat (first | apply Kd.R_alloc | apply Kd.R_drewN | apply Kd.R_drew)); exact HO1066.out)⟩, ⟨q41_1⟩⟩
        ·
         rw [if_neg c12] at H
         exact absurd H (by simp)
       ·
        rw [if_neg c10] at H
        exact absurd H (by simp)
      ·
       rw [if_neg c9] at H
       exact absurd H (by simp)
     ·
      rw [if_neg c8] at H; have c8b0 : decide (x17_1 < (l0.length : Int)) = false := decide_eq_false c8; clear c8; obtain ⟨t1067, A17, H⟩ := bnd41_ H; obtain rfl := Option.some.inj H; obtain ⟨Ao18, co18, eo18⟩ := Kd.R_slice HO_3.out; subst eo18
      go_wp2_with ((with_reducible refine gw_ rfl ?_); (refine gL_ 184 28 Tryz.func184 #[.slice Ao18 x3_1.length co18, .string (⟨#[32]⟩ : ByteArray)] ?_; (with_reducible refine (impl_Join.calls k1 _ _ x3_1 (⟨#[32]⟩ : ByteArray) t1067 _ ?side1 ?side2 A17.out).mono ?_); (case side1 => repeat (first | exact (Kd.R_reads' HO_3.out).2.2 | (with_reducible refine Kd.C_alloc ?_ _) | (with_reducible refine Kd.C_drewN ?_ _) | (with_reducible refine Kd.C_drew ?_))); (case side2 => exact (Kd.R_reads' HO_3.out).2.1); rintro e w19 ⟨rfl, hb⟩; refine ⟨_, rfl, ?_⟩; have n_ := ac_ (Kd.R_below s11_ hb) <| Aside0.mk (below_step s1_ hb); clear HO_3 HB; obtain ⟨HO_3, HB⟩ := n_; (try clear hb)))
      go_ret
      exact ⟨s2_, s1_⟩
  ·
   replace c4 := Bool.eq_false_iff.mpr c4; subst c4
   rw [if_neg (show ¬ (false = true) by decide)] at H
   obtain rfl := Option.some.inj H
   go_enter Tryz.func77, Tryz.ntmps77
   go_wp2_with ((with_reducible refine gw_ rfl ?_); (refine gL_ 149 12 Tryz.func149 #[.slice A0 l0.length c0] ?_; (with_reducible refine (impl_areAnyRules.calls _ _ l0 false _ ?side1 ?side2 A3.out).mono ?_); (case side1 => exact s15_); (case side2 => exact HC0.out); rintro e w20 ⟨rfl, hb⟩; refine ⟨_, rfl, ?_⟩; have n_ := Aside0.mk (below_step s1_ hb); clear HB; have HB := n_; clear n_; (try clear hb)))
   go_ret
   exact ⟨s2_, s1_⟩
end Go.Proofs.YtafnamchckehmaaGreatDoor.Pr
namespace Go.Proofs.YtafnamchckehmaaGreatDoor.Pr
open Go.RowKit Go.Proofs.YtafnamchckehmaaGreatDoorW.PrintWords Go.Proofs.YtafnamchckehmaaGreatDoorW.PrintLast Go.Proofs.YtafnamchckehmaaGreatDoorW.PrintMore
set_option linter.unusedVariables false
set_option linter.unusedSimpArgs false
def TabMax (w : World) : Prop := ∃ m : Int, w.cell? ⟨2, 0, none⟩ = some (.int .i64 m)
theorem TabMax.below {w w' : World} (h : TabMax w) (hb : Below w.heap.size w w') : TabMax w' := by
  obtain ⟨m, h⟩ := h
  exact ⟨m, (hb.cell (World.block_lt_of_cell? w _ h)).trans h⟩
theorem TabMax.of_shaped {w : World} (h : w.ShapedOpen Tryz.prog) : TabMax w := Tryz.laysM146.s1_3 w h
theorem Reps_oneS {α : Type} (enc : α → Value) (xs : List α) : Reps (fun x c => c = [enc x]) 1 xs (xs.map enc) := by
  refine ⟨by simp, fun j p hp => ?_⟩
  rw [Nat.mul_one]
  obtain ⟨hj, rfl⟩ := List.getElem?_eq_some_iff.1 hp
  refine List.ext_getElem? fun i => ?_
  cases i with
  | zero => simp [List.getElem?_take, List.getElem?_drop, List.getElem?_eq_getElem hj]
  | succ i => simp [List.getElem?_take]
def strings_Split.f (a0 a1 : ByteArray) : Option (List ByteArray) := if a0.size < 4294967281 ∧ 1 ≤ a1.size then some (Lib.splitB a1 0 (Lib.countB a0 a1) a0) else none
theorem strings_Split.calls (a0 a1 : ByteArray) (r : List ByteArray) (w : World) (htab : TabMax w) (h : strings_Split.f a0 a1 = some r) :
    Calls Tryz.prog 180 #[.string a0, .string a1] w fun e w' => ∃ v0_ : Value, e = .returned (v0_) ∧ Kd.R Kd.string 9 w' w.heap.size (fun _ => True) v0_ r ∧ Below w.heap.size w w' := by
  unfold strings_Split.f at h
  by_cases hn : a0.size < 4294967281 ∧ 1 ≤ a1.size
  · rw [if_pos hn] at h
    obtain rfl := Option.some.inj h
    obtain ⟨m, hm⟩ := htab
    refine (Tryz.strings_Split a0 a1 m w hn.1 hm hn.2).mono ?_
    rintro e w' ⟨rfl, rfl⟩
    have hlen : (Lib.splitB a1 0 (Lib.countB a0 a1) a0).length = Lib.countB a0 a1 + 1 := Lib.splitB_all a1 hn.2 0 _ a0 rfl
    have hc := Lib.countB_le a1 hn.2 a0.size a0 (Nat.le_refl _)
    have hmax : (4294967296 : Nat) ≤ maxLen := by decide
    refine ⟨_, rfl, ⟨fun _ _ => trivial, (Lib.splitB a1 0 (Lib.countB a0 a1) a0).map Value.string, ⟨by rw [List.length_map]; exact (Nat.mul_one _).symm, .inr ⟨w.heap.size, Lib.countB a0 a1 + 1, _, by rw [hlen], Nat.le_refl _, Array.getElem?_push_size, by omega, by omega, ?_, ?_⟩⟩, Reps_oneS _ _⟩, below_alloc (Below.refl _ _) _⟩
    · rw [List.size_toArray, List.length_map, hlen]; exact (Nat.mul_one _).symm
    · rw [show (Lib.splitB a1 0 (Lib.countB a0 a1) a0).length * Kd.string.sz = (Lib.splitB a1 0 (Lib.countB a0 a1) a0).length from Nat.mul_one _]
      exact List.take_of_length_le (by rw [List.length_map]; exact Nat.le_refl _)
  · rw [if_neg hn] at h
    cases h
end Go.Proofs.YtafnamchckehmaaGreatDoor.Pr
namespace Go.Proofs.YtafnamchckehmaaGreatDoor.Pr
open Go.RowKit Go.Proofs.YtafnamchckehmaaGreatDoorW.PrintWords Go.Proofs.YtafnamchckehmaaGreatDoorW.PrintLast Go.Proofs.YtafnamchckehmaaGreatDoorW.PrintMore
attribute [local go_sem] max2_int min2_int max_two min_two max_three min_three max_four min_four
set_option linter.unusedVariables false
set_option linter.unusedSimpArgs false
theorem bnd43_ {α β : Type} {o : Option α} {f : α → Option β} {r : β} (h : o.bind f = some r) : ∃ a, Aside0 (o = some a) ∧ f a = some r := by
 obtain ⟨a, h1, h2⟩ := Option.bind_eq_some_iff.mp h
 exact ⟨a, ⟨h1⟩, h2⟩
theorem q43_1 {P : Prop} (h : P := by (with_reducible repeat (first | refine blk_drewN ?_ _ | refine blk_drew ?_ | refine blk_alloc ?_ _)); refine blk_put (cs := #[.int .i64 t992, .int .i64 0]) ?_ 1 _ rfl; (with_reducible repeat (first | refine blk_drewN ?_ _ | refine blk_drew ?_ | refine blk_alloc ?_ _)); refine blk_put (cs := #[.int .i64 0, .int .i64 0]) ?_ 0 _ rfl; (with_reducible repeat (first | refine blk_drewN ?_ _ | refine blk_drew ?_ | refine blk_alloc ?_ _)); exact BK995.out) : P := h
theorem q43_2 {P : Prop} (h : P := by repeat (first | (with_reducible first | exact HB.out | apply below_alloc | apply pw_below_drewN | apply below_drew1 | refine below_set ?_ GE995.out) | exact HB.out)) : P := h
theorem q43_3 {P : Prop} (h : P := by first | exact Kd.R_nil _ _ _ _ _ | exact Kd.N_nil _ _ _ _ _ | exact Kd.V_nil _ _ _ _ _ | exact Kd.Q_nil _ _ _ _ _ | exact Kd.S_nil _ _ _ _ _) : P := h
theorem q43_6 {P : Prop} (h : P := by (with_reducible repeat (first | apply Kd.R_alloc | apply Kd.R_drewN | apply Kd.R_drew)); exact HO_13.out) : P := h
def impl_ParseRules.l0 : Nat → List (S48) → List ByteArray → Int → Int → Option ((List (S48)) × Bool)
 | 0, _, _, _, _ => none
 | k + 1, x4, x13, x14, x15 => if x15 < x14 then (if 0 ≤ x15 then (if x15 < (x13.length : Int) then ((impl_ParseRule.f k (rdOf ByteArray.empty x13 x15)).bind fun bt992 => (if bt992.2.2 = true then (if (x4.length : Int) = 40 then (some (([] : List (S48)), false)) else (if x4.length < 8796093022208 then (impl_ParseRules.l0 k (x4 ++ [(⟨bt992.1, bt992.2.1⟩ : S48)]) x13 x14 (wrap64 (x15 + 1))) else (none))) else (some (([] : List (S48)), false)))) else (none)) else (none)) else (some (x4, true))
def impl_ParseRules.f (k : Nat) (a0 : ByteArray) : Option ((List (S48)) × Bool) := if a0.toList = ([110, 111, 110, 101] : List UInt8) then (some (([] : List (S48)), true)) else ((strings_Split.f a0 (⟨#[32]⟩ : ByteArray)).bind fun t988 => (impl_ParseRules.l0 k (([] : List (S48))) t988 (t988.length : Int) 0))
set_option maxHeartbeats 40000000 in
set_option maxRecDepth 100000 in
theorem impl_ParseRules.calls (k : Nat) (a0 : ByteArray) (r1 : List (S48)) (r2 : Bool) (w : World) (htab : TabMax w) (h : impl_ParseRules.f k a0 = some (r1, r2)) :
  Calls Tryz.prog 74 #[.string a0] w fun e w' => ∃ v0_ : Value, e = .returned (.tuple #[v0_, .bool r2]) ∧ Kd.R k48 48 w' w.heap.size (fun _ => True) v0_ r1 ∧ Below w.heap.size w w' := by
 have HTB := Aside0.mk htab; clear htab; have hu48 := Tryz.underlying48; have HB := Aside0.mk (Below.refl w.heap.size w); have H := h; clear h; unfold impl_ParseRules.f at H
 by_cases c2 : a0.toList = ([110, 111, 110, 101] : List UInt8)
 ·
  rw [if_pos c2] at H; have c2b0 : (a0.toList == ([110, 111, 110, 101] : List UInt8)) = true := beq_iff_eq.mpr c2; have c2b1 : (a0.toList != ([110, 111, 110, 101] : List UInt8)) = false := bne_eq_false_iff_eq.mpr c2; clear c2
  simp only [Option.some.injEq, Prod.mk.injEq] at H
  obtain ⟨rfl, rfl⟩ := H
  go_enter Tryz.func74, Tryz.ntmps74
  go_wp2
  go_ret2
  exact ⟨_, s2_, q43_3, s1_⟩
 ·
  rw [if_neg c2] at H; have c2b0 : (a0.toList == ([110, 111, 110, 101] : List UInt8)) = false := beq_eq_false_iff_ne.mpr c2; have c2b1 : (a0.toList != ([110, 111, 110, 101] : List UInt8)) = true := bne_iff_ne.mpr c2; obtain ⟨y985, hy_⟩ : ∃ y_ : List (S48), y_ = (([] : List (S48))) := ⟨_, rfl⟩
  replace H : ((strings_Split.f a0 (⟨#[32]⟩ : ByteArray)).bind fun t988 => (impl_ParseRules.l0 k y985 t988 (t988.length : Int) 0)) = some (r1, r2) := rH_
  have Ny985 := Aside0.mk hy_; clear hy_; obtain ⟨t988, A3, H⟩ := bnd43_ H; have H' := Aside0.mk H; clear H
  go_enter Tryz.func74, Tryz.ntmps74
  go_wp2_with (first | ((with_reducible refine gw_ rfl ?_); (refine gL_ 180 13 Tryz.func180 #[.string a0, .string (⟨#[32]⟩ : ByteArray)] ?_; (with_reducible refine (strings_Split.calls a0 (⟨#[32]⟩ : ByteArray) t988 _ ?tab A3.out).mono ?_); (case tab => first | exact HTB.out | (refine TabMax.below HTB.out ?_; repeat (first | (with_reducible first | exact HB.out | apply below_alloc | apply pw_below_drewN | apply below_drew1 | refine below_set ?_ GE995.out) | exact HB.out)) | (repeat (first | exact HTB.out | apply TabMax.drewN | apply TabMax.drew | apply TabMax.alloc))); rintro e w6 ⟨v989, rfl, ho0, hb⟩; refine ⟨_, rfl, ?_⟩; have n_ := ac_ (Kd.R_below (by (with_reducible repeat (first | apply Kd.R_alloc | apply Kd.R_drewN | apply Kd.R_drew)); exact HO987.out) hb) <| ac_ (Kd.R_lower ho0 (below_size s1_)) <| Aside0.mk (below_step s1_ hb); clear HO987 HB; obtain ⟨HO987, HO990, HB⟩ := n_; (try clear hb ho0); obtain ⟨Ao7, co7, eo7⟩ := Kd.R_slice HO990.out; subst eo7)) | ((with_reducible refine gate_dst (N := 11) rfl ?_); (try (refine gate_guard (by rfl) ?_; dsimp only)); refine Kd.R_lit k48 _ 48 ?hg (N := 11) ?hd (xs := ([] : List (S48))) (inner := []) (ok := fun _ => True) (okp := fun _ => True) ?hr ?hp (fun _ hk => hk) trivial (Below.refl _ _) (Nat.le_refl _) (by simp) ?_; (case hd => rfl); (case hg => rfl); (case hr => first | (go_simp; done) | (go_simp; rfl)); (case hp => exact (Reps.none _ _)); intro v986 w4 ho5 hb hg_ hnew_; clear hg_ hnew_; (first | rw [← Ny985.out] at ho5 | (simp only [Int.reduceToNat] at ho5; rw [← Ny985.out] at ho5)); have n_ := ac_ (Kd.R_lower ho5 (below_size s1_)) <| Aside0.mk (below_step s1_ hb); clear HB; obtain ⟨HO987, HB⟩ := n_; clear hb ho5))
  go_loopg [4, 15] k (fun kq v4 v15 w' => ∃ (x4_1 : List (S48)) (x15_1 : Int), v15 = .int .i64 x15_1 ∧ Aside0 (impl_ParseRules.l0 kq x4_1 t988 (t988.length : Int) x15_1 = some (r1, r2)) ∧ Aside0 (kq ≤ k) ∧ Aside0 (Kd.R k48 48 w' w.heap.size (fun _ => True) v4 x4_1) ∧ Aside0 (Kd.R Kd.string 9 w' w.heap.size (fun _ => True) (.slice Ao7 t988.length co7) t988) ∧ Aside0 (Below w.heap.size w w'))
  case atStart => exact ⟨(y985), (0), rf_, H', ⟨Nat.le_refl _⟩, ⟨(by (with_reducible repeat (first | apply Kd.R_alloc | apply Kd.R_drewN | apply Kd.R_drew)); exact HO987.out)⟩, ⟨(by (with_reducible repeat (first | apply Kd.R_alloc | apply Kd.R_drewN | apply Kd.R_drew)); exact HO990.out)⟩, ⟨s1_⟩⟩
  case round =>
   clear H'
   try clear c1
   try clear c2
   try clear c2b0
   try clear c2b1
   try clear p2
   try clear c7
   obtain ⟨x4_1, x15_1, rfl, HA, HK1, HO_4, HO_13, HB⟩ := hrel
   cases gk with
   | zero => exact absurd HA.out (by simp [impl_ParseRules.l0])
   | succ k1 =>
    have H := HA.out; clear HA
    simp only [impl_ParseRules.l0] at H
    by_cases c8 : x15_1 < (t988.length : Int)
    ·
     rw [if_pos c8] at H; have c8b0 : decide (x15_1 < (t988.length : Int)) = true := decide_eq_true c8; clear c8
     by_cases c9 : 0 ≤ x15_1
     ·
      rw [if_pos c9] at H; have c9b0 : decide (0 ≤ x15_1) = true := decide_eq_true c9; clear c9
      by_cases c10 : x15_1 < (t988.length : Int)
      ·
       rw [if_pos c10] at H; have c10b0 : decide (x15_1 < (t988.length : Int)) = true := decide_eq_true c10; clear c10; obtain ⟨⟨t992, t993, t994⟩, A11, H⟩ := bnd43_ H; dsimp only at H
       by_cases c12 : t994 = true
       ·
        subst c12; rw [if_pos rfl] at H
        by_cases c13 : (x4_1.length : Int) = 40
        ·
         rw [if_pos c13] at H; have c13b0 : ((x4_1.length : Int) == 40) = true := beq_iff_eq.mpr c13; have c13b1 : ((x4_1.length : Int) != 40) = false := bne_eq_false_iff_eq.mpr c13; clear c13
         simp only [Option.some.injEq, Prod.mk.injEq] at H
         obtain ⟨rfl, rfl⟩ := H; have p991 : 0 ≤ (x15_1 : Int) := of_decide_eq_true s4_; have q991 : x15_1 < (t988.length : Int) := of_decide_eq_true s4_; obtain ⟨ad991, e991, hx991_0⟩ := Kd.at_string (Kd.R_reads' HO_13.out).2.2 x15_1 p991 q991
         cases e991
         replace p991 := eq_true p991; replace q991 := eq_true q991
         go_wp2_with (first | ((with_reducible refine gw_ rfl ?_); (refine gL_ 181 21 Tryz.func181 #[.string (rdOf ByteArray.empty t988 x15_1)] ?_; (with_reducible refine (impl_ParseRule.calls k1 (rdOf ByteArray.empty t988 x15_1) t992 t993 true _ A11.out).mono ?_); rintro e w14 ⟨rfl, hb⟩; refine ⟨_, rfl, ?_⟩; have n_ := ac_ (Kd.R_below s16_ hb) <| ac_ (Kd.R_below q43_6 hb) <| Aside0.mk (below_step s1_ hb); clear HO_4 HO_13 HB; obtain ⟨HO_4, HO_13, HB⟩ := n_; (try clear hb))) | ((with_reducible refine gate_dst (N := 7) rfl ?_); (try (refine gate_guard (by rfl) ?_; dsimp only)); refine box_event ?hg (N := 7) ?hd (cs := #[.int .i64 0, .int .i64 0]) (t := 48) ?hr ?_; (case hd => rfl); (case hg => rfl); (case hr => first | (go_simp; done) | (go_simp; rfl)); intro gb995 hg w15 hbox hb; have n_ := ac_ (Kd.R_below (Kd.R_elderB s16_ gb995 (Nat.le_of_eq hg.symm)) hb) <| ac_ (Kd.R_below q43_6 hb) <| ac_ (below_step s1_ hb) <| ac_ (hbox) <| ac_ ((gz_ w hg s1_)) <| Aside0.mk ((gz_ w hg s1_)); clear HO_4 HO_13 HB; obtain ⟨HO_4, HO_13, HB, BK995, GW995, GE995⟩ := n_; clear hb hbox hg; have hcz16_0 : w15.cell? ⟨gb995, 0, none⟩ = some (.int .i64 0) := (blk_cell BK995.out 0).trans rfl; have hcz16_1 : w15.cell? ⟨gb995, 1, none⟩ = some (.int .i64 0) := (blk_cell BK995.out 1).trans rfl; have hfz16_0 := blk_frozen BK995.out 0; have hfz16_1 := blk_frozen BK995.out 1; obtain ⟨Ao17, co17, eo17⟩ := Kd.R_slice HO_4.out; subst eo17))
         go_ret2
         exact ⟨_, s2_, q43_3, q43_2⟩
        ·
         rw [if_neg c13] at H; have c13b0 : ((x4_1.length : Int) == 40) = false := beq_eq_false_iff_ne.mpr c13; have c13b1 : ((x4_1.length : Int) != 40) = true := bne_iff_ne.mpr c13
         by_cases c18 : x4_1.length < 8796093022208
         ·
          rw [if_pos c18] at H; have LMc18 := Aside0.mk c18; clear c18; obtain ⟨y996, hy_⟩ : ∃ y_ : List (S48), y_ = (x4_1 ++ [(⟨t992, t993⟩ : S48)]) := ⟨_, rfl⟩
          replace H : (impl_ParseRules.l0 k1 y996 t988 (t988.length : Int) (wrap64 (x15_1 + 1))) = some (r1, r2) := rH_
          have Ny996 := Aside0.mk hy_; clear hy_; have H' := Aside0.mk H; clear H; have p991 : 0 ≤ (x15_1 : Int) := of_decide_eq_true s4_; have q991 : x15_1 < (t988.length : Int) := of_decide_eq_true s4_; obtain ⟨ad991, e991, hx991_0⟩ := Kd.at_string (Kd.R_reads' HO_13.out).2.2 x15_1 p991 q991
          cases e991
          replace p991 := eq_true p991; replace q991 := eq_true q991
          go_wp2_with (first | ((with_reducible refine gw_ rfl ?_); (refine gL_ 181 21 Tryz.func181 #[.string (rdOf ByteArray.empty t988 x15_1)] ?_; (with_reducible refine (impl_ParseRule.calls k1 (rdOf ByteArray.empty t988 x15_1) t992 t993 true _ A11.out).mono ?_); rintro e w19 ⟨rfl, hb⟩; refine ⟨_, rfl, ?_⟩; have n_ := ac_ (Kd.R_below s16_ hb) <| ac_ (Kd.R_below q43_6 hb) <| Aside0.mk (below_step s1_ hb); clear HO_4 HO_13 HB; obtain ⟨HO_4, HO_13, HB⟩ := n_; (try clear hb))) | ((with_reducible refine gate_dst (N := 7) rfl ?_); (try (refine gate_guard (by rfl) ?_; dsimp only)); refine box_event ?hg (N := 7) ?hd (cs := #[.int .i64 0, .int .i64 0]) (t := 48) ?hr ?_; (case hd => rfl); (case hg => rfl); (case hr => first | (go_simp; done) | (go_simp; rfl)); intro gb995 hg w20 hbox hb; have n_ := ac_ (Kd.R_below (Kd.R_elderB s16_ gb995 (Nat.le_of_eq hg.symm)) hb) <| ac_ (Kd.R_below q43_6 hb) <| ac_ (below_step s1_ hb) <| ac_ (hbox) <| ac_ ((gz_ w hg s1_)) <| Aside0.mk ((gz_ w hg s1_)); clear HO_4 HO_13 HB; obtain ⟨HO_4, HO_13, HB, BK995, GW995, GE995⟩ := n_; clear hb hbox hg; have hcz21_0 : w20.cell? ⟨gb995, 0, none⟩ = some (.int .i64 0) := (blk_cell BK995.out 0).trans rfl; have hcz21_1 : w20.cell? ⟨gb995, 1, none⟩ = some (.int .i64 0) := (blk_cell BK995.out 1).trans rfl; have hfz21_0 := blk_frozen BK995.out 0; have hfz21_1 := blk_frozen BK995.out 1; obtain ⟨Ao22, co22, eo22⟩ := Kd.R_slice HO_4.out; subst eo22) | ((with_reducible refine gate_builtin (b := .append) (xs := #[.tmp 31, .tmp 33]) rfl ?_); (try (refine gate_guard (by rfl) ?_; dsimp only)); at_builtin; refine Kd.R_append k48 (w0 := w) w.heap.size rfl (.tmp 31) (.tmp 33) 24 48 (.agg #[(.int .i64 0), (.int .i64 0)]) 16 rfl Tryz.underlying24 info48 rfl (by decide) (by omega) (.slice Ao22 x4_1.length co22) x4_1 (⟨t992, t993⟩ : S48) [.int .i64 t992, .int .i64 t993] (fun k_ => k_ ≠ gb995) (fun _ => False) rfl (by first | (go_simp; done) | (go_simp; rfl)) ?aP (fun _ hk => hk.elim) ?aF ?aO ?aB ?aS ?aL ?_; (case aP => exact k48_mkM _ _ _ (⟨t992, t993⟩ : S48)); (case aB => exact q43_2); (case aF => exact (fun k_ hk => Kd.freshB (g := gb995) (o := .cells #[.int .i64 t992, .int .i64 t993] 48 (0, 0)) q43_1 k_ hk)); (case aO => exact (by (with_reducible repeat (first | apply Kd.R_alloc | apply Kd.R_drewN | apply Kd.R_drew)); exact Kd.R_mono (Kd.R_far (p := ⟨gb995, 1, none⟩) (Kd.R_far (p := ⟨gb995, 0, none⟩) (Kd.R_mono HO_4.out (fun k_ hk => (⟨hk, hk.2⟩ : _ ∧ k_ ≠ gb995))) (fun _ hk => hk.2) (.int .i64 t992)) (fun _ hk => hk.2) (.int .i64 t993)) (fun _ hk => hk.1.2))); (case aS => exact (below_size q43_2)); (case aL => have := LMc18.out; omega); intro v997 w23 ho hb hg hat; rw [← Ny996.out] at ho; have n_ := ac_ (Kd.R_over' (by (with_reducible repeat (first | apply Kd.R_alloc | apply Kd.R_drewN | apply Kd.R_drew)); exact (Kd.R_mono (Kd.R_far (p := ⟨gb995, 1, none⟩) (Kd.R_far (p := ⟨gb995, 0, none⟩) (Kd.R_types HO_13.out BK995.out (by decide)) (fun _ hk => hk.2) (.int .i64 t992)) (fun _ hk => hk.2) (.int .i64 t993)) (fun _ h_ => h_.1))) (Kd.R_typed (by (with_reducible repeat (first | apply Kd.R_alloc | apply Kd.R_drewN | apply Kd.R_drew)); exact (Kd.R_mono (Kd.R_far (p := ⟨gb995, 1, none⟩) (Kd.R_far (p := ⟨gb995, 0, none⟩) (Kd.R_mono HO_4.out (fun k_ hk => (⟨hk, hk.2⟩ : _ ∧ k_ ≠ gb995))) (fun _ hk => hk.2) (.int .i64 t992)) (fun _ hk => hk.2) (.int .i64 t993)) (fun _ h_ => h_.1)))) (by decide) hg) <| ac_ (blk_grown (g := gb995) (o := .cells #[.int .i64 t992, .int .i64 t993] 48 (0, 0)) q43_1 hg (Kd.R_away HO_4.out (fun _ hk => hk.2))) <| ac_ (hb) <| Aside0.mk (ho); clear HO_13 BK995 HB HO_4; obtain ⟨HO_13, BK995, HB, HO998⟩ := n_; clear ho hb hg hat))
          go_roundg k1
          case measure => have := HK1.out; omega
          case rel => exact ⟨(y996), (wrap64 (x15_1 + 1)), rf_, H', ⟨by have := HK1.out; omega⟩, ⟨(by (with_reducible repeat (first | apply Kd.R_alloc | apply Kd.R_drewN | apply Kd.R_drew)); exact Kd.R_mono HO998.out (fun _ hk => trivial))⟩, ⟨q43_6⟩, ⟨q43_2⟩⟩
         ·
          rw [if_neg c18] at H
          exact absurd H (by simp)
       ·
        replace c12 := Bool.eq_false_iff.mpr c12; subst c12
        rw [if_neg (show ¬ (false = true) by decide)] at H
        simp only [Option.some.injEq, Prod.mk.injEq] at H
        obtain ⟨rfl, rfl⟩ := H; have p991 : 0 ≤ (x15_1 : Int) := of_decide_eq_true s4_; have q991 : x15_1 < (t988.length : Int) := of_decide_eq_true s4_; obtain ⟨ad991, e991, hx991_0⟩ := Kd.at_string (Kd.R_reads' HO_13.out).2.2 x15_1 p991 q991
        cases e991
        replace p991 := eq_true p991; replace q991 := eq_true q991
        go_wp2_with (first | ((with_reducible refine gw_ rfl ?_); (refine gL_ 181 21 Tryz.func181 #[.string (rdOf ByteArray.empty t988 x15_1)] ?_; (with_reducible refine (impl_ParseRule.calls k1 (rdOf ByteArray.empty t988 x15_1) t992 t993 false _ A11.out).mono ?_); rintro e w24 ⟨rfl, hb⟩; refine ⟨_, rfl, ?_⟩; have n_ := ac_ (Kd.R_below s16_ hb) <| ac_ (Kd.R_below q43_6 hb) <| Aside0.mk (below_step s1_ hb); clear HO_4 HO_13 HB; obtain ⟨HO_4, HO_13, HB⟩ := n_; (try clear hb))) | ((with_reducible refine gate_dst (N := 7) rfl ?_); (try (refine gate_guard (by rfl) ?_; dsimp only)); refine box_event ?hg (N := 7) ?hd (cs := #[.int .i64 0, .int .i64 0]) (t := 48) ?hr ?_; (case hd => rfl); (case hg => rfl); (case hr => first | (go_simp; done) | (go_simp; rfl)); intro gb995 hg w25 hbox hb; have n_ := ac_ (Kd.R_below (Kd.R_elderB s16_ gb995 (Nat.le_of_eq hg.symm)) hb) <| ac_ (Kd.R_below q43_6 hb) <| ac_ (below_step s1_ hb) <| ac_ (hbox) <| ac_ ((gz_ w hg s1_)) <| Aside0.mk ((gz_ w hg s1_)); clear HO_4 HO_13 HB; obtain ⟨HO_4, HO_13, HB, BK995, GW995, GE995⟩ := n_; clear hb hbox hg; have hcz26_0 : w25.cell? ⟨gb995, 0, none⟩ = some (.int .i64 0) := (blk_cell BK995.out 0).trans rfl; have hcz26_1 : w25.cell? ⟨gb995, 1, none⟩ = some (.int .i64 0) := (blk_cell BK995.out 1).trans rfl; have hfz26_0 := blk_frozen BK995.out 0; have hfz26_1 := blk_frozen BK995.out 1))
        go_ret2
        exact ⟨_, s2_, q43_3, q43_2⟩
      ·
       rw [if_neg c10] at H
       exact absurd H (by simp)
     ·
      rw [if_neg c9] at H
      exact absurd H (by simp)
    ·
     rw [if_neg c8] at H; have c8b0 : decide (x15_1 < (t988.length : Int)) = false := decide_eq_false c8; clear c8
     simp only [Option.some.injEq, Prod.mk.injEq] at H
     obtain ⟨rfl, rfl⟩ := H
     go_wp2
     go_ret2
     exact ⟨_, s2_, s16_, s1_⟩
end Go.Proofs.YtafnamchckehmaaGreatDoor.Pr
