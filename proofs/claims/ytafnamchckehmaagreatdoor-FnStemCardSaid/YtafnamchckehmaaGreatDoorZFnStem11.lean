/- Functions of the program as plain functions, proofs that their calls answer so, and plain laws: what the law needs. No condition beyond what each statement says. -/
import Derived.Test.YtafnamchckehmaaGreatDoorZFnStem10
import Derived.Sort.LotA
namespace Go.Proofs.YtafnamchckehmaaGreatDoor.Pr
set_option maxHeartbeats 4000000
set_option maxRecDepth 100000
open Go.RowKit Go.Proofs.YtafnamchckehmaaGreatDoorW.PrintWords Go.Proofs.YtafnamchckehmaaGreatDoorW.PrintLast Go.Proofs.YtafnamchckehmaaGreatDoorW.PrintMore
set_option linter.unusedVariables false
def impl_IsContext.f (a0 : Int) (l1 : List Int) : Option Bool := some (decide (0 ≤ a0 ∧ a0 ≤ 6) && decide ((l1.length : Int) ≤ 8) && l1.all (Pu.isSetB a0))
theorem box2_cells {w w1 : World} {a b : Value} {t : TypeId} (h : Below (w.alloc (.cells #[a, b] t)).heap.size (w.alloc (.cells #[a, b] t)) w1) : w1.cell? ⟨w.heap.size, 0, none⟩ = some a ∧ w1.cell? ⟨w.heap.size, 1, none⟩ = some b := by
  have h0 : (w.alloc (.cells #[a, b] t)).cell? ⟨w.heap.size, 0, none⟩ = some a := blk_cell (heap_alloc_new w (.cells #[a, b] t)) 0
  have h1 : (w.alloc (.cells #[a, b] t)).cell? ⟨w.heap.size, 1, none⟩ = some b := blk_cell (heap_alloc_new w (.cells #[a, b] t)) 1
  exact ⟨(h.cell (p := ⟨w.heap.size, 0, none⟩) (by simp)).trans h0, (h.cell (p := ⟨w.heap.size, 1, none⟩) (by simp)).trans h1⟩
theorem IsContext1_calls (n : Int) (b : Nat) (x : Int) (W : World) (hc : W.cell? ⟨b, 0, none⟩ = some (.int .i64 n)) :
    Calls Tryz.prog 228 #[.int .i64 x, .pointer (some ⟨b, 0, none⟩)] W fun e w' => e = .returned (.bool (!Pu.isSetB n x)) ∧ Below W.heap.size W w' := by
  have hu := Tryz.underlying29
  have K1 : Aside0 (impl_IsSet.f n x = some (Pu.isSetB n x)) := ⟨Pu.set_val n x⟩
  go_enter Tryz.func228, Tryz.ntmps228
  go_wp2_with (go_at_call 130; refine (impl_IsSet.calls n x _ _ K1.out).mono ?_; rintro e w' ⟨rfl, ⟨⟨q, rfl⟩⟩⟩)
  go_ret
  exact ⟨rfl, by repeat (first | apply below_alloc | apply pw_below_drewN | apply below_drew1 | exact Below.refl _ _)⟩
theorem IsContext1_fn (n : Int) (b : Nat) (w : World) (hc : w.cell? ⟨b, 0, none⟩ = some (.int .i64 n)) : FnIb 228 #[.pointer (some ⟨b, 0, none⟩)] (fun x => !Pu.isSetB n x) w := by
  intro W x hb
  rw [show (#[.int .i64 x] ++ #[.pointer (some ⟨b, 0, none⟩)] : Array Value) = #[.int .i64 x, .pointer (some ⟨b, 0, none⟩)] from rfl]
  exact IsContext1_calls n b x W ((hb.cell (p := ⟨b, 0, none⟩) (World.block_lt_of_cell? w _ hc)).trans hc)
theorem impl_IsContext.calls (a0_0 : Int) (A0_1 : Option Addr) (c0_1 : Nat) (l0_1 : List Int) (r : Bool) (w : World) (hr0_1 : Kd.C (Kd.int .i64) w A0_1 l0_1.length l0_1) (hc0_1 : l0_1.length ≤ c0_1) (h : impl_IsContext.f a0_0 l0_1 = some r) :
    Calls Tryz.prog 164 #[.agg #[.int .i64 a0_0, .slice A0_1 l0_1.length c0_1]] w fun e w' => e = .returned (.bool r) ∧ Below w.heap.size w w' := by
  have hu := Tryz.underlying29
  have HR := Aside0.mk hr0_1
  have hr := Aside0.mk (Option.some.inj h)
  clear h hr0_1
  have eg : ∀ args w, (callFunc 228 args).run Tryz.prog w = .ok (.enter 228 args) w := enters_of Tryz.func228 (by kernel_rfl) rfl
  cases h1 : decide (0 ≤ a0_0 ∧ a0_0 ≤ 6) with
  | false =>
    have K : Aside0 (impl_within.f a0_0 0 6 = some false) := ⟨by rw [Pu.within_val, h1]⟩
    have H : Aside0 (r = false) := ⟨by rw [← hr.out, h1]; rfl⟩
    clear h1
    go_enter Tryz.func164, Tryz.ntmps164
    go_wp2_with (go_at_call 127; refine (impl_within.calls a0_0 0 6 false _ K.out).mono ?_; rintro e w' ⟨rfl, ⟨⟨q, rfl⟩⟩⟩)
    go_ret
    exact ⟨by rw [H.out]; rfl, by repeat (first | apply below_alloc | apply pw_below_drewN | apply below_drew1 | exact Below.refl _ _)⟩
  | true =>
    have K : Aside0 (impl_within.f a0_0 0 6 = some true) := ⟨by rw [Pu.within_val, h1]⟩
    by_cases h2 : (l0_1.length : Int) ≤ 8
    · have h2b : decide ((l0_1.length : Int) ≤ 8) = true := decide_eq_true h2
      have H : Aside0 (r = !(l0_1.any fun x => !Pu.isSetB a0_0 x)) := ⟨by rw [← hr.out, h1, h2b, ← List.all_eq_not_any_not]; rfl⟩
      clear h1 h2
      go_enter Tryz.func164, Tryz.ntmps164
      go_wp2_with (go_at_call 127; refine (impl_within.calls a0_0 0 6 true _ K.out).mono ?_; rintro e w1 ⟨rfl, hd⟩; have HB1 := Aside0.mk (below_step (below_alloc (Below.refl w.heap.size w) _) hd.below); have HC1 := Aside0.mk (box2_cells (a := .int .i64 a0_0) (b := .slice A0_1 l0_1.length c0_1) hd.below); clear hd; have hcell := HC1.out.2)
      refine (ContainsFunc_int 228 #[.pointer (some ⟨w.heap.size, 0, none⟩)] eg A0_1 c0_1 l0_1 (fun x => !Pu.isSetB a0_0 x) w1 (Kd.C_below HR.out HB1.out) (IsContext1_fn a0_0 w.heap.size w1 HC1.out.1)).mono ?_
      rintro e w' ⟨rfl, hb⟩
      go_wp2
      go_ret
      exact ⟨by rw [H.out]; rfl, below_step HB1.out hb⟩
    · have h2b : decide ((l0_1.length : Int) ≤ 8) = false := decide_eq_false h2
      have H : Aside0 (r = false) := ⟨by rw [← hr.out, h1, h2b]; rfl⟩
      clear h1 h2
      go_enter Tryz.func164, Tryz.ntmps164
      go_wp2_with (go_at_call 127; refine (impl_within.calls a0_0 0 6 true _ K.out).mono ?_; rintro e w1 ⟨rfl, hd⟩; have HB1 := Aside0.mk (below_step (below_alloc (Below.refl w.heap.size w) _) hd.below); have HC1 := Aside0.mk (box2_cells (a := .int .i64 a0_0) (b := .slice A0_1 l0_1.length c0_1) hd.below); clear hd; have hcell := HC1.out.2)
      go_ret
      exact ⟨by rw [H.out]; rfl, HB1.out⟩
end Go.Proofs.YtafnamchckehmaaGreatDoor.Pr
namespace Go.Proofs.YtafnamchckehmaaGreatDoor.Pr
set_option maxHeartbeats 40000000
set_option maxRecDepth 100000
open Go.RowKit Go.Proofs.YtafnamchckehmaaGreatDoorW.PrintWords Go.Proofs.YtafnamchckehmaaGreatDoorW.PrintLast Go.Proofs.YtafnamchckehmaaGreatDoorW.PrintMore
attribute [local go_sem] max2_int min2_int max_two min_two max_three min_three max_four min_four
set_option linter.unusedVariables false
set_option linter.unusedSimpArgs false
theorem bnd33_ {α β : Type} {o : Option α} {f : α → Option β} {r : β} (h : o.bind f = some r) : ∃ a, Aside0 (o = some a) ∧ f a = some r := by
 obtain ⟨a, h1, h2⟩ := Option.bind_eq_some_iff.mp h
 exact ⟨a, ⟨h1⟩, h2⟩
theorem q33_2 {P : Prop} (h : P := by repeat (first | (with_reducible first | exact HB.out | apply below_alloc | apply pw_below_drewN | apply below_drew1 | refine below_set ?_ GE809.out) | exact HB.out)) : P := h
theorem q33_5 {P : Prop} (h : P := by (with_reducible repeat (first | refine blk_drewN ?_ _ | refine blk_drew ?_ | refine blk_alloc ?_ _)); exact BK809.out) : P := h
def impl_areAttributes.f (a0_0 : Int) (l0_1 : List Int) (a1 : Int) : Option (Bool) := (impl_IsContext.f a0_0 l0_1).bind fun t810 => (if t810 = true then ((impl_IsSet.f a0_0 a1).bind fun t811 => (some t811)) else (some false))
theorem impl_areAttributes.calls (a0_0 : Int) (A0_1 : Option Addr) (c0_1 : Nat) (l0_1 : List Int) (a1 : Int) (r : Bool) (w : World) (hr0_1 : Kd.C (Kd.int .i64) w A0_1 l0_1.length l0_1) (hc0_1 : l0_1.length ≤ c0_1) (h : impl_areAttributes.f a0_0 l0_1 a1 = some r) :
  Calls Tryz.prog 175 #[.agg #[.int .i64 a0_0, .slice A0_1 l0_1.length c0_1], .int .i64 a1] w fun e w' => e = .returned (.bool r) ∧ Below w.heap.size w w' := by
 have hu29 := Tryz.underlying29; have HR0_1 := Aside0.mk hr0_1; have HC0_1 := Aside0.mk hc0_1; clear hr0_1 hc0_1; have HB := Aside0.mk (Below.refl w.heap.size w); have H := h; clear h; unfold impl_areAttributes.f at H; obtain ⟨t810, A3, H⟩ := bnd33_ H
 by_cases c4 : t810 = true
 ·
  subst c4; rw [if_pos rfl] at H; obtain ⟨t811, A5, H⟩ := bnd33_ H; obtain rfl := Option.some.inj H
  go_enter Tryz.func175, Tryz.ntmps175
  go_wp2_with (first | ((with_reducible refine gw_ rfl ?_); first | (refine be_ 2 #[.int .i64 a0_0, .slice A0_1 l0_1.length c0_1] 29 ?_; intro gb809 hg w6 hbox hb; have n_ := ac_ (below_step s1_ hb) <| ac_ (hbox) <| ac_ ((gz_ w hg s1_)) <| Aside0.mk ((gz_ w hg s1_)); clear HB; obtain ⟨HB, BK809, GW809, GE809⟩ := n_; clear hb hbox hg; have hcz7_0 : w6.cell? ⟨gb809, 0, none⟩ = some (.int .i64 a0_0) := (blk_cell BK809.out 0).trans rfl; have hcz7_1 : w6.cell? ⟨gb809, 1, none⟩ = some (.slice A0_1 l0_1.length c0_1) := (blk_cell BK809.out 1).trans rfl; have hfz7_0 := blk_frozen BK809.out 0; have hfz7_1 := blk_frozen BK809.out 1) | (refine gL_ 164 6 Tryz.func164 #[.agg #[.int .i64 a0_0, .slice A0_1 l0_1.length c0_1]] ?_; (with_reducible refine (impl_IsContext.calls a0_0 _ _ l0_1 true _ ?side1 ?side2 A3.out).mono ?_); (case side1 => exact s2_); (case side2 => exact HC0_1.out); rintro e w8 ⟨rfl, hb⟩; refine ⟨_, rfl, ?_⟩; have n_ := ac_ (blk_below (g := gb809) (o := .cells #[.int .i64 a0_0, .slice A0_1 l0_1.length c0_1] 29 (0, 0)) q33_5 hb) <| Aside0.mk (below_step q33_2 hb); clear BK809 HB; obtain ⟨BK809, HB⟩ := n_; (try clear hb); have hcz9_0 : w8.cell? ⟨gb809, 0, none⟩ = some (.int .i64 a0_0) := (blk_cell BK809.out 0).trans rfl; have hcz9_1 : w8.cell? ⟨gb809, 1, none⟩ = some (.slice A0_1 l0_1.length c0_1) := (blk_cell BK809.out 1).trans rfl; have hfz9_0 := blk_frozen BK809.out 0; have hfz9_1 := blk_frozen BK809.out 1)) | (go_at_call 130; (with_reducible refine (impl_IsSet.calls a0_0 a1 t811 _ A5.out).mono ?_); rintro e w' ⟨rfl, ⟨nd, rfl⟩⟩))
  go_ret
  exact ⟨(by first | rfl | (simp [errW_none, errW_some] <;> rfl) | (simp [*, errW_none, errW_some] <;> rfl)), q33_2⟩
 ·
  replace c4 := Bool.eq_false_iff.mpr c4; subst c4
  rw [if_neg (show ¬ (false = true) by decide)] at H
  obtain rfl := Option.some.inj H
  go_enter Tryz.func175, Tryz.ntmps175
  go_wp2_with ((with_reducible refine gw_ rfl ?_); first | (refine be_ 2 #[.int .i64 a0_0, .slice A0_1 l0_1.length c0_1] 29 ?_; intro gb809 hg w10 hbox hb; have n_ := ac_ (below_step s1_ hb) <| ac_ (hbox) <| ac_ ((gz_ w hg s1_)) <| Aside0.mk ((gz_ w hg s1_)); clear HB; obtain ⟨HB, BK809, GW809, GE809⟩ := n_; clear hb hbox hg; have hcz11_0 : w10.cell? ⟨gb809, 0, none⟩ = some (.int .i64 a0_0) := (blk_cell BK809.out 0).trans rfl; have hcz11_1 : w10.cell? ⟨gb809, 1, none⟩ = some (.slice A0_1 l0_1.length c0_1) := (blk_cell BK809.out 1).trans rfl; have hfz11_0 := blk_frozen BK809.out 0; have hfz11_1 := blk_frozen BK809.out 1) | (refine gL_ 164 6 Tryz.func164 #[.agg #[.int .i64 a0_0, .slice A0_1 l0_1.length c0_1]] ?_; (with_reducible refine (impl_IsContext.calls a0_0 _ _ l0_1 false _ ?side1 ?side2 A3.out).mono ?_); (case side1 => exact s2_); (case side2 => exact HC0_1.out); rintro e w12 ⟨rfl, hb⟩; refine ⟨_, rfl, ?_⟩; have n_ := ac_ (blk_below (g := gb809) (o := .cells #[.int .i64 a0_0, .slice A0_1 l0_1.length c0_1] 29 (0, 0)) q33_5 hb) <| Aside0.mk (below_step q33_2 hb); clear BK809 HB; obtain ⟨BK809, HB⟩ := n_; (try clear hb)))
  go_ret
  exact ⟨(by first | rfl | (simp [errW_none, errW_some] <;> rfl) | (simp [*, errW_none, errW_some] <;> rfl)), q33_2⟩
theorem q33_7 {P : Prop} (h : P := by repeat (first | (with_reducible first | exact HB.out | apply below_alloc | apply pw_below_drewN | apply below_drew1 | refine below_set ?_ GE813.out) | exact HB.out)) : P := h
theorem q33_10 {P : Prop} (h : P := by (with_reducible repeat (first | refine blk_drewN ?_ _ | refine blk_drew ?_ | refine blk_alloc ?_ _)); exact BK813.out) : P := h
def impl_areObjects.f (a0_0 : Int) (l0_1 : List Int) (a1 : Int) : Option (Bool) := (impl_IsContext.f a0_0 l0_1).bind fun t814 => (if t814 = true then ((impl_IsSet.f (l0_1.length : Int) a1).bind fun t815 => (some t815)) else (some false))
theorem impl_areObjects.calls (a0_0 : Int) (A0_1 : Option Addr) (c0_1 : Nat) (l0_1 : List Int) (a1 : Int) (r : Bool) (w : World) (hr0_1 : Kd.C (Kd.int .i64) w A0_1 l0_1.length l0_1) (hc0_1 : l0_1.length ≤ c0_1) (h : impl_areObjects.f a0_0 l0_1 a1 = some r) :
  Calls Tryz.prog 256 #[.agg #[.int .i64 a0_0, .slice A0_1 l0_1.length c0_1], .int .i64 a1] w fun e w' => e = .returned (.bool r) ∧ Below w.heap.size w w' := by
 have hu29 := Tryz.underlying29; have HR0_1 := Aside0.mk hr0_1; have HC0_1 := Aside0.mk hc0_1; clear hr0_1 hc0_1; have HB := Aside0.mk (Below.refl w.heap.size w); have H := h; clear h; unfold impl_areObjects.f at H; obtain ⟨t814, A3, H⟩ := bnd33_ H
 by_cases c4 : t814 = true
 ·
  subst c4; rw [if_pos rfl] at H; obtain ⟨t815, A5, H⟩ := bnd33_ H; obtain rfl := Option.some.inj H
  go_enter Tryz.func256, Tryz.ntmps256
  go_wp2_with (first | ((with_reducible refine gw_ rfl ?_); (refine gL_ 164 6 Tryz.func164 #[.agg #[.int .i64 a0_0, .slice A0_1 l0_1.length c0_1]] ?_; (with_reducible refine (impl_IsContext.calls a0_0 _ _ l0_1 true _ ?side1 ?side2 A3.out).mono ?_); (case side1 => exact s2_); (case side2 => exact HC0_1.out); rintro e w8 ⟨rfl, hb⟩; refine ⟨_, rfl, ?_⟩; have n_ := ac_ (blk_below (g := gb813) (o := .cells #[.int .i64 a0_0, .slice A0_1 l0_1.length c0_1] 29 (0, 0)) q33_10 hb) <| Aside0.mk (below_step q33_7 hb); clear BK813 HB; obtain ⟨BK813, HB⟩ := n_; (try clear hb); have hcz9_0 : w8.cell? ⟨gb813, 0, none⟩ = some (.int .i64 a0_0) := (blk_cell BK813.out 0).trans rfl; have hcz9_1 : w8.cell? ⟨gb813, 1, none⟩ = some (.slice A0_1 l0_1.length c0_1) := (blk_cell BK813.out 1).trans rfl; have hfz9_0 := blk_frozen BK813.out 0; have hfz9_1 := blk_frozen BK813.out 1)) | ((with_reducible refine gate_dst (N := 2) rfl ?_); (try (refine gate_guard (by rfl) ?_; dsimp only)); refine box_event ?hg (N := 2) ?hd (cs := #[.int .i64 a0_0, .slice A0_1 l0_1.length c0_1]) (t := 29) ?hr ?_; (case hd => rfl); (case hg => rfl); (case hr => first | (go_simp; done) | (go_simp; rfl)); intro gb813 hg w6 hbox hb; have n_ := ac_ (below_step s1_ hb) <| ac_ (hbox) <| ac_ ((gz_ w hg s1_)) <| Aside0.mk ((gz_ w hg s1_)); clear HB; obtain ⟨HB, BK813, GW813, GE813⟩ := n_; clear hb hbox hg; have hcz7_0 : w6.cell? ⟨gb813, 0, none⟩ = some (.int .i64 a0_0) := (blk_cell BK813.out 0).trans rfl; have hcz7_1 : w6.cell? ⟨gb813, 1, none⟩ = some (.slice A0_1 l0_1.length c0_1) := (blk_cell BK813.out 1).trans rfl; have hfz7_0 := blk_frozen BK813.out 0; have hfz7_1 := blk_frozen BK813.out 1) | (go_at_call 130; (with_reducible refine (impl_IsSet.calls (l0_1.length : Int) a1 t815 _ A5.out).mono ?_); rintro e w' ⟨rfl, ⟨nd, rfl⟩⟩))
  go_ret
  exact ⟨(by first | rfl | (simp [errW_none, errW_some] <;> rfl) | (simp [*, errW_none, errW_some] <;> rfl)), q33_7⟩
 ·
  replace c4 := Bool.eq_false_iff.mpr c4; subst c4
  rw [if_neg (show ¬ (false = true) by decide)] at H
  obtain rfl := Option.some.inj H
  go_enter Tryz.func256, Tryz.ntmps256
  go_wp2_with (first | ((with_reducible refine gw_ rfl ?_); (refine gL_ 164 6 Tryz.func164 #[.agg #[.int .i64 a0_0, .slice A0_1 l0_1.length c0_1]] ?_; (with_reducible refine (impl_IsContext.calls a0_0 _ _ l0_1 false _ ?side1 ?side2 A3.out).mono ?_); (case side1 => exact s2_); (case side2 => exact HC0_1.out); rintro e w12 ⟨rfl, hb⟩; refine ⟨_, rfl, ?_⟩; have n_ := ac_ (blk_below (g := gb813) (o := .cells #[.int .i64 a0_0, .slice A0_1 l0_1.length c0_1] 29 (0, 0)) q33_10 hb) <| Aside0.mk (below_step q33_7 hb); clear BK813 HB; obtain ⟨BK813, HB⟩ := n_; (try clear hb))) | ((with_reducible refine gate_dst (N := 2) rfl ?_); (try (refine gate_guard (by rfl) ?_; dsimp only)); refine box_event ?hg (N := 2) ?hd (cs := #[.int .i64 a0_0, .slice A0_1 l0_1.length c0_1]) (t := 29) ?hr ?_; (case hd => rfl); (case hg => rfl); (case hr => first | (go_simp; done) | (go_simp; rfl)); intro gb813 hg w10 hbox hb; have n_ := ac_ (below_step s1_ hb) <| ac_ (hbox) <| ac_ ((gz_ w hg s1_)) <| Aside0.mk ((gz_ w hg s1_)); clear HB; obtain ⟨HB, BK813, GW813, GE813⟩ := n_; clear hb hbox hg; have hcz11_0 : w10.cell? ⟨gb813, 0, none⟩ = some (.int .i64 a0_0) := (blk_cell BK813.out 0).trans rfl; have hcz11_1 : w10.cell? ⟨gb813, 1, none⟩ = some (.slice A0_1 l0_1.length c0_1) := (blk_cell BK813.out 1).trans rfl; have hfz11_0 := blk_frozen BK813.out 0; have hfz11_1 := blk_frozen BK813.out 1))
  go_ret
  exact ⟨(by first | rfl | (simp [errW_none, errW_some] <;> rfl) | (simp [*, errW_none, errW_some] <;> rfl)), q33_7⟩
theorem q33_11 {P : Prop} (h : P := by repeat (first | exact (Kd.C_below HR0_1.out (by repeat (first | (with_reducible first | exact HB.out | apply below_alloc | apply pw_below_drewN | apply below_drew1 | refine below_set ?_ GE818.out) | exact HB.out))) | (with_reducible refine Kd.C_alloc ?_ _) | (with_reducible refine Kd.C_drewN ?_ _) | (with_reducible refine Kd.C_drew ?_))) : P := h
theorem q33_13 {P : Prop} (h : P := by repeat (first | (with_reducible first | exact HB.out | apply below_alloc | apply pw_below_drewN | apply below_drew1 | refine below_set ?_ GE818.out) | exact HB.out)) : P := h
theorem q33_15 {P : Prop} (h : P := by (with_reducible repeat (first | refine blk_drewN ?_ _ | refine blk_drew ?_ | refine blk_alloc ?_ _)); exact BK818.out) : P := h
def impl_IntentOf.f (k : Nat) (a0_0 : Int) (l0_1 : List Int) (a1 : Int) : Option (Int) := (impl_areObjects.f a0_0 l0_1 a1).bind fun t819 => (if t819 = true then ((impl_FullSet.f a0_0).bind fun t820 => ((impl_common.f k l0_1 a1 t820).bind fun t821 => (some t821))) else (some 0))
theorem impl_IntentOf.calls (k : Nat) (a0_0 : Int) (A0_1 : Option Addr) (c0_1 : Nat) (l0_1 : List Int) (a1 : Int) (r : Int) (w : World) (hr0_1 : Kd.C (Kd.int .i64) w A0_1 l0_1.length l0_1) (hc0_1 : l0_1.length ≤ c0_1) (h : impl_IntentOf.f k a0_0 l0_1 a1 = some r) :
  Calls Tryz.prog 226 #[.agg #[.int .i64 a0_0, .slice A0_1 l0_1.length c0_1], .int .i64 a1] w fun e w' => e = .returned (.int .i64 r) ∧ Below w.heap.size w w' := by
 have hu29 := Tryz.underlying29; have HR0_1 := Aside0.mk hr0_1; have HC0_1 := Aside0.mk hc0_1; clear hr0_1 hc0_1; have HB := Aside0.mk (Below.refl w.heap.size w); have H := h; clear h; unfold impl_IntentOf.f at H; obtain ⟨t819, A3, H⟩ := bnd33_ H
 by_cases c4 : t819 = true
 ·
  subst c4; rw [if_pos rfl] at H; obtain ⟨t820, A5, H⟩ := bnd33_ H; obtain ⟨t821, A6, H⟩ := bnd33_ H; obtain rfl := Option.some.inj H
  go_enter Tryz.func226, Tryz.ntmps226
  go_wp2_with (first | ((with_reducible refine gw_ rfl ?_); (refine be_ 2 #[.int .i64 a0_0, .slice A0_1 l0_1.length c0_1] 29 ?_; intro gb818 hg w7 hbox hb; have n_ := ac_ (below_step s1_ hb) <| ac_ (hbox) <| ac_ ((gz_ w hg s1_)) <| Aside0.mk ((gz_ w hg s1_)); clear HB; obtain ⟨HB, BK818, GW818, GE818⟩ := n_; clear hb hbox hg; have hcz8_0 : w7.cell? ⟨gb818, 0, none⟩ = some (.int .i64 a0_0) := (blk_cell BK818.out 0).trans rfl; have hcz8_1 : w7.cell? ⟨gb818, 1, none⟩ = some (.slice A0_1 l0_1.length c0_1) := (blk_cell BK818.out 1).trans rfl; have hfz8_0 := blk_frozen BK818.out 0; have hfz8_1 := blk_frozen BK818.out 1)) | (go_at_call 256; (with_reducible refine (impl_areObjects.calls a0_0 _ _ l0_1 a1 true _ ?side1 ?side2 A3.out).mono ?_); (case side1 => exact s2_); (case side2 => exact HC0_1.out); rintro e w9 ⟨rfl, hb⟩; have n_ := ac_ (blk_below (g := gb818) (o := .cells #[.int .i64 a0_0, .slice A0_1 l0_1.length c0_1] 29 (0, 0)) q33_15 hb) <| Aside0.mk (below_step q33_13 hb); clear BK818 HB; obtain ⟨BK818, HB⟩ := n_; (try clear hb); have hcz10_0 : w9.cell? ⟨gb818, 0, none⟩ = some (.int .i64 a0_0) := (blk_cell BK818.out 0).trans rfl; have hcz10_1 : w9.cell? ⟨gb818, 1, none⟩ = some (.slice A0_1 l0_1.length c0_1) := (blk_cell BK818.out 1).trans rfl; have hfz10_0 := blk_frozen BK818.out 0; have hfz10_1 := blk_frozen BK818.out 1) | (go_at_call 129; (with_reducible refine (impl_FullSet.calls a0_0 t820 _ A5.out).mono ?_); rintro e w' ⟨rfl, ⟨nd, rfl⟩⟩; (try exact dn_)) | (go_at_call 257; (with_reducible refine (impl_common.calls k _ _ l0_1 a1 t820 t821 _ ?side1 ?side2 A6.out).mono ?_); (case side1 => exact q33_11); (case side2 => exact HC0_1.out); rintro e w' ⟨rfl, ⟨nd, rfl⟩⟩; (try exact dn_)))
  repeat (go_quiet (first | (refine be_ 2 #[.int .i64 a0_0, .slice A0_1 l0_1.length c0_1] 29 ?_; intro gb818 hg w7 hbox hb; have n_ := ac_ (below_step s1_ hb) <| ac_ (hbox) <| ac_ ((gz_ w hg s1_)) <| Aside0.mk ((gz_ w hg s1_)); clear HB; obtain ⟨HB, BK818, GW818, GE818⟩ := n_; clear hb hbox hg; have hcz8_0 : w7.cell? ⟨gb818, 0, none⟩ = some (.int .i64 a0_0) := (blk_cell BK818.out 0).trans rfl; have hcz8_1 : w7.cell? ⟨gb818, 1, none⟩ = some (.slice A0_1 l0_1.length c0_1) := (blk_cell BK818.out 1).trans rfl; have hfz8_0 := blk_frozen BK818.out 0; have hfz8_1 := blk_frozen BK818.out 1) | (go_at_call 256; (with_reducible refine (impl_areObjects.calls a0_0 _ _ l0_1 a1 true _ ?side1 ?side2 A3.out).mono ?_); (case side1 => exact s2_); (case side2 => exact HC0_1.out); rintro e w9 ⟨rfl, hb⟩; have n_ := ac_ (blk_below (g := gb818) (o := .cells #[.int .i64 a0_0, .slice A0_1 l0_1.length c0_1] 29 (0, 0)) q33_15 hb) <| Aside0.mk (below_step q33_13 hb); clear BK818 HB; obtain ⟨BK818, HB⟩ := n_; (try clear hb); have hcz10_0 : w9.cell? ⟨gb818, 0, none⟩ = some (.int .i64 a0_0) := (blk_cell BK818.out 0).trans rfl; have hcz10_1 : w9.cell? ⟨gb818, 1, none⟩ = some (.slice A0_1 l0_1.length c0_1) := (blk_cell BK818.out 1).trans rfl; have hfz10_0 := blk_frozen BK818.out 0; have hfz10_1 := blk_frozen BK818.out 1) | (go_at_call 129; (with_reducible refine (impl_FullSet.calls a0_0 t820 _ A5.out).mono ?_); rintro e w' ⟨rfl, ⟨nd, rfl⟩⟩; (try exact dn_)) | (go_at_call 257; (with_reducible refine (impl_common.calls k _ _ l0_1 a1 t820 t821 _ ?side1 ?side2 A6.out).mono ?_); (case side1 => exact q33_11); (case side2 => exact HC0_1.out); rintro e w' ⟨rfl, ⟨nd, rfl⟩⟩; (try exact dn_))); try go_wp2_with (first | ((with_reducible refine gw_ rfl ?_); (refine be_ 2 #[.int .i64 a0_0, .slice A0_1 l0_1.length c0_1] 29 ?_; intro gb818 hg w7 hbox hb; have n_ := ac_ (below_step s1_ hb) <| ac_ (hbox) <| ac_ ((gz_ w hg s1_)) <| Aside0.mk ((gz_ w hg s1_)); clear HB; obtain ⟨HB, BK818, GW818, GE818⟩ := n_; clear hb hbox hg; have hcz8_0 : w7.cell? ⟨gb818, 0, none⟩ = some (.int .i64 a0_0) := (blk_cell BK818.out 0).trans rfl; have hcz8_1 : w7.cell? ⟨gb818, 1, none⟩ = some (.slice A0_1 l0_1.length c0_1) := (blk_cell BK818.out 1).trans rfl; have hfz8_0 := blk_frozen BK818.out 0; have hfz8_1 := blk_frozen BK818.out 1)) | (go_at_call 256; (with_reducible refine (impl_areObjects.calls a0_0 _ _ l0_1 a1 true _ ?side1 ?side2 A3.out).mono ?_); (case side1 => exact s2_); (case side2 => exact HC0_1.out); rintro e w9 ⟨rfl, hb⟩; have n_ := ac_ (blk_below (g := gb818) (o := .cells #[.int .i64 a0_0, .slice A0_1 l0_1.length c0_1] 29 (0, 0)) q33_15 hb) <| Aside0.mk (below_step q33_13 hb); clear BK818 HB; obtain ⟨BK818, HB⟩ := n_; (try clear hb); have hcz10_0 : w9.cell? ⟨gb818, 0, none⟩ = some (.int .i64 a0_0) := (blk_cell BK818.out 0).trans rfl; have hcz10_1 : w9.cell? ⟨gb818, 1, none⟩ = some (.slice A0_1 l0_1.length c0_1) := (blk_cell BK818.out 1).trans rfl; have hfz10_0 := blk_frozen BK818.out 0; have hfz10_1 := blk_frozen BK818.out 1) | (go_at_call 129; (with_reducible refine (impl_FullSet.calls a0_0 t820 _ A5.out).mono ?_); rintro e w' ⟨rfl, ⟨nd, rfl⟩⟩; (try exact dn_)) | (go_at_call 257; (with_reducible refine (impl_common.calls k _ _ l0_1 a1 t820 t821 _ ?side1 ?side2 A6.out).mono ?_); (case side1 => exact q33_11); (case side2 => exact HC0_1.out); rintro e w' ⟨rfl, ⟨nd, rfl⟩⟩; (try exact dn_))))
  go_ret
  exact ⟨(by first | rfl | (simp [errW_none, errW_some] <;> rfl) | (simp [*, errW_none, errW_some] <;> rfl)), q33_13⟩
 ·
  replace c4 := Bool.eq_false_iff.mpr c4; subst c4
  rw [if_neg (show ¬ (false = true) by decide)] at H
  obtain rfl := Option.some.inj H
  go_enter Tryz.func226, Tryz.ntmps226
  go_wp2_with (first | ((with_reducible refine gw_ rfl ?_); (refine be_ 2 #[.int .i64 a0_0, .slice A0_1 l0_1.length c0_1] 29 ?_; intro gb818 hg w11 hbox hb; have n_ := ac_ (below_step s1_ hb) <| ac_ (hbox) <| ac_ ((gz_ w hg s1_)) <| Aside0.mk ((gz_ w hg s1_)); clear HB; obtain ⟨HB, BK818, GW818, GE818⟩ := n_; clear hb hbox hg; have hcz12_0 : w11.cell? ⟨gb818, 0, none⟩ = some (.int .i64 a0_0) := (blk_cell BK818.out 0).trans rfl; have hcz12_1 : w11.cell? ⟨gb818, 1, none⟩ = some (.slice A0_1 l0_1.length c0_1) := (blk_cell BK818.out 1).trans rfl; have hfz12_0 := blk_frozen BK818.out 0; have hfz12_1 := blk_frozen BK818.out 1)) | (go_at_call 256; (with_reducible refine (impl_areObjects.calls a0_0 _ _ l0_1 a1 false _ ?side1 ?side2 A3.out).mono ?_); (case side1 => exact s2_); (case side2 => exact HC0_1.out); rintro e w13 ⟨rfl, hb⟩; have n_ := ac_ (blk_below (g := gb818) (o := .cells #[.int .i64 a0_0, .slice A0_1 l0_1.length c0_1] 29 (0, 0)) q33_15 hb) <| Aside0.mk (below_step q33_13 hb); clear BK818 HB; obtain ⟨BK818, HB⟩ := n_; (try clear hb)))
  repeat (go_quiet (first | (refine be_ 2 #[.int .i64 a0_0, .slice A0_1 l0_1.length c0_1] 29 ?_; intro gb818 hg w11 hbox hb; have n_ := ac_ (below_step s1_ hb) <| ac_ (hbox) <| ac_ ((gz_ w hg s1_)) <| Aside0.mk ((gz_ w hg s1_)); clear HB; obtain ⟨HB, BK818, GW818, GE818⟩ := n_; clear hb hbox hg; have hcz12_0 : w11.cell? ⟨gb818, 0, none⟩ = some (.int .i64 a0_0) := (blk_cell BK818.out 0).trans rfl; have hcz12_1 : w11.cell? ⟨gb818, 1, none⟩ = some (.slice A0_1 l0_1.length c0_1) := (blk_cell BK818.out 1).trans rfl; have hfz12_0 := blk_frozen BK818.out 0; have hfz12_1 := blk_frozen BK818.out 1) | (go_at_call 256; (with_reducible refine (impl_areObjects.calls a0_0 _ _ l0_1 a1 false _ ?side1 ?side2 A3.out).mono ?_); (case side1 => exact s2_); (case side2 => exact HC0_1.out); rintro e w13 ⟨rfl, hb⟩; have n_ := ac_ (blk_below (g := gb818) (o := .cells #[.int .i64 a0_0, .slice A0_1 l0_1.length c0_1] 29 (0, 0)) q33_15 hb) <| Aside0.mk (below_step q33_13 hb); clear BK818 HB; obtain ⟨BK818, HB⟩ := n_; (try clear hb))); try go_wp2_with (first | ((with_reducible refine gw_ rfl ?_); (refine be_ 2 #[.int .i64 a0_0, .slice A0_1 l0_1.length c0_1] 29 ?_; intro gb818 hg w11 hbox hb; have n_ := ac_ (below_step s1_ hb) <| ac_ (hbox) <| ac_ ((gz_ w hg s1_)) <| Aside0.mk ((gz_ w hg s1_)); clear HB; obtain ⟨HB, BK818, GW818, GE818⟩ := n_; clear hb hbox hg; have hcz12_0 : w11.cell? ⟨gb818, 0, none⟩ = some (.int .i64 a0_0) := (blk_cell BK818.out 0).trans rfl; have hcz12_1 : w11.cell? ⟨gb818, 1, none⟩ = some (.slice A0_1 l0_1.length c0_1) := (blk_cell BK818.out 1).trans rfl; have hfz12_0 := blk_frozen BK818.out 0; have hfz12_1 := blk_frozen BK818.out 1)) | (go_at_call 256; (with_reducible refine (impl_areObjects.calls a0_0 _ _ l0_1 a1 false _ ?side1 ?side2 A3.out).mono ?_); (case side1 => exact s2_); (case side2 => exact HC0_1.out); rintro e w13 ⟨rfl, hb⟩; have n_ := ac_ (blk_below (g := gb818) (o := .cells #[.int .i64 a0_0, .slice A0_1 l0_1.length c0_1] 29 (0, 0)) q33_15 hb) <| Aside0.mk (below_step q33_13 hb); clear BK818 HB; obtain ⟨BK818, HB⟩ := n_; (try clear hb))))
  go_ret
  exact ⟨(by first | rfl | (simp [errW_none, errW_some] <;> rfl) | (simp [*, errW_none, errW_some] <;> rfl)), q33_13⟩
theorem q33_17 {P : Prop} (h : P := by repeat (first | (with_reducible first | exact HB.out | apply below_alloc | apply pw_below_drewN | apply below_drew1 | refine below_set ?_ GE822.out) | exact HB.out)) : P := h
theorem q33_20 {P : Prop} (h : P := by (with_reducible repeat (first | refine blk_drewN ?_ _ | refine blk_drew ?_ | refine blk_alloc ?_ _)); exact BK822.out) : P := h
def impl_isAttribute.f (a0_0 : Int) (l0_1 : List Int) (a1 : Int) : Option (Bool) := (impl_IsContext.f a0_0 l0_1).bind fun t823 => (if t823 = true then ((impl_within.f a1 0 (wrap64 (a0_0 - 1))).bind fun t824 => (some t824)) else (some false))
theorem impl_isAttribute.calls (a0_0 : Int) (A0_1 : Option Addr) (c0_1 : Nat) (l0_1 : List Int) (a1 : Int) (r : Bool) (w : World) (hr0_1 : Kd.C (Kd.int .i64) w A0_1 l0_1.length l0_1) (hc0_1 : l0_1.length ≤ c0_1) (h : impl_isAttribute.f a0_0 l0_1 a1 = some r) :
  Calls Tryz.prog 291 #[.agg #[.int .i64 a0_0, .slice A0_1 l0_1.length c0_1], .int .i64 a1] w fun e w' => e = .returned (.bool r) ∧ Below w.heap.size w w' := by
 have hu29 := Tryz.underlying29; have HR0_1 := Aside0.mk hr0_1; have HC0_1 := Aside0.mk hc0_1; clear hr0_1 hc0_1; have HB := Aside0.mk (Below.refl w.heap.size w); have H := h; clear h; unfold impl_isAttribute.f at H; obtain ⟨t823, A3, H⟩ := bnd33_ H
 by_cases c4 : t823 = true
 ·
  subst c4; rw [if_pos rfl] at H; obtain ⟨t824, A5, H⟩ := bnd33_ H; obtain rfl := Option.some.inj H
  go_enter Tryz.func291, Tryz.ntmps291
  go_wp2_with (first | ((with_reducible refine gw_ rfl ?_); first | (refine be_ 2 #[.int .i64 a0_0, .slice A0_1 l0_1.length c0_1] 29 ?_; intro gb822 hg w6 hbox hb; have n_ := ac_ (below_step s1_ hb) <| ac_ (hbox) <| ac_ ((gz_ w hg s1_)) <| Aside0.mk ((gz_ w hg s1_)); clear HB; obtain ⟨HB, BK822, GW822, GE822⟩ := n_; clear hb hbox hg; have hcz7_0 : w6.cell? ⟨gb822, 0, none⟩ = some (.int .i64 a0_0) := (blk_cell BK822.out 0).trans rfl; have hcz7_1 : w6.cell? ⟨gb822, 1, none⟩ = some (.slice A0_1 l0_1.length c0_1) := (blk_cell BK822.out 1).trans rfl; have hfz7_0 := blk_frozen BK822.out 0; have hfz7_1 := blk_frozen BK822.out 1) | (refine gL_ 164 6 Tryz.func164 #[.agg #[.int .i64 a0_0, .slice A0_1 l0_1.length c0_1]] ?_; (with_reducible refine (impl_IsContext.calls a0_0 _ _ l0_1 true _ ?side1 ?side2 A3.out).mono ?_); (case side1 => exact s2_); (case side2 => exact HC0_1.out); rintro e w8 ⟨rfl, hb⟩; refine ⟨_, rfl, ?_⟩; have n_ := ac_ (blk_below (g := gb822) (o := .cells #[.int .i64 a0_0, .slice A0_1 l0_1.length c0_1] 29 (0, 0)) q33_20 hb) <| Aside0.mk (below_step q33_17 hb); clear BK822 HB; obtain ⟨BK822, HB⟩ := n_; (try clear hb); have hcz9_0 : w8.cell? ⟨gb822, 0, none⟩ = some (.int .i64 a0_0) := (blk_cell BK822.out 0).trans rfl; have hcz9_1 : w8.cell? ⟨gb822, 1, none⟩ = some (.slice A0_1 l0_1.length c0_1) := (blk_cell BK822.out 1).trans rfl; have hfz9_0 := blk_frozen BK822.out 0; have hfz9_1 := blk_frozen BK822.out 1)) | (go_at_call 127; (with_reducible refine (impl_within.calls a1 0 (wrap64 (a0_0 - 1)) t824 _ A5.out).mono ?_); rintro e w' ⟨rfl, ⟨nd, rfl⟩⟩))
  go_ret
  exact ⟨(by first | rfl | (simp [errW_none, errW_some] <;> rfl) | (simp [*, errW_none, errW_some] <;> rfl)), q33_17⟩
 ·
  replace c4 := Bool.eq_false_iff.mpr c4; subst c4
  rw [if_neg (show ¬ (false = true) by decide)] at H
  obtain rfl := Option.some.inj H
  go_enter Tryz.func291, Tryz.ntmps291
  go_wp2_with ((with_reducible refine gw_ rfl ?_); first | (refine be_ 2 #[.int .i64 a0_0, .slice A0_1 l0_1.length c0_1] 29 ?_; intro gb822 hg w10 hbox hb; have n_ := ac_ (below_step s1_ hb) <| ac_ (hbox) <| ac_ ((gz_ w hg s1_)) <| Aside0.mk ((gz_ w hg s1_)); clear HB; obtain ⟨HB, BK822, GW822, GE822⟩ := n_; clear hb hbox hg; have hcz11_0 : w10.cell? ⟨gb822, 0, none⟩ = some (.int .i64 a0_0) := (blk_cell BK822.out 0).trans rfl; have hcz11_1 : w10.cell? ⟨gb822, 1, none⟩ = some (.slice A0_1 l0_1.length c0_1) := (blk_cell BK822.out 1).trans rfl; have hfz11_0 := blk_frozen BK822.out 0; have hfz11_1 := blk_frozen BK822.out 1) | (refine gL_ 164 6 Tryz.func164 #[.agg #[.int .i64 a0_0, .slice A0_1 l0_1.length c0_1]] ?_; (with_reducible refine (impl_IsContext.calls a0_0 _ _ l0_1 false _ ?side1 ?side2 A3.out).mono ?_); (case side1 => exact s2_); (case side2 => exact HC0_1.out); rintro e w12 ⟨rfl, hb⟩; refine ⟨_, rfl, ?_⟩; have n_ := ac_ (blk_below (g := gb822) (o := .cells #[.int .i64 a0_0, .slice A0_1 l0_1.length c0_1] 29 (0, 0)) q33_20 hb) <| Aside0.mk (below_step q33_17 hb); clear BK822 HB; obtain ⟨BK822, HB⟩ := n_; (try clear hb)))
  go_ret
  exact ⟨(by first | rfl | (simp [errW_none, errW_some] <;> rfl) | (simp [*, errW_none, errW_some] <;> rfl)), q33_17⟩
theorem q33_22 {P : Prop} (h : P := by repeat (first | (with_reducible first | exact HB.out | apply below_alloc | apply pw_below_drewN | apply below_drew1 | refine below_set ?_ GE825.out) | exact HB.out)) : P := h
theorem q33_25 {P : Prop} (h : P := by (with_reducible repeat (first | refine blk_drewN ?_ _ | refine blk_drew ?_ | refine blk_alloc ?_ _)); exact BK825.out) : P := h
def impl_ColumnOf.l0 : Nat → Int → Int → List Int → Int → Int → Option (Int)
 | 0, _, _, _, _, _ => none
 | k + 1, x1, x5, x13, x14, x15 => if x15 < x14 then (if 0 ≤ x15 then (if x15 < (x13.length : Int) then (if 0 ≤ x1 then (impl_ColumnOf.l0 k x1 (Go.bits .or .i64 x5 (shl .i64 (Go.bits .and .i64 (shr .i64 (rd x13 x15) x1) 1) x15)) x13 x14 (wrap64 (x15 + 1))) else (none)) else (none)) else (none)) else (some x5)
def impl_ColumnOf.f (k : Nat) (a0_0 : Int) (l0_1 : List Int) (a1 : Int) : Option (Int) := (impl_isAttribute.f a0_0 l0_1 a1).bind fun t826 => (if t826 = true then (impl_ColumnOf.l0 k a1 0 l0_1 (l0_1.length : Int) 0) else (some 0))
theorem impl_ColumnOf.calls (k : Nat) (a0_0 : Int) (A0_1 : Option Addr) (c0_1 : Nat) (l0_1 : List Int) (a1 : Int) (r : Int) (w : World) (hr0_1 : Kd.C (Kd.int .i64) w A0_1 l0_1.length l0_1) (hc0_1 : l0_1.length ≤ c0_1) (h : impl_ColumnOf.f k a0_0 l0_1 a1 = some r) :
  Calls Tryz.prog 274 #[.agg #[.int .i64 a0_0, .slice A0_1 l0_1.length c0_1], .int .i64 a1] w fun e w' => e = .returned (.int .i64 r) ∧ Below w.heap.size w w' := by
 have hu29 := Tryz.underlying29; have HR0_1 := Aside0.mk hr0_1; have HC0_1 := Aside0.mk hc0_1; clear hr0_1 hc0_1; have HB := Aside0.mk (Below.refl w.heap.size w); have H := h; clear h; unfold impl_ColumnOf.f at H; obtain ⟨t826, A3, H⟩ := bnd33_ H
 by_cases c4 : t826 = true
 ·
  subst c4; rw [if_pos rfl] at H; have H' := Aside0.mk H; clear H
  go_enter Tryz.func274, Tryz.ntmps274
  go_wp2_with ((with_reducible refine gw_ rfl ?_); first | (refine be_ 2 #[.int .i64 a0_0, .slice A0_1 l0_1.length c0_1] 29 ?_; intro gb825 hg w5 hbox hb; have n_ := ac_ (below_step s1_ hb) <| ac_ (hbox) <| ac_ ((gz_ w hg s1_)) <| Aside0.mk ((gz_ w hg s1_)); clear HB; obtain ⟨HB, BK825, GW825, GE825⟩ := n_; clear hb hbox hg; have hcz6_0 : w5.cell? ⟨gb825, 0, none⟩ = some (.int .i64 a0_0) := (blk_cell BK825.out 0).trans rfl; have hcz6_1 : w5.cell? ⟨gb825, 1, none⟩ = some (.slice A0_1 l0_1.length c0_1) := (blk_cell BK825.out 1).trans rfl; have hfz6_0 := blk_frozen BK825.out 0; have hfz6_1 := blk_frozen BK825.out 1) | (refine gL_ 291 10 Tryz.func291 #[.agg #[.int .i64 a0_0, .slice A0_1 l0_1.length c0_1], .int .i64 a1] ?_; (with_reducible refine (impl_isAttribute.calls a0_0 _ _ l0_1 a1 true _ ?side1 ?side2 A3.out).mono ?_); (case side1 => exact s2_); (case side2 => exact HC0_1.out); rintro e w7 ⟨rfl, hb⟩; refine ⟨_, rfl, ?_⟩; have n_ := ac_ (blk_below (g := gb825) (o := .cells #[.int .i64 a0_0, .slice A0_1 l0_1.length c0_1] 29 (0, 0)) q33_25 hb) <| Aside0.mk (below_step q33_22 hb); clear BK825 HB; obtain ⟨BK825, HB⟩ := n_; (try clear hb); have hcz8_0 : w7.cell? ⟨gb825, 0, none⟩ = some (.int .i64 a0_0) := (blk_cell BK825.out 0).trans rfl; have hcz8_1 : w7.cell? ⟨gb825, 1, none⟩ = some (.slice A0_1 l0_1.length c0_1) := (blk_cell BK825.out 1).trans rfl; have hfz8_0 := blk_frozen BK825.out 0; have hfz8_1 := blk_frozen BK825.out 1))
  go_loopg [5, 15] k (fun kq v5 v15 w' => ∃ (x5_1 : Int) (x15_1 : Int), v5 = .int .i64 x5_1 ∧ v15 = .int .i64 x15_1 ∧ Aside0 (impl_ColumnOf.l0 kq a1 x5_1 l0_1 (l0_1.length : Int) x15_1 = some r) ∧ Aside0 (kq ≤ k) ∧ Aside0 (w'.heap[gb825]? = some (.cells #[.int .i64 a0_0, (.slice A0_1 l0_1.length c0_1)] 29 (0, 0))) ∧ Aside0 (Below w.heap.size w w'))
  case atStart => exact ⟨(0), (0), s3_, s3_, H', ⟨Nat.le_refl _⟩, ⟨q33_25⟩, ⟨q33_22⟩⟩
  case round =>
   clear H'
   try clear c2
   try clear p2
   try clear c4
   try clear hcz6_0
   try clear hcz6_1
   try clear hcz8_0
   try clear hcz8_1
   try clear hfz6_0
   try clear hfz6_1
   try clear hfz8_0
   try clear hfz8_1
   obtain ⟨x5_1, x15_1, rfl, rfl, HA, HK1, BK825, HB⟩ := hrel
   cases gk with
   | zero => exact absurd HA.out (by simp [impl_ColumnOf.l0])
   | succ k1 =>
    have H := HA.out; clear HA
    simp only [impl_ColumnOf.l0] at H
    by_cases c9 : x15_1 < (l0_1.length : Int)
    ·
     rw [if_pos c9] at H; have c9b0 : decide (x15_1 < (l0_1.length : Int)) = true := decide_eq_true c9; clear c9
     by_cases c10 : 0 ≤ x15_1
     ·
      rw [if_pos c10] at H; have c10b0 : decide (0 ≤ x15_1) = true := decide_eq_true c10; clear c10
      by_cases c11 : x15_1 < (l0_1.length : Int)
      ·
       rw [if_pos c11] at H; have c11b0 : decide (x15_1 < (l0_1.length : Int)) = true := decide_eq_true c11; clear c11
       by_cases c12 : 0 ≤ a1
       ·
        rw [if_pos c12] at H; have c12b0 := eq_true c12; have c12b1 : decide (0 ≤ a1) = true := decide_eq_true c12; clear c12; obtain ⟨ji13, hji13⟩ : ∃ j_ : Int, (shr .i64 (rd l0_1 x15_1) a1) = j_ := ⟨_, rfl⟩
        replace H : (impl_ColumnOf.l0 k1 a1 (Go.bits .or .i64 x5_1 (shl .i64 (Go.bits .and .i64 (ji13) 1) x15_1)) l0_1 (l0_1.length : Int) (wrap64 (x15_1 + 1))) = some r := by first | (rw [hji13] at H; exact H) | (simp only [hji13] at H ⊢; exact H)
        have hji13_ : ((rd l0_1 x15_1) / 2 ^ min a1.toNat 64) = ji13 := hji13; have hji13z : a1 ≤ 64 → ((rd l0_1 x15_1) / 2 ^ a1.toNat) = ji13 := shr_small hji13
        have c14b0 := eq_true (of_decide_eq_true (by first | (with_reducible assumption) | assumption) : 0 ≤ x15_1)
        obtain ⟨ji15, hji15⟩ : ∃ j_ : Int, (shl .i64 (Go.bits .and .i64 (ji13) 1) x15_1) = j_ := ⟨_, rfl⟩
        replace H : (impl_ColumnOf.l0 k1 a1 (Go.bits .or .i64 x5_1 (ji15)) l0_1 (l0_1.length : Int) (wrap64 (x15_1 + 1))) = some r := by first | (rw [hji15] at H; exact H) | (simp only [hji15] at H ⊢; exact H)
        have hji15_ : (IntKind.i64.wrap ((Go.bits .and .i64 (ji13) 1) * 2 ^ min x15_1.toNat 64)) = ji15 := hji15; have hji15z : x15_1 ≤ 64 → (IntKind.i64.wrap ((Go.bits .and .i64 (ji13) 1) * 2 ^ x15_1.toNat)) = ji15 := shl_small hji15; have hji15y : (wrap64 ((Go.bits .and .i64 (ji13) 1) * 2 ^ min x15_1.toNat 64)) = ji15 := (i64_w _).symm.trans hji15_
        have hji15x : x15_1 ≤ 64 → (wrap64 ((Go.bits .and .i64 (ji13) 1) * 2 ^ x15_1.toNat)) = ji15 := fun h_ => (i64_w _).symm.trans (hji15z h_)
        have H' := Aside0.mk H; clear H
        have p827 : 0 ≤ (x15_1 : Int) := of_decide_eq_true (by first | (with_reducible assumption) | assumption)
        have q827 : x15_1 < (l0_1.length : Int) := of_decide_eq_true (by first | (with_reducible assumption) | assumption)
        obtain ⟨ad827, e827, hx827_0⟩ := Kd.at_int HR0_1.out x15_1 p827 q827
        cases e827
        replace hx827_0 := (HB.out.cell (World.block_lt_of_cell? w _ hx827_0)).trans hx827_0; replace p827 := eq_true p827; replace q827 := eq_true q827
        go_wp2
        go_roundg k1
        case measure => have := HK1.out; omega
        case rel => exact ⟨(Go.bits .or .i64 x5_1 (ji15)), (wrap64 (x15_1 + 1)), (by first | rfl | (simp; done) | (simp only [← hji15] <;> (first | rfl | simp)) | (simp [*]; done)), s3_, H', ⟨by have := HK1.out; omega⟩, ⟨q33_25⟩, ⟨q33_22⟩⟩
       ·
        rw [if_neg c12] at H
        exact absurd H (by simp)
      ·
       rw [if_neg c11] at H
       exact absurd H (by simp)
     ·
      rw [if_neg c10] at H
      exact absurd H (by simp)
    ·
     rw [if_neg c9] at H; have c9b0 : decide (x15_1 < (l0_1.length : Int)) = false := decide_eq_false c9; clear c9; obtain rfl := Option.some.inj H
     go_wp2
     go_ret
     exact ⟨(by first | rfl | (simp [errW_none, errW_some] <;> rfl) | (simp [*, errW_none, errW_some] <;> rfl)), q33_22⟩
 ·
  replace c4 := Bool.eq_false_iff.mpr c4; subst c4
  rw [if_neg (show ¬ (false = true) by decide)] at H
  obtain rfl := Option.some.inj H
  go_enter Tryz.func274, Tryz.ntmps274
  go_wp2_with ((with_reducible refine gw_ rfl ?_); first | (refine be_ 2 #[.int .i64 a0_0, .slice A0_1 l0_1.length c0_1] 29 ?_; intro gb825 hg w16 hbox hb; have n_ := ac_ (below_step s1_ hb) <| ac_ (hbox) <| ac_ ((gz_ w hg s1_)) <| Aside0.mk ((gz_ w hg s1_)); clear HB; obtain ⟨HB, BK825, GW825, GE825⟩ := n_; clear hb hbox hg; have hcz17_0 : w16.cell? ⟨gb825, 0, none⟩ = some (.int .i64 a0_0) := (blk_cell BK825.out 0).trans rfl; have hcz17_1 : w16.cell? ⟨gb825, 1, none⟩ = some (.slice A0_1 l0_1.length c0_1) := (blk_cell BK825.out 1).trans rfl; have hfz17_0 := blk_frozen BK825.out 0; have hfz17_1 := blk_frozen BK825.out 1) | (refine gL_ 291 10 Tryz.func291 #[.agg #[.int .i64 a0_0, .slice A0_1 l0_1.length c0_1], .int .i64 a1] ?_; (with_reducible refine (impl_isAttribute.calls a0_0 _ _ l0_1 a1 false _ ?side1 ?side2 A3.out).mono ?_); (case side1 => exact s2_); (case side2 => exact HC0_1.out); rintro e w18 ⟨rfl, hb⟩; refine ⟨_, rfl, ?_⟩; have n_ := ac_ (blk_below (g := gb825) (o := .cells #[.int .i64 a0_0, .slice A0_1 l0_1.length c0_1] 29 (0, 0)) q33_25 hb) <| Aside0.mk (below_step q33_22 hb); clear BK825 HB; obtain ⟨BK825, HB⟩ := n_; (try clear hb)))
  go_ret
  exact ⟨(by first | rfl | (simp [errW_none, errW_some] <;> rfl) | (simp [*, errW_none, errW_some] <;> rfl)), q33_22⟩
theorem q33_27 {P : Prop} (h : P := by repeat (first | (with_reducible first | exact HB.out | apply below_alloc | apply pw_below_drewN | apply below_drew1 | refine below_set ?_ GE828.out) | exact HB.out)) : P := h
theorem q33_29 {P : Prop} (h : P := by (with_reducible repeat (first | refine blk_drewN ?_ _ | refine blk_drew ?_ | refine blk_alloc ?_ _)); exact BK828.out) : P := h
def impl_columns.l0 : Nat → List Int → Int → Int → Int → List Int → Option (List Int)
 | 0, _, _, _, _, _ => none
 | k + 1, x3, x7, x8, x829000, x829001 => if x8 < x7 then ((impl_ColumnOf.f k x829000 x829001 x8).bind fun t832 => (if x3.length < 17592186044416 then (impl_columns.l0 k (x3 ++ [t832]) x7 (wrap64 (x8 + 1)) x829000 x829001) else (none))) else (some x3)
def impl_columns.f (k : Nat) (a0_0 : Int) (l0_1 : List Int) : Option (List Int) := impl_columns.l0 k (([] : List Int)) a0_0 0 a0_0 l0_1
theorem impl_columns.calls (k : Nat) (a0_0 : Int) (A0_1 : Option Addr) (c0_1 : Nat) (l0_1 : List Int) (r : List Int) (w : World) (hr0_1 : Kd.C (Kd.int .i64) w A0_1 l0_1.length l0_1) (hc0_1 : l0_1.length ≤ c0_1) (h : impl_columns.f k a0_0 l0_1 = some r) :
  Calls Tryz.prog 258 #[.agg #[.int .i64 a0_0, .slice A0_1 l0_1.length c0_1]] w fun e w' => ∃ v0_ : Value, e = .returned (v0_) ∧ Kd.R (Kd.int .i64) 3 w' w.heap.size (fun _ => True) v0_ r ∧ Below w.heap.size w w' := by
 have hu29 := Tryz.underlying29; have HR0_1 := Aside0.mk hr0_1; have HC0_1 := Aside0.mk hc0_1; clear hr0_1 hc0_1; have HB := Aside0.mk (Below.refl w.heap.size w); have H := h; clear h; unfold impl_columns.f at H; obtain ⟨y829, hy_⟩ : ∃ y_ : List Int, y_ = (([] : List Int)) := ⟨_, rfl⟩
 replace H : (impl_columns.l0 k y829 a0_0 0 a0_0 l0_1) = some r := rH_
 have Ny829 := Aside0.mk hy_; clear hy_; have H' := Aside0.mk H; clear H
 go_enter Tryz.func258, Tryz.ntmps258
 go_wp2_with ((with_reducible refine gw_ rfl ?_); first | (refine be_ 1 #[.int .i64 a0_0, .slice A0_1 l0_1.length c0_1] 29 ?_; intro gb828 hg w2 hbox hb; have n_ := ac_ (below_step s1_ hb) <| ac_ (hbox) <| ac_ ((gz_ w hg s1_)) <| Aside0.mk ((gz_ w hg s1_)); clear HB; obtain ⟨HB, BK828, GW828, GE828⟩ := n_; clear hb hbox hg) | (refine rl_ (Kd.int .i64) 3 5 ?_; intro v830 w3 ho4 hb hg_ hnew_; clear hg_ hnew_; (first | rw [← Ny829.out] at ho4 | (simp only [Int.reduceToNat] at ho4; rw [← Ny829.out] at ho4)); have n_ := ac_ (Kd.R_lower ho4 (below_size q33_27)) <| ac_ (blk_below (g := gb828) (o := .cells #[.int .i64 a0_0, .slice A0_1 l0_1.length c0_1] 29 (0, 0)) q33_29 hb) <| Aside0.mk (below_step q33_27 hb); clear BK828 HB; obtain ⟨HO831, BK828, HB⟩ := n_; clear hb ho4; have hcz5_0 : w3.cell? ⟨gb828, 0, none⟩ = some (.int .i64 a0_0) := (blk_cell BK828.out 0).trans rfl; have hcz5_1 : w3.cell? ⟨gb828, 1, none⟩ = some (.slice A0_1 l0_1.length c0_1) := (blk_cell BK828.out 1).trans rfl; have hfz5_0 := blk_frozen BK828.out 0; have hfz5_1 := blk_frozen BK828.out 1))
 go_loopg [3, 8] k (fun kq v3 v8 w' => ∃ (x3_1 : List Int) (x8_1 : Int), v8 = .int .i64 x8_1 ∧ Aside0 (impl_columns.l0 kq x3_1 a0_0 x8_1 a0_0 l0_1 = some r) ∧ Aside0 (kq ≤ k) ∧ Aside0 (Kd.R (Kd.int .i64) 3 w' w.heap.size (fun _ => True) v3 x3_1) ∧ Aside0 (w'.heap[gb828]? = some (.cells #[.int .i64 a0_0, (.slice A0_1 l0_1.length c0_1)] 29 (0, 0))) ∧ Aside0 (Below w.heap.size w w'))
 case atStart => exact ⟨(y829), (0), rf_, H', ⟨Nat.le_refl _⟩, ⟨(by (with_reducible repeat (first | apply Kd.R_alloc | apply Kd.R_drewN | apply Kd.R_drew)); exact HO831.out)⟩, ⟨q33_29⟩, ⟨q33_27⟩⟩
 case round =>
  clear H'
  try clear c2
  try clear p2
  try clear hcz5_0
  try clear hcz5_1
  try clear hfz5_0
  try clear hfz5_1
  obtain ⟨x3_1, x8_1, rfl, HA, HK1, HO_3, BK828, HB⟩ := hrel
  cases gk with
  | zero => exact absurd HA.out (by simp [impl_columns.l0])
  | succ k1 =>
   have H := HA.out; clear HA
   simp only [impl_columns.l0] at H
   by_cases c6 : x8_1 < a0_0
   ·
    rw [if_pos c6] at H; have c6b0 : decide (x8_1 < a0_0) = true := decide_eq_true c6; clear c6; obtain ⟨t832, A7, H⟩ := bnd33_ H
    by_cases c8 : x3_1.length < 17592186044416
    ·
     rw [if_pos c8] at H; have LMc8 := Aside0.mk c8; clear c8; obtain ⟨y833, hy_⟩ : ∃ y_ : List Int, y_ = (x3_1 ++ [t832]) := ⟨_, rfl⟩
     replace H : (impl_columns.l0 k1 y833 a0_0 (wrap64 (x8_1 + 1)) a0_0 l0_1) = some r := rH_
     have Ny833 := Aside0.mk hy_; clear hy_; have H' := Aside0.mk H; clear H; have hcz9_0 : wr.cell? ⟨gb828, 0, none⟩ = some (.int .i64 a0_0) := (blk_cell BK828.out 0).trans rfl; have hcz9_1 : wr.cell? ⟨gb828, 1, none⟩ = some (.slice A0_1 l0_1.length c0_1) := (blk_cell BK828.out 1).trans rfl; have hfz9_0 := blk_frozen BK828.out 0; have hfz9_1 := blk_frozen BK828.out 1
     go_wp2_with (first | ((with_reducible refine gate_callee (f := 274) rfl ?_); refine goesL_ (some 14) rfl rfl Tryz.func274 (by kernel_rfl) rfl #[.agg #[.int .i64 a0_0, .slice A0_1 l0_1.length c0_1], .int .i64 x8_1] rfl (by (try simp only [List.map_toArray, List.map_cons, List.map_nil]); first | done | rfl | (simp only [List.length_drop, List.length_take]; rfl)) ?_; (with_reducible refine (impl_ColumnOf.calls k1 a0_0 _ _ l0_1 x8_1 t832 _ ?side1 ?side2 A7.out).mono ?_); (case side1 => repeat (first | exact (Kd.C_below HR0_1.out HB.out) | (with_reducible refine Kd.C_alloc ?_ _) | (with_reducible refine Kd.C_drewN ?_ _) | (with_reducible refine Kd.C_drew ?_))); (case side2 => exact HC0_1.out); rintro e w10 ⟨rfl, hb⟩; refine ⟨_, rfl, ?_⟩; have n_ := ac_ (Kd.R_below s11_ hb) <| ac_ (blk_below (g := gb828) (o := .cells #[.int .i64 a0_0, .slice A0_1 l0_1.length c0_1] 29 (0, 0)) q33_29 hb) <| Aside0.mk (below_step q33_27 hb); clear HO_3 BK828 HB; obtain ⟨HO_3, BK828, HB⟩ := n_; (try clear hb)) | ((with_reducible refine gate_builtin (b := .append) (xs := #[.tmp 11, .tmp 15]) rfl ?_); at_builtin; refine Kd.R_append (Kd.int .i64) (w0 := w) w.heap.size rfl (.tmp 11) (.tmp 15) 27 3 (.int .i64 0) 8 rfl Tryz.underlying27 info3 rfl (by decide) (by omega) u3 x3_1 t832 [.int .i64 t832] (fun _ => True) (fun _ => False) rfl rfl ?aP (fun _ hk => hk.elim) ?aF ?aO ?aB ?aS ?aL ?_; (case aP => exact rfl); (case aB => exact q33_27); (case aF => exact (fun _ _ => trivial)); (case aO => exact s11_); (case aS => exact (below_size q33_27)); (case aL => have := LMc8.out; omega); intro v834 w11 ho hb hg hat; rw [← Ny833.out] at ho; have n_ := ac_ (blk_grown (g := gb828) (o := .cells #[.int .i64 a0_0, .slice A0_1 l0_1.length c0_1] 29 (0, 0)) q33_29 hg (Kd.R_ne HO_3.out BK828.out (by decide))) <| ac_ (hb) <| Aside0.mk (ho); clear BK828 HB HO_3; obtain ⟨BK828, HB, HO835⟩ := n_; clear ho hb hg hat))
     go_roundg k1
     case measure => have := HK1.out; omega
     case rel => exact ⟨(y833), (wrap64 (x8_1 + 1)), rf_, H', ⟨by have := HK1.out; omega⟩, ⟨(by (with_reducible repeat (first | apply Kd.R_alloc | apply Kd.R_drewN | apply Kd.R_drew)); exact HO835.out)⟩, ⟨q33_29⟩, ⟨q33_27⟩⟩
    ·
     rw [if_neg c8] at H
     exact absurd H (by simp)
   ·
    rw [if_neg c6] at H; have c6b0 : decide (x8_1 < a0_0) = false := decide_eq_false c6; clear c6; obtain rfl := Option.some.inj H
    go_wp2
    go_ret
    exact ⟨_, (by first | rfl | (simp [errW_none, errW_some] <;> rfl) | (simp [*, errW_none, errW_some] <;> rfl)), s11_, q33_27⟩
theorem q33_32 {P : Prop} (h : P := by repeat (first | (with_reducible first | exact HB.out | apply below_alloc | apply pw_below_drewN | apply below_drew1 | refine below_set ?_ GE836.out) | exact HB.out)) : P := h
theorem q33_35 {P : Prop} (h : P := by (with_reducible repeat (first | refine blk_drewN ?_ _ | refine blk_drew ?_ | refine blk_alloc ?_ _)); exact BK836.out) : P := h
def impl_ExtentOf.f (k : Nat) (a0_0 : Int) (l0_1 : List Int) (a1 : Int) : Option (Int) := (impl_areAttributes.f a0_0 l0_1 a1).bind fun t837 => (if t837 = true then ((impl_columns.f k a0_0 l0_1).bind fun t838 => ((impl_FullSet.f (l0_1.length : Int)).bind fun t841 => ((impl_common.f k t838 a1 t841).bind fun t842 => (some t842)))) else (some 0))
def impl_ExtentOf.T3 : Bool × List (List Nat × List Nat) := (true, [([], []), ([0], [0]), ([], []), ([], []), ([3], [3]), ([4], [4]), ([5, 1], [5]), ([1, 2, 6, 6], [1, 2, 6]), ([7, 7, 0, 1, 2, 3, 4, 5, 6, 7], [7])])
def impl_ExtentOf.B3 : List Nat := [0, 1, 0, 0, 8, 24, 59, 127, 255]
theorem impl_ExtentOf.tab3 : rtab .any (opsOf Tryz.f227 3) = impl_ExtentOf.T3 := by kernel_rfl
theorem impl_ExtentOf.bits3 : waitsOk impl_ExtentOf.T3.2 impl_ExtentOf.B3 = true := by kernel_rfl
theorem impl_ExtentOf.calls (k : Nat) (a0_0 : Int) (A0_1 : Option Addr) (c0_1 : Nat) (l0_1 : List Int) (a1 : Int) (r : Int) (w : World) (hr0_1 : Kd.C (Kd.int .i64) w A0_1 l0_1.length l0_1) (hc0_1 : l0_1.length ≤ c0_1) (h : impl_ExtentOf.f k a0_0 l0_1 a1 = some r) :
  Calls Tryz.prog 227 #[.agg #[.int .i64 a0_0, .slice A0_1 l0_1.length c0_1], .int .i64 a1] w fun e w' => e = .returned (.int .i64 r) ∧ Below w.heap.size w w' := by
 have hu29 := Tryz.underlying29; have HR0_1 := Aside0.mk hr0_1; have HC0_1 := Aside0.mk hc0_1; clear hr0_1 hc0_1; have HB := Aside0.mk (Below.refl w.heap.size w); have H := h; clear h; unfold impl_ExtentOf.f at H; obtain ⟨t837, A3, H⟩ := bnd33_ H
 by_cases c4 : t837 = true
 ·
  subst c4; rw [if_pos rfl] at H; obtain ⟨t838, A5, H⟩ := bnd33_ H; obtain ⟨t841, A6, H⟩ := bnd33_ H; obtain ⟨t842, A7, H⟩ := bnd33_ H; obtain rfl := Option.some.inj H
  go_enter Tryz.func227, Tryz.ntmps227
  try go_wp2_with ((with_reducible refine gw_ rfl ?_); first | (refine be_ 2 #[.int .i64 a0_0, .slice A0_1 l0_1.length c0_1] 29 ?_; intro gb836 hg w8 hbox hb; have n_ := ac_ (below_step s1_ hb) <| ac_ (hbox) <| ac_ ((gz_ w hg s1_)) <| Aside0.mk ((gz_ w hg s1_)); clear HB; obtain ⟨HB, BK836, GW836, GE836⟩ := n_; clear hb hbox hg; have hcz9_0 : w8.cell? ⟨gb836, 0, none⟩ = some (.int .i64 a0_0) := (blk_cell BK836.out 0).trans rfl; have hcz9_1 : w8.cell? ⟨gb836, 1, none⟩ = some (.slice A0_1 l0_1.length c0_1) := (blk_cell BK836.out 1).trans rfl; have hfz9_0 := blk_frozen BK836.out 0; have hfz9_1 := blk_frozen BK836.out 1) | (refine gL_ 175 7 Tryz.func175 #[.agg #[.int .i64 a0_0, .slice A0_1 l0_1.length c0_1], .int .i64 a1] ?_; (with_reducible refine (impl_areAttributes.calls a0_0 _ _ l0_1 a1 true _ ?side1 ?side2 A3.out).mono ?_); (case side1 => exact s2_); (case side2 => exact HC0_1.out); rintro e w10 ⟨rfl, hb⟩; refine ⟨_, rfl, ?_⟩; have n_ := ac_ (blk_below (g := gb836) (o := .cells #[.int .i64 a0_0, .slice A0_1 l0_1.length c0_1] 29 (0, 0)) q33_35 hb) <| Aside0.mk (below_step q33_32 hb); clear BK836 HB; obtain ⟨BK836, HB⟩ := n_; (try clear hb)))
  have n0_ := Aside0.mk (blk_drew BK836.out); have n1_ := Aside0.mk (below_drew1 HB.out); clear BK836; clear HB; have BK836 := n0_; have HB := n1_; clear n0_ n1_
  refine start_ (n := 9) (S := fun w' => w'.cell? ⟨gb836, 0, none⟩ = some (.int .i64 a0_0) ∧ w'.cell? ⟨gb836, 1, none⟩ = some (.slice A0_1 l0_1.length c0_1)) (ds := []) (tb_ 9 0) (by kernel_rfl) rfl rfl ⟨(blk_cell BK836.out 0).trans rfl, (blk_cell BK836.out 1).trans rfl⟩ (fun hHeld => ?_); refine with_tabW impl_ExtentOf.tab3 impl_ExtentOf.bits3 (fun HT_ HW_ => ?_)
  generalize w10.drew = w11 at BK836 HB hHeld ⊢
  refine pl_ 2 11 (tb_ 9 4) ?_; refine pl_ 3 12 (tb_ 9 12) ?_; refine tk_ 0 9 (tb_ 9 13) hHeld ?_; refine tk_ 4 13 (tb_ 9 29) hHeld ?_; refine pl_ 5 14 (tb_ 9 61) ?_
  refine on_ 1 10 (tb_ 9 63) (fun K hK => ?_)
  refine goes_ Tryz.func258 (by kernel_rfl) rfl #[.agg #[.int .i64 a0_0, .slice A0_1 l0_1.length c0_1]] (by rfl) rfl rfl s0_ ?_
  with_reducible refine (impl_columns.calls k a0_0 _ _ l0_1 t838 _ ?side1 ?side2 A5.out).mono ?_
  (case side1 => exact s2_)
  (case side2 => exact HC0_1.out)
  rintro e w12 ⟨v839, rfl, ho0, hb⟩
  refine ⟨_, rfl, ?_⟩
  have n0_ := Aside0.mk (Kd.R_lower ho0 (below_size q33_32)); have n1_ := Aside0.mk (blk_below (g := gb836) (o := .cells #[.int .i64 a0_0, .slice A0_1 l0_1.length c0_1] 29 (0, 0)) q33_35 hb); have n2_ := Aside0.mk (below_step q33_32 hb); clear BK836; clear HB; have HO840 := n0_; have BK836 := n1_; have HB := n2_; clear n0_ n1_ n2_
  (try clear hb)
  (try clear hb2)
  (try clear hk)
  (try clear hi)
  (try clear ho0)
  refine hK.out _ _ ⟨(blk_cell BK836.out 0).trans rfl, (blk_cell BK836.out 1).trans rfl⟩ (fun hHeld => ?_)
  clear hK K
  refine norm_ (a' := ?_) ?_ ?_
  rotate_left
  ·
   show Act.put _ (some 10) _ = _
   exact s9_
  refine on_ 6 15 (tb_ 9 127) (fun K hK => ?_)
  refine goes_ Tryz.func129 (by kernel_rfl) rfl #[.int .i64 (l0_1.length : Int)] (by rfl) rfl rfl s0_ ?_
  with_reducible refine (impl_FullSet.calls (l0_1.length : Int) t841 _ A6.out).mono ?_
  rintro e w' ⟨rfl, ⟨nd, rfl⟩⟩
  refine ⟨_, rfl, ?_⟩
  obtain ⟨Ao13, co13, eo13⟩ := Kd.R_slice HO840.out
  (first | subst eo13 | (injection eo13 with f1_ f2_ f3_; have f4_ := f1_.symm; have f5_ := f3_.symm; clear f1_ f2_ f3_; subst f4_; subst f5_))
  refine hK.out _ _ ⟨(blk_cell BK836.out 0).trans rfl, (blk_cell BK836.out 1).trans rfl⟩ (fun hHeld => ?_)
  clear hK K
  refine norm_ (a' := ?_) ?_ ?_
  rotate_left
  ·
   show Act.put _ (some 15) _ = _
   exact s9_
  refine on_ 7 16 (tb_ 9 255) (fun K hK => ?_)
  refine goes_ Tryz.func257 (by kernel_rfl) rfl #[.slice Ao13 t838.length co13, .int .i64 a1, .int .i64 t841] (by rfl) rfl rfl s0_ ?_
  with_reducible refine (impl_common.calls k _ _ t838 a1 t841 t842 _ ?side1 ?side2 A7.out).mono ?_
  (case side1 => repeat (first | exact (Kd.R_reads' HO840.out).2.2 | (with_reducible refine Kd.C_alloc ?_ _) | (with_reducible refine Kd.C_drewN ?_ _) | (with_reducible refine Kd.C_drew ?_)))
  (case side2 => exact (Kd.R_reads' HO840.out).2.1)
  rintro e w' ⟨rfl, ⟨nd, rfl⟩⟩
  refine ⟨_, rfl, ?_⟩
  refine hK.out _ _ ⟨(blk_cell BK836.out 0).trans rfl, (blk_cell BK836.out 1).trans rfl⟩ (fun hHeld => ?_)
  clear hK K
  refine norm_ (a' := ?_) ?_ ?_
  rotate_left
  ·
   show Act.put _ (some 16) _ = _
   exact s9_
  refine pl_ 8 4 (tb_ 9 511) ?_
  refine done_ (done_of HT_.out (by kernel_rfl)) ?_
  try go_wp2
  go_ret
  exact ⟨(by first | rfl | (simp [errW_none, errW_some] <;> rfl) | (simp [*, errW_none, errW_some] <;> rfl)), q33_32⟩
 ·
  replace c4 := Bool.eq_false_iff.mpr c4; subst c4
  rw [if_neg (show ¬ (false = true) by decide)] at H
  obtain rfl := Option.some.inj H
  go_enter Tryz.func227, Tryz.ntmps227
  go_wp2_with ((with_reducible refine gw_ rfl ?_); first | (refine be_ 2 #[.int .i64 a0_0, .slice A0_1 l0_1.length c0_1] 29 ?_; intro gb836 hg w14 hbox hb; have n_ := ac_ (below_step s1_ hb) <| ac_ (hbox) <| ac_ ((gz_ w hg s1_)) <| Aside0.mk ((gz_ w hg s1_)); clear HB; obtain ⟨HB, BK836, GW836, GE836⟩ := n_; clear hb hbox hg; have hcz15_0 : w14.cell? ⟨gb836, 0, none⟩ = some (.int .i64 a0_0) := (blk_cell BK836.out 0).trans rfl; have hcz15_1 : w14.cell? ⟨gb836, 1, none⟩ = some (.slice A0_1 l0_1.length c0_1) := (blk_cell BK836.out 1).trans rfl; have hfz15_0 := blk_frozen BK836.out 0; have hfz15_1 := blk_frozen BK836.out 1) | (refine gL_ 175 7 Tryz.func175 #[.agg #[.int .i64 a0_0, .slice A0_1 l0_1.length c0_1], .int .i64 a1] ?_; (with_reducible refine (impl_areAttributes.calls a0_0 _ _ l0_1 a1 false _ ?side1 ?side2 A3.out).mono ?_); (case side1 => exact s2_); (case side2 => exact HC0_1.out); rintro e w16 ⟨rfl, hb⟩; refine ⟨_, rfl, ?_⟩; have n_ := ac_ (blk_below (g := gb836) (o := .cells #[.int .i64 a0_0, .slice A0_1 l0_1.length c0_1] 29 (0, 0)) q33_35 hb) <| Aside0.mk (below_step q33_32 hb); clear BK836 HB; obtain ⟨BK836, HB⟩ := n_; (try clear hb)))
  go_ret
  exact ⟨(by first | rfl | (simp [errW_none, errW_some] <;> rfl) | (simp [*, errW_none, errW_some] <;> rfl)), q33_32⟩
theorem q33_37 {P : Prop} (h : P := by repeat (first | (with_reducible first | exact HB.out | apply below_alloc | apply pw_below_drewN | apply below_drew1 | refine below_set ?_ GE843.out) | exact HB.out)) : P := h
theorem q33_40 {P : Prop} (h : P := by (with_reducible repeat (first | refine blk_drewN ?_ _ | refine blk_drew ?_ | refine blk_alloc ?_ _)); exact BK843.out) : P := h
def impl_ClosureOf.f (k : Nat) (a0_0 : Int) (l0_1 : List Int) (a1 : Int) : Option (Int) := (impl_areAttributes.f a0_0 l0_1 a1).bind fun t844 => (if t844 = true then ((impl_ExtentOf.f k a0_0 l0_1 a1).bind fun t845 => ((impl_IntentOf.f k a0_0 l0_1 t845).bind fun t846 => (some t846))) else (some 0))
theorem impl_ClosureOf.calls (k : Nat) (a0_0 : Int) (A0_1 : Option Addr) (c0_1 : Nat) (l0_1 : List Int) (a1 : Int) (r : Int) (w : World) (hr0_1 : Kd.C (Kd.int .i64) w A0_1 l0_1.length l0_1) (hc0_1 : l0_1.length ≤ c0_1) (h : impl_ClosureOf.f k a0_0 l0_1 a1 = some r) :
  Calls Tryz.prog 163 #[.agg #[.int .i64 a0_0, .slice A0_1 l0_1.length c0_1], .int .i64 a1] w fun e w' => e = .returned (.int .i64 r) ∧ Below w.heap.size w w' := by
 have hu29 := Tryz.underlying29; have HR0_1 := Aside0.mk hr0_1; have HC0_1 := Aside0.mk hc0_1; clear hr0_1 hc0_1; have HB := Aside0.mk (Below.refl w.heap.size w); have H := h; clear h; unfold impl_ClosureOf.f at H; obtain ⟨t844, A3, H⟩ := bnd33_ H
 by_cases c4 : t844 = true
 ·
  subst c4; rw [if_pos rfl] at H; obtain ⟨t845, A5, H⟩ := bnd33_ H; obtain ⟨t846, A6, H⟩ := bnd33_ H; obtain rfl := Option.some.inj H
  go_enter Tryz.func163, Tryz.ntmps163
  try go_wp2_with ((with_reducible refine gw_ rfl ?_); first | (refine be_ 2 #[.int .i64 a0_0, .slice A0_1 l0_1.length c0_1] 29 ?_; intro gb843 hg w7 hbox hb; have n_ := ac_ (below_step s1_ hb) <| ac_ (hbox) <| ac_ ((gz_ w hg s1_)) <| Aside0.mk ((gz_ w hg s1_)); clear HB; obtain ⟨HB, BK843, GW843, GE843⟩ := n_; clear hb hbox hg; have hcz8_0 : w7.cell? ⟨gb843, 0, none⟩ = some (.int .i64 a0_0) := (blk_cell BK843.out 0).trans rfl; have hcz8_1 : w7.cell? ⟨gb843, 1, none⟩ = some (.slice A0_1 l0_1.length c0_1) := (blk_cell BK843.out 1).trans rfl; have hfz8_0 := blk_frozen BK843.out 0; have hfz8_1 := blk_frozen BK843.out 1) | (refine gL_ 175 7 Tryz.func175 #[.agg #[.int .i64 a0_0, .slice A0_1 l0_1.length c0_1], .int .i64 a1] ?_; (with_reducible refine (impl_areAttributes.calls a0_0 _ _ l0_1 a1 true _ ?side1 ?side2 A3.out).mono ?_); (case side1 => exact s2_); (case side2 => exact HC0_1.out); rintro e w9 ⟨rfl, hb⟩; refine ⟨_, rfl, ?_⟩; have n_ := ac_ (blk_below (g := gb843) (o := .cells #[.int .i64 a0_0, .slice A0_1 l0_1.length c0_1] 29 (0, 0)) q33_40 hb) <| Aside0.mk (below_step q33_37 hb); clear BK843 HB; obtain ⟨BK843, HB⟩ := n_; (try clear hb)))
  have n0_ := Aside0.mk (blk_drew BK843.out); have n1_ := Aside0.mk (below_drew1 HB.out); clear BK843; clear HB; have BK843 := n0_; have HB := n1_; clear n0_ n1_
  refine start_ (n := 6) (S := fun w' => w'.cell? ⟨gb843, 0, none⟩ = some (.int .i64 a0_0) ∧ w'.cell? ⟨gb843, 1, none⟩ = some (.slice A0_1 l0_1.length c0_1)) (ds := []) (tb_ 6 0) (by kernel_rfl) rfl rfl ⟨(blk_cell BK843.out 0).trans rfl, (blk_cell BK843.out 1).trans rfl⟩ (fun hHeld => ?_)
  generalize w9.drew = w10 at BK843 HB hHeld ⊢
  refine pl_ 2 11 (tb_ 6 4) ?_
  refine take_ (i := 0) (N := some 9) (v := ?_) (a' := ?_) (tb_ 6 5) rfl rfl (by kernel_rfl) (fun _ _ _ h => h) (Or.inl ⟨by rfl, ?_⟩) hHeld ?_ ?_
  rotate_left
  ·
   rintro w' ⟨s0, s1⟩
   go_simp; with_reducible rfl
  rotate_left
  ·
   exact s9_
  refine take_ (i := 1) (N := some 10) (v := ?_) (a' := ?_) (tb_ 6 7) rfl rfl (by kernel_rfl) (fun _ _ _ h => h) (Or.inl ⟨by rfl, ?_⟩) hHeld ?_ ?_
  rotate_left
  ·
   rintro w' ⟨s0, s1⟩
   go_simp; with_reducible rfl
  rotate_left
  ·
   exact s9_
  refine one_ (i := 3) (N := some 12) (tb_ 6 15) rfl rfl (by kernel_rfl) (by decide) (fun K hK => ?_)
  refine goes_ Tryz.func227 (by kernel_rfl) rfl #[.agg #[.int .i64 a0_0, .slice A0_1 l0_1.length c0_1], .int .i64 a1] (by rfl) rfl rfl s0_ ?_
  with_reducible refine (impl_ExtentOf.calls k a0_0 _ _ l0_1 a1 t845 _ ?side1 ?side2 A5.out).mono ?_
  (case side1 => exact s2_)
  (case side2 => exact HC0_1.out)
  rintro e w11 ⟨rfl, hb⟩
  refine ⟨_, rfl, ?_⟩
  have n0_ := Aside0.mk (blk_below (g := gb843) (o := .cells #[.int .i64 a0_0, .slice A0_1 l0_1.length c0_1] 29 (0, 0)) q33_40 hb); have n1_ := Aside0.mk (below_step q33_37 hb); clear BK843; clear HB; have BK843 := n0_; have HB := n1_; clear n0_ n1_
  (try clear hb)
  (try clear hb2)
  (try clear hk)
  (try clear hi)
  refine hK.out _ _ ⟨(blk_cell BK843.out 0).trans rfl, (blk_cell BK843.out 1).trans rfl⟩ (fun hHeld => ?_)
  clear hK K
  refine norm_ (a' := ?_) ?_ ?_
  rotate_left
  ·
   show Act.put _ (some 12) _ = _
   exact s9_
  refine one_ (i := 4) (N := some 13) (tb_ 6 31) rfl rfl (by kernel_rfl) (by decide) (fun K hK => ?_)
  refine goes_ Tryz.func226 (by kernel_rfl) rfl #[.agg #[.int .i64 a0_0, .slice A0_1 l0_1.length c0_1], .int .i64 t845] (by rfl) rfl rfl s0_ ?_
  with_reducible refine (impl_IntentOf.calls k a0_0 _ _ l0_1 t845 t846 _ ?side1 ?side2 A6.out).mono ?_
  (case side1 => exact s2_)
  (case side2 => exact HC0_1.out)
  rintro e w12 ⟨rfl, hb⟩
  refine ⟨_, rfl, ?_⟩
  have n0_ := Aside0.mk (blk_below (g := gb843) (o := .cells #[.int .i64 a0_0, .slice A0_1 l0_1.length c0_1] 29 (0, 0)) q33_40 hb); have n1_ := Aside0.mk (below_step q33_37 hb); clear BK843; clear HB; have BK843 := n0_; have HB := n1_; clear n0_ n1_
  (try clear hb)
  (try clear hb2)
  (try clear hk)
  (try clear hi)
  refine hK.out _ _ ⟨(blk_cell BK843.out 0).trans rfl, (blk_cell BK843.out 1).trans rfl⟩ (fun hHeld => ?_)
  clear hK K
  refine norm_ (a' := ?_) ?_ ?_
  rotate_left
  ·
   show Act.put _ (some 13) _ = _
   exact s9_
  refine pl_ 5 4 (tb_ 6 63) ?_
  refine done_ (by kernel_rfl) ?_
  try go_wp2
  go_ret
  exact ⟨(by first | rfl | (simp [errW_none, errW_some] <;> rfl) | (simp [*, errW_none, errW_some] <;> rfl)), q33_37⟩
 ·
  replace c4 := Bool.eq_false_iff.mpr c4; subst c4
  rw [if_neg (show ¬ (false = true) by decide)] at H
  obtain rfl := Option.some.inj H
  go_enter Tryz.func163, Tryz.ntmps163
  go_wp2_with ((with_reducible refine gw_ rfl ?_); first | (refine be_ 2 #[.int .i64 a0_0, .slice A0_1 l0_1.length c0_1] 29 ?_; intro gb843 hg w13 hbox hb; have n_ := ac_ (below_step s1_ hb) <| ac_ (hbox) <| ac_ ((gz_ w hg s1_)) <| Aside0.mk ((gz_ w hg s1_)); clear HB; obtain ⟨HB, BK843, GW843, GE843⟩ := n_; clear hb hbox hg; have hcz14_0 : w13.cell? ⟨gb843, 0, none⟩ = some (.int .i64 a0_0) := (blk_cell BK843.out 0).trans rfl; have hcz14_1 : w13.cell? ⟨gb843, 1, none⟩ = some (.slice A0_1 l0_1.length c0_1) := (blk_cell BK843.out 1).trans rfl; have hfz14_0 := blk_frozen BK843.out 0; have hfz14_1 := blk_frozen BK843.out 1) | (refine gL_ 175 7 Tryz.func175 #[.agg #[.int .i64 a0_0, .slice A0_1 l0_1.length c0_1], .int .i64 a1] ?_; (with_reducible refine (impl_areAttributes.calls a0_0 _ _ l0_1 a1 false _ ?side1 ?side2 A3.out).mono ?_); (case side1 => exact s2_); (case side2 => exact HC0_1.out); rintro e w15 ⟨rfl, hb⟩; refine ⟨_, rfl, ?_⟩; have n_ := ac_ (blk_below (g := gb843) (o := .cells #[.int .i64 a0_0, .slice A0_1 l0_1.length c0_1] 29 (0, 0)) q33_40 hb) <| Aside0.mk (below_step q33_37 hb); clear BK843 HB; obtain ⟨BK843, HB⟩ := n_; (try clear hb)))
  go_ret
  exact ⟨(by first | rfl | (simp [errW_none, errW_some] <;> rfl) | (simp [*, errW_none, errW_some] <;> rfl)), q33_37⟩
theorem bnd35_ {α β : Type} {o : Option α} {f : α → Option β} {r : β} (h : o.bind f = some r) : ∃ a, Aside0 (o = some a) ∧ f a = some r := by
 obtain ⟨a, h1, h2⟩ := Option.bind_eq_some_iff.mp h
 exact ⟨a, ⟨h1⟩, h2⟩
theorem q35_2 {P : Prop} (h : P := by repeat (first | (with_reducible first | exact HB.out | apply below_alloc | apply pw_below_drewN | apply below_drew1 | refine below_set ?_ GE1303.out) | exact HB.out)) : P := h
theorem q35_5 {P : Prop} (h : P := by (with_reducible repeat (first | refine blk_drewN ?_ _ | refine blk_drew ?_ | refine blk_alloc ?_ _)); exact BK1303.out) : P := h
def impl_IsClosed.f (k : Nat) (a0_0 : Int) (l0_1 : List Int) (a1 : Int) : Option (Bool) := (impl_areAttributes.f a0_0 l0_1 a1).bind fun t1304 => (if t1304 = true then ((impl_ClosureOf.f k a0_0 l0_1 a1).bind fun t1305 => (some (t1305 == a1))) else (some false))
set_option maxHeartbeats 40000000 in
set_option maxRecDepth 100000 in
theorem impl_IsClosed.calls (k : Nat) (a0_0 : Int) (A0_1 : Option Addr) (c0_1 : Nat) (l0_1 : List Int) (a1 : Int) (r : Bool) (w : World) (hr0_1 : Kd.C (Kd.int .i64) w A0_1 l0_1.length l0_1) (hc0_1 : l0_1.length ≤ c0_1) (h : impl_IsClosed.f k a0_0 l0_1 a1 = some r) :
  Calls Tryz.prog 229 #[.agg #[.int .i64 a0_0, .slice A0_1 l0_1.length c0_1], .int .i64 a1] w fun e w' => e = .returned (.bool r) ∧ Below w.heap.size w w' := by
 have hu29 := Tryz.underlying29; have HR0_1 := Aside0.mk hr0_1; have HC0_1 := Aside0.mk hc0_1; clear hr0_1 hc0_1; have HB := Aside0.mk (Below.refl w.heap.size w); have H := h; clear h; unfold impl_IsClosed.f at H; obtain ⟨t1304, A3, H⟩ := bnd35_ H
 by_cases c4 : t1304 = true
 ·
  subst c4; rw [if_pos rfl] at H; obtain ⟨t1305, A5, H⟩ := bnd35_ H; obtain rfl := Option.some.inj H
  go_enter Tryz.func229, Tryz.ntmps229
  go_wp2_with (first | ((with_reducible refine gw_ rfl ?_); first | (refine be_ 2 #[.int .i64 a0_0, .slice A0_1 l0_1.length c0_1] 29 ?_; intro gb1303 hg w6 hbox hb; have n_ := ac_ (below_step s1_ hb) <| ac_ (hbox) <| ac_ ((gz_ w hg s1_)) <| Aside0.mk ((gz_ w hg s1_)); clear HB; obtain ⟨HB, BK1303, GW1303, GE1303⟩ := n_; clear hb hbox hg; have hcz7_0 : w6.cell? ⟨gb1303, 0, none⟩ = some (.int .i64 a0_0) := (blk_cell BK1303.out 0).trans rfl; have hcz7_1 : w6.cell? ⟨gb1303, 1, none⟩ = some (.slice A0_1 l0_1.length c0_1) := (blk_cell BK1303.out 1).trans rfl; have hfz7_0 := blk_frozen BK1303.out 0; have hfz7_1 := blk_frozen BK1303.out 1) | (refine gL_ 175 7 Tryz.func175 #[.agg #[.int .i64 a0_0, .slice A0_1 l0_1.length c0_1], .int .i64 a1] ?_; (with_reducible refine (impl_areAttributes.calls a0_0 _ _ l0_1 a1 true _ ?side1 ?side2 A3.out).mono ?_); (case side1 => exact s2_); (case side2 => exact HC0_1.out); rintro e w8 ⟨rfl, hb⟩; refine ⟨_, rfl, ?_⟩; have n_ := ac_ (blk_below (g := gb1303) (o := .cells #[.int .i64 a0_0, .slice A0_1 l0_1.length c0_1] 29 (0, 0)) q35_5 hb) <| Aside0.mk (below_step q35_2 hb); clear BK1303 HB; obtain ⟨BK1303, HB⟩ := n_; (try clear hb); have hcz9_0 : w8.cell? ⟨gb1303, 0, none⟩ = some (.int .i64 a0_0) := (blk_cell BK1303.out 0).trans rfl; have hcz9_1 : w8.cell? ⟨gb1303, 1, none⟩ = some (.slice A0_1 l0_1.length c0_1) := (blk_cell BK1303.out 1).trans rfl; have hfz9_0 := blk_frozen BK1303.out 0; have hfz9_1 := blk_frozen BK1303.out 1)) | (go_at_call 163; (with_reducible refine (impl_ClosureOf.calls k a0_0 _ _ l0_1 a1 t1305 _ ?side1 ?side2 A5.out).mono ?_); (case side1 => exact s2_); (case side2 => exact HC0_1.out); rintro e w10 ⟨rfl, hb⟩; have n_ := ac_ (blk_below (g := gb1303) (o := .cells #[.int .i64 a0_0, .slice A0_1 l0_1.length c0_1] 29 (0, 0)) q35_5 hb) <| Aside0.mk (below_step q35_2 hb); clear BK1303 HB; obtain ⟨BK1303, HB⟩ := n_; (try clear hb)))
  go_ret
  exact ⟨(by first | rfl | (simp [errW_none, errW_some] <;> rfl) | (simp [*, errW_none, errW_some] <;> rfl)), q35_2⟩
 ·
  replace c4 := Bool.eq_false_iff.mpr c4; subst c4
  rw [if_neg (show ¬ (false = true) by decide)] at H
  obtain rfl := Option.some.inj H
  go_enter Tryz.func229, Tryz.ntmps229
  go_wp2_with ((with_reducible refine gw_ rfl ?_); first | (refine be_ 2 #[.int .i64 a0_0, .slice A0_1 l0_1.length c0_1] 29 ?_; intro gb1303 hg w11 hbox hb; have n_ := ac_ (below_step s1_ hb) <| ac_ (hbox) <| ac_ ((gz_ w hg s1_)) <| Aside0.mk ((gz_ w hg s1_)); clear HB; obtain ⟨HB, BK1303, GW1303, GE1303⟩ := n_; clear hb hbox hg; have hcz12_0 : w11.cell? ⟨gb1303, 0, none⟩ = some (.int .i64 a0_0) := (blk_cell BK1303.out 0).trans rfl; have hcz12_1 : w11.cell? ⟨gb1303, 1, none⟩ = some (.slice A0_1 l0_1.length c0_1) := (blk_cell BK1303.out 1).trans rfl; have hfz12_0 := blk_frozen BK1303.out 0; have hfz12_1 := blk_frozen BK1303.out 1) | (refine gL_ 175 7 Tryz.func175 #[.agg #[.int .i64 a0_0, .slice A0_1 l0_1.length c0_1], .int .i64 a1] ?_; (with_reducible refine (impl_areAttributes.calls a0_0 _ _ l0_1 a1 false _ ?side1 ?side2 A3.out).mono ?_); (case side1 => exact s2_); (case side2 => exact HC0_1.out); rintro e w13 ⟨rfl, hb⟩; refine ⟨_, rfl, ?_⟩; have n_ := ac_ (blk_below (g := gb1303) (o := .cells #[.int .i64 a0_0, .slice A0_1 l0_1.length c0_1] 29 (0, 0)) q35_5 hb) <| Aside0.mk (below_step q35_2 hb); clear BK1303 HB; obtain ⟨BK1303, HB⟩ := n_; (try clear hb)))
  go_ret
  exact ⟨(by first | rfl | (simp [errW_none, errW_some] <;> rfl) | (simp [*, errW_none, errW_some] <;> rfl)), q35_2⟩
end Go.Proofs.YtafnamchckehmaaGreatDoor.Pr
namespace Go.Proofs.YtafnamchckehmaaGreatDoor.Pr
set_option maxHeartbeats 4000000
set_option maxRecDepth 100000
open Go.RowKit Go.Proofs.YtafnamchckehmaaGreatDoorW.PrintWords Go.Proofs.YtafnamchckehmaaGreatDoorW.PrintLast Go.Proofs.YtafnamchckehmaaGreatDoorW.PrintMore
open Go.Sort Go.Shelf
set_option linter.unusedVariables false
set_option linter.unusedSimpArgs false
theorem Reps_one {α : Type} (enc : α → Value) (xs : List α) (cs : List Value) : Reps (fun x c => c = [enc x]) 1 xs cs ↔ cs = xs.map enc := by
  constructor
  · rintro ⟨h1, h2⟩
    rw [Nat.mul_one] at h1
    refine List.ext_getElem? fun j => ?_
    rw [List.getElem?_map]
    rcases Nat.lt_or_ge j xs.length with h | h
    · have h3 := h2 j xs[j] (List.getElem?_eq_getElem h)
      rw [Nat.mul_one] at h3
      have h4 := congrArg (fun l => l[0]?) h3
      simp only [List.getElem?_take_of_succ, List.getElem?_drop, List.getElem?_cons_zero, Nat.add_zero] at h4
      rw [List.getElem?_eq_getElem h]
      exact h4
    · rw [List.getElem?_eq_none h, List.getElem?_eq_none (by omega)]; rfl
  · rintro rfl
    refine ⟨by simp, fun j p hp => ?_⟩
    rw [Nat.mul_one]
    obtain ⟨hj, rfl⟩ := List.getElem?_eq_some_iff.1 hp
    refine List.ext_getElem? fun i => ?_
    cases i with
    | zero => simp [List.getElem?_take, List.getElem?_drop, List.getElem?_eq_getElem hj]
    | succ i => simp [List.getElem?_take]
theorem R_int_out {e base g n c : Nat} {w : World} {xs : List Int} {ok : Nat → Prop} (h : (Kd.int .i64).R e w base ok (.slice (some ⟨g, 0, none⟩) n c) xs) (hx : 0 < xs.length) :
    base ≤ g ∧ n = xs.length ∧ xs.length ≤ c ∧ c ≤ maxLen ∧ ∃ cur : Array Value, w.heap[g]? = some (.cells cur e (0, 0)) ∧ cur.size = c ∧ cur.toList.take xs.length = xs.map (Value.int .i64) := by
  obtain ⟨_, inner, ho, hr⟩ := h
  obtain ⟨h1, h2⟩ := ho
  rcases h2 with ⟨h2, _⟩ | ⟨g', cap, cur, he, hb, hh, hn, hx, hs, ht⟩
  · cases h2
  · injection he with e1 e2 e3
    injection e1 with e1
    injection e1 with e1 _ _
    subst e1 e3
    refine ⟨hb, e2, hn, hx, cur, hh, by rw [hs]; exact Nat.mul_one _, ?_⟩
    have := (Reps_one (Value.int .i64) xs inner).1 hr
    rw [← this, ← ht, show xs.length * (Kd.int .i64).sz = xs.length from Nat.mul_one _]
theorem R_int_in {e base g c : Nat} {w : World} {xs : List Int} {cur : Array Value} (hb : base ≤ g) (hc : xs.length ≤ c) (hm : c ≤ maxLen) (hh : w.heap[g]? = some (.cells cur e (0, 0))) (hs : cur.size = c)
    (ht : cur.toList.take xs.length = xs.map (Value.int .i64)) : (Kd.int .i64).R e w base (fun _ => True) (.slice (some ⟨g, 0, none⟩) xs.length c) xs :=
  ⟨fun _ _ => trivial, xs.map (Value.int .i64), ⟨by rw [List.length_map]; exact (Nat.mul_one _).symm, .inr ⟨g, c, cur, rfl, hb, hh, hc, hm, by rw [hs]; exact (Nat.mul_one _).symm, by rw [show xs.length * (Kd.int .i64).sz = xs.length from Nat.mul_one _]; exact ht⟩⟩, (Reps_one (Value.int .i64) xs _).2 rfl⟩
theorem befV_nat {s t : Nat} (hs : s < 256) (ht : t < 256) : Pu.befV (s : Int) (t : Int) = Pu.bef s t := by
  unfold Pu.befV Pu.isAny
  rw [decide_eq_true (show 0 ≤ (s : Int) ∧ (s : Int) < 256 by omega), decide_eq_true (show 0 ≤ (t : Int) ∧ (t : Int) < 256 by omega), Int.toNat_natCast, Int.toNat_natCast]
  rfl
theorem cast_nodup {R : List Nat} (h : R.Nodup) : (Pu.cast R).Nodup := List.pairwise_map.2 (h.imp fun hne e => hne (by omega))
theorem nodup_cast {R : List Nat} (h : (Pu.cast R).Nodup) : R.Nodup := (List.pairwise_map.1 (show (R.map fun (x : Nat) => (x : Int)).Nodup from h)).imp fun hne e => hne (by rw [e])
theorem lecF_nodup (p : Nat → Bool) : (Pu.lecF p).Nodup := (Pu.lecF_sorted p).imp fun h e => by subst e; omega
def encF (x : Fin 256) : Value := .int .i64 ((x.val : Nat) : Int)
def cfF (x y : Fin 256) : Int := if x = y then 0 else if Pu.bef x.val y.val = true then -1 else 1
theorem lt_cfF (x y : Fin 256) : ltOf cfF x y = Pu.bef x.val y.val := by
  unfold ltOf cfF
  by_cases h : x = y
  · subst h
    rw [if_pos rfl, Pu.bef_irrefl]; rfl
  · rw [if_neg h]
    cases hb : Pu.bef x.val y.val with
    | true => rfl
    | false => rfl
theorem swoF : SWO (ltOf cfF) where
  irrefl := fun x => by rw [lt_cfF]; exact Pu.bef_irrefl _
  trans := fun x y z h1 h2 => by
    rw [lt_cfF] at h1 h2 ⊢
    unfold Pu.bef at h1 h2 ⊢
    rw [decide_eq_true_iff] at h1 h2 ⊢
    omega
  ntrans := fun x y z h1 h2 => by
    rw [lt_cfF] at h1 h2 ⊢
    unfold Pu.bef at h1 h2 ⊢
    rw [decide_eq_false_iff_not] at h1 h2 ⊢
    omega
theorem antiF (x y : Fin 256) (h1 : ltOf cfF x y = false) (h2 : ltOf cfF y x = false) : x = y := by
  rw [lt_cfF] at h1 h2
  unfold Pu.bef at h1 h2
  rw [decide_eq_false_iff_not] at h1 h2
  exact Fin.ext (Pu.rv_inj x.isLt y.isLt (by omega))
def fin8 (x : Nat) : Fin 256 := ⟨x % 256, Nat.mod_lt _ (by decide)⟩
def arrF (R : List Nat) : Array (Fin 256) := (R.map fin8).toArray
theorem arrF_size (R : List Nat) : (arrF R).size = R.length := by unfold arrF; rw [List.size_toArray, List.length_map]
theorem map_fin8 {R : List Nat} (hR : ∀ x ∈ R, x < 256) : (R.map fin8).map (fun x => x.val) = R := by
  rw [List.map_map]
  conv => rhs; rw [← List.map_id R]
  exact List.map_congr_left fun x hx => Nat.mod_eq_of_lt (hR x hx)
theorem map_encF (L : List (Fin 256)) : L.map encF = (Pu.cast (L.map fun x => x.val)).map (Value.int .i64) := by
  unfold Pu.cast
  rw [List.map_map, List.map_map]
  rfl
theorem holdsF {w : World} {g n e c : Nat} {cur : Array Value} {d : Array (Fin 256)} (hh : w.heap[g]? = some (.cells cur e (0, 0))) (hs : d.size ≤ cur.size) (ht : cur.toList.take d.size = d.toList.map encF) : Holds encF w g 0 d := by
  intro j hj
  have h1 : cur[j]? = some (encF d[j]!) := by
    have h2 := congrArg (fun l => l[j]?) ht
    simp only [List.getElem?_take, if_pos hj, List.getElem?_map, Array.getElem?_toList] at h2
    rw [h2, Array.getElem?_eq_getElem hj, getElem!_pos d j hj]; rfl
  refine ⟨?_, ?_⟩
  · rw [Nat.zero_add]
    simp [World.cell?, hh, h1]
  · simp [World.frozen?, hh]
theorem heap_sortWorld {α : Type} [Inhabited α] (enc : α → Value) {w : World} {g e m : Nat} {cur : Array Value} {d : Array α} {os : Array Obj} (hh : w.heap[g]? = some (.cells cur e (0, 0))) : (sortWorld enc w g 0 m d os).heap[g]? = some (.cells (putCells enc 0 d cur) e (0, 0)) := by
  have hlt : g < w.heap.size := (Array.getElem?_eq_some_iff.1 hh).1
  unfold sortWorld grow putRow mapBlock Sort.ahead
  dsimp only
  rw [Array.getElem?_append_left (by rw [Array.size_modify]; exact hlt), Array.getElem?_modify, if_pos rfl, hh]
  rfl
theorem putCells_take {α : Type} [Inhabited α] (enc : α → Value) {cur : Array Value} {d : Array α} (hs : d.size ≤ cur.size) : (putCells enc 0 d cur).toList.take d.size = d.toList.map enc := by
  refine List.ext_getElem? fun j => ?_
  rw [List.getElem?_take, List.getElem?_map]
  by_cases hj : j < d.size
  · rw [if_pos hj, Array.getElem?_toList, Array.getElem?_toList]
    unfold putCells
    rw [Array.getElem?_mapIdx, Array.getElem?_eq_getElem (show j < cur.size by omega), Option.map_some, if_pos ⟨Nat.zero_le _, by omega⟩, Array.getElem?_eq_getElem hj, Nat.sub_zero, getElem!_pos d j hj]
    rfl
  · rw [if_neg hj, Array.getElem?_toList, Array.getElem?_eq_none (by omega)]
    rfl
theorem putCells_size {α : Type} [Inhabited α] (enc : α → Value) (cur : Array Value) (d : Array α) : (putCells enc 0 d cur).size = cur.size := by unfold putCells; rw [Array.size_mapIdx]
theorem below_sortWorld {α : Type} [Inhabited α] (enc : α → Value) {w0 w : World} {base g m : Nat} {d : Array α} {os : Array Obj} (hb : Below base w0 w) (hg : base ≤ g) (hs : base ≤ w.heap.size) : Below base w0 (sortWorld enc w g 0 m d os) := by
  have e : (sortWorld enc w g 0 m d os).heap = w.heap.modify g (onCells (putCells enc 0 d)) ++ os := rfl
  refine ⟨hb.os, hb.tape, hb.output, ?_, fun j hj => ?_⟩
  · rw [e, Array.size_append, Array.size_modify]
    have := hb.size
    omega
  · rw [e, Array.getElem?_append_left (by rw [Array.size_modify]; omega), Array.getElem?_modify, if_neg (by omega)]
    exact hb.block j hj
def lecOf (R : List Nat) : List Nat := Pu.lecF fun s => decide (s ∈ R)
theorem sortedF {R : List Nat} (hR : ∀ x ∈ R, x < 256) (hnd : R.Nodup) {d' : Array (Fin 256)} (h : d'.toList = (arrF R).toList.mergeSort fun x y => !(ltOf cfF) y x) : d'.toList.map (fun x => x.val) = lecOf R := by
  have hperm : d'.toList.Perm (R.map fin8) := by
    rw [h]
    exact List.mergeSort_perm _ _
  have hp2 : (d'.toList.map fun x => x.val).Perm R := by
    have := hperm.map (fun x => x.val)
    rwa [map_fin8 hR] at this
  have hs : d'.toList.Pairwise fun x y => (!(ltOf cfF) y x) = true := by
    rw [h]
    refine List.pairwise_mergeSort (fun a b c h1 h2 => ?_) (fun a b => ?_) _
    · rw [lt_cfF] at h1 h2 ⊢
      unfold Pu.bef at h1 h2 ⊢
      simp only [Bool.not_eq_true', decide_eq_false_iff_not] at h1 h2 ⊢
      omega
    · rw [lt_cfF, lt_cfF]
      unfold Pu.bef
      simp only [Bool.or_eq_true, Bool.not_eq_true', decide_eq_false_iff_not]
      omega
  have hn : (d'.toList.map fun x => x.val).Nodup := hp2.nodup_iff.2 hnd
  have hl : Pu.lecS (d'.toList.map fun x => x.val) := by
    unfold Pu.lecS
    have h1 : (d'.toList.map fun x => x.val).Pairwise fun a b => a < 256 ∧ b < 256 ∧ Pu.rv a ≤ Pu.rv b := by
      rw [List.pairwise_map]
      refine hs.imp fun {a b} hab => ⟨a.isLt, b.isLt, ?_⟩
      rw [lt_cfF] at hab
      unfold Pu.bef at hab
      simp only [Bool.not_eq_true', decide_eq_false_iff_not] at hab
      omega
    refine (h1.and hn).imp fun {a b} hab => ?_
    obtain ⟨⟨ha, hb, hle⟩, hne⟩ := hab
    rcases Nat.lt_or_ge (Pu.rv a) (Pu.rv b) with hlt | hge
    · exact hlt
    · exact absurd (Pu.rv_inj ha hb (by omega)) hne
  have h2 := Pu.lec_unique hl fun x hx => hR x (hp2.mem_iff.1 hx)
  rw [h2]
  unfold lecOf
  refine Pu.lecF_congr fun s _ => ?_
  rw [decide_eq_decide]
  exact hp2.mem_iff
theorem cmp_val (x y : Fin 256) : Ev (fun k => impl_SortLectic_2.f k ((x.val : Nat) : Int) ((y.val : Nat) : Int)) (cfF x y) := by
  unfold impl_SortLectic_2.f cfF
  by_cases h : x = y
  · subst h
    rw [if_pos rfl]
    exact Ev.congr (fun k => by rw [if_pos rfl]) (Ev.now _)
  · have hne : ¬ ((x.val : Nat) : Int) = ((y.val : Nat) : Int) := fun e => h (Fin.ext (by omega))
    rw [if_neg h]
    refine Ev.congr (fun k => by rw [if_neg hne]) ?_
    refine Ev.bind (Pu.befI_val _ _) ?_
    rw [befV_nat x.isLt y.isLt]
    cases Pu.bef x.val y.val with
    | true => exact Ev.now _
    | false => exact Ev.now _
theorem lecOf_length {R : List Nat} (hR : ∀ x ∈ R, x < 256) (hnd : R.Nodup) : (lecOf R).length = R.length := by
  have hd : ((arrF R).toList.mergeSort fun x y => !(ltOf cfF) y x).toArray.toList = (arrF R).toList.mergeSort fun x y => !(ltOf cfF) y x := rfl
  have h := sortedF hR hnd hd
  have h2 := congrArg List.length h
  rw [List.length_map, List.length_mergeSort] at h2
  rw [← h2]
  unfold arrF
  rw [List.length_map]
theorem sort_at (g c : Nat) (R : List Nat) (hpos : 0 < R.length) (hR : ∀ x ∈ R, x < 256) (hnd : R.Nodup) (w0 w : World) (htab : Tab64 w0) (hb : Below w0.heap.size w0 w)
    (ho : (Kd.int .i64).R 3 w w0.heap.size (fun _ => True) (.slice (some ⟨g, 0, none⟩) R.length c) (Pu.cast R)) :
    Calls Tryz.prog 248 #[.slice (some ⟨g, 0, none⟩) R.length c, .func (.func 249) #[] #[]] w fun e w' => e = .returned (.tuple #[]) ∧ (Kd.int .i64).R 3 w' w0.heap.size (fun _ => True) (.slice (some ⟨g, 0, none⟩) R.length c) (Pu.cast (lecOf R)) ∧ Below w0.heap.size w0 w' := by
  have hlenC : (Pu.cast R).length = R.length := Pu.cast_length R
  obtain ⟨hg, _, hc, hm, cur, hh, hs, ht⟩ := R_int_out ho (by omega)
  rw [hlenC] at hc ht
  have hD : (arrF R).size = R.length := arrF_size R
  have ht2 : cur.toList.take (arrF R).size = (arrF R).toList.map encF := by
    rw [hD, ht, map_encF]
    unfold arrF
    rw [map_fin8 hR]
  have hH : Holds encF w g 0 (arrF R) := holdsF (n := 0) (c := 0) hh (by omega) ht2
  have hblk : g < w.heap.size := (Array.getElem?_eq_some_iff.1 hh).1
  have eg : ∀ args w, (callFunc 249 args).run Tryz.prog w = .ok (.enter 249 args) w := enters_of Tryz.func249 (by kernel_rfl) rfl
  have hcmp : CmpLays1 Tryz.prog 249 #[] encF cfF g 0 (arrF R).size w := by
    intro m os dk _ x y
    obtain ⟨k, hk⟩ := Ev.rounds (cmp_val x y)
    refine (impl_SortLectic_2.calls k _ _ _ _ (htab.below (below_sortWorld encF hb hg hb.size)) hk).mono ?_
    rintro e w' ⟨he, q, rfl⟩
    exact ⟨he, q, #[], by rw [grow_empty]⟩
  have hlen : R.length ≤ 256 := Pu.nodup_le 256 R hnd hR
  have h := Tryz.slices_SortFunc encF (fun _ => rfl) cfF swoF 249 #[] g 0 c (arrF R) w eg hcmp hH hblk (by omega)
  rw [hD] at h
  refine h.mono ?_
  rintro e w' ⟨rfl, d', m, os, hp, hso, rfl⟩
  rw [← hD] at hp hso
  have hL := sortedF hR hnd (sorted_unique_holds swoF antiF (arrF R) d' hp hso)
  have hd' : d'.size = R.length := by
    have := congrArg List.length hL
    rw [List.length_map, lecOf_length hR hnd] at this
    simpa using this
  refine ⟨rfl, ?_, below_sortWorld encF hb hg hb.size⟩
  have hlenL : (Pu.cast (lecOf R)).length = R.length := by rw [Pu.cast_length, lecOf_length hR hnd]
  rw [← hlenL]
  refine R_int_in hg (by omega) hm (heap_sortWorld encF hh) (by rw [putCells_size]; exact hs) ?_
  rw [hlenL, ← hd', putCells_take encF (by omega), map_encF, hL]
theorem compact_lec {L : List Int} (hn : L.Nodup) : Lib.compact L = L := by
  unfold Lib.compact
  rw [Lib.compactUpTo_all]
  · refine List.ext_getElem? fun j => ?_
    rw [List.getElem?_map]
    rcases Nat.lt_or_ge j L.length with h | h
    · rw [List.getElem?_range h, Option.map_some, List.getElem?_eq_getElem h, getElem!_pos L.toArray j (by simpa using h)]
      simp
    · rw [List.getElem?_eq_none (by simpa using h), List.getElem?_eq_none h]; rfl
  · intro j hj
    unfold Lib.keeps
    rw [decide_eq_true_iff]
    by_cases h0 : j = 0
    · exact Or.inl h0
    · refine Or.inr fun e => ?_
      rw [getElem!_pos L.toArray j (by simpa using hj), getElem!_pos L.toArray (j - 1) (by simp; omega)] at e
      have e' : L[j] = L[j - 1]'(by omega) := by simpa using e
      exact List.pairwise_iff_getElem.1 hn (j - 1) j (by omega) hj (by omega) e'.symm
theorem compact_at (g c : Nat) (L : List Int) (hpos : 0 < L.length) (hn : L.Nodup) (hl : L.length ≤ 1048576) (w0 w : World) (hb : Below w0.heap.size w0 w)
    (ho : (Kd.int .i64).R 3 w w0.heap.size (fun _ => True) (.slice (some ⟨g, 0, none⟩) L.length c) L) :
    Calls Tryz.prog 250 #[.slice (some ⟨g, 0, none⟩) L.length c] w fun e w' => e = .returned (.slice (some ⟨g, 0, none⟩) L.length c) ∧ (Kd.int .i64).R 3 w' w0.heap.size (fun _ => True) (.slice (some ⟨g, 0, none⟩) L.length c) L ∧ Below w0.heap.size w0 w' := by
  obtain ⟨hg, _, hc, hm, cur, hh, hs, ht⟩ := R_int_out ho hpos
  have hH : Holds (Value.int .i64) w g 0 L.toArray := by
    intro j hj
    have hj' : j < L.length := by simpa using hj
    have h1 : cur[j]? = some (Value.int .i64 L.toArray[j]!) := by
      have h2 := congrArg (fun l => l[j]?) ht
      simp only [List.getElem?_take, if_pos hj', List.getElem?_map, Array.getElem?_toList] at h2
      rw [h2, List.getElem?_eq_getElem hj', getElem!_pos L.toArray j hj]; rfl
    refine ⟨?_, ?_⟩
    · rw [Nat.zero_add]
      simp only [World.cell?, hh, h1]
      simp [h1]
    · simp [World.frozen?, hh]
  refine (Tryz.slices_Compact_int g 0 c L w hH (by omega) hc).mono ?_
  rintro e w' ⟨rfl, q, rfl⟩
  rw [compact_lec hn, Nat.sub_self, List.replicate_zero, List.append_nil, putRow_self _ _ _ _ _ (holds_ahead _ _ _ _ _ _ hH)]
  exact ⟨rfl, Kd.R_drewN ho q, pw_below_drewN hb q⟩
def impl_SortLectic.f (l0 : List Int) : Option (List Int) :=
  if l0.all Pu.isAny = true ∧ l0.Nodup ∧ 0 < l0.length then some (Pu.cast (lecOf (l0.map Int.toNat))) else none
theorem sl1_val (x : Int) : impl_SortLectic_1.f x = some (!Pu.isAny x) := by
  unfold impl_SortLectic_1.f
  rw [Pu.any_val, Option.bind_some]
theorem R_form_int {e base : Nat} {w : World} {ok : Nat → Prop} {v : Value} {xs : List Int} (h : (Kd.int .i64).R e w base ok v xs) (hx : 0 < xs.length) : ∃ g c, v = .slice (some ⟨g, 0, none⟩) xs.length c ∧ xs.length ≤ c := by
  obtain ⟨_, inner, ⟨h1, h2⟩, _⟩ := h
  rcases h2 with ⟨_, h2⟩ | ⟨g, cap, cur, he, _, _, hn, _⟩
  · omega
  · exact ⟨g, cap, he, hn⟩
theorem impl_SortLectic.calls (A0 : Option Addr) (c0 : Nat) (l0 : List Int) (r : List Int) (w : World) (hr0 : Kd.C (Kd.int .i64) w A0 l0.length l0) (hc0 : l0.length ≤ c0) (htab : Tab64 w) (h : impl_SortLectic.f l0 = some r) :
    Calls Tryz.prog 208 #[.slice A0 l0.length c0] w fun e w' => ∃ v0_ : Value, e = .returned (v0_) ∧ Kd.R (Kd.int .i64) 3 w' w.heap.size (fun _ => True) v0_ r ∧ Below w.heap.size w w' := by
  unfold impl_SortLectic.f at h
  by_cases hq : l0.all Pu.isAny = true ∧ l0.Nodup ∧ 0 < l0.length
  · rw [if_pos hq] at h
    obtain rfl := Option.some.inj h
    obtain ⟨hall, hnd, hpos⟩ := hq
    rw [List.all_eq_true] at hall
    have hcast : l0 = Pu.cast (l0.map Int.toNat) := Pu.cast_of fun x hx => by have := hall x hx; unfold Pu.isAny at this; rw [decide_eq_true_iff] at this; exact this.1
    generalize l0.map Int.toNat = R at hcast ⊢
    subst hcast
    rw [Pu.cast_length] at hr0 hc0 hpos ⊢
    have hR : ∀ x ∈ R, x < 256 := fun x hx => by
      have := hall (x : Int) (List.mem_map.2 ⟨x, hx, rfl⟩)
      unfold Pu.isAny at this
      rw [decide_eq_true_iff] at this
      omega
    have hndR : R.Nodup := nodup_cast hnd
    have hlen : R.length ≤ 256 := Pu.nodup_le 256 R hndR hR
    have eg : ∀ args w, (callFunc 246 args).run Tryz.prog w = .ok (.enter 246 args) w := enters_of Tryz.func246 (by kernel_rfl) rfl
    have hany : (Pu.cast R).any (fun x => !Pu.isAny x) = false := by
      rw [List.any_eq_false]
      intro x hx
      rw [hall x hx]; decide
    have h0 := ContainsFunc_int 246 #[] eg A0 c0 (Pu.cast R) (fun x => !Pu.isAny x) w (by rw [Pu.cast_length]; exact hr0) (fun W x hb => (impl_SortLectic_1.calls x _ W (sl1_val x)).mono fun e w' ⟨he, q, hw⟩ => ⟨he, by rw [hw]; exact pw_below_drewN (Below.refl _ _) q⟩)
    rw [hany, Pu.cast_length] at h0
    have hcl : slices_Clone_int.f (Pu.cast R) = some (Pu.cast R) := by unfold slices_Clone_int.f; rw [if_pos (by rw [Pu.cast_length]; omega)]
    have hclone := fun W hr => slices_Clone_int.calls A0 c0 (Pu.cast R) (Pu.cast R) W (by rw [Pu.cast_length]; exact hr) (by rw [Pu.cast_length]; exact hc0) hcl
    rw [Pu.cast_length] at hclone
    have hlecL : (Pu.cast (lecOf R)).length = R.length := by rw [Pu.cast_length, lecOf_length hR hndR]
    have hndL : (Pu.cast (lecOf R)).Nodup := cast_nodup (lecF_nodup _)
    have hcompact := fun g c W hb ho => compact_at g c (Pu.cast (lecOf R)) (by omega) hndL (by omega) w W hb ho
    rw [hlecL] at hcompact
    have hsort := fun g c W hb ho => sort_at g c R hpos hR hndR w W htab hb ho
    have HR0 := Aside0.mk hr0
    have HS := Aside0.mk hsort
    have HCP := Aside0.mk hcompact
    have HCL := Aside0.mk hclone
    have HPOS : Aside0 (0 < (Pu.cast R).length) := ⟨by rw [Pu.cast_length]; exact hpos⟩
    have HLEN : Aside0 ((Pu.cast R).length = R.length) := ⟨Pu.cast_length R⟩
    clear hr0 hsort hcompact hclone hcl hlecL hndL hlen hR hndR hall hnd hany hpos htab hc0
    go_enter Tryz.func208, Tryz.ntmps208
    go_wp2_with (first | (go_at_call 223; refine h0.mono ?_; rintro e w1 ⟨rfl, hb1⟩; have HB1 := Aside0.mk hb1; clear hb1) | (go_at_call 247; refine (HCL.out _ (Kd.C_below HR0.out HB1.out)).mono ?_; rintro e w2 ⟨v, rfl, hR2, hB2⟩; obtain ⟨g, c, hv, hgc⟩ := R_form_int hR2 HPOS.out; rw [HLEN.out] at hv hgc; subst hv; have HO2 := Aside0.mk (Kd.R_lower hR2 (below_size HB1.out)); have HB2 := Aside0.mk (below_step HB1.out hB2); clear hR2 hB2 hgc) | (go_at_call 248; refine (HS.out _ _ _ HB2.out HO2.out).mono ?_; rintro e w3 ⟨rfl, hR3, hB3⟩; have HO3 := Aside0.mk hR3; have HB3 := Aside0.mk hB3; clear hR3 hB3) | (go_at_call 250; refine (HCP.out _ _ _ HB3.out HO3.out).mono ?_; rintro e w4 ⟨rfl, hR4, hB4⟩; have HO4 := Aside0.mk hR4; have HB4 := Aside0.mk hB4; clear hR4 hB4))
    go_ret
    exact ⟨_, rfl, HO4.out, HB4.out⟩
  · rw [if_neg hq] at h
    cases h
end Go.Proofs.YtafnamchckehmaaGreatDoor.Pr
namespace Go.Proofs.YtafnamchckehmaaGreatDoor.Pr
open Go.RowKit Go.Proofs.YtafnamchckehmaaGreatDoorW.PrintWords Go.Proofs.YtafnamchckehmaaGreatDoorW.PrintLast Go.Proofs.YtafnamchckehmaaGreatDoorW.PrintMore
attribute [local go_sem] max2_int min2_int max_two min_two max_three min_three max_four min_four
set_option linter.unusedVariables false
set_option linter.unusedSimpArgs false
theorem bnd44_ {α β : Type} {o : Option α} {f : α → Option β} {r : β} (h : o.bind f = some r) : ∃ a, Aside0 (o = some a) ∧ f a = some r := by
 obtain ⟨a, h1, h2⟩ := Option.bind_eq_some_iff.mp h
 exact ⟨a, ⟨h1⟩, h2⟩
def impl_allSets.l0 : Nat → List Int → Int → Int → Option (List Int)
 | 0, _, _, _ => none
 | k + 1, x3, x7, x8 => if x8 < x7 then (if x3.length < 17592186044416 then (impl_allSets.l0 k (x3 ++ [x8]) x7 (wrap64 (x8 + 1))) else (none)) else ((impl_SortLectic.f x3).bind fun t473 => (some t473))
def impl_allSets.f (k : Nat) (a0 : Int) : Option (List Int) := if 0 ≤ a0 then (impl_allSets.l0 k (([] : List Int)) (shl .i64 1 a0) 0) else (none)
set_option maxHeartbeats 40000000 in
set_option maxRecDepth 100000 in
theorem impl_allSets.calls (k : Nat) (a0 : Int) (r : List Int) (w : World) (htab : Tab64 w) (h : impl_allSets.f k a0 = some r) :
  Calls Tryz.prog 121 #[.int .i64 a0] w fun e w' => ∃ v0_ : Value, e = .returned (v0_) ∧ Kd.R (Kd.int .i64) 3 w' w.heap.size (fun _ => True) v0_ r ∧ Below w.heap.size w w' := by
 have HTB := Aside0.mk htab; clear htab; have HB := Aside0.mk (Below.refl w.heap.size w); have H := h; clear h; unfold impl_allSets.f at H; obtain ⟨y467, hy_⟩ : ∃ y_ : List Int, y_ = (([] : List Int)) := ⟨_, rfl⟩
 replace H : (if 0 ≤ a0 then (impl_allSets.l0 k y467 (shl .i64 1 a0) 0) else (none)) = some r := rH_
 have Ny467 := Aside0.mk hy_; clear hy_
 by_cases c2 : 0 ≤ a0
 ·
  rw [if_pos c2] at H; have c2b0 := eq_true c2; have c2b1 : decide (0 ≤ a0) = true := decide_eq_true c2; clear c2; obtain ⟨ji3, hji3⟩ : ∃ j_ : Int, (shl .i64 1 a0) = j_ := ⟨_, rfl⟩
  replace H : (impl_allSets.l0 k y467 ji3 0) = some r := by first | (rw [hji3] at H; exact H) | (simp only [hji3] at H ⊢; exact H)
  have hji3_ : (IntKind.i64.wrap (1 * 2 ^ min a0.toNat 64)) = ji3 := hji3; have hji3z : a0 ≤ 64 → (IntKind.i64.wrap (1 * 2 ^ a0.toNat)) = ji3 := shl_small hji3
  have hji3u : (IntKind.i64.wrap (2 ^ min a0.toNat 64)) = ji3 := by have h_ := hji3_; rw [Int.one_mul] at h_; exact h_
  have hji3v : a0 ≤ 64 → (IntKind.i64.wrap (2 ^ a0.toNat)) = ji3 := fun hle_ => by have h_ := hji3z hle_; rw [Int.one_mul] at h_; exact h_
  have hji3y : (wrap64 (1 * 2 ^ min a0.toNat 64)) = ji3 := (i64_w _).symm.trans hji3_
  have hji3x : a0 ≤ 64 → (wrap64 (1 * 2 ^ a0.toNat)) = ji3 := fun h_ => (i64_w _).symm.trans (hji3z h_)
  have H' := Aside0.mk H; clear H
  go_enter Tryz.func121, Tryz.ntmps121
  go_wp2_with ((with_reducible refine gw_ rfl ?_); (refine rl_ (Kd.int .i64) 3 5 ?_; intro v468 w4 ho5 hb hg_ hnew_; clear hg_ hnew_; (first | rw [← Ny467.out] at ho5 | (simp only [Int.reduceToNat] at ho5; rw [← Ny467.out] at ho5)); have n_ := ac_ (Kd.R_lower ho5 (below_size s1_)) <| Aside0.mk (below_step s1_ hb); clear HB; obtain ⟨HO469, HB⟩ := n_; clear hb ho5))
  go_loopg [3, 8] k (fun kq v3 v8 w' => ∃ (x3_1 : List Int) (x8_1 : Int), v8 = .int .i64 x8_1 ∧ Aside0 (impl_allSets.l0 kq x3_1 ji3 x8_1 = some r) ∧ Aside0 (kq ≤ k) ∧ Aside0 (Kd.R (Kd.int .i64) 3 w' w.heap.size (fun _ => True) v3 x3_1) ∧ Aside0 (Below w.heap.size w w'))
  case atStart => exact ⟨(y467), (0), rf_, H', ⟨Nat.le_refl _⟩, ⟨(by (with_reducible repeat (first | apply Kd.R_alloc | apply Kd.R_drewN | apply Kd.R_drew)); exact HO469.out)⟩, ⟨s1_⟩⟩
  case round =>
   clear H'
   try clear c1
   try clear c2
   try clear c2b0
   try clear c2b1
   try clear p2
   obtain ⟨x3_1, x8_1, rfl, HA, HK1, HO_3, HB⟩ := hrel
   cases gk with
   | zero => exact absurd HA.out (by simp [impl_allSets.l0])
   | succ k1 =>
    have H := HA.out; clear HA
    simp only [impl_allSets.l0] at H
    by_cases c6 : x8_1 < ji3
    ·
     rw [if_pos c6] at H; have c6b0 : decide (x8_1 < ji3) = true := decide_eq_true c6; clear c6
     by_cases c7 : x3_1.length < 17592186044416
     ·
      rw [if_pos c7] at H; have LMc7 := Aside0.mk c7; clear c7; obtain ⟨y470, hy_⟩ : ∃ y_ : List Int, y_ = (x3_1 ++ [x8_1]) := ⟨_, rfl⟩
      replace H : (impl_allSets.l0 k1 y470 ji3 (wrap64 (x8_1 + 1))) = some r := rH_
      have Ny470 := Aside0.mk hy_; clear hy_; have H' := Aside0.mk H; clear H
      go_wp2_with (first | ((with_reducible refine gate_builtin (b := .append) (xs := #[.tmp 11, .tmp 13]) rfl ?_); at_builtin; refine Kd.R_append (Kd.int .i64) (w0 := w) w.heap.size rfl (.tmp 11) (.tmp 13) 27 3 (.int .i64 0) 8 rfl Tryz.underlying27 info3 rfl (by decide) (by omega) u3 x3_1 x8_1 [.int .i64 x8_1] (fun _ => True) (fun _ => False) rfl rfl ?aP (fun _ hk => hk.elim) ?aF ?aO ?aB ?aS ?aL ?_; (case aP => exact rfl); (case aB => exact s1_); (case aF => exact (fun _ _ => trivial)); (case aO => exact s11_); (case aS => exact (below_size s1_)); (case aL => have := LMc7.out; omega); intro v471 w8 ho hb hg hat; rw [← Ny470.out] at ho; have n_ := ac_ (hb) <| Aside0.mk (ho); clear HB HO_3; obtain ⟨HB, HO472⟩ := n_; clear ho hb hg hat))
      go_roundg k1
      case measure => have := HK1.out; omega
      case rel => exact ⟨(y470), (wrap64 (x8_1 + 1)), rf_, H', ⟨by have := HK1.out; omega⟩, ⟨(by (with_reducible repeat (first | apply Kd.R_alloc | apply Kd.R_drewN | apply Kd.R_drew)); exact HO472.out)⟩, ⟨s1_⟩⟩
     ·
      rw [if_neg c7] at H
      exact absurd H (by simp)
    ·
     rw [if_neg c6] at H; have c6b0 : decide (x8_1 < ji3) = false := decide_eq_false c6; clear c6; obtain ⟨t473, A9, H⟩ := bnd44_ H; obtain rfl := Option.some.inj H; obtain ⟨Ao10, co10, eo10⟩ := Kd.R_slice HO_3.out; subst eo10
     go_wp2_with (first | ((with_reducible refine gate_callee (f := 208) rfl ?_); refine goesL_ (some 17) rfl rfl Tryz.func208 (by kernel_rfl) rfl #[.slice Ao10 x3_1.length co10] rfl (by (try simp only [List.map_toArray, List.map_cons, List.map_nil]); first | done | rfl | (simp only [List.length_drop, List.length_take]; rfl)) ?_; (with_reducible refine (impl_SortLectic.calls _ _ x3_1 t473 _ ?side1 ?side2 ?tab A9.out).mono ?_); (case tab => first | exact HTB.out | (refine Tab64.below HTB.out ?_; repeat (first | (with_reducible first | exact HB.out | apply below_alloc | apply pw_below_drewN | apply below_drew1) | exact HB.out)) | (repeat (first | exact HTB.out | apply Tab64.drewN | apply Tab64.drew | apply Tab64.alloc))); (case side1 => repeat (first | exact (Kd.R_reads' HO_3.out).2.2 | (with_reducible refine Kd.C_alloc ?_ _) | (with_reducible refine Kd.C_drewN ?_ _) | (with_reducible refine Kd.C_drew ?_))); (case side2 => exact (Kd.R_reads' HO_3.out).2.1); rintro e w11 ⟨v474, rfl, ho0, hb⟩; refine ⟨_, rfl, ?_⟩; have n_ := ac_ (Kd.R_elder' s11_ (Kd.R_base ho0) hb) <| ac_ (Kd.R_lower (Kd.R_new' ho0 (Kd.R_lt s11_)) (below_size s1_)) <| Aside0.mk (below_step s1_ hb); clear HO_3 HB; obtain ⟨HO_3, HO475, HB⟩ := n_; (try clear hb ho0)))
     go_ret
     exact ⟨_, (by first | rfl | (simp [errW_none, errW_some] <;> rfl) | (simp only [← hji3]; first | rfl | (simp [errW_none, errW_some] <;> rfl)) | (simp [*, errW_none, errW_some] <;> rfl)), (by (with_reducible repeat (first | apply Kd.R_alloc | apply Kd.R_drewN | apply Kd.R_drew)); exact Kd.R_mono HO475.out (fun _ hk => trivial)), s1_⟩
 ·
  rw [if_neg c2] at H
  exact absurd H (by simp)
end Go.Proofs.YtafnamchckehmaaGreatDoor.Pr
