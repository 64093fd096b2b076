/- Functions of the program as plain functions, proofs that their calls answer so, and plain laws: what the law needs. No condition beyond what each statement says. -/
import Derived.Test.YtafnamchckehmaaGreatDoorZFnStem3
namespace Go.Proofs.YtafnamchckehmaaGreatDoor.Pr
set_option maxHeartbeats 40000000
set_option maxRecDepth 100000
open Go.RowKit Go.Proofs.YtafnamchckehmaaGreatDoorW.PrintWords Go.Proofs.YtafnamchckehmaaGreatDoorW.PrintLast Go.Proofs.YtafnamchckehmaaGreatDoorW.PrintMore
attribute [local go_sem] max2_int min2_int max_two min_two max_three min_three max_four min_four
set_option linter.unusedVariables false
set_option linter.unusedSimpArgs false
theorem bnd10_ {α β : Type} {o : Option α} {f : α → Option β} {r : β} (h : o.bind f = some r) : ∃ a, Aside0 (o = some a) ∧ f a = some r := by
 obtain ⟨a, h1, h2⟩ := Option.bind_eq_some_iff.mp h
 exact ⟨a, ⟨h1⟩, h2⟩
theorem q10_1 {P : Prop} (h : P := by repeat (first | (with_reducible first | exact HB.out | apply below_alloc | apply pw_below_drewN | apply below_drew1 | refine below_set ?_ GE706.out) | exact HB.out)) : P := h
theorem q10_3 {P : Prop} (h : P := by (with_reducible repeat (first | refine blk_drewN ?_ _ | refine blk_drew ?_ | refine blk_alloc ?_ _)); exact BK706.out) : P := h
def spec_IsContext.l0 : Nat → Int → Int → List Int → Option (Bool)
 | 0, _, _, _ => none
 | k + 1, x3, x707000, x707001 => if x3 < (x707001.length : Int) then (if 0 ≤ x3 then ((spec_IsSet.f x707000 (rd x707001 x3)).bind fun t708 => (if t708 = true then (spec_IsContext.l0 k (wrap64 (x3 + 1)) x707000 x707001) else (some false))) else (none)) else ((spec_l1In.f x707000 0 6).bind fun t709 => (if t709 = true then (some (decide ((x707001.length : Int) ≤ 8))) else (some false)))
def spec_IsContext.f (k : Nat) (a0_0 : Int) (l0_1 : List Int) : Option (Bool) := spec_IsContext.l0 k 0 a0_0 l0_1
theorem spec_IsContext.calls (k : Nat) (a0_0 : Int) (A0_1 : Option Addr) (c0_1 : Nat) (l0_1 : List Int) (r : Bool) (w : World) (hr0_1 : Kd.C (Kd.int .i64) w A0_1 l0_1.length l0_1) (hc0_1 : l0_1.length ≤ c0_1) (h : spec_IsContext.f k a0_0 l0_1 = some r) :
  Calls Tryz.prog 61 #[.agg #[.int .i64 a0_0, .slice A0_1 l0_1.length c0_1]] w fun e w' => e = .returned (.bool r) ∧ Below w.heap.size w w' := by
 have hu29 := Tryz.underlying29; have HR0_1 := Aside0.mk hr0_1; have HC0_1 := Aside0.mk hc0_1; clear hr0_1 hc0_1; have HB := Aside0.mk (Below.refl w.heap.size w); have H := h; clear h; unfold spec_IsContext.f at H; have H' := Aside0.mk H; clear H
 go_enter Tryz.func61, Tryz.ntmps61
 go_wp2_with (first | ((with_reducible refine gate_dst (N := 1) rfl ?_); (try (refine gate_guard (by rfl) ?_; dsimp only)); refine box_event ?hg (N := 1) ?hd (cs := #[.int .i64 a0_0, .slice A0_1 l0_1.length c0_1]) (t := 29) ?hr ?_; (case hd => rfl); (case hg => rfl); (case hr => first | (go_simp; done) | (go_simp; rfl)); intro gb706 hg w2 hbox hb; have n_ := ac_ (below_step s1_ hb) <| ac_ (hbox) <| ac_ ((gz_ w hg s1_)) <| Aside0.mk ((gz_ w hg s1_)); clear HB; obtain ⟨HB, BK706, GW706, GE706⟩ := n_; clear hb hbox hg))
 repeat (go_quiet (first | ((with_reducible refine gate_dst (N := 1) rfl ?_); (try (refine gate_guard (by rfl) ?_; dsimp only)); refine box_event ?hg (N := 1) ?hd (cs := #[.int .i64 a0_0, .slice A0_1 l0_1.length c0_1]) (t := 29) ?hr ?_; (case hd => rfl); (case hg => rfl); (case hr => first | (go_simp; done) | (go_simp; rfl)); intro gb706 hg w2 hbox hb; have n_ := ac_ (below_step s1_ hb) <| ac_ (hbox) <| ac_ ((gz_ w hg s1_)) <| Aside0.mk ((gz_ w hg s1_)); clear HB; obtain ⟨HB, BK706, GW706, GE706⟩ := n_; clear hb hbox hg)); try go_wp2_with (first | ((with_reducible refine gate_dst (N := 1) rfl ?_); (try (refine gate_guard (by rfl) ?_; dsimp only)); refine box_event ?hg (N := 1) ?hd (cs := #[.int .i64 a0_0, .slice A0_1 l0_1.length c0_1]) (t := 29) ?hr ?_; (case hd => rfl); (case hg => rfl); (case hr => first | (go_simp; done) | (go_simp; rfl)); intro gb706 hg w2 hbox hb; have n_ := ac_ (below_step s1_ hb) <| ac_ (hbox) <| ac_ ((gz_ w hg s1_)) <| Aside0.mk ((gz_ w hg s1_)); clear HB; obtain ⟨HB, BK706, GW706, GE706⟩ := n_; clear hb hbox hg)))
 go_loopg [3] k (fun kq v3 w' => ∃ (x3_1 : Int), v3 = .int .i64 x3_1 ∧ Aside0 (spec_IsContext.l0 kq x3_1 a0_0 l0_1 = some r) ∧ Aside0 (kq ≤ k) ∧ Aside0 (w'.heap[gb706]? = some (.cells #[.int .i64 a0_0, (.slice A0_1 l0_1.length c0_1)] 29 (0, 0))) ∧ Aside0 (Below w.heap.size w w'))
 case atStart => exact ⟨(0), rf_, H', ⟨Nat.le_refl _⟩, ⟨q10_3⟩, ⟨q10_1⟩⟩
 case round =>
  clear H'
  try clear p2
  obtain ⟨x3_1, rfl, HA, HK1, BK706, HB⟩ := hrel
  cases gk with
  | zero => exact absurd HA.out (by simp [spec_IsContext.l0])
  | succ k1 =>
   have H := HA.out; clear HA
   simp only [spec_IsContext.l0] at H
   by_cases c3 : x3_1 < (l0_1.length : Int)
   ·
    rw [if_pos c3] at H; have c3b0 : decide (x3_1 < (l0_1.length : Int)) = true := decide_eq_true c3; clear c3
    by_cases c4 : 0 ≤ x3_1
    ·
     rw [if_pos c4] at H; have c4b0 : decide (0 ≤ x3_1) = true := decide_eq_true c4; clear c4; obtain ⟨t708, A5, H⟩ := bnd10_ H
     by_cases c6 : t708 = true
     ·
      subst c6; rw [if_pos rfl] at H; have H' := Aside0.mk H; clear H; have hcz7_0 : wr.cell? ⟨gb706, 0, none⟩ = some (.int .i64 a0_0) := (blk_cell BK706.out 0).trans rfl; have hcz7_1 : wr.cell? ⟨gb706, 1, none⟩ = some (.slice A0_1 l0_1.length c0_1) := (blk_cell BK706.out 1).trans rfl; have hfz7_0 := blk_frozen BK706.out 0; have hfz7_1 := blk_frozen BK706.out 1; have p707 : 0 ≤ (x3_1 : Int) := of_decide_eq_true s4_; have q707 : x3_1 < (l0_1.length : Int) := of_decide_eq_true s4_; obtain ⟨ad707, e707, hx707_0⟩ := Kd.at_int HR0_1.out x3_1 p707 q707
      cases e707
      replace hx707_0 := (HB.out.cell (World.block_lt_of_cell? w _ hx707_0)).trans hx707_0; replace p707 := eq_true p707; replace q707 := eq_true q707
      go_wp2_with (first | (go_at_call 86; (with_reducible refine (spec_IsSet.calls a0_0 (rd l0_1 x3_1) true _ A5.out).mono ?_); rintro e w' ⟨rfl, ⟨nd, rfl⟩⟩; (try exact dn_)))
      repeat (go_quiet (first | (go_at_call 86; (with_reducible refine (spec_IsSet.calls a0_0 (rd l0_1 x3_1) true _ A5.out).mono ?_); rintro e w' ⟨rfl, ⟨nd, rfl⟩⟩; (try exact dn_))); try go_wp2_with (first | (go_at_call 86; (with_reducible refine (spec_IsSet.calls a0_0 (rd l0_1 x3_1) true _ A5.out).mono ?_); rintro e w' ⟨rfl, ⟨nd, rfl⟩⟩; (try exact dn_))))
      go_roundg k1
      case measure => have := HK1.out; omega
      case rel => exact ⟨(wrap64 (x3_1 + 1)), rf_, H', ⟨by have := HK1.out; omega⟩, ⟨q10_3⟩, ⟨q10_1⟩⟩
     ·
      replace c6 := Bool.eq_false_iff.mpr c6; subst c6
      rw [if_neg (show ¬ (false = true) by decide)] at H
      obtain rfl := Option.some.inj H; have hcz8_0 : wr.cell? ⟨gb706, 0, none⟩ = some (.int .i64 a0_0) := (blk_cell BK706.out 0).trans rfl; have hcz8_1 : wr.cell? ⟨gb706, 1, none⟩ = some (.slice A0_1 l0_1.length c0_1) := (blk_cell BK706.out 1).trans rfl; have hfz8_0 := blk_frozen BK706.out 0; have hfz8_1 := blk_frozen BK706.out 1; have p707 : 0 ≤ (x3_1 : Int) := of_decide_eq_true s4_; have q707 : x3_1 < (l0_1.length : Int) := of_decide_eq_true s4_; obtain ⟨ad707, e707, hx707_0⟩ := Kd.at_int HR0_1.out x3_1 p707 q707
      cases e707
      replace hx707_0 := (HB.out.cell (World.block_lt_of_cell? w _ hx707_0)).trans hx707_0; replace p707 := eq_true p707; replace q707 := eq_true q707
      go_wp2_with (first | (go_at_call 86; (with_reducible refine (spec_IsSet.calls a0_0 (rd l0_1 x3_1) false _ A5.out).mono ?_); rintro e w' ⟨rfl, ⟨nd, rfl⟩⟩; (try exact dn_)))
      repeat (go_quiet (first | (go_at_call 86; (with_reducible refine (spec_IsSet.calls a0_0 (rd l0_1 x3_1) false _ A5.out).mono ?_); rintro e w' ⟨rfl, ⟨nd, rfl⟩⟩; (try exact dn_))); try go_wp2_with (first | (go_at_call 86; (with_reducible refine (spec_IsSet.calls a0_0 (rd l0_1 x3_1) false _ A5.out).mono ?_); rintro e w' ⟨rfl, ⟨nd, rfl⟩⟩; (try exact dn_))))
      go_ret
      exact ⟨s5_, q10_1⟩
    ·
     rw [if_neg c4] at H
     exact absurd H (by simp)
   ·
    rw [if_neg c3] at H; have c3b0 : decide (x3_1 < (l0_1.length : Int)) = false := decide_eq_false c3; clear c3; obtain ⟨t709, A9, H⟩ := bnd10_ H
    by_cases c10 : t709 = true
    ·
     subst c10; rw [if_pos rfl] at H; obtain rfl := Option.some.inj H; have hcz11_0 : wr.cell? ⟨gb706, 0, none⟩ = some (.int .i64 a0_0) := (blk_cell BK706.out 0).trans rfl; have hcz11_1 : wr.cell? ⟨gb706, 1, none⟩ = some (.slice A0_1 l0_1.length c0_1) := (blk_cell BK706.out 1).trans rfl; have hfz11_0 := blk_frozen BK706.out 0; have hfz11_1 := blk_frozen BK706.out 1
     go_wp2_with (first | (go_at_call 132; (with_reducible refine (spec_l1In.calls a0_0 0 6 true _ A9.out).mono ?_); rintro e w' ⟨rfl, ⟨nd, rfl⟩⟩; (try exact dn_)))
     repeat (go_quiet (first | (go_at_call 132; (with_reducible refine (spec_l1In.calls a0_0 0 6 true _ A9.out).mono ?_); rintro e w' ⟨rfl, ⟨nd, rfl⟩⟩; (try exact dn_))); try go_wp2_with (first | (go_at_call 132; (with_reducible refine (spec_l1In.calls a0_0 0 6 true _ A9.out).mono ?_); rintro e w' ⟨rfl, ⟨nd, rfl⟩⟩; (try exact dn_))))
     go_ret
     exact ⟨s5_, q10_1⟩
    ·
     replace c10 := Bool.eq_false_iff.mpr c10; subst c10
     rw [if_neg (show ¬ (false = true) by decide)] at H
     obtain rfl := Option.some.inj H; have hcz12_0 : wr.cell? ⟨gb706, 0, none⟩ = some (.int .i64 a0_0) := (blk_cell BK706.out 0).trans rfl; have hcz12_1 : wr.cell? ⟨gb706, 1, none⟩ = some (.slice A0_1 l0_1.length c0_1) := (blk_cell BK706.out 1).trans rfl; have hfz12_0 := blk_frozen BK706.out 0; have hfz12_1 := blk_frozen BK706.out 1
     go_wp2_with (first | (go_at_call 132; (with_reducible refine (spec_l1In.calls a0_0 0 6 false _ A9.out).mono ?_); rintro e w' ⟨rfl, ⟨nd, rfl⟩⟩; (try exact dn_)))
     repeat (go_quiet (first | (go_at_call 132; (with_reducible refine (spec_l1In.calls a0_0 0 6 false _ A9.out).mono ?_); rintro e w' ⟨rfl, ⟨nd, rfl⟩⟩; (try exact dn_))); try go_wp2_with (first | (go_at_call 132; (with_reducible refine (spec_l1In.calls a0_0 0 6 false _ A9.out).mono ?_); rintro e w' ⟨rfl, ⟨nd, rfl⟩⟩; (try exact dn_))))
     go_ret
     exact ⟨s5_, q10_1⟩
def spec_l2Has.f (a0 : Int) (a1 : Int) : Option (Bool) := if 0 ≤ (IntKind.u64.wrap (a1)) then (some ((Go.bits .and .i64 (shr .i64 a0 (IntKind.u64.wrap (a1))) 1) == 1)) else (none)
theorem spec_l2Has.calls (a0 : Int) (a1 : Int) (r : Bool) (w : World) (h : spec_l2Has.f a0 a1 = some r) :
  Calls Tryz.prog 215 #[.int .i64 a0, .int .i64 a1] w fun e w' => e = .returned (.bool r) ∧ Drawn0 w w' := by
 have H := h; clear h; unfold spec_l2Has.f at H; obtain ⟨ji3, hji3⟩ : ∃ j_ : Int, (IntKind.u64.wrap (a1)) = j_ := ⟨_, rfl⟩
 replace H : (if 0 ≤ (ji3) then (some ((Go.bits .and .i64 (shr .i64 a0 (ji3)) 1) == 1)) else (none)) = some r := by first | (rw [hji3] at H; exact H) | (simp only [hji3] at H ⊢; exact H)
 by_cases c4 : 0 ≤ (ji3)
 ·
  rw [if_pos c4] at H; have c4b0 := eq_true c4; have c4b1 : decide (0 ≤ (ji3)) = true := decide_eq_true c4; clear c4; obtain ⟨ji5, hji5⟩ : ∃ j_ : Int, (shr .i64 a0 (ji3)) = j_ := ⟨_, rfl⟩
  replace H : (some ((Go.bits .and .i64 (ji5) 1) == 1)) = some r := by first | (rw [hji5] at H; exact H) | (simp only [hji5] at H ⊢; exact H)
  have hji5_ : (a0 / 2 ^ min (ji3).toNat 64) = ji5 := hji5; have hji5z : (ji3) ≤ 64 → (a0 / 2 ^ (ji3).toNat) = ji5 := shr_small hji5; obtain rfl := Option.some.inj H
  go_enter Tryz.func215, Tryz.ntmps215
  go_wp2
  go_ret
  exact ⟨(by first | rfl | (simp; done) | (simp only [← hji3, ← hji5] <;> (first | rfl | simp)) | (simp [*]; done)), (by repeat (first | exact Drawn0.refl _ | apply Drawn0.step))⟩
 ·
  rw [if_neg c4] at H
  exact absurd H (by simp)
theorem q10_6 {P : Prop} (h : P := by repeat (first | (with_reducible first | exact HB.out | apply below_alloc | apply pw_below_drewN | apply below_drew1 | refine below_set ?_ GE710.out) | exact HB.out)) : P := h
theorem q10_9 {P : Prop} (h : P := by (with_reducible repeat (first | refine blk_drewN ?_ _ | refine blk_drew ?_ | refine blk_alloc ?_ _)); exact BK710.out) : P := h
def spec_l4Intent.l0 : Nat → Int → Int → Int → Int → List Int → Option (Int)
 | 0, _, _, _, _, _ => none
 | k + 1, x1, x5, x6, x711000, x711001 => if x6 < (x711001.length : Int) then ((spec_l2Has.f x1 x6).bind fun t712 => (if t712 = true then (if 0 ≤ x6 then (spec_l4Intent.l0 k x1 (Go.bits .and .i64 x5 (rd x711001 x6)) (wrap64 (x6 + 1)) x711000 x711001) else (none)) else (spec_l4Intent.l0 k x1 x5 (wrap64 (x6 + 1)) x711000 x711001))) else (some x5)
def spec_l4Intent.f (k : Nat) (a0_0 : Int) (l0_1 : List Int) (a1 : Int) : Option (Int) := (spec_FullSet.f a0_0).bind fun t711 => (spec_l4Intent.l0 k a1 t711 0 a0_0 l0_1)
theorem spec_l4Intent.calls (k : Nat) (a0_0 : Int) (A0_1 : Option Addr) (c0_1 : Nat) (l0_1 : List Int) (a1 : Int) (r : Int) (w : World) (hr0_1 : Kd.C (Kd.int .i64) w A0_1 l0_1.length l0_1) (hc0_1 : l0_1.length ≤ c0_1) (h : spec_l4Intent.f k a0_0 l0_1 a1 = some r) :
  Calls Tryz.prog 197 #[.agg #[.int .i64 a0_0, .slice A0_1 l0_1.length c0_1], .int .i64 a1] w fun e w' => e = .returned (.int .i64 r) ∧ Below w.heap.size w w' := by
 have hu29 := Tryz.underlying29; have HR0_1 := Aside0.mk hr0_1; have HC0_1 := Aside0.mk hc0_1; clear hr0_1 hc0_1; have HB := Aside0.mk (Below.refl w.heap.size w); have H := h; clear h; unfold spec_l4Intent.f at H; obtain ⟨t711, A3, H⟩ := bnd10_ H; have H' := Aside0.mk H; clear H
 go_enter Tryz.func197, Tryz.ntmps197
 go_wp2_with ((with_reducible refine gw_ rfl ?_); first | (refine be_ 2 #[.int .i64 a0_0, .slice A0_1 l0_1.length c0_1] 29 ?_; intro gb710 hg w4 hbox hb; have n_ := ac_ (below_step s1_ hb) <| ac_ (hbox) <| ac_ ((gz_ w hg s1_)) <| Aside0.mk ((gz_ w hg s1_)); clear HB; obtain ⟨HB, BK710, GW710, GE710⟩ := n_; clear hb hbox hg; have hcz5_0 : w4.cell? ⟨gb710, 0, none⟩ = some (.int .i64 a0_0) := (blk_cell BK710.out 0).trans rfl; have hcz5_1 : w4.cell? ⟨gb710, 1, none⟩ = some (.slice A0_1 l0_1.length c0_1) := (blk_cell BK710.out 1).trans rfl; have hfz5_0 := blk_frozen BK710.out 0; have hfz5_1 := blk_frozen BK710.out 1) | (refine gL_ 62 9 Tryz.func62 #[.int .i64 a0_0] ?_; (with_reducible refine (spec_FullSet.calls a0_0 t711 _ A3.out).mono ?_); rintro e w' ⟨rfl, ⟨nd, rfl⟩⟩; refine ⟨_, rfl, ?_⟩))
 go_loopg [5, 6] k (fun kq v5 v6 w' => ∃ (x5_1 : Int) (x6_1 : Int), v5 = .int .i64 x5_1 ∧ v6 = .int .i64 x6_1 ∧ Aside0 (spec_l4Intent.l0 kq a1 x5_1 x6_1 a0_0 l0_1 = some r) ∧ Aside0 (kq ≤ k) ∧ Aside0 (w'.heap[gb710]? = some (.cells #[.int .i64 a0_0, (.slice A0_1 l0_1.length c0_1)] 29 (0, 0))) ∧ Aside0 (Below w.heap.size w w'))
 case atStart => exact ⟨(t711), (0), s3_, s3_, H', ⟨Nat.le_refl _⟩, ⟨q10_9⟩, ⟨q10_6⟩⟩
 case round =>
  clear H'
  try clear c1
  try clear p2
  try clear hcz5_0
  try clear hcz5_1
  try clear hfz5_0
  try clear hfz5_1
  obtain ⟨x5_1, x6_1, rfl, rfl, HA, HK1, BK710, HB⟩ := hrel
  cases gk with
  | zero => exact absurd HA.out (by simp [spec_l4Intent.l0])
  | succ k1 =>
   have H := HA.out; clear HA
   simp only [spec_l4Intent.l0] at H
   by_cases c6 : x6_1 < (l0_1.length : Int)
   ·
    rw [if_pos c6] at H; have c6b0 : decide (x6_1 < (l0_1.length : Int)) = true := decide_eq_true c6; clear c6; obtain ⟨t712, A7, H⟩ := bnd10_ H
    by_cases c8 : t712 = true
    ·
     subst c8; rw [if_pos rfl] at H
     by_cases c9 : 0 ≤ x6_1
     ·
      rw [if_pos c9] at H; have c9b0 : decide (0 ≤ x6_1) = true := decide_eq_true c9; clear c9; have H' := Aside0.mk H; clear H; have hcz10_0 : wr.cell? ⟨gb710, 0, none⟩ = some (.int .i64 a0_0) := (blk_cell BK710.out 0).trans rfl; have hcz10_1 : wr.cell? ⟨gb710, 1, none⟩ = some (.slice A0_1 l0_1.length c0_1) := (blk_cell BK710.out 1).trans rfl; have hfz10_0 := blk_frozen BK710.out 0; have hfz10_1 := blk_frozen BK710.out 1
      go_wp2_with ((with_reducible refine gw_ rfl ?_); (refine gL_ 215 19 Tryz.func215 #[.int .i64 a1, .int .i64 x6_1] ?_; (with_reducible refine (spec_l2Has.calls a1 x6_1 true _ A7.out).mono ?_); rintro e w' ⟨rfl, ⟨nd, rfl⟩⟩; refine ⟨_, rfl, ?_⟩; have p713 : 0 ≤ (x6_1 : Int) := of_decide_eq_true (by first | (with_reducible assumption) | assumption); have q713 : x6_1 < (l0_1.length : Int) := of_decide_eq_true (by first | (with_reducible assumption) | assumption); obtain ⟨ad713, e713, hx713_0⟩ := Kd.at_int HR0_1.out x6_1 p713 q713; cases e713; replace hx713_0 := (HB.out.cell (World.block_lt_of_cell? w _ hx713_0)).trans hx713_0; replace p713 := eq_true p713; replace q713 := eq_true q713))
      go_roundg k1
      case measure => have := HK1.out; omega
      case rel => exact ⟨(Go.bits .and .i64 x5_1 (rd l0_1 x6_1)), (wrap64 (x6_1 + 1)), s3_, s3_, H', ⟨by have := HK1.out; omega⟩, ⟨q10_9⟩, ⟨q10_6⟩⟩
     ·
      rw [if_neg c9] at H
      exact absurd H (by simp)
    ·
     replace c8 := Bool.eq_false_iff.mpr c8; subst c8
     rw [if_neg (show ¬ (false = true) by decide)] at H
     have H' := Aside0.mk H; clear H; have hcz11_0 : wr.cell? ⟨gb710, 0, none⟩ = some (.int .i64 a0_0) := (blk_cell BK710.out 0).trans rfl; have hcz11_1 : wr.cell? ⟨gb710, 1, none⟩ = some (.slice A0_1 l0_1.length c0_1) := (blk_cell BK710.out 1).trans rfl; have hfz11_0 := blk_frozen BK710.out 0; have hfz11_1 := blk_frozen BK710.out 1
     go_wp2_with ((with_reducible refine gw_ rfl ?_); (refine gL_ 215 19 Tryz.func215 #[.int .i64 a1, .int .i64 x6_1] ?_; (with_reducible refine (spec_l2Has.calls a1 x6_1 false _ A7.out).mono ?_); rintro e w' ⟨rfl, ⟨nd, rfl⟩⟩; refine ⟨_, rfl, ?_⟩))
     go_roundg k1
     case measure => have := HK1.out; omega
     case rel => exact ⟨(x5_1), (wrap64 (x6_1 + 1)), s3_, s3_, H', ⟨by have := HK1.out; omega⟩, ⟨q10_9⟩, ⟨q10_6⟩⟩
   ·
    rw [if_neg c6] at H; have c6b0 : decide (x6_1 < (l0_1.length : Int)) = false := decide_eq_false c6; clear c6; obtain rfl := Option.some.inj H; have hcz12_0 : wr.cell? ⟨gb710, 0, none⟩ = some (.int .i64 a0_0) := (blk_cell BK710.out 0).trans rfl; have hcz12_1 : wr.cell? ⟨gb710, 1, none⟩ = some (.slice A0_1 l0_1.length c0_1) := (blk_cell BK710.out 1).trans rfl; have hfz12_0 := blk_frozen BK710.out 0; have hfz12_1 := blk_frozen BK710.out 1
    go_wp2
    go_ret
    exact ⟨(by first | rfl | (simp [errW_none, errW_some] <;> rfl) | (simp [*, errW_none, errW_some] <;> rfl)), q10_6⟩
theorem q10_11 {P : Prop} (h : P := by repeat (first | (with_reducible first | exact HB.out | apply below_alloc | apply pw_below_drewN | apply below_drew1 | refine below_set ?_ GE714.out) | exact HB.out)) : P := h
theorem q10_13 {P : Prop} (h : P := by (with_reducible repeat (first | refine blk_drewN ?_ _ | refine blk_drew ?_ | refine blk_alloc ?_ _)); exact BK714.out) : P := h
def spec_l4Extent.l0 : Nat → Int → Int → Int → Int → List Int → Option (Int)
 | 0, _, _, _, _, _ => none
 | k + 1, x1, x5, x6, x715000, x715001 => if x6 < (x715001.length : Int) then (if 0 ≤ x6 then (if (Go.bits .and .i64 (rd x715001 x6) x1) = x1 then (if 0 ≤ (IntKind.u64.wrap (x6)) then (spec_l4Extent.l0 k x1 (Go.bits .or .i64 x5 (shl .i64 1 (IntKind.u64.wrap (x6)))) (wrap64 (x6 + 1)) x715000 x715001) else (none)) else (spec_l4Extent.l0 k x1 x5 (wrap64 (x6 + 1)) x715000 x715001)) else (none)) else (some x5)
def spec_l4Extent.f (k : Nat) (a0_0 : Int) (l0_1 : List Int) (a1 : Int) : Option (Int) := spec_l4Extent.l0 k a1 0 0 a0_0 l0_1
theorem spec_l4Extent.calls (k : Nat) (a0_0 : Int) (A0_1 : Option Addr) (c0_1 : Nat) (l0_1 : List Int) (a1 : Int) (r : Int) (w : World) (hr0_1 : Kd.C (Kd.int .i64) w A0_1 l0_1.length l0_1) (hc0_1 : l0_1.length ≤ c0_1) (h : spec_l4Extent.f k a0_0 l0_1 a1 = some r) :
  Calls Tryz.prog 214 #[.agg #[.int .i64 a0_0, .slice A0_1 l0_1.length c0_1], .int .i64 a1] w fun e w' => e = .returned (.int .i64 r) ∧ Below w.heap.size w w' := by
 have hu29 := Tryz.underlying29; have HR0_1 := Aside0.mk hr0_1; have HC0_1 := Aside0.mk hc0_1; clear hr0_1 hc0_1; have HB := Aside0.mk (Below.refl w.heap.size w); have H := h; clear h; unfold spec_l4Extent.f at H; have H' := Aside0.mk H; clear H
 go_enter Tryz.func214, Tryz.ntmps214
 go_wp2_with ((with_reducible refine gw_ rfl ?_); (refine be_ 2 #[.int .i64 a0_0, .slice A0_1 l0_1.length c0_1] 29 ?_; intro gb714 hg w3 hbox hb; have n_ := ac_ (below_step s1_ hb) <| ac_ (hbox) <| ac_ ((gz_ w hg s1_)) <| Aside0.mk ((gz_ w hg s1_)); clear HB; obtain ⟨HB, BK714, GW714, GE714⟩ := n_; clear hb hbox hg))
 go_loopg [5, 6] k (fun kq v5 v6 w' => ∃ (x5_1 : Int) (x6_1 : Int), v5 = .int .i64 x5_1 ∧ v6 = .int .i64 x6_1 ∧ Aside0 (spec_l4Extent.l0 kq a1 x5_1 x6_1 a0_0 l0_1 = some r) ∧ Aside0 (kq ≤ k) ∧ Aside0 (w'.heap[gb714]? = some (.cells #[.int .i64 a0_0, (.slice A0_1 l0_1.length c0_1)] 29 (0, 0))) ∧ Aside0 (Below w.heap.size w w'))
 case atStart => exact ⟨(0), (0), s3_, s3_, H', ⟨Nat.le_refl _⟩, ⟨q10_13⟩, ⟨q10_11⟩⟩
 case round =>
  clear H'
  try clear c2
  try clear p2
  obtain ⟨x5_1, x6_1, rfl, rfl, HA, HK1, BK714, HB⟩ := hrel
  cases gk with
  | zero => exact absurd HA.out (by simp [spec_l4Extent.l0])
  | succ k1 =>
   have H := HA.out; clear HA
   simp only [spec_l4Extent.l0] at H
   by_cases c4 : x6_1 < (l0_1.length : Int)
   ·
    rw [if_pos c4] at H; have c4b0 : decide (x6_1 < (l0_1.length : Int)) = true := decide_eq_true c4; clear c4
    by_cases c5 : 0 ≤ x6_1
    ·
     rw [if_pos c5] at H; have c5b0 : decide (0 ≤ x6_1) = true := decide_eq_true c5; clear c5
     by_cases c6 : (Go.bits .and .i64 (rd l0_1 x6_1) a1) = a1
     ·
      rw [if_pos c6] at H; have c6b0 : ((Go.bits .and .i64 (rd l0_1 x6_1) a1) == a1) = true := beq_iff_eq.mpr c6; have c6b1 : ((Go.bits .and .i64 (rd l0_1 x6_1) a1) != a1) = false := bne_eq_false_iff_eq.mpr c6; clear c6; obtain ⟨ji7, hji7⟩ : ∃ j_ : Int, (IntKind.u64.wrap (x6_1)) = j_ := ⟨_, rfl⟩
      replace H : (if 0 ≤ (ji7) then (spec_l4Extent.l0 k1 a1 (Go.bits .or .i64 x5_1 (shl .i64 1 (ji7))) (wrap64 (x6_1 + 1)) a0_0 l0_1) else (none)) = some r := by first | (rw [hji7] at H; exact H) | (simp only [hji7] at H ⊢; exact H)
      by_cases c8 : 0 ≤ (ji7)
      ·
       rw [if_pos c8] at H; have c8b0 := eq_true c8; have c8b1 : decide (0 ≤ (ji7)) = true := decide_eq_true c8; clear c8; obtain ⟨ji9, hji9⟩ : ∃ j_ : Int, (shl .i64 1 (ji7)) = j_ := ⟨_, rfl⟩
       replace H : (spec_l4Extent.l0 k1 a1 (Go.bits .or .i64 x5_1 (ji9)) (wrap64 (x6_1 + 1)) a0_0 l0_1) = some r := by first | (rw [hji9] at H; exact H) | (simp only [hji9] at H ⊢; exact H)
       have hji9_ : (IntKind.i64.wrap (1 * 2 ^ min (ji7).toNat 64)) = ji9 := hji9; have hji9z : (ji7) ≤ 64 → (IntKind.i64.wrap (1 * 2 ^ (ji7).toNat)) = ji9 := shl_small hji9
       have hji9u : (IntKind.i64.wrap (2 ^ min (ji7).toNat 64)) = ji9 := by have h_ := hji9_; rw [Int.one_mul] at h_; exact h_
       have hji9v : (ji7) ≤ 64 → (IntKind.i64.wrap (2 ^ (ji7).toNat)) = ji9 := fun hle_ => by have h_ := hji9z hle_; rw [Int.one_mul] at h_; exact h_
       have hji9y : (wrap64 (1 * 2 ^ min (ji7).toNat 64)) = ji9 := (i64_w _).symm.trans hji9_
       have hji9x : (ji7) ≤ 64 → (wrap64 (1 * 2 ^ (ji7).toNat)) = ji9 := fun h_ => (i64_w _).symm.trans (hji9z h_)
       have H' := Aside0.mk H; clear H; have hcz10_0 : wr.cell? ⟨gb714, 0, none⟩ = some (.int .i64 a0_0) := (blk_cell BK714.out 0).trans rfl; have hcz10_1 : wr.cell? ⟨gb714, 1, none⟩ = some (.slice A0_1 l0_1.length c0_1) := (blk_cell BK714.out 1).trans rfl; have hfz10_0 := blk_frozen BK714.out 0; have hfz10_1 := blk_frozen BK714.out 1; have p715 : 0 ≤ (x6_1 : Int) := of_decide_eq_true s4_; have q715 : x6_1 < (l0_1.length : Int) := of_decide_eq_true s4_; obtain ⟨ad715, e715, hx715_0⟩ := Kd.at_int HR0_1.out x6_1 p715 q715
       cases e715
       replace hx715_0 := (HB.out.cell (World.block_lt_of_cell? w _ hx715_0)).trans hx715_0; replace p715 := eq_true p715; replace q715 := eq_true q715
       go_wp2
       go_roundg k1
       case measure => have := HK1.out; omega
       case rel => exact ⟨(Go.bits .or .i64 x5_1 (ji9)), (wrap64 (x6_1 + 1)), (by first | rfl | (simp; done) | (simp only [← hji9] <;> (first | rfl | simp)) | (simp [*]; done)), s3_, H', ⟨by have := HK1.out; omega⟩, ⟨q10_13⟩, ⟨q10_11⟩⟩
      ·
       rw [if_neg c8] at H
       exact absurd H (by simp)
     ·
      rw [if_neg c6] at H; have c6b0 : ((Go.bits .and .i64 (rd l0_1 x6_1) a1) == a1) = false := beq_eq_false_iff_ne.mpr c6; have c6b1 : ((Go.bits .and .i64 (rd l0_1 x6_1) a1) != a1) = true := bne_iff_ne.mpr c6; have H' := Aside0.mk H; clear H; have hcz11_0 : wr.cell? ⟨gb714, 0, none⟩ = some (.int .i64 a0_0) := (blk_cell BK714.out 0).trans rfl; have hcz11_1 : wr.cell? ⟨gb714, 1, none⟩ = some (.slice A0_1 l0_1.length c0_1) := (blk_cell BK714.out 1).trans rfl; have hfz11_0 := blk_frozen BK714.out 0; have hfz11_1 := blk_frozen BK714.out 1; have p715 : 0 ≤ (x6_1 : Int) := of_decide_eq_true s4_; have q715 : x6_1 < (l0_1.length : Int) := of_decide_eq_true s4_; obtain ⟨ad715, e715, hx715_0⟩ := Kd.at_int HR0_1.out x6_1 p715 q715
      cases e715
      replace hx715_0 := (HB.out.cell (World.block_lt_of_cell? w _ hx715_0)).trans hx715_0; replace p715 := eq_true p715; replace q715 := eq_true q715
      go_wp2
      go_roundg k1
      case measure => have := HK1.out; omega
      case rel => exact ⟨(x5_1), (wrap64 (x6_1 + 1)), s3_, s3_, H', ⟨by have := HK1.out; omega⟩, ⟨q10_13⟩, ⟨q10_11⟩⟩
    ·
     rw [if_neg c5] at H
     exact absurd H (by simp)
   ·
    rw [if_neg c4] at H; have c4b0 : decide (x6_1 < (l0_1.length : Int)) = false := decide_eq_false c4; clear c4; obtain rfl := Option.some.inj H; have hcz12_0 : wr.cell? ⟨gb714, 0, none⟩ = some (.int .i64 a0_0) := (blk_cell BK714.out 0).trans rfl; have hcz12_1 : wr.cell? ⟨gb714, 1, none⟩ = some (.slice A0_1 l0_1.length c0_1) := (blk_cell BK714.out 1).trans rfl; have hfz12_0 := blk_frozen BK714.out 0; have hfz12_1 := blk_frozen BK714.out 1
    go_wp2
    go_ret
    exact ⟨(by first | rfl | (simp [errW_none, errW_some] <;> rfl) | (simp [*, errW_none, errW_some] <;> rfl)), q10_11⟩
theorem q10_17 {P : Prop} (h : P := by repeat (first | (with_reducible first | exact HB.out | apply below_alloc | apply pw_below_drewN | apply below_drew1 | refine below_set ?_ GE716.out) | exact HB.out)) : P := h
theorem q10_20 {P : Prop} (h : P := by (with_reducible repeat (first | refine blk_drewN ?_ _ | refine blk_drew ?_ | refine blk_alloc ?_ _)); exact BK716.out) : P := h
def spec_l4Closure.f (k : Nat) (a0_0 : Int) (l0_1 : List Int) (a1 : Int) : Option (Int) := (spec_l4Extent.f k a0_0 l0_1 a1).bind fun t717 => ((spec_l4Intent.f k a0_0 l0_1 t717).bind fun t718 => (some t718))
theorem spec_l4Closure.calls (k : Nat) (a0_0 : Int) (A0_1 : Option Addr) (c0_1 : Nat) (l0_1 : List Int) (a1 : Int) (r : Int) (w : World) (hr0_1 : Kd.C (Kd.int .i64) w A0_1 l0_1.length l0_1) (hc0_1 : l0_1.length ≤ c0_1) (h : spec_l4Closure.f k a0_0 l0_1 a1 = some r) :
  Calls Tryz.prog 135 #[.agg #[.int .i64 a0_0, .slice A0_1 l0_1.length c0_1], .int .i64 a1] w fun e w' => e = .returned (.int .i64 r) ∧ Below w.heap.size w w' := by
 have hu29 := Tryz.underlying29; have HR0_1 := Aside0.mk hr0_1; have HC0_1 := Aside0.mk hc0_1; clear hr0_1 hc0_1; have HB := Aside0.mk (Below.refl w.heap.size w); have H := h; clear h; unfold spec_l4Closure.f at H; obtain ⟨t717, A3, H⟩ := bnd10_ H; obtain ⟨t718, A4, H⟩ := bnd10_ H; obtain rfl := Option.some.inj H
 go_enter Tryz.func135, Tryz.ntmps135
 try go_wp2_with ((with_reducible refine gw_ rfl ?_); (refine be_ 2 #[.int .i64 a0_0, .slice A0_1 l0_1.length c0_1] 29 ?_; intro gb716 hg w5 hbox hb; have n_ := ac_ (below_step s1_ hb) <| ac_ (hbox) <| ac_ ((gz_ w hg s1_)) <| Aside0.mk ((gz_ w hg s1_)); clear HB; obtain ⟨HB, BK716, GW716, GE716⟩ := n_; clear hb hbox hg))
 have n0_ := Aside0.mk (blk_drew BK716.out); have n1_ := Aside0.mk (below_drew1 HB.out); clear BK716; clear HB; have BK716 := n0_; have HB := n1_; clear n0_ n1_
 refine start_ (n := 6) (S := fun w' => w'.cell? ⟨gb716, 0, none⟩ = some (.int .i64 a0_0) ∧ w'.cell? ⟨gb716, 1, none⟩ = some (.slice A0_1 l0_1.length c0_1)) (ds := []) (tb_ 6 0) (by kernel_rfl) rfl rfl ⟨(blk_cell BK716.out 0).trans rfl, (blk_cell BK716.out 1).trans rfl⟩ (fun hHeld => ?_)
 generalize w5.drew = w6 at BK716 HB hHeld ⊢
 refine pl_ 2 7 (tb_ 6 4) ?_
 refine take_ (i := 0) (N := some 5) (v := ?_) (a' := ?_) (tb_ 6 5) rfl rfl (by kernel_rfl) (fun _ _ _ h => h) (Or.inl ⟨by rfl, ?_⟩) hHeld ?_ ?_
 rotate_left
 ·
  rintro w' ⟨s0, s1⟩
  go_simp; with_reducible rfl
 rotate_left
 ·
  exact s9_
 refine take_ (i := 1) (N := some 6) (v := ?_) (a' := ?_) (tb_ 6 7) rfl rfl (by kernel_rfl) (fun _ _ _ h => h) (Or.inl ⟨by rfl, ?_⟩) hHeld ?_ ?_
 rotate_left
 ·
  rintro w' ⟨s0, s1⟩
  go_simp; with_reducible rfl
 rotate_left
 ·
  exact s9_
 refine one_ (i := 3) (N := some 8) (tb_ 6 15) rfl rfl (by kernel_rfl) (by decide) (fun K hK => ?_)
 refine goes_ Tryz.func214 (by kernel_rfl) rfl #[.agg #[.int .i64 a0_0, .slice A0_1 l0_1.length c0_1], .int .i64 a1] (by rfl) rfl rfl s0_ ?_
 with_reducible refine (spec_l4Extent.calls k a0_0 _ _ l0_1 a1 t717 _ ?side1 ?side2 A3.out).mono ?_
 (case side1 => exact s2_)
 (case side2 => exact HC0_1.out)
 rintro e w7 ⟨rfl, hb⟩
 refine ⟨_, rfl, ?_⟩
 have n0_ := Aside0.mk (blk_below (g := gb716) (o := .cells #[.int .i64 a0_0, .slice A0_1 l0_1.length c0_1] 29 (0, 0)) q10_20 hb); have n1_ := Aside0.mk (below_step q10_17 hb); clear BK716; clear HB; have BK716 := n0_; have HB := n1_; clear n0_ n1_
 (try clear hb)
 (try clear hb2)
 (try clear hk)
 (try clear hi)
 refine hK.out _ _ ⟨(blk_cell BK716.out 0).trans rfl, (blk_cell BK716.out 1).trans rfl⟩ (fun hHeld => ?_)
 clear hK K
 refine norm_ (a' := ?_) ?_ ?_
 rotate_left
 ·
  show Act.put _ (some 8) _ = _
  exact s9_
 refine one_ (i := 4) (N := some 9) (tb_ 6 31) rfl rfl (by kernel_rfl) (by decide) (fun K hK => ?_)
 refine goes_ Tryz.func197 (by kernel_rfl) rfl #[.agg #[.int .i64 a0_0, .slice A0_1 l0_1.length c0_1], .int .i64 t717] (by rfl) rfl rfl s0_ ?_
 with_reducible refine (spec_l4Intent.calls k a0_0 _ _ l0_1 t717 t718 _ ?side1 ?side2 A4.out).mono ?_
 (case side1 => exact s2_)
 (case side2 => exact HC0_1.out)
 rintro e w8 ⟨rfl, hb⟩
 refine ⟨_, rfl, ?_⟩
 have n0_ := Aside0.mk (blk_below (g := gb716) (o := .cells #[.int .i64 a0_0, .slice A0_1 l0_1.length c0_1] 29 (0, 0)) q10_20 hb); have n1_ := Aside0.mk (below_step q10_17 hb); clear BK716; clear HB; have BK716 := n0_; have HB := n1_; clear n0_ n1_
 (try clear hb)
 (try clear hb2)
 (try clear hk)
 (try clear hi)
 refine hK.out _ _ ⟨(blk_cell BK716.out 0).trans rfl, (blk_cell BK716.out 1).trans rfl⟩ (fun hHeld => ?_)
 clear hK K
 refine norm_ (a' := ?_) ?_ ?_
 rotate_left
 ·
  show Act.put _ (some 9) _ = _
  exact s9_
 refine pl_ 5 4 (tb_ 6 63) ?_
 refine done_ (by kernel_rfl) ?_
 try go_wp2
 go_ret
 exact ⟨(by first | rfl | (simp [errW_none, errW_some] <;> rfl) | (simp [*, errW_none, errW_some] <;> rfl)), q10_17⟩
theorem q10_22 {P : Prop} (h : P := by repeat (first | (with_reducible first | exact HB.out | apply below_alloc | apply pw_below_drewN | apply below_drew1 | refine below_set ?_ GE719.out) | exact HB.out)) : P := h
theorem q10_25 {P : Prop} (h : P := by (with_reducible repeat (first | refine blk_drewN ?_ _ | refine blk_drew ?_ | refine blk_alloc ?_ _)); exact BK719.out) : P := h
def spec_ClosureOf.f (k : Nat) (a0_0 : Int) (l0_1 : List Int) (a1 : Int) : Option (Int) := (spec_IsContext.f k a0_0 l0_1).bind fun t720 => (if t720 = true then ((spec_IsSet.f a0_0 a1).bind fun t721 => (if t721 = true then ((spec_l4Closure.f k a0_0 l0_1 a1).bind fun t722 => (some t722)) else (some 0))) else (some 0))
theorem spec_ClosureOf.calls (k : Nat) (a0_0 : Int) (A0_1 : Option Addr) (c0_1 : Nat) (l0_1 : List Int) (a1 : Int) (r : Int) (w : World) (hr0_1 : Kd.C (Kd.int .i64) w A0_1 l0_1.length l0_1) (hc0_1 : l0_1.length ≤ c0_1) (h : spec_ClosureOf.f k a0_0 l0_1 a1 = some r) :
  Calls Tryz.prog 64 #[.agg #[.int .i64 a0_0, .slice A0_1 l0_1.length c0_1], .int .i64 a1] w fun e w' => e = .returned (.int .i64 r) ∧ Below w.heap.size w w' := by
 have hu29 := Tryz.underlying29; have HR0_1 := Aside0.mk hr0_1; have HC0_1 := Aside0.mk hc0_1; clear hr0_1 hc0_1; have HB := Aside0.mk (Below.refl w.heap.size w); have H := h; clear h; unfold spec_ClosureOf.f at H; obtain ⟨t720, A3, H⟩ := bnd10_ H
 by_cases c4 : t720 = true
 ·
  subst c4; rw [if_pos rfl] at H; obtain ⟨t721, A5, H⟩ := bnd10_ H
  by_cases c6 : t721 = true
  ·
   subst c6; rw [if_pos rfl] at H; obtain ⟨t722, A7, H⟩ := bnd10_ H; obtain rfl := Option.some.inj H
   go_enter Tryz.func64, Tryz.ntmps64
   go_wp2_with (first | ((with_reducible refine gw_ rfl ?_); first | (refine be_ 2 #[.int .i64 a0_0, .slice A0_1 l0_1.length c0_1] 29 ?_; intro gb719 hg w8 hbox hb; have n_ := ac_ (below_step s1_ hb) <| ac_ (hbox) <| ac_ ((gz_ w hg s1_)) <| Aside0.mk ((gz_ w hg s1_)); clear HB; obtain ⟨HB, BK719, GW719, GE719⟩ := n_; clear hb hbox hg; have hcz9_0 : w8.cell? ⟨gb719, 0, none⟩ = some (.int .i64 a0_0) := (blk_cell BK719.out 0).trans rfl; have hcz9_1 : w8.cell? ⟨gb719, 1, none⟩ = some (.slice A0_1 l0_1.length c0_1) := (blk_cell BK719.out 1).trans rfl; have hfz9_0 := blk_frozen BK719.out 0; have hfz9_1 := blk_frozen BK719.out 1) | (refine gL_ 61 6 Tryz.func61 #[.agg #[.int .i64 a0_0, .slice A0_1 l0_1.length c0_1]] ?_; (with_reducible refine (spec_IsContext.calls k a0_0 _ _ l0_1 true _ ?side1 ?side2 A3.out).mono ?_); (case side1 => exact s2_); (case side2 => exact HC0_1.out); rintro e w10 ⟨rfl, hb⟩; refine ⟨_, rfl, ?_⟩; have n_ := ac_ (blk_below (g := gb719) (o := .cells #[.int .i64 a0_0, .slice A0_1 l0_1.length c0_1] 29 (0, 0)) q10_25 hb) <| Aside0.mk (below_step q10_22 hb); clear BK719 HB; obtain ⟨BK719, HB⟩ := n_; (try clear hb); have hcz11_0 : w10.cell? ⟨gb719, 0, none⟩ = some (.int .i64 a0_0) := (blk_cell BK719.out 0).trans rfl; have hcz11_1 : w10.cell? ⟨gb719, 1, none⟩ = some (.slice A0_1 l0_1.length c0_1) := (blk_cell BK719.out 1).trans rfl; have hfz11_0 := blk_frozen BK719.out 0; have hfz11_1 := blk_frozen BK719.out 1) | (refine gL_ 135 17 Tryz.func135 #[.agg #[.int .i64 a0_0, .slice A0_1 l0_1.length c0_1], .int .i64 a1] ?_; (with_reducible refine (spec_l4Closure.calls k a0_0 _ _ l0_1 a1 t722 _ ?side1 ?side2 A7.out).mono ?_); (case side1 => repeat (first | exact (Kd.C_below HR0_1.out q10_22) | (with_reducible refine Kd.C_alloc ?_ _) | (with_reducible refine Kd.C_drewN ?_ _) | (with_reducible refine Kd.C_drew ?_))); (case side2 => exact HC0_1.out); rintro e w12 ⟨rfl, hb⟩; refine ⟨_, rfl, ?_⟩; have n_ := ac_ (blk_below (g := gb719) (o := .cells #[.int .i64 a0_0, .slice A0_1 l0_1.length c0_1] 29 (0, 0)) q10_25 hb) <| Aside0.mk (below_step q10_22 hb); clear BK719 HB; obtain ⟨BK719, HB⟩ := n_; (try clear hb))) | (go_at_call 86; (with_reducible refine (spec_IsSet.calls a0_0 a1 true _ A5.out).mono ?_); rintro e w' ⟨rfl, ⟨nd, rfl⟩⟩))
   go_ret
   exact ⟨s5_, q10_22⟩
  ·
   replace c6 := Bool.eq_false_iff.mpr c6; subst c6
   rw [if_neg (show ¬ (false = true) by decide)] at H
   obtain rfl := Option.some.inj H
   go_enter Tryz.func64, Tryz.ntmps64
   go_wp2_with (first | ((with_reducible refine gw_ rfl ?_); first | (refine be_ 2 #[.int .i64 a0_0, .slice A0_1 l0_1.length c0_1] 29 ?_; intro gb719 hg w13 hbox hb; have n_ := ac_ (below_step s1_ hb) <| ac_ (hbox) <| ac_ ((gz_ w hg s1_)) <| Aside0.mk ((gz_ w hg s1_)); clear HB; obtain ⟨HB, BK719, GW719, GE719⟩ := n_; clear hb hbox hg; have hcz14_0 : w13.cell? ⟨gb719, 0, none⟩ = some (.int .i64 a0_0) := (blk_cell BK719.out 0).trans rfl; have hcz14_1 : w13.cell? ⟨gb719, 1, none⟩ = some (.slice A0_1 l0_1.length c0_1) := (blk_cell BK719.out 1).trans rfl; have hfz14_0 := blk_frozen BK719.out 0; have hfz14_1 := blk_frozen BK719.out 1) | (refine gL_ 61 6 Tryz.func61 #[.agg #[.int .i64 a0_0, .slice A0_1 l0_1.length c0_1]] ?_; (with_reducible refine (spec_IsContext.calls k a0_0 _ _ l0_1 true _ ?side1 ?side2 A3.out).mono ?_); (case side1 => exact s2_); (case side2 => exact HC0_1.out); rintro e w15 ⟨rfl, hb⟩; refine ⟨_, rfl, ?_⟩; have n_ := ac_ (blk_below (g := gb719) (o := .cells #[.int .i64 a0_0, .slice A0_1 l0_1.length c0_1] 29 (0, 0)) q10_25 hb) <| Aside0.mk (below_step q10_22 hb); clear BK719 HB; obtain ⟨BK719, HB⟩ := n_; (try clear hb); have hcz16_0 : w15.cell? ⟨gb719, 0, none⟩ = some (.int .i64 a0_0) := (blk_cell BK719.out 0).trans rfl; have hcz16_1 : w15.cell? ⟨gb719, 1, none⟩ = some (.slice A0_1 l0_1.length c0_1) := (blk_cell BK719.out 1).trans rfl; have hfz16_0 := blk_frozen BK719.out 0; have hfz16_1 := blk_frozen BK719.out 1)) | (go_at_call 86; (with_reducible refine (spec_IsSet.calls a0_0 a1 false _ A5.out).mono ?_); rintro e w' ⟨rfl, ⟨nd, rfl⟩⟩))
   go_ret
   exact ⟨s5_, q10_22⟩
 ·
  replace c4 := Bool.eq_false_iff.mpr c4; subst c4
  rw [if_neg (show ¬ (false = true) by decide)] at H
  obtain rfl := Option.some.inj H
  go_enter Tryz.func64, Tryz.ntmps64
  go_wp2_with ((with_reducible refine gw_ rfl ?_); first | (refine be_ 2 #[.int .i64 a0_0, .slice A0_1 l0_1.length c0_1] 29 ?_; intro gb719 hg w17 hbox hb; have n_ := ac_ (below_step s1_ hb) <| ac_ (hbox) <| ac_ ((gz_ w hg s1_)) <| Aside0.mk ((gz_ w hg s1_)); clear HB; obtain ⟨HB, BK719, GW719, GE719⟩ := n_; clear hb hbox hg; have hcz18_0 : w17.cell? ⟨gb719, 0, none⟩ = some (.int .i64 a0_0) := (blk_cell BK719.out 0).trans rfl; have hcz18_1 : w17.cell? ⟨gb719, 1, none⟩ = some (.slice A0_1 l0_1.length c0_1) := (blk_cell BK719.out 1).trans rfl; have hfz18_0 := blk_frozen BK719.out 0; have hfz18_1 := blk_frozen BK719.out 1) | (refine gL_ 61 6 Tryz.func61 #[.agg #[.int .i64 a0_0, .slice A0_1 l0_1.length c0_1]] ?_; (with_reducible refine (spec_IsContext.calls k a0_0 _ _ l0_1 false _ ?side1 ?side2 A3.out).mono ?_); (case side1 => exact s2_); (case side2 => exact HC0_1.out); rintro e w19 ⟨rfl, hb⟩; refine ⟨_, rfl, ?_⟩; have n_ := ac_ (blk_below (g := gb719) (o := .cells #[.int .i64 a0_0, .slice A0_1 l0_1.length c0_1] 29 (0, 0)) q10_25 hb) <| Aside0.mk (below_step q10_22 hb); clear BK719 HB; obtain ⟨BK719, HB⟩ := n_; (try clear hb)))
  go_ret
  exact ⟨s5_, q10_22⟩
theorem bnd7_ {α β : Type} {o : Option α} {f : α → Option β} {r : β} (h : o.bind f = some r) : ∃ a, Aside0 (o = some a) ∧ f a = some r := by
 obtain ⟨a, h1, h2⟩ := Option.bind_eq_some_iff.mp h
 exact ⟨a, ⟨h1⟩, h2⟩
def spec_l2In.l0 : Nat → List Int → Int → Int → Option (Bool)
 | 0, _, _, _ => none
 | k + 1, x0, x1, x5 => if x5 < (x0.length : Int) then (if 0 ≤ x5 then (if (rd x0 x5) = x1 then (some true) else (spec_l2In.l0 k x0 x1 (wrap64 (x5 + 1)))) else (none)) else (some false)
def spec_l2In.f (k : Nat) (l0 : List Int) (a1 : Int) : Option (Bool) := spec_l2In.l0 k l0 a1 0
theorem spec_l2In.calls (k : Nat) (A0 : Option Addr) (c0 : Nat) (l0 : List Int) (a1 : Int) (r : Bool) (w : World) (hr0 : Kd.C (Kd.int .i64) w A0 l0.length l0) (hc0 : l0.length ≤ c0) (h : spec_l2In.f k l0 a1 = some r) :
  Calls Tryz.prog 133 #[.slice A0 l0.length c0, .int .i64 a1] w fun e w' => e = .returned (.bool r) ∧ Drawn0 w w' := by
 have HR0 := Aside0.mk hr0; have HC0 := Aside0.mk hc0; clear hr0 hc0; have H := h; clear h; unfold spec_l2In.f at H; have H' := Aside0.mk H; clear H
 go_enter Tryz.func133, Tryz.ntmps133
 go_wp2
 go_loopg [5] k (fun kq v5 w' => ∃ (x5_1 : Int), v5 = .int .i64 x5_1 ∧ Aside0 (spec_l2In.l0 kq l0 a1 x5_1 = some r) ∧ Aside0 (kq ≤ k) ∧ Drawn0 w w')
 case atStart => exact ⟨(0), s3_, H', ⟨Nat.le_refl _⟩, s6_⟩
 case round =>
  clear H'
  try clear c1
  try clear p2
  obtain ⟨x5_1, rfl, HA, HK1, ⟨m1, rfl⟩⟩ := hrel
  cases gk with
  | zero => exact absurd HA.out (by simp [spec_l2In.l0])
  | succ k1 =>
   have H := HA.out; clear HA
   simp only [spec_l2In.l0] at H
   by_cases c3 : x5_1 < (l0.length : Int)
   ·
    rw [if_pos c3] at H; have c3b0 : decide (x5_1 < (l0.length : Int)) = true := decide_eq_true c3; clear c3
    by_cases c4 : 0 ≤ x5_1
    ·
     rw [if_pos c4] at H; have c4b0 : decide (0 ≤ x5_1) = true := decide_eq_true c4; clear c4
     by_cases c5 : (rd l0 x5_1) = a1
     ·
      rw [if_pos c5] at H; have c5b0 : ((rd l0 x5_1) == a1) = true := beq_iff_eq.mpr c5; have c5b1 : ((rd l0 x5_1) != a1) = false := bne_eq_false_iff_eq.mpr c5; clear c5; obtain rfl := Option.some.inj H; have p115 : 0 ≤ (x5_1 : Int) := of_decide_eq_true s4_; have q115 : x5_1 < (l0.length : Int) := of_decide_eq_true s4_; obtain ⟨ad115, e115, hx115_0⟩ := Kd.at_int HR0.out x5_1 p115 q115
      cases e115
      replace p115 := eq_true p115; replace q115 := eq_true q115
      go_wp2
      go_ret
      exact ⟨s3_, s6_⟩
     ·
      rw [if_neg c5] at H; have c5b0 : ((rd l0 x5_1) == a1) = false := beq_eq_false_iff_ne.mpr c5; have c5b1 : ((rd l0 x5_1) != a1) = true := bne_iff_ne.mpr c5; have H' := Aside0.mk H; clear H; have p115 : 0 ≤ (x5_1 : Int) := of_decide_eq_true s4_; have q115 : x5_1 < (l0.length : Int) := of_decide_eq_true s4_; obtain ⟨ad115, e115, hx115_0⟩ := Kd.at_int HR0.out x5_1 p115 q115
      cases e115
      replace p115 := eq_true p115; replace q115 := eq_true q115
      go_wp2
      go_roundg k1
      case measure => have := HK1.out; omega
      case rel => exact ⟨(wrap64 (x5_1 + 1)), s3_, H', ⟨by have := HK1.out; omega⟩, s6_⟩
    ·
     rw [if_neg c4] at H
     exact absurd H (by simp)
   ·
    rw [if_neg c3] at H; have c3b0 : decide (x5_1 < (l0.length : Int)) = false := decide_eq_false c3; clear c3; obtain rfl := Option.some.inj H
    go_wp2
    go_ret
    exact ⟨s3_, s6_⟩
def spec_BeforeSet.f (a0 : Int) (a1 : Int) : Option (Bool) := (spec_IsSet.f 8 a0).bind fun t116 => (if t116 = true then ((spec_IsSet.f 8 a1).bind fun t117 => (if t117 = true then (if a0 = a1 then (some false) else (some ((Go.bits .and .i64 a1 (Go.bits .and .i64 (Go.bits .xor .i64 a0 a1) (wrap64 (-(Go.bits .xor .i64 a0 a1))))) != 0))) else (some false))) else (some false))
theorem spec_BeforeSet.calls (a0 : Int) (a1 : Int) (r : Bool) (w : World) (h : spec_BeforeSet.f a0 a1 = some r) :
  Calls Tryz.prog 134 #[.int .i64 a0, .int .i64 a1] w fun e w' => e = .returned (.bool r) ∧ Drawn0 w w' := by
 have H := h; clear h; unfold spec_BeforeSet.f at H; obtain ⟨t116, A3, H⟩ := bnd7_ H
 by_cases c4 : t116 = true
 ·
  subst c4; rw [if_pos rfl] at H; obtain ⟨t117, A5, H⟩ := bnd7_ H
  by_cases c6 : t117 = true
  ·
   subst c6; rw [if_pos rfl] at H
   by_cases c7 : a0 = a1
   ·
    rw [if_pos c7] at H; have c7b0 : (a0 == a1) = true := beq_iff_eq.mpr c7; have c7b1 : (a0 != a1) = false := bne_eq_false_iff_eq.mpr c7; clear c7; obtain rfl := Option.some.inj H
    go_enter Tryz.func134, Tryz.ntmps134
    go_wp2_with (first | ((with_reducible refine gw_ rfl ?_); (refine gL_ 86 7 Tryz.func86 #[.int .i64 8, .int .i64 a0] ?_; (with_reducible refine (spec_IsSet.calls 8 a0 true _ A3.out).mono ?_); rintro e w' ⟨rfl, ⟨nd, rfl⟩⟩; refine ⟨_, rfl, ?_⟩)) | (go_at_call 86; (with_reducible refine (spec_IsSet.calls 8 a1 true _ A5.out).mono ?_); rintro e w' ⟨rfl, ⟨nd, rfl⟩⟩))
    go_ret
    exact ⟨s3_, s6_⟩
   ·
    rw [if_neg c7] at H; have c7b0 : (a0 == a1) = false := beq_eq_false_iff_ne.mpr c7; have c7b1 : (a0 != a1) = true := bne_iff_ne.mpr c7; obtain rfl := Option.some.inj H
    go_enter Tryz.func134, Tryz.ntmps134
    go_wp2_with (first | ((with_reducible refine gw_ rfl ?_); (refine gL_ 86 7 Tryz.func86 #[.int .i64 8, .int .i64 a0] ?_; (with_reducible refine (spec_IsSet.calls 8 a0 true _ A3.out).mono ?_); rintro e w' ⟨rfl, ⟨nd, rfl⟩⟩; refine ⟨_, rfl, ?_⟩)) | (go_at_call 86; (with_reducible refine (spec_IsSet.calls 8 a1 true _ A5.out).mono ?_); rintro e w' ⟨rfl, ⟨nd, rfl⟩⟩))
    go_ret
    exact ⟨s3_, s6_⟩
  ·
   replace c6 := Bool.eq_false_iff.mpr c6; subst c6
   rw [if_neg (show ¬ (false = true) by decide)] at H
   obtain rfl := Option.some.inj H
   go_enter Tryz.func134, Tryz.ntmps134
   go_wp2_with (first | ((with_reducible refine gw_ rfl ?_); (refine gL_ 86 7 Tryz.func86 #[.int .i64 8, .int .i64 a0] ?_; (with_reducible refine (spec_IsSet.calls 8 a0 true _ A3.out).mono ?_); rintro e w' ⟨rfl, ⟨nd, rfl⟩⟩; refine ⟨_, rfl, ?_⟩)) | (go_at_call 86; (with_reducible refine (spec_IsSet.calls 8 a1 false _ A5.out).mono ?_); rintro e w' ⟨rfl, ⟨nd, rfl⟩⟩))
   go_ret
   exact ⟨s3_, s6_⟩
 ·
  replace c4 := Bool.eq_false_iff.mpr c4; subst c4
  rw [if_neg (show ¬ (false = true) by decide)] at H
  obtain rfl := Option.some.inj H
  go_enter Tryz.func134, Tryz.ntmps134
  go_wp2_with ((with_reducible refine gw_ rfl ?_); (refine gL_ 86 7 Tryz.func86 #[.int .i64 8, .int .i64 a0] ?_; (with_reducible refine (spec_IsSet.calls 8 a0 false _ A3.out).mono ?_); rintro e w' ⟨rfl, ⟨nd, rfl⟩⟩; refine ⟨_, rfl, ?_⟩))
  go_ret
  exact ⟨s3_, s6_⟩
def spec_l2Sets.l0 : Nat → List Int → Int → Option (Bool)
 | 0, _, _ => none
 | k + 1, x0, x3 => if x3 < (x0.length : Int) then (if 0 ≤ x3 then ((spec_IsSet.f 8 (rd x0 x3)).bind fun t119 => (if t119 = true then (spec_l2Sets.l0 k x0 (wrap64 (x3 + 1))) else (some false))) else (none)) else (some true)
def spec_l2Sets.f (k : Nat) (l0 : List Int) : Option (Bool) := spec_l2Sets.l0 k l0 0
theorem spec_l2Sets.calls (k : Nat) (A0 : Option Addr) (c0 : Nat) (l0 : List Int) (r : Bool) (w : World) (hr0 : Kd.C (Kd.int .i64) w A0 l0.length l0) (hc0 : l0.length ≤ c0) (h : spec_l2Sets.f k l0 = some r) :
  Calls Tryz.prog 216 #[.slice A0 l0.length c0] w fun e w' => e = .returned (.bool r) ∧ Drawn0 w w' := by
 have HR0 := Aside0.mk hr0; have HC0 := Aside0.mk hc0; clear hr0 hc0; have H := h; clear h; unfold spec_l2Sets.f at H; have H' := Aside0.mk H; clear H
 go_enter Tryz.func216, Tryz.ntmps216
 go_wp2
 go_loopg [3] k (fun kq v3 w' => ∃ (x3_1 : Int), v3 = .int .i64 x3_1 ∧ Aside0 (spec_l2Sets.l0 kq l0 x3_1 = some r) ∧ Aside0 (kq ≤ k) ∧ Drawn0 w w')
 case atStart => exact ⟨(0), s3_, H', ⟨Nat.le_refl _⟩, s6_⟩
 case round =>
  clear H'; obtain ⟨x3_1, rfl, HA, HK1, ⟨m1, rfl⟩⟩ := hrel
  cases gk with
  | zero => exact absurd HA.out (by simp [spec_l2Sets.l0])
  | succ k1 =>
   have H := HA.out; clear HA
   simp only [spec_l2Sets.l0] at H
   by_cases c2 : x3_1 < (l0.length : Int)
   ·
    rw [if_pos c2] at H; have c2b0 : decide (x3_1 < (l0.length : Int)) = true := decide_eq_true c2; clear c2
    by_cases c3 : 0 ≤ x3_1
    ·
     rw [if_pos c3] at H; have c3b0 : decide (0 ≤ x3_1) = true := decide_eq_true c3; clear c3; obtain ⟨t119, A4, H⟩ := bnd7_ H
     by_cases c5 : t119 = true
     ·
      subst c5; rw [if_pos rfl] at H; have H' := Aside0.mk H; clear H; have p118 : 0 ≤ (x3_1 : Int) := of_decide_eq_true s4_; have q118 : x3_1 < (l0.length : Int) := of_decide_eq_true s4_; obtain ⟨ad118, e118, hx118_0⟩ := Kd.at_int HR0.out x3_1 p118 q118
      cases e118
      replace p118 := eq_true p118; replace q118 := eq_true q118
      go_wp2_with ((with_reducible refine gw_ rfl ?_); (refine gL_ 86 14 Tryz.func86 #[.int .i64 8, .int .i64 (rd l0 x3_1)] ?_; (with_reducible refine (spec_IsSet.calls 8 (rd l0 x3_1) true _ A4.out).mono ?_); rintro e w' ⟨rfl, ⟨nd, rfl⟩⟩; refine ⟨_, rfl, ?_⟩))
      go_roundg k1
      case measure => have := HK1.out; omega
      case rel => exact ⟨(wrap64 (x3_1 + 1)), s3_, H', ⟨by have := HK1.out; omega⟩, s6_⟩
     ·
      replace c5 := Bool.eq_false_iff.mpr c5; subst c5
      rw [if_neg (show ¬ (false = true) by decide)] at H
      obtain rfl := Option.some.inj H; have p118 : 0 ≤ (x3_1 : Int) := of_decide_eq_true s4_; have q118 : x3_1 < (l0.length : Int) := of_decide_eq_true s4_; obtain ⟨ad118, e118, hx118_0⟩ := Kd.at_int HR0.out x3_1 p118 q118
      cases e118
      replace p118 := eq_true p118; replace q118 := eq_true q118
      go_wp2_with ((with_reducible refine gw_ rfl ?_); (refine gL_ 86 14 Tryz.func86 #[.int .i64 8, .int .i64 (rd l0 x3_1)] ?_; (with_reducible refine (spec_IsSet.calls 8 (rd l0 x3_1) false _ A4.out).mono ?_); rintro e w' ⟨rfl, ⟨nd, rfl⟩⟩; refine ⟨_, rfl, ?_⟩))
      go_ret
      exact ⟨s3_, s6_⟩
    ·
     rw [if_neg c3] at H
     exact absurd H (by simp)
   ·
    rw [if_neg c2] at H; have c2b0 : decide (x3_1 < (l0.length : Int)) = false := decide_eq_false c2; clear c2; obtain rfl := Option.some.inj H
    go_wp2
    go_ret
    exact ⟨s3_, s6_⟩
theorem bnd8_ {α β : Type} {o : Option α} {f : α → Option β} {r : β} (h : o.bind f = some r) : ∃ a, Aside0 (o = some a) ∧ f a = some r := by
 obtain ⟨a, h1, h2⟩ := Option.bind_eq_some_iff.mp h
 exact ⟨a, ⟨h1⟩, h2⟩
theorem q8_2 {P : Prop} (h : P := by repeat (first | exact (Kd.R_reads' HO_3.out).2.2 | (with_reducible refine Kd.C_alloc ?_ _) | (with_reducible refine Kd.C_drewN ?_ _) | (with_reducible refine Kd.C_drew ?_))) : P := h
theorem q8_5 {P : Prop} (h : P := by (with_reducible repeat (first | apply Kd.R_alloc | apply Kd.R_drewN | apply Kd.R_drew)); exact HO138.out) : P := h
theorem q8_6 {P : Prop} (h : P := by (with_reducible repeat (first | apply Kd.R_alloc | apply Kd.R_drewN | apply Kd.R_drew)); exact HO158.out) : P := h
mutual
def spec_SortLectic.l0 : Nat → List Int → List Int → Int → Option (List Int)
 | 0, _, _, _ => none
 | k + 1, x0, x3, x4 => if x4 < (x0.length : Int) then (if 0 ≤ x4 then ((spec_l2In.f k x3 (rd x0 x4)).bind fun t125 => (if t125 = true then (spec_SortLectic.l0 k x0 x3 (wrap64 (x4 + 1))) else (spec_SortLectic.l1 k x0 x3 x4 0))) else (none)) else (some x3)
def spec_SortLectic.l1 : Nat → List Int → List Int → Int → Int → Option (List Int)
 | 0, _, _, _, _ => none
 | k + 1, x0, x3, x4, x5 => if x5 < (x3.length : Int) then (if 0 ≤ x5 then (if 0 ≤ x4 then (if x4 < (x0.length : Int) then ((spec_BeforeSet.f (rd x3 x5) (rd x0 x4)).bind fun t128 => (if t128 = true then (spec_SortLectic.l1 k x0 x3 x4 (wrap64 (x5 + 1))) else ((some (([] : List Int) : List Int)).bind fun y129 => (if x5 ≤ (x3.length : Int) then ((some (x3.drop (x5 : Int).toNat : List Int)).bind fun y132 => (if y129.length + y132.length < 17592186044416 then ((some (y129 ++ y132 : List Int)).bind fun y136 => ((some (x3.take (x5 : Int).toNat : List Int)).bind fun y139 => (if y139.length < 17592186044416 then ((some (y139 ++ [rd x0 x4] : List Int)).bind fun y143 => (if y143.length + y136.length < 17592186044416 then (spec_SortLectic.l0 k x0 (y143 ++ y136) (wrap64 (x4 + 1))) else (none))) else (none)))) else (none))) else (none))))) else (none)) else (none)) else (none)) else ((some (([] : List Int) : List Int)).bind fun y149 => (if 0 ≤ x5 then (if x5 ≤ (x3.length : Int) then ((some (x3.drop (x5 : Int).toNat : List Int)).bind fun y152 => (if y149.length + y152.length < 17592186044416 then ((some (y149 ++ y152 : List Int)).bind fun y156 => ((some (x3.take (x5 : Int).toNat : List Int)).bind fun y159 => (if 0 ≤ x4 then (if x4 < (x0.length : Int) then (if y159.length < 17592186044416 then ((some (y159 ++ [rd x0 x4] : List Int)).bind fun y163 => (if y163.length + y156.length < 17592186044416 then (spec_SortLectic.l0 k x0 (y163 ++ y156) (wrap64 (x4 + 1))) else (none))) else (none)) else (none)) else (none)))) else (none))) else (none)) else (none)))
end
def spec_SortLectic.f (k : Nat) (l0 : List Int) : Option (List Int) := (some (([] : List Int) : List Int)).bind fun y120 => ((spec_l2Sets.f k l0).bind fun t123 => (if t123 = true then (spec_SortLectic.l0 k l0 y120 0) else (some y120)))
def spec_SortLectic.T9 : Bool × List (List Nat × List Nat) := (true, [([], []), ([], []), ([1], [1]), ([0, 2], [0, 2]), ([3], [3]), ([4], [4]), ([4], [4]), ([5, 6, 4], [4, 5, 6]), ([7, 4], [4, 7]), ([4], [4]), ([4], [4]), ([9, 10, 4], [4, 9, 10]), ([11, 4], [4, 11]), ([8, 12, 4, 4], [4, 8, 12]), ([4, 13], [4, 13])])
def spec_SortLectic.B9 : List Nat := [0, 0, 2, 7, 15, 31, 31, 127, 255, 31, 31, 1567, 3615, 8191, 16383]
theorem spec_SortLectic.tab9 : rtab .any (opsOf Tryz.f139 9) = spec_SortLectic.T9 := s12_
theorem spec_SortLectic.bits9 : waitsOk spec_SortLectic.T9.2 spec_SortLectic.B9 = true := s12_
def spec_SortLectic.T12 : Bool × List (List Nat × List Nat) := (true, [([], []), ([], []), ([0, 1], [0, 1]), ([], []), ([], []), ([3, 4], [3, 4]), ([5], [5]), ([6], [6]), ([2, 7], [2, 7]), ([], []), ([8, 9, 8], [8, 9]), ([10, 10, 0, 1, 2, 3, 4, 5, 6, 7, 8, 9, 10], [0, 10])])
def spec_SortLectic.B12 : List Nat := [0, 0, 3, 0, 0, 24, 56, 120, 255, 0, 1023, 2047]
theorem spec_SortLectic.tab12 : rtab .any (opsOf Tryz.f139 12) = spec_SortLectic.T12 := s12_
theorem spec_SortLectic.bits12 : waitsOk spec_SortLectic.T12.2 spec_SortLectic.B12 = true := s12_
set_option maxHeartbeats 40000000 in
set_option maxRecDepth 100000 in
theorem spec_SortLectic.calls (k : Nat) (A0 : Option Addr) (c0 : Nat) (l0 : List Int) (r : List Int) (w : World) (hr0 : Kd.C (Kd.int .i64) w A0 l0.length l0) (hc0 : l0.length ≤ c0) (h : spec_SortLectic.f k l0 = some r) :
  Calls Tryz.prog 139 #[.slice A0 l0.length c0] w fun e w' => ∃ v0_ : Value, e = .returned (v0_) ∧ Kd.R (Kd.int .i64) 3 w' w.heap.size (fun _ => True) v0_ r ∧ Below w.heap.size w w' := by
 have HR0 := Aside0.mk hr0; have HC0 := Aside0.mk hc0; clear hr0 hc0; have HB := Aside0.mk (Below.refl w.heap.size w); have H := h; clear h; unfold spec_SortLectic.f at H; obtain ⟨y120, hy_⟩ : ∃ y_ : List Int, y_ = (([] : List Int)) := ⟨_, rfl⟩
 replace H : ((spec_l2Sets.f k l0).bind fun t123 => (if t123 = true then (spec_SortLectic.l0 k l0 y120 0) else (some y120))) = some r := rH_
 have Ny120 := Aside0.mk hy_; clear hy_; obtain ⟨t123, A2, H⟩ := bnd8_ H
 by_cases c3 : t123 = true
 ·
  subst c3; rw [if_pos rfl] at H; have H' := Aside0.mk H; clear H
  go_enter Tryz.func139, Tryz.ntmps139
  go_wp2_with ((with_reducible refine gw_ rfl ?_); first | (refine rl_ (Kd.int .i64) 3 7 ?_; intro v121 w4 ho5 hb hg_ hnew_; clear hg_ hnew_; (first | rw [← Ny120.out] at ho5 | (simp only [Int.reduceToNat] at ho5; rw [← Ny120.out] at ho5)); have n_ := ac_ (Kd.R_lower ho5 (below_size s1_)) <| Aside0.mk (below_step s1_ hb); clear HB; obtain ⟨HO122, HB⟩ := n_; clear hb ho5) | (refine gL_ 216 9 Tryz.func216 #[.slice A0 l0.length c0] ?_; (with_reducible refine (spec_l2Sets.calls k _ _ l0 true _ ?side1 ?side2 A2.out).mono ?_); (case side1 => exact s13_); (case side2 => exact HC0.out); rintro e w' ⟨rfl, ⟨nd, rfl⟩⟩; refine ⟨_, rfl, ?_⟩))
  go_loopg [3, 4] k (fun kq v3 v4 w' => ∃ (x3_1 : List Int) (x4_1 : Int), v4 = .int .i64 x4_1 ∧ Aside0 (spec_SortLectic.l0 kq l0 x3_1 x4_1 = some r) ∧ Aside0 (kq ≤ k) ∧ Aside0 (Kd.R (Kd.int .i64) 3 w' w.heap.size (fun _ => True) v3 x3_1) ∧ Aside0 (Below w.heap.size w w'))
  case atStart => exact ⟨(y120), (0), s3_, H', ⟨Nat.le_refl _⟩, ⟨(by (with_reducible repeat (first | apply Kd.R_alloc | apply Kd.R_drewN | apply Kd.R_drew)); exact HO122.out)⟩, ⟨s1_⟩⟩
  case round =>
   clear H'
   try clear c1
   try clear c2
   try clear p2
   try clear c3
   obtain ⟨x3_1, x4_1, rfl, HA, HK1, HO_3, HB⟩ := hrel
   cases gk with
   | zero => exact absurd HA.out (by simp [spec_SortLectic.l0])
   | succ k1 =>
    have H := HA.out; clear HA
    simp only [spec_SortLectic.l0] at H
    by_cases c6 : x4_1 < (l0.length : Int)
    ·
     rw [if_pos c6] at H; have c6b0 : decide (x4_1 < (l0.length : Int)) = true := decide_eq_true c6; clear c6
     by_cases c7 : 0 ≤ x4_1
     ·
      rw [if_pos c7] at H; have c7b0 : decide (0 ≤ x4_1) = true := decide_eq_true c7; clear c7; obtain ⟨t125, A8, H⟩ := bnd8_ H
      by_cases c9 : t125 = true
      ·
       subst c9; rw [if_pos rfl] at H; have H' := Aside0.mk H; clear H; have p124 : 0 ≤ (x4_1 : Int) := of_decide_eq_true s4_; have q124 : x4_1 < (l0.length : Int) := of_decide_eq_true s4_; obtain ⟨ad124, e124, hx124_0⟩ := Kd.at_int HR0.out x4_1 p124 q124
       cases e124
       replace hx124_0 := (HB.out.cell (World.block_lt_of_cell? w _ hx124_0)).trans hx124_0; replace p124 := eq_true p124; replace q124 := eq_true q124; obtain ⟨Ao10, co10, eo10⟩ := Kd.R_slice HO_3.out; subst eo10
       go_wp2_with ((with_reducible refine gw_ rfl ?_); (refine gL_ 133 23 Tryz.func133 #[.slice Ao10 x3_1.length co10, .int .i64 (rd l0 x4_1)] ?_; (with_reducible refine (spec_l2In.calls k1 _ _ x3_1 (rd l0 x4_1) true _ ?side1 ?side2 A8.out).mono ?_); (case side1 => exact q8_2); (case side2 => exact (Kd.R_reads' HO_3.out).2.1); rintro e w' ⟨rfl, ⟨nd, rfl⟩⟩; refine ⟨_, rfl, ?_⟩))
       go_roundg k1
       case measure => have := HK1.out; omega
       case rel => exact ⟨(x3_1), (wrap64 (x4_1 + 1)), s3_, H', ⟨by have := HK1.out; omega⟩, ⟨s11_⟩, ⟨s1_⟩⟩
      ·
       replace c9 := Bool.eq_false_iff.mpr c9; subst c9
       rw [if_neg (show ¬ (false = true) by decide)] at H
       have H' := Aside0.mk H; clear H; have p124 : 0 ≤ (x4_1 : Int) := of_decide_eq_true s4_; have q124 : x4_1 < (l0.length : Int) := of_decide_eq_true s4_; obtain ⟨ad124, e124, hx124_0⟩ := Kd.at_int HR0.out x4_1 p124 q124
       cases e124
       replace hx124_0 := (HB.out.cell (World.block_lt_of_cell? w _ hx124_0)).trans hx124_0; replace p124 := eq_true p124; replace q124 := eq_true q124; obtain ⟨Ao11, co11, eo11⟩ := Kd.R_slice HO_3.out; subst eo11
       go_wp2_with ((with_reducible refine gw_ rfl ?_); (refine gL_ 133 23 Tryz.func133 #[.slice Ao11 x3_1.length co11, .int .i64 (rd l0 x4_1)] ?_; (with_reducible refine (spec_l2In.calls k1 _ _ x3_1 (rd l0 x4_1) false _ ?side1 ?side2 A8.out).mono ?_); (case side1 => exact q8_2); (case side2 => exact (Kd.R_reads' HO_3.out).2.1); rintro e w' ⟨rfl, ⟨nd, rfl⟩⟩; refine ⟨_, rfl, ?_⟩))
       go_loopg [5] k1 (fun kq v5 w' => ∃ (x5_2 : Int), v5 = .int .i64 x5_2 ∧ Aside0 (spec_SortLectic.l1 kq l0 x3_1 x4_1 x5_2 = some r) ∧ Aside0 (kq ≤ k1) ∧ Aside0 (Kd.R (Kd.int .i64) 3 w' w.heap.size (fun _ => True) (.slice Ao11 x3_1.length co11) x3_1) ∧ Aside0 (Below w.heap.size w w'))
       case atStart => exact ⟨(0), s3_, H', ⟨Nat.le_refl _⟩, ⟨s11_⟩, ⟨s1_⟩⟩
       case round =>
        clear H'
        try clear c1
        try clear p1
        try clear q1
        try clear hx1
        try clear c2
        try clear p2
        try clear c3
        try clear c6
        try clear c6b0
        try clear p6
        try clear c7
        try clear c7b0
        try clear c9
        try clear hx124_0
        try clear p124
        try clear p2
        try clear q124
        obtain ⟨x5_2, rfl, HA, HK2, HO_3, HB⟩ := hrel
        cases gk with
        | zero => exact absurd HA.out (by simp [spec_SortLectic.l1])
        | succ k2 =>
         have H := HA.out; clear HA
         simp only [spec_SortLectic.l1] at H
         by_cases c12 : x5_2 < (x3_1.length : Int)
         ·
          rw [if_pos c12] at H; have c12b0 : decide (x5_2 < (x3_1.length : Int)) = true := decide_eq_true c12; clear c12
          by_cases c13 : 0 ≤ x5_2
          ·
           rw [if_pos c13] at H; have c13b0 : decide (0 ≤ x5_2) = true := decide_eq_true c13; clear c13
           by_cases c14 : 0 ≤ x4_1
           ·
            rw [if_pos c14] at H; have c14b0 : decide (0 ≤ x4_1) = true := decide_eq_true c14; clear c14
            by_cases c15 : x4_1 < (l0.length : Int)
            ·
             rw [if_pos c15] at H; have c15b0 : decide (x4_1 < (l0.length : Int)) = true := decide_eq_true c15; clear c15; obtain ⟨t128, A16, H⟩ := bnd8_ H
             by_cases c17 : t128 = true
             ·
              subst c17; rw [if_pos rfl] at H; have H' := Aside0.mk H; clear H
              try go_wp2
              have n0_ := Aside0.mk (Kd.R_drew HO_3.out); have n1_ := Aside0.mk (below_drew1 HB.out); clear HO_3; clear HB; have HO_3 := n0_; have HB := n1_; clear n0_ n1_; have p126 : 0 ≤ (x5_2 : Int) := of_decide_eq_true s4_; have q126 : x5_2 < (x3_1.length : Int) := of_decide_eq_true s4_; obtain ⟨ad126, e126, hx126_0⟩ := Kd.at_int (Kd.R_reads' HO_3.out).2.2 x5_2 p126 q126
              cases e126
              replace p126 := eq_true p126; replace q126 := eq_true q126; have p127 : 0 ≤ (x4_1 : Int) := of_decide_eq_true s4_; have q127 : x4_1 < (l0.length : Int) := of_decide_eq_true s4_; obtain ⟨ad127, e127, hx127_0⟩ := Kd.at_int HR0.out x4_1 p127 q127; have hw127_0 := hx127_0
              obtain rfl : ad124 = ad127 := (by injection e127)
              replace hx127_0 := (HB.out.cell (World.block_lt_of_cell? w _ hx127_0)).trans hx127_0; replace p127 := eq_true p127; replace q127 := eq_true q127
              refine start_ (n := 15) (S := fun w' => w'.cell? (ad126.add (x5_2).toNat) = some (.int .i64 (rd x3_1 x5_2)) ∧ w'.cell? (ad124.add (x4_1).toNat) = some (.int .i64 (rd l0 x4_1))) (ds := []) (tb_ 15 0) s12_ rfl rfl ⟨hx126_0, ((HB.out.cell (World.block_lt_of_cell? w _ hw127_0)).trans hw127_0)⟩ (fun hHeld => ?_); refine with_tabW spec_SortLectic.tab9 spec_SortLectic.bits9 (fun HT_ HW_ => ?_)
              generalize wr.drew = w18 at HO_3 HB hx126_0 hx127_0 hHeld ⊢
              refine pl_ 0 24 (tb_ 15 1) ?_; refine pl_ 1 25 (tb_ 15 3) ?_; refine pl_ 2 26 (tb_ 15 7) ?_; refine pl_ 3 27 (tb_ 15 15) ?_; refine pl_ 4 28 (tb_ 15 31) ?_; refine pl_ 5 29 (tb_ 15 63) ?_; refine pl_ 6 30 (tb_ 15 127) ?_; refine pl_ 7 31 (tb_ 15 255) ?_; refine pl_ 9 33 (tb_ 15 767) ?_; refine pl_ 10 34 (tb_ 15 1791) ?_; refine pl_ 11 35 (tb_ 15 3839) ?_; refine tk_ 8 32 (tb_ 15 4095) hHeld ?_; refine tk_ 12 36 (tb_ 15 8191) hHeld ?_
              refine on_ 13 37 (tb_ 15 16383) (fun K hK => ?_)
              refine goes_ Tryz.func134 s12_ rfl #[.int .i64 (rd x3_1 x5_2), .int .i64 (rd l0 x4_1)] (by rfl) rfl rfl s0_ ?_
              with_reducible refine (spec_BeforeSet.calls (rd x3_1 x5_2) (rd l0 x4_1) true _ A16.out).mono ?_
              rintro e w' ⟨rfl, ⟨nd, rfl⟩⟩
              refine ⟨_, rfl, ?_⟩
              refine hK.out _ _ ⟨hHeld.1, ((HB.out.cell (World.block_lt_of_cell? w _ hw127_0)).trans hw127_0)⟩ (fun hHeld => ?_)
              clear hK K
              refine norm_ (a' := ?_) ?_ ?_
              rotate_left
              ·
               show Act.put _ (some 37) _ = _
               exact s9_
              refine pl_ 14 38 (tb_ 15 32767) ?_
              refine done_ (done_of HT_.out s12_) ?_
              try go_wp2
              go_roundg k2
              case measure => have := HK1.out; have := HK2.out; omega
              case rel => exact ⟨(wrap64 (x5_2 + 1)), s3_, H', ⟨by have := HK1.out; have := HK2.out; omega⟩, ⟨s11_⟩, ⟨s1_⟩⟩
             ·
              replace c17 := Bool.eq_false_iff.mpr c17; subst c17
              rw [if_neg (show ¬ (false = true) by decide)] at H
              obtain ⟨y129, hy_⟩ : ∃ y_ : List Int, y_ = (([] : List Int)) := ⟨_, rfl⟩
              replace H : (if x5_2 ≤ (x3_1.length : Int) then ((some (x3_1.drop (x5_2 : Int).toNat : List Int)).bind fun y132 => (if y129.length + y132.length < 17592186044416 then ((some (y129 ++ y132 : List Int)).bind fun y136 => ((some (x3_1.take (x5_2 : Int).toNat : List Int)).bind fun y139 => (if y139.length < 17592186044416 then ((some (y139 ++ [rd l0 x4_1] : List Int)).bind fun y143 => (if y143.length + y136.length < 17592186044416 then (spec_SortLectic.l0 k2 l0 (y143 ++ y136) (wrap64 (x4_1 + 1))) else (none))) else (none)))) else (none))) else (none)) = some r := rH_
              have Ny129 := Aside0.mk hy_; clear hy_; have c19b0 := eq_true (of_decide_eq_true s4_ : 0 ≤ x5_2)
              by_cases c20 : x5_2 ≤ (x3_1.length : Int)
              ·
               rw [if_pos c20] at H; have c20b0 := eq_true c20; have c20b1 : decide (x5_2 ≤ (x3_1.length : Int)) = true := decide_eq_true c20; clear c20; obtain ⟨y132, hy_⟩ : ∃ y_ : List Int, y_ = (x3_1.drop (x5_2 : Int).toNat) := ⟨_, rfl⟩
               replace H : (if y129.length + y132.length < 17592186044416 then ((some (y129 ++ y132 : List Int)).bind fun y136 => ((some (x3_1.take (x5_2 : Int).toNat : List Int)).bind fun y139 => (if y139.length < 17592186044416 then ((some (y139 ++ [rd l0 x4_1] : List Int)).bind fun y143 => (if y143.length + y136.length < 17592186044416 then (spec_SortLectic.l0 k2 l0 (y143 ++ y136) (wrap64 (x4_1 + 1))) else (none))) else (none)))) else (none)) = some r := rH_
               have Ny132 := Aside0.mk hy_; clear hy_
               by_cases c21 : y129.length + y132.length < 17592186044416
               ·
                rw [if_pos c21] at H; have LMc21 := Aside0.mk c21; clear c21; obtain ⟨y136, hy_⟩ : ∃ y_ : List Int, y_ = (y129 ++ y132) := ⟨_, rfl⟩
                replace H : ((some (x3_1.take (x5_2 : Int).toNat : List Int)).bind fun y139 => (if y139.length < 17592186044416 then ((some (y139 ++ [rd l0 x4_1] : List Int)).bind fun y143 => (if y143.length + y136.length < 17592186044416 then (spec_SortLectic.l0 k2 l0 (y143 ++ y136) (wrap64 (x4_1 + 1))) else (none))) else (none))) = some r := rH_
                have Ny136 := Aside0.mk hy_; clear hy_; have c22b0 := eq_true (of_decide_eq_true s4_ : x5_2 ≤ (x3_1.length : Int)); obtain ⟨y139, hy_⟩ : ∃ y_ : List Int, y_ = (x3_1.take (x5_2 : Int).toNat) := ⟨_, rfl⟩
                replace H : (if y139.length < 17592186044416 then ((some (y139 ++ [rd l0 x4_1] : List Int)).bind fun y143 => (if y143.length + y136.length < 17592186044416 then (spec_SortLectic.l0 k2 l0 (y143 ++ y136) (wrap64 (x4_1 + 1))) else (none))) else (none)) = some r := rH_
                have Ny139 := Aside0.mk hy_; clear hy_
                by_cases c23 : y139.length < 17592186044416
                ·
                 rw [if_pos c23] at H; have LMc23 := Aside0.mk c23; clear c23; obtain ⟨y143, hy_⟩ : ∃ y_ : List Int, y_ = (y139 ++ [rd l0 x4_1]) := ⟨_, rfl⟩
                 replace H : (if y143.length + y136.length < 17592186044416 then (spec_SortLectic.l0 k2 l0 (y143 ++ y136) (wrap64 (x4_1 + 1))) else (none)) = some r := rH_
                 have Ny143 := Aside0.mk hy_; clear hy_
                 by_cases c24 : y143.length + y136.length < 17592186044416
                 ·
                  rw [if_pos c24] at H; have LMc24 := Aside0.mk c24; clear c24; obtain ⟨y146, hy_⟩ : ∃ y_ : List Int, y_ = (y143 ++ y136) := ⟨_, rfl⟩
                  replace H : (spec_SortLectic.l0 k2 l0 y146 (wrap64 (x4_1 + 1))) = some r := rH_
                  have Ny146 := Aside0.mk hy_; clear hy_; have H' := Aside0.mk H; clear H
                  try go_wp2
                  have n0_ := Aside0.mk (Kd.R_drew HO_3.out); have n1_ := Aside0.mk (below_drew1 HB.out); clear HO_3; clear HB; have HO_3 := n0_; have HB := n1_; clear n0_ n1_; have p126 : 0 ≤ (x5_2 : Int) := of_decide_eq_true s4_; have q126 : x5_2 < (x3_1.length : Int) := of_decide_eq_true s4_; obtain ⟨ad126, e126, hx126_0⟩ := Kd.at_int (Kd.R_reads' HO_3.out).2.2 x5_2 p126 q126
                  cases e126
                  replace p126 := eq_true p126; replace q126 := eq_true q126; have p127 : 0 ≤ (x4_1 : Int) := of_decide_eq_true s4_; have q127 : x4_1 < (l0.length : Int) := of_decide_eq_true s4_; obtain ⟨ad127, e127, hx127_0⟩ := Kd.at_int HR0.out x4_1 p127 q127; have hw127_0 := hx127_0
                  obtain rfl : ad124 = ad127 := (by injection e127)
                  replace hx127_0 := (HB.out.cell (World.block_lt_of_cell? w _ hx127_0)).trans hx127_0; replace p127 := eq_true p127; replace q127 := eq_true q127
                  refine start_ (n := 15) (S := fun w' => w'.cell? (ad126.add (x5_2).toNat) = some (.int .i64 (rd x3_1 x5_2)) ∧ w'.cell? (ad124.add (x4_1).toNat) = some (.int .i64 (rd l0 x4_1))) (ds := []) (tb_ 15 0) s12_ rfl rfl ⟨hx126_0, ((HB.out.cell (World.block_lt_of_cell? w _ hw127_0)).trans hw127_0)⟩ (fun hHeld => ?_); refine with_tabW spec_SortLectic.tab9 spec_SortLectic.bits9 (fun HT_ HW_ => ?_)
                  generalize wr.drew = w25 at HO_3 HB hx126_0 hx127_0 hHeld ⊢
                  refine pl_ 0 24 (tb_ 15 1) ?_; refine pl_ 1 25 (tb_ 15 3) ?_; refine pl_ 2 26 (tb_ 15 7) ?_; refine pl_ 3 27 (tb_ 15 15) ?_; refine pl_ 4 28 (tb_ 15 31) ?_; refine pl_ 5 29 (tb_ 15 63) ?_; refine pl_ 6 30 (tb_ 15 127) ?_; refine pl_ 7 31 (tb_ 15 255) ?_; refine pl_ 9 33 (tb_ 15 767) ?_; refine pl_ 10 34 (tb_ 15 1791) ?_; refine pl_ 11 35 (tb_ 15 3839) ?_; refine tk_ 8 32 (tb_ 15 4095) hHeld ?_; refine tk_ 12 36 (tb_ 15 8191) hHeld ?_
                  refine on_ 13 37 (tb_ 15 16383) (fun K hK => ?_)
                  refine goes_ Tryz.func134 s12_ rfl #[.int .i64 (rd x3_1 x5_2), .int .i64 (rd l0 x4_1)] (by rfl) rfl rfl s0_ ?_
                  with_reducible refine (spec_BeforeSet.calls (rd x3_1 x5_2) (rd l0 x4_1) false _ A16.out).mono ?_
                  rintro e w' ⟨rfl, ⟨nd, rfl⟩⟩
                  refine ⟨_, rfl, ?_⟩
                  refine hK.out _ _ ⟨hHeld.1, ((HB.out.cell (World.block_lt_of_cell? w _ hw127_0)).trans hw127_0)⟩ (fun hHeld => ?_)
                  clear hK K
                  refine norm_ (a' := ?_) ?_ ?_
                  rotate_left
                  ·
                   show Act.put _ (some 37) _ = _
                   exact s9_
                  refine pl_ 14 38 (tb_ 15 32767) ?_
                  refine done_ (done_of HT_.out s12_) ?_
                  try go_wp2_with (first | ((with_reducible refine gw_ rfl ?_); (refine rl_ (Kd.int .i64) 3 41 ?_; intro v130 w26 ho27 hb hg_ hnew_; clear hg_ hnew_; (first | rw [← Ny129.out] at ho27 | (simp only [Int.reduceToNat] at ho27; rw [← Ny129.out] at ho27)); have n_ := ac_ (Kd.R_elder' s11_ (Kd.R_base ho27) hb) <| ac_ (Kd.R_lower (Kd.R_new' ho27 (Kd.R_lt s11_)) (below_size s1_)) <| Aside0.mk (below_step s1_ hb); clear HO_3 HB; obtain ⟨HO_3, HO131, HB⟩ := n_; clear hb ho27; have q28 : (x5_2 : Int) ≤ ((x3_1.length : Int) : Int) := of_decide_eq_true s4_; obtain ⟨i028, hi028, _, hsz28, _⟩ := info_parts info3; have hroom28 : x3_1.length ≤ co11 := (Kd.R_reads' HO_3.out).2.1; have hC28 : Kd.C (Kd.int .i64) _ (some ad126) x3_1.length x3_1 := (Kd.R_reads' HO_3.out).2.2; have q028 : (0 : Int) ≤ (x5_2 : Int) := of_decide_eq_true s4_; have hcut28 := cut_from (P := Tryz.prog) 27 3 .i64 Tryz.underlying27 hi028 1 hsz28 (some ad126) x3_1.length co11 x5_2 q028 q28; have hr28 := Kd.C_drop (m := (x5_2 : Int).toNat) (c := co11) hC28 (by omega) hroom28; obtain ⟨A28, hA28⟩ : ∃ A1, A1 = (if co11 = (x5_2 : Int).toNat then (some ad126) else ((some ad126) : Option Addr).map (·.add ((x5_2 : Int).toNat * 1))) := ⟨_, rfl⟩; obtain ⟨c28, hc28⟩ : ∃ c1, c1 = co11 - (x5_2 : Int).toNat := ⟨_, rfl⟩; have hy28 : y132.length = x3_1.length - (x5_2 : Int).toNat := (by rw [Ny132.out, List.length_drop] <;> omega); rw [show (x3_1).drop (x5_2 : Int).toNat = y132 from Ny132.out.symm] at hr28; replace hr28 : Kd.C (Kd.int .i64) _ A28 y132.length y132 := (by rw [hA28]; exact hr28); rw [← hy28, ← hA28, ← hc28] at hcut28; have HR135 := Aside0.mk hr28; have HC135 := Aside0.mk (show y132.length ≤ c28 from by rw [hy28, hc28]; exact Nat.sub_le_sub_right hroom28 _); clear hr28 hC28 hroom28 hi028 hsz28 hc28; have KY28 := Aside0.mk hy28; have KA28 := Aside0.mk hA28; clear hy28 hA28; have KL28 := Aside0.mk (show (x5_2 : Int).toNat ≤ x3_1.length from by omega); replace q28 := eq_true q28)) | ((with_reducible refine gate_builtin (b := .append) (xs := #[.tmp 41, .tmp 44]) rfl ?_); at_builtin; refine Kd.R_append_rows (Kd.int .i64) (w0 := w) w.heap.size rfl (.tmp 41) (.tmp 44) 27 3 (.int .i64 0) 8 rfl Tryz.underlying27 info3 rfl (by decide) (by omega) v130 y129 y132 _ _ _ (fun k_ => some k_ ≠ (.slice (some ad126) x3_1.length co11 : Value).ownBlock) (fun _ => False) rfl rfl ?aO ?aR (fun _ _ h => h) (fun _ h => h.elim) ?aF ?aB ?aS ?aL ?_; (case aR => repeat (first | exact (by repeat (first | (with_reducible exact HR135.out) | (with_reducible refine Kd.C_alloc ?_ _) | (with_reducible refine Kd.C_drewN ?_ _) | (with_reducible refine Kd.C_drew ?_) | exact HR135.out)) | (with_reducible refine Kd.C_alloc ?_ _) | (with_reducible refine Kd.C_drewN ?_ _) | (with_reducible refine Kd.C_drew ?_))); (case aB => exact s1_); (case aF => exact (fun k_ hk => Kd.fresh' (Kd.R_lt s11_) k_ hk)); (case aO => exact (by (with_reducible repeat (first | apply Kd.R_alloc | apply Kd.R_drewN | apply Kd.R_drew)); exact Kd.R_mono HO131.out (fun _ hk => hk.2))); (case aS => exact (below_size s1_)); (case aL => have := LMc21.out; omega); intro v137 w29 ho hb hg hat; rw [← Ny136.out] at ho; have n_ := ac_ (Kd.R_after (ok := (fun _ => True)) s11_ hg hat) <| ac_ (hb) <| ac_ ((show Kd.C (Kd.int .i64) w29 A28 y132.length y132 from by rw [Ny132.out, KA28.out]; exact Kd.C_drop (m := (x5_2 : Int).toNat) (c := co11) ((Kd.R_reads' (Kd.R_after (ok := (fun _ => True)) s11_ hg hat)).2.2) KL28.out ((Kd.R_reads' (Kd.R_after (ok := (fun _ => True)) s11_ hg hat)).2.1))) <| Aside0.mk (ho); clear HO_3 HB HR135 HO131; obtain ⟨HO_3, HB, HR135, HO138⟩ := n_; clear ho hb hg hat))
                  have n0_ := Aside0.mk (Kd.R_drew HO_3.out); have n1_ := Aside0.mk (Kd.R_drew HO138.out); have n2_ := Aside0.mk (Kd.C_drew HR135.out); have n3_ := Aside0.mk (below_drew1 HB.out); clear HO_3; clear HO138; clear HR135; clear HB; have HO_3 := n0_; have HO138 := n1_; have HR135 := n2_; have HB := n3_; clear n0_ n1_ n2_ n3_; have q31 : (x5_2 : Int) ≤ ((x3_1.length : Int) : Int) := of_decide_eq_true s4_; obtain ⟨i031, hi031, _, hsz31, _⟩ := info_parts info3; have hcut31 := cut_to (P := Tryz.prog) 27 3 .i64 Tryz.underlying27 hi031 (some ad126) x3_1.length co11 x5_2 (of_decide_eq_true s4_) q31 (Kd.R_reads' HO_3.out).2.1
                  have hr31 := Kd.R_take (m := (x5_2 : Int).toNat) HO_3.out (by omega)
                  have hy31 : y139.length = (x5_2 : Int).toNat := (by rw [Ny139.out, List.length_take]; omega)
                  rw [← Ny139.out] at hr31; rw [← hy31] at hr31 hcut31; clear hy31 hi031 hsz31 HO_3; have HO141 := Aside0.mk hr31; clear hr31; replace q31 := eq_true q31; have p142 : 0 ≤ (x4_1 : Int) := of_decide_eq_true s4_; have q142 : x4_1 < (l0.length : Int) := of_decide_eq_true s4_; obtain ⟨ad142, e142, hx142_0⟩ := Kd.at_int HR0.out x4_1 p142 q142; have hw142_0 := hx142_0
                  obtain rfl : ad124 = ad142 := (by injection e142)
                  replace hx142_0 := (HB.out.cell (World.block_lt_of_cell? w _ hx142_0)).trans hx142_0; replace p142 := eq_true p142; replace q142 := eq_true q142
                  refine start_ (n := 12) (S := fun w' => w'.cell? (ad124.add (x4_1).toNat) = some (.int .i64 (rd l0 x4_1))) (ds := []) (tb_ 12 0) s12_ rfl rfl (((HB.out.cell (World.block_lt_of_cell? w _ hw142_0)).trans hw142_0)) (fun hHeld => ?_); refine with_tabW spec_SortLectic.tab12 spec_SortLectic.bits12 (fun HT_ HW_ => ?_)
                  generalize w29.drew = w30 at HO_3 HO138 HR135 HB HO141 hx142_0 hHeld ⊢
                  refine pl_ 0 46 (tb_ 12 1) ?_; refine pl_ 1 47 (tb_ 12 3) ?_; refine pl_ 2 48 (tb_ 12 7) ?_; refine pl_ 3 49 (tb_ 12 15) ?_; refine pl_ 4 50 (tb_ 12 31) ?_; refine pl_ 5 51 (tb_ 12 63) ?_; refine pl_ 9 55 (tb_ 12 575) ?_; refine tk_ 6 52 (tb_ 12 639) hHeld ?_
                  refine on_ 7 53 (tb_ 12 767) (fun K hK => ?_)
                  refine value_ (w1 := ?_) (v := ?_) (by rfl) rfl ?_ ?_
                  rotate_left 2
                  ·
                   go_simp
                   constructor
                   ·
                    rfl
                   ·
                    rfl
                  refine hK.out _ _ ((World.cell?_alloc_lt _ _ _ (World.block_lt_of_cell? _ _ (((HB.out.cell (World.block_lt_of_cell? w _ hw142_0)).trans hw142_0)))).trans (((HB.out.cell (World.block_lt_of_cell? w _ hw142_0)).trans hw142_0))) (fun hHeld => ?_)
                  clear hK K
                  refine norm_ (a' := ?_) ?_ ?_
                  rotate_left
                  ·
                   show Act.put _ (some 53) _ = _
                   exact s9_
                  refine on_ 8 54 (tb_ 12 1023) (fun K hK => ?_)
                  refine Kd.R_append_step (Kd.int .i64) (w0 := w) w.heap.size (by rfl) (.tmp 48) (.tmp 53) 27 3 (.int .i64 0) 8 rfl Tryz.underlying27 info3 rfl (by decide) (by omega) (.slice (some ad126) y139.length co11) y139 (rd l0 x4_1) [.int .i64 (rd l0 x4_1)] (fun k_ => some k_ ≠ (v137 : Value).ownBlock) (fun _ => False) rfl rfl ?aP (fun _ hk => hk.elim) ?aF ?aO ?aB ?aS ?aL ?_
                  (case aP => exact rfl)
                  (case aB => exact s1_)
                  (case aF => exact (fun k_ hk => Kd.fresh' (Kd.R_lt q8_5) k_ hk))
                  (case aO => exact (by (with_reducible repeat (first | apply Kd.R_alloc | apply Kd.R_drewN | apply Kd.R_drew)); exact Kd.R_mono HO141.out (fun _ hk => hk.2)))
                  (case aS => exact (below_size s1_))
                  (case aL => have := LMc23.out; omega)
                  intro v144 w32 ho hb hg hat
                  rw [← Ny143.out] at ho
                  have n0_ := Aside0.mk (Kd.R_after (ok := (fun _ => True)) (by (with_reducible repeat (first | apply Kd.R_alloc | apply Kd.R_drewN | apply Kd.R_drew)); exact Kd.R_mono HO138.out (fun _ hk => ⟨trivial, by first | exact hk | exact own_any hk⟩)) hg hat)
                  have n1_ := Aside0.mk (hb); have n2_ := Aside0.mk (ho); clear HO138; clear HB; clear HO141; have HO138 := n0_; have HB := n1_; have HO145 := n2_; clear n0_ n1_ n2_; clear ho hb hg hat; obtain ⟨Ao34, co34, eo34⟩ := Kd.R_slice HO138.out
                  (first | subst eo34 | (injection eo34 with f1_ f2_ f3_; have f4_ := f1_.symm; have f5_ := f3_.symm; clear f1_ f2_ f3_; subst f4_; subst f5_))
                  refine hK.out _ _ (((HB.out.cell (World.block_lt_of_cell? w _ hw142_0)).trans hw142_0)) (fun hHeld => ?_)
                  clear hK K
                  refine norm_ (a' := ?_) ?_ ?_
                  rotate_left
                  ·
                   show Act.put _ (some 54) _ = _
                   exact s9_
                  refine on_ 10 56 (tb_ 12 2047) (fun K hK => ?_)
                  refine Kd.R_append_rows_step (Kd.int .i64) (w0 := w) w.heap.size (by rfl) (.tmp 54) (.tmp 55) 27 3 (.int .i64 0) 8 rfl Tryz.underlying27 info3 rfl (by decide) (by omega) v144 y143 y136 _ _ _ (fun k_ => some k_ ≠ (.slice Ao34 y136.length co34 : Value).ownBlock) (fun _ => False) rfl rfl ?aO ?aR (fun _ _ h => h) (fun _ h => h.elim) ?aF ?aB ?aS ?aL ?_
                  (case aR => repeat (first | exact (Kd.R_reads' HO138.out).2.2 | (with_reducible refine Kd.C_alloc ?_ _) | (with_reducible refine Kd.C_drewN ?_ _) | (with_reducible refine Kd.C_drew ?_)))
                  (case aB => exact s1_)
                  (case aF => exact (fun k_ hk => Kd.fresh' (Kd.R_lt q8_5) k_ hk))
                  (case aO => exact (by (with_reducible repeat (first | apply Kd.R_alloc | apply Kd.R_drewN | apply Kd.R_drew)); exact HO145.out))
                  (case aS => exact (below_size s1_))
                  (case aL => have := LMc24.out; omega)
                  intro v147 w33 ho hb hg hat
                  rw [← Ny146.out] at ho
                  have n0_ := Aside0.mk (Kd.R_after (ok := (fun _ => True)) q8_5 hg hat)
                  have n1_ := Aside0.mk (hb); have n2_ := Aside0.mk (ho); clear HO138; clear HB; clear HO145; have HO138 := n0_; have HB := n1_; have HO148 := n2_; clear n0_ n1_ n2_; clear ho hb hg hat
                  refine hK.out _ _ (((HB.out.cell (World.block_lt_of_cell? w _ hw142_0)).trans hw142_0)) (fun hHeld => ?_)
                  clear hK K
                  refine norm_ (a' := ?_) ?_ ?_
                  rotate_left
                  ·
                   show Act.put _ (some 56) _ = _
                   exact s9_
                  refine pl_ 11 3 (tb_ 12 4095) ?_
                  refine done_ (done_of HT_.out s12_) ?_
                  try go_wp2
                  go_roundg k2
                  case measure => have := HK1.out; have := HK2.out; omega
                  case rel => exact ⟨(y146), (wrap64 (x4_1 + 1)), s3_, H', ⟨by have := HK1.out; have := HK2.out; omega⟩, ⟨(by (with_reducible repeat (first | apply Kd.R_alloc | apply Kd.R_drewN | apply Kd.R_drew)); exact Kd.R_mono HO148.out (fun _ hk => trivial))⟩, ⟨s1_⟩⟩
                 ·
                  rw [if_neg c24] at H
                  exact absurd H (by simp)
                ·
                 rw [if_neg c23] at H
                 exact absurd H (by simp)
               ·
                rw [if_neg c21] at H
                exact absurd H (by simp)
              ·
               rw [if_neg c20] at H
               exact absurd H (by simp)
            ·
             rw [if_neg c15] at H
             exact absurd H (by simp)
           ·
            rw [if_neg c14] at H
            exact absurd H (by simp)
          ·
           rw [if_neg c13] at H
           exact absurd H (by simp)
         ·
          rw [if_neg c12] at H; have c12b0 : decide (x5_2 < (x3_1.length : Int)) = false := decide_eq_false c12; clear c12; obtain ⟨y149, hy_⟩ : ∃ y_ : List Int, y_ = (([] : List Int)) := ⟨_, rfl⟩
          replace H : (if 0 ≤ x5_2 then (if x5_2 ≤ (x3_1.length : Int) then ((some (x3_1.drop (x5_2 : Int).toNat : List Int)).bind fun y152 => (if y149.length + y152.length < 17592186044416 then ((some (y149 ++ y152 : List Int)).bind fun y156 => ((some (x3_1.take (x5_2 : Int).toNat : List Int)).bind fun y159 => (if 0 ≤ x4_1 then (if x4_1 < (l0.length : Int) then (if y159.length < 17592186044416 then ((some (y159 ++ [rd l0 x4_1] : List Int)).bind fun y163 => (if y163.length + y156.length < 17592186044416 then (spec_SortLectic.l0 k2 l0 (y163 ++ y156) (wrap64 (x4_1 + 1))) else (none))) else (none)) else (none)) else (none)))) else (none))) else (none)) else (none)) = some r := rH_
          have Ny149 := Aside0.mk hy_; clear hy_
          by_cases c35 : 0 ≤ x5_2
          ·
           rw [if_pos c35] at H; have c35b0 := eq_true c35; have c35b1 : decide (0 ≤ x5_2) = true := decide_eq_true c35; clear c35
           by_cases c36 : x5_2 ≤ (x3_1.length : Int)
           ·
            rw [if_pos c36] at H; have c36b0 := eq_true c36; have c36b1 : decide (x5_2 ≤ (x3_1.length : Int)) = true := decide_eq_true c36; clear c36; obtain ⟨y152, hy_⟩ : ∃ y_ : List Int, y_ = (x3_1.drop (x5_2 : Int).toNat) := ⟨_, rfl⟩
            replace H : (if y149.length + y152.length < 17592186044416 then ((some (y149 ++ y152 : List Int)).bind fun y156 => ((some (x3_1.take (x5_2 : Int).toNat : List Int)).bind fun y159 => (if 0 ≤ x4_1 then (if x4_1 < (l0.length : Int) then (if y159.length < 17592186044416 then ((some (y159 ++ [rd l0 x4_1] : List Int)).bind fun y163 => (if y163.length + y156.length < 17592186044416 then (spec_SortLectic.l0 k2 l0 (y163 ++ y156) (wrap64 (x4_1 + 1))) else (none))) else (none)) else (none)) else (none)))) else (none)) = some r := rH_
            have Ny152 := Aside0.mk hy_; clear hy_
            by_cases c37 : y149.length + y152.length < 17592186044416
            ·
             rw [if_pos c37] at H; have LMc37 := Aside0.mk c37; clear c37; obtain ⟨y156, hy_⟩ : ∃ y_ : List Int, y_ = (y149 ++ y152) := ⟨_, rfl⟩
             replace H : ((some (x3_1.take (x5_2 : Int).toNat : List Int)).bind fun y159 => (if 0 ≤ x4_1 then (if x4_1 < (l0.length : Int) then (if y159.length < 17592186044416 then ((some (y159 ++ [rd l0 x4_1] : List Int)).bind fun y163 => (if y163.length + y156.length < 17592186044416 then (spec_SortLectic.l0 k2 l0 (y163 ++ y156) (wrap64 (x4_1 + 1))) else (none))) else (none)) else (none)) else (none))) = some r := rH_
             have Ny156 := Aside0.mk hy_; clear hy_; have c38b0 := eq_true (of_decide_eq_true s4_ : x5_2 ≤ (x3_1.length : Int)); obtain ⟨y159, hy_⟩ : ∃ y_ : List Int, y_ = (x3_1.take (x5_2 : Int).toNat) := ⟨_, rfl⟩
             replace H : (if 0 ≤ x4_1 then (if x4_1 < (l0.length : Int) then (if y159.length < 17592186044416 then ((some (y159 ++ [rd l0 x4_1] : List Int)).bind fun y163 => (if y163.length + y156.length < 17592186044416 then (spec_SortLectic.l0 k2 l0 (y163 ++ y156) (wrap64 (x4_1 + 1))) else (none))) else (none)) else (none)) else (none)) = some r := rH_
             have Ny159 := Aside0.mk hy_; clear hy_
             by_cases c39 : 0 ≤ x4_1
             ·
              rw [if_pos c39] at H; have c39b0 : decide (0 ≤ x4_1) = true := decide_eq_true c39; clear c39
              by_cases c40 : x4_1 < (l0.length : Int)
              ·
               rw [if_pos c40] at H; have c40b0 : decide (x4_1 < (l0.length : Int)) = true := decide_eq_true c40; clear c40
               by_cases c41 : y159.length < 17592186044416
               ·
                rw [if_pos c41] at H; have LMc41 := Aside0.mk c41; clear c41; obtain ⟨y163, hy_⟩ : ∃ y_ : List Int, y_ = (y159 ++ [rd l0 x4_1]) := ⟨_, rfl⟩
                replace H : (if y163.length + y156.length < 17592186044416 then (spec_SortLectic.l0 k2 l0 (y163 ++ y156) (wrap64 (x4_1 + 1))) else (none)) = some r := rH_
                have Ny163 := Aside0.mk hy_; clear hy_
                by_cases c42 : y163.length + y156.length < 17592186044416
                ·
                 rw [if_pos c42] at H; have LMc42 := Aside0.mk c42; clear c42; obtain ⟨y166, hy_⟩ : ∃ y_ : List Int, y_ = (y163 ++ y156) := ⟨_, rfl⟩
                 replace H : (spec_SortLectic.l0 k2 l0 y166 (wrap64 (x4_1 + 1))) = some r := rH_
                 have Ny166 := Aside0.mk hy_; clear hy_; have H' := Aside0.mk H; clear H
                 try go_wp2
                 have n0_ := Aside0.mk (Kd.R_drew HO_3.out); have n1_ := Aside0.mk (below_drew1 HB.out); clear HO_3; clear HB; have HO_3 := n0_; have HB := n1_; clear n0_ n1_
                 refine start_ (n := 15) (S := fun w' => True) (ds := []) (tb_ 15 0) s12_ rfl rfl trivial (fun hHeld => ?_); refine with_tabW spec_SortLectic.tab9 spec_SortLectic.bits9 (fun HT_ HW_ => ?_)
                 generalize wr.drew = w43 at HO_3 HB hHeld ⊢
                 refine pl_ 0 24 (tb_ 15 1) ?_; refine pl_ 1 25 (tb_ 15 3) ?_; refine pl_ 2 26 (tb_ 15 7) ?_; refine pl_ 3 27 (tb_ 15 15) ?_; refine pl_ 4 28 (tb_ 15 31) ?_; refine pr_ 5 29 (tb_ 15 63) ?_; refine pr_ 6 30 (tb_ 15 127) ?_; refine pr_ 7 31 (tb_ 15 255) ?_; refine pr_ 8 32 (tb_ 15 511) ?_; refine pr_ 9 33 (tb_ 15 1023) ?_; refine pr_ 10 34 (tb_ 15 2047) ?_; refine pr_ 11 35 (tb_ 15 4095) ?_; refine pr_ 12 36 (tb_ 15 8191) ?_; refine pr_ 13 37 (tb_ 15 16383) ?_; refine pl_ 14 38 (tb_ 15 32767) ?_
                 refine done_ (done_of HT_.out s12_) ?_
                 try go_wp2_with (first | ((with_reducible refine gw_ rfl ?_); (refine rl_ (Kd.int .i64) 3 41 ?_; intro v150 w44 ho45 hb hg_ hnew_; clear hg_ hnew_; (first | rw [← Ny149.out] at ho45 | (simp only [Int.reduceToNat] at ho45; rw [← Ny149.out] at ho45)); have n_ := ac_ (Kd.R_elder' s11_ (Kd.R_base ho45) hb) <| ac_ (Kd.R_lower (Kd.R_new' ho45 (Kd.R_lt s11_)) (below_size s1_)) <| Aside0.mk (below_step s1_ hb); clear HO_3 HB; obtain ⟨HO_3, HO151, HB⟩ := n_; clear hb ho45; have q46 : (x5_2 : Int) ≤ ((x3_1.length : Int) : Int) := of_decide_eq_true s4_; obtain ⟨i046, hi046, _, hsz46, _⟩ := info_parts info3; have hroom46 : x3_1.length ≤ co11 := (Kd.R_reads' HO_3.out).2.1; have hC46 : Kd.C (Kd.int .i64) _ Ao11 x3_1.length x3_1 := (Kd.R_reads' HO_3.out).2.2; have q046 : (0 : Int) ≤ (x5_2 : Int) := of_decide_eq_true s4_; have hcut46 := cut_from (P := Tryz.prog) 27 3 .i64 Tryz.underlying27 hi046 1 hsz46 Ao11 x3_1.length co11 x5_2 q046 q46; have hr46 := Kd.C_drop (m := (x5_2 : Int).toNat) (c := co11) hC46 (by omega) hroom46; obtain ⟨A46, hA46⟩ : ∃ A1, A1 = (if co11 = (x5_2 : Int).toNat then Ao11 else (Ao11 : Option Addr).map (·.add ((x5_2 : Int).toNat * 1))) := ⟨_, rfl⟩; obtain ⟨c46, hc46⟩ : ∃ c1, c1 = co11 - (x5_2 : Int).toNat := ⟨_, rfl⟩; have hy46 : y152.length = x3_1.length - (x5_2 : Int).toNat := (by rw [Ny152.out, List.length_drop] <;> omega); rw [show (x3_1).drop (x5_2 : Int).toNat = y152 from Ny152.out.symm] at hr46; replace hr46 : Kd.C (Kd.int .i64) _ A46 y152.length y152 := (by rw [hA46]; exact hr46); rw [← hy46, ← hA46, ← hc46] at hcut46; have HR155 := Aside0.mk hr46; have HC155 := Aside0.mk (show y152.length ≤ c46 from by rw [hy46, hc46]; exact Nat.sub_le_sub_right hroom46 _); clear hr46 hC46 hroom46 hi046 hsz46 hc46; have KY46 := Aside0.mk hy46; have KA46 := Aside0.mk hA46; clear hy46 hA46; have KL46 := Aside0.mk (show (x5_2 : Int).toNat ≤ x3_1.length from by omega); replace q46 := eq_true q46)) | ((with_reducible refine gate_builtin (b := .append) (xs := #[.tmp 41, .tmp 44]) rfl ?_); at_builtin; refine Kd.R_append_rows (Kd.int .i64) (w0 := w) w.heap.size rfl (.tmp 41) (.tmp 44) 27 3 (.int .i64 0) 8 rfl Tryz.underlying27 info3 rfl (by decide) (by omega) v150 y149 y152 _ _ _ (fun k_ => some k_ ≠ (.slice Ao11 x3_1.length co11 : Value).ownBlock) (fun _ => False) rfl rfl ?aO ?aR (fun _ _ h => h) (fun _ h => h.elim) ?aF ?aB ?aS ?aL ?_; (case aR => repeat (first | exact (by repeat (first | (with_reducible exact HR155.out) | (with_reducible refine Kd.C_alloc ?_ _) | (with_reducible refine Kd.C_drewN ?_ _) | (with_reducible refine Kd.C_drew ?_) | exact HR155.out)) | (with_reducible refine Kd.C_alloc ?_ _) | (with_reducible refine Kd.C_drewN ?_ _) | (with_reducible refine Kd.C_drew ?_))); (case aB => exact s1_); (case aF => exact (fun k_ hk => Kd.fresh' (Kd.R_lt s11_) k_ hk)); (case aO => exact (by (with_reducible repeat (first | apply Kd.R_alloc | apply Kd.R_drewN | apply Kd.R_drew)); exact Kd.R_mono HO151.out (fun _ hk => hk.2))); (case aS => exact (below_size s1_)); (case aL => have := LMc37.out; omega); intro v157 w47 ho hb hg hat; rw [← Ny156.out] at ho; have n_ := ac_ (Kd.R_after (ok := (fun _ => True)) s11_ hg hat) <| ac_ (hb) <| ac_ ((show Kd.C (Kd.int .i64) w47 A46 y152.length y152 from by rw [Ny152.out, KA46.out]; exact Kd.C_drop (m := (x5_2 : Int).toNat) (c := co11) ((Kd.R_reads' (Kd.R_after (ok := (fun _ => True)) s11_ hg hat)).2.2) KL46.out ((Kd.R_reads' (Kd.R_after (ok := (fun _ => True)) s11_ hg hat)).2.1))) <| Aside0.mk (ho); clear HO_3 HB HR155 HO151; obtain ⟨HO_3, HB, HR155, HO158⟩ := n_; clear ho hb hg hat))
                 have n0_ := Aside0.mk (Kd.R_drew HO_3.out); have n1_ := Aside0.mk (Kd.R_drew HO158.out); have n2_ := Aside0.mk (Kd.C_drew HR155.out); have n3_ := Aside0.mk (below_drew1 HB.out); clear HO_3; clear HO158; clear HR155; clear HB; have HO_3 := n0_; have HO158 := n1_; have HR155 := n2_; have HB := n3_; clear n0_ n1_ n2_ n3_; have q49 : (x5_2 : Int) ≤ ((x3_1.length : Int) : Int) := of_decide_eq_true s4_; obtain ⟨i049, hi049, _, hsz49, _⟩ := info_parts info3; have hcut49 := cut_to (P := Tryz.prog) 27 3 .i64 Tryz.underlying27 hi049 Ao11 x3_1.length co11 x5_2 (of_decide_eq_true s4_) q49 (Kd.R_reads' HO_3.out).2.1
                 have hr49 := Kd.R_take (m := (x5_2 : Int).toNat) HO_3.out (by omega)
                 have hy49 : y159.length = (x5_2 : Int).toNat := (by rw [Ny159.out, List.length_take]; omega)
                 rw [← Ny159.out] at hr49; rw [← hy49] at hr49 hcut49; clear hy49 hi049 hsz49 HO_3; have HO161 := Aside0.mk hr49; clear hr49; replace q49 := eq_true q49; have p162 : 0 ≤ (x4_1 : Int) := of_decide_eq_true s4_; have q162 : x4_1 < (l0.length : Int) := of_decide_eq_true s4_; obtain ⟨ad162, e162, hx162_0⟩ := Kd.at_int HR0.out x4_1 p162 q162; have hw162_0 := hx162_0
                 obtain rfl : ad124 = ad162 := (by injection e162)
                 replace hx162_0 := (HB.out.cell (World.block_lt_of_cell? w _ hx162_0)).trans hx162_0; replace p162 := eq_true p162; replace q162 := eq_true q162
                 refine start_ (n := 12) (S := fun w' => w'.cell? (ad124.add (x4_1).toNat) = some (.int .i64 (rd l0 x4_1))) (ds := []) (tb_ 12 0) s12_ rfl rfl (((HB.out.cell (World.block_lt_of_cell? w _ hw162_0)).trans hw162_0)) (fun hHeld => ?_); refine with_tabW spec_SortLectic.tab12 spec_SortLectic.bits12 (fun HT_ HW_ => ?_)
                 generalize w47.drew = w48 at HO_3 HO158 HR155 HB HO161 hx162_0 hHeld ⊢
                 refine pl_ 0 46 (tb_ 12 1) ?_; refine pl_ 1 47 (tb_ 12 3) ?_; refine pl_ 2 48 (tb_ 12 7) ?_; refine pl_ 3 49 (tb_ 12 15) ?_; refine pl_ 4 50 (tb_ 12 31) ?_; refine pl_ 5 51 (tb_ 12 63) ?_; refine pl_ 9 55 (tb_ 12 575) ?_; refine tk_ 6 52 (tb_ 12 639) hHeld ?_
                 refine on_ 7 53 (tb_ 12 767) (fun K hK => ?_)
                 refine value_ (w1 := ?_) (v := ?_) (by rfl) rfl ?_ ?_
                 rotate_left 2
                 ·
                  go_simp
                  constructor
                  ·
                   rfl
                  ·
                   rfl
                 refine hK.out _ _ ((World.cell?_alloc_lt _ _ _ (World.block_lt_of_cell? _ _ (((HB.out.cell (World.block_lt_of_cell? w _ hw162_0)).trans hw162_0)))).trans (((HB.out.cell (World.block_lt_of_cell? w _ hw162_0)).trans hw162_0))) (fun hHeld => ?_)
                 clear hK K
                 refine norm_ (a' := ?_) ?_ ?_
                 rotate_left
                 ·
                  show Act.put _ (some 53) _ = _
                  exact s9_
                 refine on_ 8 54 (tb_ 12 1023) (fun K hK => ?_)
                 refine Kd.R_append_step (Kd.int .i64) (w0 := w) w.heap.size (by rfl) (.tmp 48) (.tmp 53) 27 3 (.int .i64 0) 8 rfl Tryz.underlying27 info3 rfl (by decide) (by omega) (.slice Ao11 y159.length co11) y159 (rd l0 x4_1) [.int .i64 (rd l0 x4_1)] (fun k_ => some k_ ≠ (v157 : Value).ownBlock) (fun _ => False) rfl rfl ?aP (fun _ hk => hk.elim) ?aF ?aO ?aB ?aS ?aL ?_
                 (case aP => exact rfl)
                 (case aB => exact s1_)
                 (case aF => exact (fun k_ hk => Kd.fresh' (Kd.R_lt q8_6) k_ hk))
                 (case aO => exact (by (with_reducible repeat (first | apply Kd.R_alloc | apply Kd.R_drewN | apply Kd.R_drew)); exact Kd.R_mono HO161.out (fun _ hk => hk.2)))
                 (case aS => exact (below_size s1_))
                 (case aL => have := LMc41.out; omega)
                 intro v164 w50 ho hb hg hat
                 rw [← Ny163.out] at ho
                 have n0_ := Aside0.mk (Kd.R_after (ok := (fun _ => True)) (by (with_reducible repeat (first | apply Kd.R_alloc | apply Kd.R_drewN | apply Kd.R_drew)); exact Kd.R_mono HO158.out (fun _ hk => ⟨trivial, by first | exact hk | exact own_any hk⟩)) hg hat)
                 have n1_ := Aside0.mk (hb); have n2_ := Aside0.mk (ho); clear HO158; clear HB; clear HO161; have HO158 := n0_; have HB := n1_; have HO165 := n2_; clear n0_ n1_ n2_; clear ho hb hg hat; obtain ⟨Ao52, co52, eo52⟩ := Kd.R_slice HO158.out
                 (first | subst eo52 | (injection eo52 with f1_ f2_ f3_; have f4_ := f1_.symm; have f5_ := f3_.symm; clear f1_ f2_ f3_; subst f4_; subst f5_))
                 refine hK.out _ _ (((HB.out.cell (World.block_lt_of_cell? w _ hw162_0)).trans hw162_0)) (fun hHeld => ?_)
                 clear hK K
                 refine norm_ (a' := ?_) ?_ ?_
                 rotate_left
                 ·
                  show Act.put _ (some 54) _ = _
                  exact s9_
                 refine on_ 10 56 (tb_ 12 2047) (fun K hK => ?_)
                 refine Kd.R_append_rows_step (Kd.int .i64) (w0 := w) w.heap.size (by rfl) (.tmp 54) (.tmp 55) 27 3 (.int .i64 0) 8 rfl Tryz.underlying27 info3 rfl (by decide) (by omega) v164 y163 y156 _ _ _ (fun k_ => some k_ ≠ (.slice Ao52 y156.length co52 : Value).ownBlock) (fun _ => False) rfl rfl ?aO ?aR (fun _ _ h => h) (fun _ h => h.elim) ?aF ?aB ?aS ?aL ?_
                 (case aR => repeat (first | exact (Kd.R_reads' HO158.out).2.2 | (with_reducible refine Kd.C_alloc ?_ _) | (with_reducible refine Kd.C_drewN ?_ _) | (with_reducible refine Kd.C_drew ?_)))
                 (case aB => exact s1_)
                 (case aF => exact (fun k_ hk => Kd.fresh' (Kd.R_lt q8_6) k_ hk))
                 (case aO => exact (by (with_reducible repeat (first | apply Kd.R_alloc | apply Kd.R_drewN | apply Kd.R_drew)); exact HO165.out))
                 (case aS => exact (below_size s1_))
                 (case aL => have := LMc42.out; omega)
                 intro v167 w51 ho hb hg hat
                 rw [← Ny166.out] at ho
                 have n0_ := Aside0.mk (Kd.R_after (ok := (fun _ => True)) q8_6 hg hat)
                 have n1_ := Aside0.mk (hb); have n2_ := Aside0.mk (ho); clear HO158; clear HB; clear HO165; have HO158 := n0_; have HB := n1_; have HO168 := n2_; clear n0_ n1_ n2_; clear ho hb hg hat
                 refine hK.out _ _ (((HB.out.cell (World.block_lt_of_cell? w _ hw162_0)).trans hw162_0)) (fun hHeld => ?_)
                 clear hK K
                 refine norm_ (a' := ?_) ?_ ?_
                 rotate_left
                 ·
                  show Act.put _ (some 56) _ = _
                  exact s9_
                 refine pl_ 11 3 (tb_ 12 4095) ?_
                 refine done_ (done_of HT_.out s12_) ?_
                 try go_wp2
                 go_roundg k2
                 case measure => have := HK1.out; have := HK2.out; omega
                 case rel => exact ⟨(y166), (wrap64 (x4_1 + 1)), s3_, H', ⟨by have := HK1.out; have := HK2.out; omega⟩, ⟨(by (with_reducible repeat (first | apply Kd.R_alloc | apply Kd.R_drewN | apply Kd.R_drew)); exact Kd.R_mono HO168.out (fun _ hk => trivial))⟩, ⟨s1_⟩⟩
                ·
                 rw [if_neg c42] at H
                 exact absurd H (by simp)
               ·
                rw [if_neg c41] at H
                exact absurd H (by simp)
              ·
               rw [if_neg c40] at H
               exact absurd H (by simp)
             ·
              rw [if_neg c39] at H
              exact absurd H (by simp)
            ·
             rw [if_neg c37] at H
             exact absurd H (by simp)
           ·
            rw [if_neg c36] at H
            exact absurd H (by simp)
          ·
           rw [if_neg c35] at H
           exact absurd H (by simp)
     ·
      rw [if_neg c7] at H
      exact absurd H (by simp)
    ·
     rw [if_neg c6] at H; have c6b0 : decide (x4_1 < (l0.length : Int)) = false := decide_eq_false c6; clear c6; obtain rfl := Option.some.inj H
     go_wp2
     go_ret
     exact ⟨_, (by first | rfl | (simp [errW_none, errW_some] <;> rfl) | (simp [*, errW_none, errW_some] <;> rfl)), s11_, s1_⟩
 ·
  replace c3 := Bool.eq_false_iff.mpr c3; subst c3
  rw [if_neg (show ¬ (false = true) by decide)] at H
  obtain rfl := Option.some.inj H
  go_enter Tryz.func139, Tryz.ntmps139
  go_wp2_with ((with_reducible refine gw_ rfl ?_); first | (refine rl_ (Kd.int .i64) 3 7 ?_; intro v121 w53 ho54 hb hg_ hnew_; clear hg_ hnew_; (first | rw [← Ny120.out] at ho54 | (simp only [Int.reduceToNat] at ho54; rw [← Ny120.out] at ho54)); have n_ := ac_ (Kd.R_lower ho54 (below_size s1_)) <| Aside0.mk (below_step s1_ hb); clear HB; obtain ⟨HO122, HB⟩ := n_; clear hb ho54) | (refine gL_ 216 9 Tryz.func216 #[.slice A0 l0.length c0] ?_; (with_reducible refine (spec_l2Sets.calls k _ _ l0 false _ ?side1 ?side2 A2.out).mono ?_); (case side1 => exact s13_); (case side2 => exact HC0.out); rintro e w' ⟨rfl, ⟨nd, rfl⟩⟩; refine ⟨_, rfl, ?_⟩))
  go_ret
  exact ⟨_, (by first | rfl | (simp [errW_none, errW_some] <;> rfl) | (simp [*, errW_none, errW_some] <;> rfl)), (by (with_reducible repeat (first | apply Kd.R_alloc | apply Kd.R_drewN | apply Kd.R_drew)); exact HO122.out), s1_⟩
end Go.Proofs.YtafnamchckehmaaGreatDoor.Pr
