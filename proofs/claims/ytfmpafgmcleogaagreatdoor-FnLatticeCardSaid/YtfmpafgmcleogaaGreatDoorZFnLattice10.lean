/- Functions of the program as plain functions, proofs that their calls answer so, and plain laws: what the law needs. No condition beyond what each statement says. -/
import Derived.Test.YtfmpafgmcleogaaGreatDoorZFnLattice9
import Derived.Maps.OwnOps
import Derived.Maps.RangeWalk
namespace Go.Proofs.YtfmpafgmcleogaaGreatDoor.Pr
set_option maxHeartbeats 40000000
set_option maxRecDepth 100000
open Go.RowKit Go.Proofs.YtfmpafgmcleogaaGreatDoorW.PrintWords Go.Proofs.YtfmpafgmcleogaaGreatDoorW.PrintLast Go.Proofs.YtfmpafgmcleogaaGreatDoorW.PrintMore
attribute [local go_sem] max2_int min2_int max_two min_two max_three min_three max_four min_four
set_option linter.unusedVariables false
set_option linter.unusedSimpArgs false
theorem bnd16_ {α β : Type} {o : Option α} {f : α → Option β} {r : β} (h : o.bind f = some r) : ∃ a, Aside0 (o = some a) ∧ f a = some r := by
 obtain ⟨a, h1, h2⟩ := Option.bind_eq_some_iff.mp h
 exact ⟨a, ⟨h1⟩, h2⟩
theorem q16_2 {P : Prop} (h : P := by repeat (first | (with_reducible first | exact HB.out | apply below_alloc | apply pw_below_drewN | apply below_drew1 | refine below_set ?_ GE330.out) | exact HB.out)) : P := h
theorem q16_5 {P : Prop} (h : P := by (with_reducible repeat (first | refine blk_drewN ?_ _ | refine blk_drew ?_ | refine blk_alloc ?_ _)); exact BK330.out) : P := h
theorem q16_6 {P : Prop} (h : P := by (with_reducible repeat (first | apply Kd.R_alloc | apply Kd.R_drewN | apply Kd.R_drew)); exact HO_12.out) : P := h
def impl_Concepts.l0 : Nat → List (S51) → List Int → Int → Int → Int → List Int → Option ((List (S51)))
 | 0, _, _, _, _, _, _ => none
 | k + 1, x3, x12, x13, x14, x331000, x331001 => if x14 < x13 then (if 0 ≤ x14 then (if x14 < (x12.length : Int) then ((impl_IsClosed.f k x331000 x331001 (rd x12 x14)).bind fun t339 => (if t339 = true then ((impl_ExtentOf.f k x331000 x331001 (rd x12 x14)).bind fun t340 => (if x3.length < 8796093022208 then (impl_Concepts.l0 k (x3 ++ [(⟨t340, rd x12 x14⟩ : S51)]) x12 x13 (wrap64 (x14 + 1)) x331000 x331001) else (none))) else (impl_Concepts.l0 k x3 x12 x13 (wrap64 (x14 + 1)) x331000 x331001))) else (none)) else (none)) else (some x3)
def impl_Concepts.f (k : Nat) (a0_0 : Int) (l0_1 : List Int) : Option ((List (S51))) := (impl_IsContext.f a0_0 l0_1).bind fun t331 => (if t331 = true then ((impl_allSets.f k a0_0).bind fun t335 => (impl_Concepts.l0 k (([] : List (S51))) t335 (t335.length : Int) 0 a0_0 l0_1)) else (some ([] : List (S51))))
theorem impl_Concepts.calls (k : Nat) (a0_0 : Int) (A0_1 : Option Addr) (c0_1 : Nat) (l0_1 : List Int) (r : List (S51)) (w : World) (hr0_1 : Kd.C (Kd.int .i64) w A0_1 l0_1.length l0_1) (hc0_1 : l0_1.length ≤ c0_1) (htab : Tab64 w) (h : impl_Concepts.f k a0_0 l0_1 = some r) :
  Calls Tryz.prog 30 #[.agg #[.int .i64 a0_0, .slice A0_1 l0_1.length c0_1]] w fun e w' => ∃ v0_ : Value, e = .returned (v0_) ∧ Kd.R k51 51 w' w.heap.size (fun _ => True) v0_ r ∧ Below w.heap.size w w' := by
 have HTB := Aside0.mk htab; clear htab; have hu26 := Tryz.underlying26; have hu51 := Tryz.underlying51; have HR0_1 := Aside0.mk hr0_1; have HC0_1 := Aside0.mk hc0_1; clear hr0_1 hc0_1; have HB := Aside0.mk (Below.refl w.heap.size w); have H := h; clear h; unfold impl_Concepts.f at H; obtain ⟨t331, A2, H⟩ := bnd16_ H
 by_cases c3 : t331 = true
 ·
  subst c3; rw [if_pos rfl] at H; obtain ⟨y332, hy_⟩ : ∃ y_ : List (S51), y_ = (([] : List (S51))) := ⟨_, rfl⟩
  replace H : ((impl_allSets.f k a0_0).bind fun t335 => (impl_Concepts.l0 k y332 t335 (t335.length : Int) 0 a0_0 l0_1)) = some r := rH_
  have Ny332 := Aside0.mk hy_; clear hy_; obtain ⟨t335, A4, H⟩ := bnd16_ H; have H' := Aside0.mk H; clear H
  go_enter Tryz.func30, Tryz.ntmps30
  go_wp2_with (first | (refine be_ 1 #[.int .i64 a0_0, .slice A0_1 l0_1.length c0_1] 26 ?_; intro gb330 hg w5 hbox hb; have n_ := ac_ (below_step s0_ hb) <| ac_ (hbox) <| ac_ ((gz_ w hg s0_)) <| Aside0.mk ((gz_ w hg s0_)); clear HB; obtain ⟨HB, BK330, GW330, GE330⟩ := n_; clear hb hbox hg; have hcz6_0 : w5.cell? ⟨gb330, 0, none⟩ = some (.int .i64 a0_0) := (blk_cell BK330.out 0).trans rfl; have hcz6_1 : w5.cell? ⟨gb330, 1, none⟩ = some (.slice A0_1 l0_1.length c0_1) := (blk_cell BK330.out 1).trans rfl; have hfz6_0 := blk_frozen BK330.out 0; have hfz6_1 := blk_frozen BK330.out 1) | (refine gL_ 44 7 Tryz.func44 #[.agg #[.int .i64 a0_0, .slice A0_1 l0_1.length c0_1]] ?_; (with_reducible refine (impl_IsContext.calls a0_0 _ _ l0_1 true _ ?side1 ?side2 A2.out).mono ?_); (case side1 => exact s2_); (case side2 => exact HC0_1.out); rintro e w7 ⟨rfl, hb⟩; refine ⟨_, rfl, ?_⟩; have n_ := ac_ (blk_below (g := gb330) (o := .cells #[.int .i64 a0_0, .slice A0_1 l0_1.length c0_1] 26 (0, 0)) q16_5 hb) <| Aside0.mk (below_step q16_2 hb); clear BK330 HB; obtain ⟨BK330, HB⟩ := n_; (try clear hb)) | (refine rl_ k51 51 9 ?_; intro v333 w8 ho9 hb hg_ hnew_; clear hg_ hnew_; (first | rw [← Ny332.out] at ho9 | (simp only [Int.reduceToNat] at ho9; rw [← Ny332.out] at ho9)); have n_ := ac_ (Kd.R_lower ho9 (below_size q16_2)) <| ac_ (blk_below (g := gb330) (o := .cells #[.int .i64 a0_0, .slice A0_1 l0_1.length c0_1] 26 (0, 0)) q16_5 hb) <| Aside0.mk (below_step q16_2 hb); clear BK330 HB; obtain ⟨HO334, BK330, HB⟩ := n_; clear hb ho9; have hcz10_0 : w8.cell? ⟨gb330, 0, none⟩ = some (.int .i64 a0_0) := (blk_cell BK330.out 0).trans rfl; have hcz10_1 : w8.cell? ⟨gb330, 1, none⟩ = some (.slice A0_1 l0_1.length c0_1) := (blk_cell BK330.out 1).trans rfl; have hfz10_0 := blk_frozen BK330.out 0; have hfz10_1 := blk_frozen BK330.out 1) | (refine gL_ 54 12 Tryz.func54 #[.int .i64 a0_0] ?_; (with_reducible refine (impl_allSets.calls k a0_0 t335 _ ?tab A4.out).mono ?_); (case tab => first | exact HTB.out | (refine Tab64.below HTB.out ?_; repeat (first | (with_reducible first | exact HB.out | apply below_alloc | apply pw_below_drewN | apply below_drew1 | refine below_set ?_ GE330.out) | exact HB.out)) | (repeat (first | exact HTB.out | apply Tab64.drewN | apply Tab64.drew | apply Tab64.alloc))); rintro e w11 ⟨v336, rfl, ho0, hb⟩; refine ⟨_, rfl, ?_⟩; have n_ := ac_ (Kd.R_below (by (with_reducible repeat (first | apply Kd.R_alloc | apply Kd.R_drewN | apply Kd.R_drew)); exact HO334.out) hb) <| ac_ (Kd.R_lower ho0 (below_size q16_2)) <| ac_ (blk_below (g := gb330) (o := .cells #[.int .i64 a0_0, .slice A0_1 l0_1.length c0_1] 26 (0, 0)) q16_5 hb) <| Aside0.mk (below_step q16_2 hb); clear HO334 BK330 HB; obtain ⟨HO334, HO337, BK330, HB⟩ := n_; (try clear hb ho0); obtain ⟨Ao12, co12, eo12⟩ := Kd.R_slice HO337.out; subst eo12))
  go_loopg [3, 14] k (fun kq v3 v14 w' => ∃ (x3_1 : List (S51)) (x14_1 : Int), v14 = .int .i64 x14_1 ∧ Aside0 (impl_Concepts.l0 kq x3_1 t335 (t335.length : Int) x14_1 a0_0 l0_1 = some r) ∧ Aside0 (kq ≤ k) ∧ Aside0 (Kd.R k51 51 w' w.heap.size (fun _ => True) v3 x3_1) ∧ Aside0 (Kd.R (Kd.int .i64) 3 w' w.heap.size (fun _ => True) (.slice Ao12 t335.length co12) t335) ∧ Aside0 (w'.heap[gb330]? = some (.cells #[.int .i64 a0_0, (.slice A0_1 l0_1.length c0_1)] 26 (0, 0))) ∧ Aside0 (Below w.heap.size w w'))
  case atStart => exact ⟨(y332), (0), s3_, H', ⟨Nat.le_refl _⟩, ⟨(by (with_reducible repeat (first | apply Kd.R_alloc | apply Kd.R_drewN | apply Kd.R_drew)); exact HO334.out)⟩, ⟨(by (with_reducible repeat (first | apply Kd.R_alloc | apply Kd.R_drewN | apply Kd.R_drew)); exact HO337.out)⟩, ⟨q16_5⟩, ⟨q16_2⟩⟩
  case round =>
   clear H'
   try clear p2
   try clear c3
   try clear c4
   try clear c5
   try clear hcz10_0
   try clear hcz10_1
   try clear hcz6_0
   try clear hcz6_1
   try clear hfz10_0
   try clear hfz10_1
   try clear hfz6_0
   try clear hfz6_1
   obtain ⟨x3_1, x14_1, rfl, HA, HK1, HO_3, HO_12, BK330, HB⟩ := hrel
   cases gk with
   | zero => exact absurd HA.out (by simp [impl_Concepts.l0])
   | succ k1 =>
    have H := HA.out; clear HA
    simp only [impl_Concepts.l0] at H
    by_cases c13 : x14_1 < (t335.length : Int)
    ·
     rw [if_pos c13] at H; have c13b0 : decide (x14_1 < (t335.length : Int)) = true := decide_eq_true c13; clear c13
     by_cases c14 : 0 ≤ x14_1
     ·
      rw [if_pos c14] at H; have c14b0 : decide (0 ≤ x14_1) = true := decide_eq_true c14; clear c14
      by_cases c15 : x14_1 < (t335.length : Int)
      ·
       rw [if_pos c15] at H; have c15b0 : decide (x14_1 < (t335.length : Int)) = true := decide_eq_true c15; clear c15; obtain ⟨t339, A16, H⟩ := bnd16_ H
       by_cases c17 : t339 = true
       ·
        subst c17; rw [if_pos rfl] at H; obtain ⟨t340, A18, H⟩ := bnd16_ H
        by_cases c19 : x3_1.length < 8796093022208
        ·
         rw [if_pos c19] at H; have LMc19 := Aside0.mk c19; clear c19; obtain ⟨y341, hy_⟩ : ∃ y_ : List (S51), y_ = (x3_1 ++ [(⟨t340, rd t335 x14_1⟩ : S51)]) := ⟨_, rfl⟩
         replace H : (impl_Concepts.l0 k1 y341 t335 (t335.length : Int) (wrap64 (x14_1 + 1)) a0_0 l0_1) = some r := rH_
         have Ny341 := Aside0.mk hy_; clear hy_; have H' := Aside0.mk H; clear H; have p338 : 0 ≤ (x14_1 : Int) := of_decide_eq_true s4_; have q338 : x14_1 < (t335.length : Int) := of_decide_eq_true s4_; obtain ⟨ad338, e338, hx338_0⟩ := Kd.at_int (Kd.R_reads' HO_12.out).2.2 x14_1 p338 q338
         cases e338
         replace p338 := eq_true p338; replace q338 := eq_true q338; have hcz20_0 : wr.cell? ⟨gb330, 0, none⟩ = some (.int .i64 a0_0) := (blk_cell BK330.out 0).trans rfl; have hcz20_1 : wr.cell? ⟨gb330, 1, none⟩ = some (.slice A0_1 l0_1.length c0_1) := (blk_cell BK330.out 1).trans rfl; have hfz20_0 := blk_frozen BK330.out 0; have hfz20_1 := blk_frozen BK330.out 1
         go_wp2_with (first | (refine gL_ 55 20 Tryz.func55 #[.agg #[.int .i64 a0_0, .slice A0_1 l0_1.length c0_1], .int .i64 (rd t335 x14_1)] ?_; (with_reducible refine (impl_IsClosed.calls k1 a0_0 _ _ l0_1 (rd t335 x14_1) true _ ?side1 ?side2 A16.out).mono ?_); (case side1 => exact s2_); (case side2 => exact HC0_1.out); rintro e w21 ⟨rfl, hb⟩; refine ⟨_, rfl, ?_⟩; have n_ := ac_ (Kd.R_below s11_ hb) <| ac_ (Kd.R_below q16_6 hb) <| ac_ (blk_below (g := gb330) (o := .cells #[.int .i64 a0_0, .slice A0_1 l0_1.length c0_1] 26 (0, 0)) q16_5 hb) <| Aside0.mk (below_step q16_2 hb); clear HO_3 HO_12 BK330 HB; obtain ⟨HO_3, HO_12, BK330, HB⟩ := n_; (try clear hb); have hcz22_0 : w21.cell? ⟨gb330, 0, none⟩ = some (.int .i64 a0_0) := (blk_cell BK330.out 0).trans rfl; have hcz22_1 : w21.cell? ⟨gb330, 1, none⟩ = some (.slice A0_1 l0_1.length c0_1) := (blk_cell BK330.out 1).trans rfl; have hfz22_0 := blk_frozen BK330.out 0; have hfz22_1 := blk_frozen BK330.out 1) | (refine gL_ 56 24 Tryz.func56 #[.agg #[.int .i64 a0_0, .slice A0_1 l0_1.length c0_1], .int .i64 (rd t335 x14_1)] ?_; (with_reducible refine (impl_ExtentOf.calls k1 a0_0 _ _ l0_1 (rd t335 x14_1) t340 _ ?side1 ?side2 A18.out).mono ?_); (case side1 => exact s2_); (case side2 => exact HC0_1.out); rintro e w23 ⟨rfl, hb⟩; refine ⟨_, rfl, ?_⟩; have n_ := ac_ (Kd.R_below s11_ hb) <| ac_ (Kd.R_below q16_6 hb) <| ac_ (blk_below (g := gb330) (o := .cells #[.int .i64 a0_0, .slice A0_1 l0_1.length c0_1] 26 (0, 0)) q16_5 hb) <| Aside0.mk (below_step q16_2 hb); clear HO_3 HO_12 BK330 HB; obtain ⟨HO_3, HO_12, BK330, HB⟩ := n_; (try clear hb)) | ((with_reducible refine gate_builtin (b := .append) (xs := #[.tmp 21, .tmp 27]) rfl ?_); at_builtin; refine Kd.R_append k51 (w0 := w) w.heap.size rfl (.tmp 21) (.tmp 27) 38 51 (.agg #[(.int .i64 0), (.int .i64 0)]) 16 rfl Tryz.underlying38 info51 rfl (by decide) (by omega) u3 x3_1 (⟨t340, rd t335 x14_1⟩ : S51) [.int .i64 t340, .int .i64 (rd t335 x14_1)] (fun _ => True) (fun _ => False) rfl rfl ?aP (fun _ hk => hk.elim) ?aF ?aO ?aB ?aS ?aL ?_; (case aP => exact k51_mkM _ _ _ (⟨t340, rd t335 x14_1⟩ : S51)); (case aB => exact q16_2); (case aF => exact (fun _ _ => trivial)); (case aO => exact s11_); (case aS => exact (below_size q16_2)); (case aL => have := LMc19.out; omega); intro v342 w24 ho hb hg hat; rw [← Ny341.out] at ho; have n_ := ac_ (Kd.R_over' q16_6 (Kd.R_typed s11_) (by decide) hg) <| ac_ (blk_grown (g := gb330) (o := .cells #[.int .i64 a0_0, .slice A0_1 l0_1.length c0_1] 26 (0, 0)) q16_5 hg (Kd.R_ne HO_3.out BK330.out (by decide))) <| ac_ (hb) <| Aside0.mk (ho); clear HO_12 BK330 HB HO_3; obtain ⟨HO_12, BK330, HB, HO343⟩ := n_; clear ho hb hg hat))
         go_roundg k1
         case measure => have := HK1.out; omega
         case rel => exact ⟨(y341), (wrap64 (x14_1 + 1)), s3_, H', ⟨by have := HK1.out; omega⟩, ⟨(by (with_reducible repeat (first | apply Kd.R_alloc | apply Kd.R_drewN | apply Kd.R_drew)); exact HO343.out)⟩, ⟨q16_6⟩, ⟨q16_5⟩, ⟨q16_2⟩⟩
        ·
         rw [if_neg c19] at H
         exact absurd H (by simp)
       ·
        replace c17 := Bool.eq_false_iff.mpr c17; subst c17
        rw [if_neg (show ¬ (false = true) by decide)] at H
        have H' := Aside0.mk H; clear H; have p338 : 0 ≤ (x14_1 : Int) := of_decide_eq_true s4_; have q338 : x14_1 < (t335.length : Int) := of_decide_eq_true s4_; obtain ⟨ad338, e338, hx338_0⟩ := Kd.at_int (Kd.R_reads' HO_12.out).2.2 x14_1 p338 q338
        cases e338
        replace p338 := eq_true p338; replace q338 := eq_true q338; have hcz25_0 : wr.cell? ⟨gb330, 0, none⟩ = some (.int .i64 a0_0) := (blk_cell BK330.out 0).trans rfl; have hcz25_1 : wr.cell? ⟨gb330, 1, none⟩ = some (.slice A0_1 l0_1.length c0_1) := (blk_cell BK330.out 1).trans rfl; have hfz25_0 := blk_frozen BK330.out 0; have hfz25_1 := blk_frozen BK330.out 1
        go_wp2_with (first | (refine gL_ 55 20 Tryz.func55 #[.agg #[.int .i64 a0_0, .slice A0_1 l0_1.length c0_1], .int .i64 (rd t335 x14_1)] ?_; (with_reducible refine (impl_IsClosed.calls k1 a0_0 _ _ l0_1 (rd t335 x14_1) false _ ?side1 ?side2 A16.out).mono ?_); (case side1 => exact s2_); (case side2 => exact HC0_1.out); rintro e w26 ⟨rfl, hb⟩; refine ⟨_, rfl, ?_⟩; have n_ := ac_ (Kd.R_below s11_ hb) <| ac_ (Kd.R_below q16_6 hb) <| ac_ (blk_below (g := gb330) (o := .cells #[.int .i64 a0_0, .slice A0_1 l0_1.length c0_1] 26 (0, 0)) q16_5 hb) <| Aside0.mk (below_step q16_2 hb); clear HO_3 HO_12 BK330 HB; obtain ⟨HO_3, HO_12, BK330, HB⟩ := n_; (try clear hb)))
        go_roundg k1
        case measure => have := HK1.out; omega
        case rel => exact ⟨(x3_1), (wrap64 (x14_1 + 1)), s3_, H', ⟨by have := HK1.out; omega⟩, ⟨s11_⟩, ⟨q16_6⟩, ⟨q16_5⟩, ⟨q16_2⟩⟩
      ·
       rw [if_neg c15] at H
       exact absurd H (by simp)
     ·
      rw [if_neg c14] at H
      exact absurd H (by simp)
    ·
     rw [if_neg c13] at H; have c13b0 : decide (x14_1 < (t335.length : Int)) = false := decide_eq_false c13; clear c13; obtain rfl := Option.some.inj H
     go_wp2
     go_ret
     exact ⟨_, (by first | rfl | (simp [errW_none, errW_some] <;> rfl) | (simp [*, errW_none, errW_some] <;> rfl)), s11_, q16_2⟩
 ·
  replace c3 := Bool.eq_false_iff.mpr c3; subst c3
  rw [if_neg (show ¬ (false = true) by decide)] at H
  obtain rfl := Option.some.inj H
  go_enter Tryz.func30, Tryz.ntmps30
  go_wp2_with (first | (refine be_ 1 #[.int .i64 a0_0, .slice A0_1 l0_1.length c0_1] 26 ?_; intro gb330 hg w27 hbox hb; have n_ := ac_ (below_step s0_ hb) <| ac_ (hbox) <| ac_ ((gz_ w hg s0_)) <| Aside0.mk ((gz_ w hg s0_)); clear HB; obtain ⟨HB, BK330, GW330, GE330⟩ := n_; clear hb hbox hg; have hcz28_0 : w27.cell? ⟨gb330, 0, none⟩ = some (.int .i64 a0_0) := (blk_cell BK330.out 0).trans rfl; have hcz28_1 : w27.cell? ⟨gb330, 1, none⟩ = some (.slice A0_1 l0_1.length c0_1) := (blk_cell BK330.out 1).trans rfl; have hfz28_0 := blk_frozen BK330.out 0; have hfz28_1 := blk_frozen BK330.out 1) | (refine gL_ 44 7 Tryz.func44 #[.agg #[.int .i64 a0_0, .slice A0_1 l0_1.length c0_1]] ?_; (with_reducible refine (impl_IsContext.calls a0_0 _ _ l0_1 false _ ?side1 ?side2 A2.out).mono ?_); (case side1 => exact s2_); (case side2 => exact HC0_1.out); rintro e w29 ⟨rfl, hb⟩; refine ⟨_, rfl, ?_⟩; have n_ := ac_ (blk_below (g := gb330) (o := .cells #[.int .i64 a0_0, .slice A0_1 l0_1.length c0_1] 26 (0, 0)) q16_5 hb) <| Aside0.mk (below_step q16_2 hb); clear BK330 HB; obtain ⟨BK330, HB⟩ := n_; (try clear hb)))
  go_ret
  exact ⟨_, (by first | rfl | (simp [errW_none, errW_some] <;> rfl) | (simp [*, errW_none, errW_some] <;> rfl)), (by first | exact Kd.R_nil _ _ _ _ _ | exact Kd.N_nil _ _ _ _ _ | exact Kd.V_nil _ _ _ _ _ | exact Kd.Q_nil _ _ _ _ _ | exact Kd.S_nil _ _ _ _ _), q16_2⟩
theorem q16_11 {P : Prop} (h : P := by repeat (first | exact (Kd.R_reads' HO478.out).2.2 | (with_reducible refine Kd.C_alloc ?_ _) | (with_reducible refine Kd.C_drewN ?_ _) | (with_reducible refine Kd.C_drew ?_))) : P := h
theorem q16_12 {P : Prop} (h : P := by repeat (first | (with_reducible first | exact HB.out | apply below_alloc | apply pw_below_drewN | apply below_drew1 | refine below_set ?_ GE475.out) | exact HB.out)) : P := h
theorem q16_15 {P : Prop} (h : P := by (with_reducible repeat (first | refine blk_drewN ?_ _ | refine blk_drew ?_ | refine blk_alloc ?_ _)); exact BK475.out) : P := h
def impl_IsBelow.f (k : Nat) (a0_0 : Int) (l0_1 : List Int) (a1 : Int) (a2 : Int) : Option (Bool) := (impl_Concepts.f k a0_0 l0_1).bind fun t476 => ((impl_lattice_has.f t476 a1).bind fun t479 => (if t479 = true then ((impl_lattice_has.f t476 a2).bind fun t480 => (if t480 = true then ((impl_lattice_below.f t476 a1 a2).bind fun t481 => (some t481)) else (some false))) else (some false)))
theorem impl_IsBelow.calls (k : Nat) (a0_0 : Int) (A0_1 : Option Addr) (c0_1 : Nat) (l0_1 : List Int) (a1 : Int) (a2 : Int) (r : Bool) (w : World) (hr0_1 : Kd.C (Kd.int .i64) w A0_1 l0_1.length l0_1) (hc0_1 : l0_1.length ≤ c0_1) (htab : Tab64 w) (h : impl_IsBelow.f k a0_0 l0_1 a1 a2 = some r) :
  Calls Tryz.prog 17 #[.agg #[.int .i64 a0_0, .slice A0_1 l0_1.length c0_1], .int .i64 a1, .int .i64 a2] w fun e w' => e = .returned (.bool r) ∧ Below w.heap.size w w' := by
 have HTB := Aside0.mk htab; clear htab; have hu26 := Tryz.underlying26; have HR0_1 := Aside0.mk hr0_1; have HC0_1 := Aside0.mk hc0_1; clear hr0_1 hc0_1; have HB := Aside0.mk (Below.refl w.heap.size w); have H := h; clear h; unfold impl_IsBelow.f at H; obtain ⟨t476, A4, H⟩ := bnd16_ H; obtain ⟨t479, A5, H⟩ := bnd16_ H
 by_cases c6 : t479 = true
 ·
  subst c6; rw [if_pos rfl] at H; obtain ⟨t480, A7, H⟩ := bnd16_ H
  by_cases c8 : t480 = true
  ·
   subst c8; rw [if_pos rfl] at H; obtain ⟨t481, A9, H⟩ := bnd16_ H; obtain rfl := Option.some.inj H
   go_enter Tryz.func17, Tryz.ntmps17
   go_wp2_with (first | (refine be_ 3 #[.int .i64 a0_0, .slice A0_1 l0_1.length c0_1] 26 ?_; intro gb475 hg w10 hbox hb; have n_ := ac_ (below_step s0_ hb) <| ac_ (hbox) <| ac_ ((gz_ w hg s0_)) <| Aside0.mk ((gz_ w hg s0_)); clear HB; obtain ⟨HB, BK475, GW475, GE475⟩ := n_; clear hb hbox hg; have hcz11_0 : w10.cell? ⟨gb475, 0, none⟩ = some (.int .i64 a0_0) := (blk_cell BK475.out 0).trans rfl; have hcz11_1 : w10.cell? ⟨gb475, 1, none⟩ = some (.slice A0_1 l0_1.length c0_1) := (blk_cell BK475.out 1).trans rfl; have hfz11_0 := blk_frozen BK475.out 0; have hfz11_1 := blk_frozen BK475.out 1) | (refine gL_ 30 9 Tryz.func30 #[.agg #[.int .i64 a0_0, .slice A0_1 l0_1.length c0_1]] ?_; (with_reducible refine (impl_Concepts.calls k a0_0 _ _ l0_1 t476 _ ?side1 ?side2 ?tab A4.out).mono ?_); (case tab => first | exact HTB.out | (refine Tab64.below HTB.out ?_; repeat (first | (with_reducible first | exact HB.out | apply below_alloc | apply pw_below_drewN | apply below_drew1 | refine below_set ?_ GE475.out) | exact HB.out)) | (repeat (first | exact HTB.out | apply Tab64.drewN | apply Tab64.drew | apply Tab64.alloc))); (case side1 => exact s2_); (case side2 => exact HC0_1.out); rintro e w12 ⟨v477, rfl, ho0, hb⟩; refine ⟨_, rfl, ?_⟩; have n_ := ac_ (Kd.R_lower ho0 (below_size q16_12)) <| ac_ (blk_below (g := gb475) (o := .cells #[.int .i64 a0_0, .slice A0_1 l0_1.length c0_1] 26 (0, 0)) q16_15 hb) <| Aside0.mk (below_step q16_12 hb); clear BK475 HB; obtain ⟨HO478, BK475, HB⟩ := n_; (try clear hb ho0); obtain ⟨Ao13, co13, eo13⟩ := Kd.R_slice HO478.out; subst eo13) | (refine gL_ 31 12 Tryz.func31 #[.slice Ao13 t476.length co13, .int .i64 a1] ?_; (with_reducible refine (impl_lattice_has.calls _ _ t476 a1 true _ ?side1 ?side2 A5.out).mono ?_); (case side1 => exact q16_11); (case side2 => exact (Kd.R_reads' HO478.out).2.1); rintro e w' ⟨rfl, ⟨nd, rfl⟩⟩; refine ⟨_, rfl, ?_⟩) | (go_at_call 31; (with_reducible refine (impl_lattice_has.calls _ _ t476 a2 true _ ?side1 ?side2 A7.out).mono ?_); (case side1 => exact q16_11); (case side2 => exact (Kd.R_reads' HO478.out).2.1); rintro e w' ⟨rfl, ⟨nd, rfl⟩⟩) | (go_at_call 42; (with_reducible refine (impl_lattice_below.calls _ _ t476 a1 a2 t481 _ ?side1 ?side2 A9.out).mono ?_); (case side1 => exact q16_11); (case side2 => exact (Kd.R_reads' HO478.out).2.1); rintro e w' ⟨rfl, ⟨nd, rfl⟩⟩))
   go_ret
   exact ⟨s5_, q16_12⟩
  ·
   replace c8 := Bool.eq_false_iff.mpr c8; subst c8
   rw [if_neg (show ¬ (false = true) by decide)] at H
   obtain rfl := Option.some.inj H
   go_enter Tryz.func17, Tryz.ntmps17
   go_wp2_with (first | (refine be_ 3 #[.int .i64 a0_0, .slice A0_1 l0_1.length c0_1] 26 ?_; intro gb475 hg w14 hbox hb; have n_ := ac_ (below_step s0_ hb) <| ac_ (hbox) <| ac_ ((gz_ w hg s0_)) <| Aside0.mk ((gz_ w hg s0_)); clear HB; obtain ⟨HB, BK475, GW475, GE475⟩ := n_; clear hb hbox hg; have hcz15_0 : w14.cell? ⟨gb475, 0, none⟩ = some (.int .i64 a0_0) := (blk_cell BK475.out 0).trans rfl; have hcz15_1 : w14.cell? ⟨gb475, 1, none⟩ = some (.slice A0_1 l0_1.length c0_1) := (blk_cell BK475.out 1).trans rfl; have hfz15_0 := blk_frozen BK475.out 0; have hfz15_1 := blk_frozen BK475.out 1) | (refine gL_ 30 9 Tryz.func30 #[.agg #[.int .i64 a0_0, .slice A0_1 l0_1.length c0_1]] ?_; (with_reducible refine (impl_Concepts.calls k a0_0 _ _ l0_1 t476 _ ?side1 ?side2 ?tab A4.out).mono ?_); (case tab => first | exact HTB.out | (refine Tab64.below HTB.out ?_; repeat (first | (with_reducible first | exact HB.out | apply below_alloc | apply pw_below_drewN | apply below_drew1 | refine below_set ?_ GE475.out) | exact HB.out)) | (repeat (first | exact HTB.out | apply Tab64.drewN | apply Tab64.drew | apply Tab64.alloc))); (case side1 => exact s2_); (case side2 => exact HC0_1.out); rintro e w16 ⟨v477, rfl, ho0, hb⟩; refine ⟨_, rfl, ?_⟩; have n_ := ac_ (Kd.R_lower ho0 (below_size q16_12)) <| ac_ (blk_below (g := gb475) (o := .cells #[.int .i64 a0_0, .slice A0_1 l0_1.length c0_1] 26 (0, 0)) q16_15 hb) <| Aside0.mk (below_step q16_12 hb); clear BK475 HB; obtain ⟨HO478, BK475, HB⟩ := n_; (try clear hb ho0); obtain ⟨Ao17, co17, eo17⟩ := Kd.R_slice HO478.out; subst eo17) | (refine gL_ 31 12 Tryz.func31 #[.slice Ao17 t476.length co17, .int .i64 a1] ?_; (with_reducible refine (impl_lattice_has.calls _ _ t476 a1 true _ ?side1 ?side2 A5.out).mono ?_); (case side1 => exact q16_11); (case side2 => exact (Kd.R_reads' HO478.out).2.1); rintro e w' ⟨rfl, ⟨nd, rfl⟩⟩; refine ⟨_, rfl, ?_⟩) | (go_at_call 31; (with_reducible refine (impl_lattice_has.calls _ _ t476 a2 false _ ?side1 ?side2 A7.out).mono ?_); (case side1 => exact q16_11); (case side2 => exact (Kd.R_reads' HO478.out).2.1); rintro e w' ⟨rfl, ⟨nd, rfl⟩⟩))
   go_ret
   exact ⟨s5_, q16_12⟩
 ·
  replace c6 := Bool.eq_false_iff.mpr c6; subst c6
  rw [if_neg (show ¬ (false = true) by decide)] at H
  obtain rfl := Option.some.inj H
  go_enter Tryz.func17, Tryz.ntmps17
  go_wp2_with (first | (refine be_ 3 #[.int .i64 a0_0, .slice A0_1 l0_1.length c0_1] 26 ?_; intro gb475 hg w18 hbox hb; have n_ := ac_ (below_step s0_ hb) <| ac_ (hbox) <| ac_ ((gz_ w hg s0_)) <| Aside0.mk ((gz_ w hg s0_)); clear HB; obtain ⟨HB, BK475, GW475, GE475⟩ := n_; clear hb hbox hg; have hcz19_0 : w18.cell? ⟨gb475, 0, none⟩ = some (.int .i64 a0_0) := (blk_cell BK475.out 0).trans rfl; have hcz19_1 : w18.cell? ⟨gb475, 1, none⟩ = some (.slice A0_1 l0_1.length c0_1) := (blk_cell BK475.out 1).trans rfl; have hfz19_0 := blk_frozen BK475.out 0; have hfz19_1 := blk_frozen BK475.out 1) | (refine gL_ 30 9 Tryz.func30 #[.agg #[.int .i64 a0_0, .slice A0_1 l0_1.length c0_1]] ?_; (with_reducible refine (impl_Concepts.calls k a0_0 _ _ l0_1 t476 _ ?side1 ?side2 ?tab A4.out).mono ?_); (case tab => first | exact HTB.out | (refine Tab64.below HTB.out ?_; repeat (first | (with_reducible first | exact HB.out | apply below_alloc | apply pw_below_drewN | apply below_drew1 | refine below_set ?_ GE475.out) | exact HB.out)) | (repeat (first | exact HTB.out | apply Tab64.drewN | apply Tab64.drew | apply Tab64.alloc))); (case side1 => exact s2_); (case side2 => exact HC0_1.out); rintro e w20 ⟨v477, rfl, ho0, hb⟩; refine ⟨_, rfl, ?_⟩; have n_ := ac_ (Kd.R_lower ho0 (below_size q16_12)) <| ac_ (blk_below (g := gb475) (o := .cells #[.int .i64 a0_0, .slice A0_1 l0_1.length c0_1] 26 (0, 0)) q16_15 hb) <| Aside0.mk (below_step q16_12 hb); clear BK475 HB; obtain ⟨HO478, BK475, HB⟩ := n_; (try clear hb ho0); obtain ⟨Ao21, co21, eo21⟩ := Kd.R_slice HO478.out; subst eo21) | (refine gL_ 31 12 Tryz.func31 #[.slice Ao21 t476.length co21, .int .i64 a1] ?_; (with_reducible refine (impl_lattice_has.calls _ _ t476 a1 false _ ?side1 ?side2 A5.out).mono ?_); (case side1 => exact q16_11); (case side2 => exact (Kd.R_reads' HO478.out).2.1); rintro e w' ⟨rfl, ⟨nd, rfl⟩⟩; refine ⟨_, rfl, ?_⟩))
  go_ret
  exact ⟨s5_, q16_12⟩
theorem q16_17 {P : Prop} (h : P := by repeat (first | (with_reducible first | exact HB.out | apply below_alloc | apply pw_below_drewN | apply below_drew1 | refine below_set ?_ GE500.out) | exact HB.out)) : P := h
def impl_BottomOf.f (k : Nat) (a0_0 : Int) (l0_1 : List Int) : Option (Int) := (impl_Concepts.f k a0_0 l0_1).bind fun t501 => (some (wrap64 ((t501.length : Int) - 1)))
theorem impl_BottomOf.calls (k : Nat) (a0_0 : Int) (A0_1 : Option Addr) (c0_1 : Nat) (l0_1 : List Int) (r : Int) (w : World) (hr0_1 : Kd.C (Kd.int .i64) w A0_1 l0_1.length l0_1) (hc0_1 : l0_1.length ≤ c0_1) (htab : Tab64 w) (h : impl_BottomOf.f k a0_0 l0_1 = some r) :
  Calls Tryz.prog 21 #[.agg #[.int .i64 a0_0, .slice A0_1 l0_1.length c0_1]] w fun e w' => e = .returned (.int .i64 r) ∧ Below w.heap.size w w' := by
 have HTB := Aside0.mk htab; clear htab; have hu26 := Tryz.underlying26; have HR0_1 := Aside0.mk hr0_1; have HC0_1 := Aside0.mk hc0_1; clear hr0_1 hc0_1; have HB := Aside0.mk (Below.refl w.heap.size w); have H := h; clear h; unfold impl_BottomOf.f at H; obtain ⟨t501, A2, H⟩ := bnd16_ H; obtain rfl := Option.some.inj H
 go_enter Tryz.func21, Tryz.ntmps21
 go_wp2_with (first | (refine be_ 1 #[.int .i64 a0_0, .slice A0_1 l0_1.length c0_1] 26 ?_; intro gb500 hg w3 hbox hb; have n_ := ac_ (below_step s0_ hb) <| ac_ (hbox) <| ac_ ((gz_ w hg s0_)) <| Aside0.mk ((gz_ w hg s0_)); clear HB; obtain ⟨HB, BK500, GW500, GE500⟩ := n_; clear hb hbox hg; have hcz4_0 : w3.cell? ⟨gb500, 0, none⟩ = some (.int .i64 a0_0) := (blk_cell BK500.out 0).trans rfl; have hcz4_1 : w3.cell? ⟨gb500, 1, none⟩ = some (.slice A0_1 l0_1.length c0_1) := (blk_cell BK500.out 1).trans rfl; have hfz4_0 := blk_frozen BK500.out 0; have hfz4_1 := blk_frozen BK500.out 1) | ((with_reducible refine gate_callee (f := 30) rfl ?_); refine goesL_ (some 4) rfl rfl Tryz.func30 (by kernel_rfl) rfl #[.agg #[.int .i64 a0_0, .slice A0_1 l0_1.length c0_1]] rfl (by (try simp only [List.map_toArray, List.map_cons, List.map_nil]); first | done | rfl | (simp only [List.length_drop, List.length_take]; rfl)) ?_; (with_reducible refine (impl_Concepts.calls k a0_0 _ _ l0_1 t501 _ ?side1 ?side2 ?tab A2.out).mono ?_); (case tab => first | exact HTB.out | (refine Tab64.below HTB.out ?_; repeat (first | (with_reducible first | exact HB.out | apply below_alloc | apply pw_below_drewN | apply below_drew1 | refine below_set ?_ GE500.out) | exact HB.out)) | (repeat (first | exact HTB.out | apply Tab64.drewN | apply Tab64.drew | apply Tab64.alloc))); (case side1 => repeat (first | exact (Kd.C_below HR0_1.out HB.out) | (with_reducible refine Kd.C_alloc ?_ _) | (with_reducible refine Kd.C_drewN ?_ _) | (with_reducible refine Kd.C_drew ?_))); (case side2 => exact HC0_1.out); rintro e w5 ⟨v502, rfl, ho0, hb⟩; refine ⟨_, rfl, ?_⟩; have n_ := ac_ (Kd.R_lower ho0 (below_size q16_17)) <| ac_ (blk_below (g := gb500) (o := .cells #[.int .i64 a0_0, .slice A0_1 l0_1.length c0_1] 26 (0, 0)) (by (with_reducible repeat (first | refine blk_drewN ?_ _ | refine blk_drew ?_ | refine blk_alloc ?_ _)); exact BK500.out) hb) <| Aside0.mk (below_step q16_17 hb); clear BK500 HB; obtain ⟨HO503, BK500, HB⟩ := n_; (try clear hb ho0); obtain ⟨Ao6, co6, eo6⟩ := Kd.R_slice HO503.out; subst eo6))
 go_ret
 exact ⟨(by first | rfl | (simp [errW_none, errW_some] <;> rfl) | (simp [*, errW_none, errW_some] <;> rfl)), q16_17⟩
theorem bnd17_ {α β : Type} {o : Option α} {f : α → Option β} {r : β} (h : o.bind f = some r) : ∃ a, Aside0 (o = some a) ∧ f a = some r := by
 obtain ⟨a, h1, h2⟩ := Option.bind_eq_some_iff.mp h
 exact ⟨a, ⟨h1⟩, h2⟩
theorem q17_2 {P : Prop} (h : P := by repeat (first | exact (Kd.R_reads' HO353.out).2.2 | (with_reducible refine Kd.C_alloc ?_ _) | (with_reducible refine Kd.C_drewN ?_ _) | (with_reducible refine Kd.C_drew ?_))) : P := h
theorem q17_3 {P : Prop} (h : P := by repeat (first | (with_reducible first | exact HB.out | apply below_alloc | apply pw_below_drewN | apply below_drew1 | refine below_set ?_ GE350.out) | exact HB.out)) : P := h
theorem q17_6 {P : Prop} (h : P := by (with_reducible repeat (first | refine blk_drewN ?_ _ | refine blk_drew ?_ | refine blk_alloc ?_ _)); exact BK350.out) : P := h
def impl_MeetOf.f (k : Nat) (a0_0 : Int) (l0_1 : List Int) (a1 : Int) (a2 : Int) : Option (Int) := (impl_Concepts.f k a0_0 l0_1).bind fun t351 => ((impl_lattice_has.f t351 a1).bind fun t354 => (if t354 = true then ((impl_lattice_has.f t351 a2).bind fun t355 => (if t355 = true then ((impl_lattice_meet.f t351 a1 a2).bind fun t356 => (some t356)) else (some (-1)))) else (some (-1))))
theorem impl_MeetOf.calls (k : Nat) (a0_0 : Int) (A0_1 : Option Addr) (c0_1 : Nat) (l0_1 : List Int) (a1 : Int) (a2 : Int) (r : Int) (w : World) (hr0_1 : Kd.C (Kd.int .i64) w A0_1 l0_1.length l0_1) (hc0_1 : l0_1.length ≤ c0_1) (htab : Tab64 w) (h : impl_MeetOf.f k a0_0 l0_1 a1 a2 = some r) :
  Calls Tryz.prog 6 #[.agg #[.int .i64 a0_0, .slice A0_1 l0_1.length c0_1], .int .i64 a1, .int .i64 a2] w fun e w' => e = .returned (.int .i64 r) ∧ Below w.heap.size w w' := by
 have HTB := Aside0.mk htab; clear htab; have hu26 := Tryz.underlying26; have HR0_1 := Aside0.mk hr0_1; have HC0_1 := Aside0.mk hc0_1; clear hr0_1 hc0_1; have HB := Aside0.mk (Below.refl w.heap.size w); have H := h; clear h; unfold impl_MeetOf.f at H; obtain ⟨t351, A4, H⟩ := bnd17_ H; obtain ⟨t354, A5, H⟩ := bnd17_ H
 by_cases c6 : t354 = true
 ·
  subst c6; rw [if_pos rfl] at H; obtain ⟨t355, A7, H⟩ := bnd17_ H
  by_cases c8 : t355 = true
  ·
   subst c8; rw [if_pos rfl] at H; obtain ⟨t356, A9, H⟩ := bnd17_ H; obtain rfl := Option.some.inj H
   go_enter Tryz.func6, Tryz.ntmps6
   go_wp2_with (first | (refine be_ 3 #[.int .i64 a0_0, .slice A0_1 l0_1.length c0_1] 26 ?_; intro gb350 hg w10 hbox hb; have n_ := ac_ (below_step s0_ hb) <| ac_ (hbox) <| ac_ ((gz_ w hg s0_)) <| Aside0.mk ((gz_ w hg s0_)); clear HB; obtain ⟨HB, BK350, GW350, GE350⟩ := n_; clear hb hbox hg; have hcz11_0 : w10.cell? ⟨gb350, 0, none⟩ = some (.int .i64 a0_0) := (blk_cell BK350.out 0).trans rfl; have hcz11_1 : w10.cell? ⟨gb350, 1, none⟩ = some (.slice A0_1 l0_1.length c0_1) := (blk_cell BK350.out 1).trans rfl; have hfz11_0 := blk_frozen BK350.out 0; have hfz11_1 := blk_frozen BK350.out 1) | (refine gL_ 30 9 Tryz.func30 #[.agg #[.int .i64 a0_0, .slice A0_1 l0_1.length c0_1]] ?_; (with_reducible refine (impl_Concepts.calls k a0_0 _ _ l0_1 t351 _ ?side1 ?side2 ?tab A4.out).mono ?_); (case tab => first | exact HTB.out | (refine Tab64.below HTB.out ?_; repeat (first | (with_reducible first | exact HB.out | apply below_alloc | apply pw_below_drewN | apply below_drew1 | refine below_set ?_ GE350.out) | exact HB.out)) | (repeat (first | exact HTB.out | apply Tab64.drewN | apply Tab64.drew | apply Tab64.alloc))); (case side1 => exact s2_); (case side2 => exact HC0_1.out); rintro e w12 ⟨v352, rfl, ho0, hb⟩; refine ⟨_, rfl, ?_⟩; have n_ := ac_ (Kd.R_lower ho0 (below_size q17_3)) <| ac_ (blk_below (g := gb350) (o := .cells #[.int .i64 a0_0, .slice A0_1 l0_1.length c0_1] 26 (0, 0)) q17_6 hb) <| Aside0.mk (below_step q17_3 hb); clear BK350 HB; obtain ⟨HO353, BK350, HB⟩ := n_; (try clear hb ho0); obtain ⟨Ao13, co13, eo13⟩ := Kd.R_slice HO353.out; subst eo13) | (refine gL_ 31 12 Tryz.func31 #[.slice Ao13 t351.length co13, .int .i64 a1] ?_; (with_reducible refine (impl_lattice_has.calls _ _ t351 a1 true _ ?side1 ?side2 A5.out).mono ?_); (case side1 => exact q17_2); (case side2 => exact (Kd.R_reads' HO353.out).2.1); rintro e w' ⟨rfl, ⟨nd, rfl⟩⟩; refine ⟨_, rfl, ?_⟩) | (go_at_call 31; (with_reducible refine (impl_lattice_has.calls _ _ t351 a2 true _ ?side1 ?side2 A7.out).mono ?_); (case side1 => exact q17_2); (case side2 => exact (Kd.R_reads' HO353.out).2.1); rintro e w' ⟨rfl, ⟨nd, rfl⟩⟩) | (refine gL_ 32 23 Tryz.func32 #[.slice Ao13 t351.length co13, .int .i64 a1, .int .i64 a2] ?_; (with_reducible refine (impl_lattice_meet.calls _ _ t351 a1 a2 t356 _ ?side1 ?side2 A9.out).mono ?_); (case side1 => exact q17_2); (case side2 => exact (Kd.R_reads' HO353.out).2.1); rintro e w14 ⟨rfl, hb⟩; refine ⟨_, rfl, ?_⟩; have n_ := ac_ (Kd.R_below (by (with_reducible repeat (first | apply Kd.R_alloc | apply Kd.R_drewN | apply Kd.R_drew)); exact HO353.out) hb) <| ac_ (blk_below (g := gb350) (o := .cells #[.int .i64 a0_0, .slice A0_1 l0_1.length c0_1] 26 (0, 0)) q17_6 hb) <| Aside0.mk (below_step q17_3 hb); clear HO353 BK350 HB; obtain ⟨HO353, BK350, HB⟩ := n_; (try clear hb)))
   go_ret
   exact ⟨s5_, q17_3⟩
  ·
   replace c8 := Bool.eq_false_iff.mpr c8; subst c8
   rw [if_neg (show ¬ (false = true) by decide)] at H
   obtain rfl := Option.some.inj H
   go_enter Tryz.func6, Tryz.ntmps6
   go_wp2_with (first | (refine be_ 3 #[.int .i64 a0_0, .slice A0_1 l0_1.length c0_1] 26 ?_; intro gb350 hg w15 hbox hb; have n_ := ac_ (below_step s0_ hb) <| ac_ (hbox) <| ac_ ((gz_ w hg s0_)) <| Aside0.mk ((gz_ w hg s0_)); clear HB; obtain ⟨HB, BK350, GW350, GE350⟩ := n_; clear hb hbox hg; have hcz16_0 : w15.cell? ⟨gb350, 0, none⟩ = some (.int .i64 a0_0) := (blk_cell BK350.out 0).trans rfl; have hcz16_1 : w15.cell? ⟨gb350, 1, none⟩ = some (.slice A0_1 l0_1.length c0_1) := (blk_cell BK350.out 1).trans rfl; have hfz16_0 := blk_frozen BK350.out 0; have hfz16_1 := blk_frozen BK350.out 1) | (refine gL_ 30 9 Tryz.func30 #[.agg #[.int .i64 a0_0, .slice A0_1 l0_1.length c0_1]] ?_; (with_reducible refine (impl_Concepts.calls k a0_0 _ _ l0_1 t351 _ ?side1 ?side2 ?tab A4.out).mono ?_); (case tab => first | exact HTB.out | (refine Tab64.below HTB.out ?_; repeat (first | (with_reducible first | exact HB.out | apply below_alloc | apply pw_below_drewN | apply below_drew1 | refine below_set ?_ GE350.out) | exact HB.out)) | (repeat (first | exact HTB.out | apply Tab64.drewN | apply Tab64.drew | apply Tab64.alloc))); (case side1 => exact s2_); (case side2 => exact HC0_1.out); rintro e w17 ⟨v352, rfl, ho0, hb⟩; refine ⟨_, rfl, ?_⟩; have n_ := ac_ (Kd.R_lower ho0 (below_size q17_3)) <| ac_ (blk_below (g := gb350) (o := .cells #[.int .i64 a0_0, .slice A0_1 l0_1.length c0_1] 26 (0, 0)) q17_6 hb) <| Aside0.mk (below_step q17_3 hb); clear BK350 HB; obtain ⟨HO353, BK350, HB⟩ := n_; (try clear hb ho0); obtain ⟨Ao18, co18, eo18⟩ := Kd.R_slice HO353.out; subst eo18) | (refine gL_ 31 12 Tryz.func31 #[.slice Ao18 t351.length co18, .int .i64 a1] ?_; (with_reducible refine (impl_lattice_has.calls _ _ t351 a1 true _ ?side1 ?side2 A5.out).mono ?_); (case side1 => exact q17_2); (case side2 => exact (Kd.R_reads' HO353.out).2.1); rintro e w' ⟨rfl, ⟨nd, rfl⟩⟩; refine ⟨_, rfl, ?_⟩) | (go_at_call 31; (with_reducible refine (impl_lattice_has.calls _ _ t351 a2 false _ ?side1 ?side2 A7.out).mono ?_); (case side1 => exact q17_2); (case side2 => exact (Kd.R_reads' HO353.out).2.1); rintro e w' ⟨rfl, ⟨nd, rfl⟩⟩))
   go_ret
   exact ⟨s5_, q17_3⟩
 ·
  replace c6 := Bool.eq_false_iff.mpr c6; subst c6
  rw [if_neg (show ¬ (false = true) by decide)] at H
  obtain rfl := Option.some.inj H
  go_enter Tryz.func6, Tryz.ntmps6
  go_wp2_with (first | (refine be_ 3 #[.int .i64 a0_0, .slice A0_1 l0_1.length c0_1] 26 ?_; intro gb350 hg w19 hbox hb; have n_ := ac_ (below_step s0_ hb) <| ac_ (hbox) <| ac_ ((gz_ w hg s0_)) <| Aside0.mk ((gz_ w hg s0_)); clear HB; obtain ⟨HB, BK350, GW350, GE350⟩ := n_; clear hb hbox hg; have hcz20_0 : w19.cell? ⟨gb350, 0, none⟩ = some (.int .i64 a0_0) := (blk_cell BK350.out 0).trans rfl; have hcz20_1 : w19.cell? ⟨gb350, 1, none⟩ = some (.slice A0_1 l0_1.length c0_1) := (blk_cell BK350.out 1).trans rfl; have hfz20_0 := blk_frozen BK350.out 0; have hfz20_1 := blk_frozen BK350.out 1) | (refine gL_ 30 9 Tryz.func30 #[.agg #[.int .i64 a0_0, .slice A0_1 l0_1.length c0_1]] ?_; (with_reducible refine (impl_Concepts.calls k a0_0 _ _ l0_1 t351 _ ?side1 ?side2 ?tab A4.out).mono ?_); (case tab => first | exact HTB.out | (refine Tab64.below HTB.out ?_; repeat (first | (with_reducible first | exact HB.out | apply below_alloc | apply pw_below_drewN | apply below_drew1 | refine below_set ?_ GE350.out) | exact HB.out)) | (repeat (first | exact HTB.out | apply Tab64.drewN | apply Tab64.drew | apply Tab64.alloc))); (case side1 => exact s2_); (case side2 => exact HC0_1.out); rintro e w21 ⟨v352, rfl, ho0, hb⟩; refine ⟨_, rfl, ?_⟩; have n_ := ac_ (Kd.R_lower ho0 (below_size q17_3)) <| ac_ (blk_below (g := gb350) (o := .cells #[.int .i64 a0_0, .slice A0_1 l0_1.length c0_1] 26 (0, 0)) q17_6 hb) <| Aside0.mk (below_step q17_3 hb); clear BK350 HB; obtain ⟨HO353, BK350, HB⟩ := n_; (try clear hb ho0); obtain ⟨Ao22, co22, eo22⟩ := Kd.R_slice HO353.out; subst eo22) | (refine gL_ 31 12 Tryz.func31 #[.slice Ao22 t351.length co22, .int .i64 a1] ?_; (with_reducible refine (impl_lattice_has.calls _ _ t351 a1 false _ ?side1 ?side2 A5.out).mono ?_); (case side1 => exact q17_2); (case side2 => exact (Kd.R_reads' HO353.out).2.1); rintro e w' ⟨rfl, ⟨nd, rfl⟩⟩; refine ⟨_, rfl, ?_⟩))
  go_ret
  exact ⟨s5_, q17_3⟩
theorem q17_9 {P : Prop} (h : P := by repeat (first | (with_reducible first | exact HB.out | apply below_alloc | apply pw_below_drewN | apply below_drew1 | refine below_set ?_ GE491.out) | exact HB.out)) : P := h
theorem q17_12 {P : Prop} (h : P := by (with_reducible repeat (first | refine blk_drewN ?_ _ | refine blk_drew ?_ | refine blk_alloc ?_ _)); exact BK491.out) : P := h
def impl_TopOf.f (k : Nat) (a0_0 : Int) (l0_1 : List Int) : Option (Int) := (impl_IsContext.f a0_0 l0_1).bind fun t492 => (if t492 = true then ((impl_Concepts.f k a0_0 l0_1).bind fun t493 => ((impl_FullSet.f (l0_1.length : Int)).bind fun t496 => ((impl_lattice_index.f t493 t496).bind fun t497 => (some t497)))) else (some (-1)))
def impl_TopOf.T3 : Bool × List (List Nat × List Nat) := (true, [([], []), ([0], [0]), ([], []), ([2], [2]), ([3], [3]), ([4, 1], [4]), ([1, 5, 5], [1, 5]), ([6, 6, 0, 1, 2, 3, 4, 5, 6], [6])])
def impl_TopOf.B3 : List Nat := [0, 1, 0, 4, 12, 31, 63, 127]
theorem impl_TopOf.tab3 : rtab .any (opsOf Tryz.f19 3) = impl_TopOf.T3 := by kernel_rfl
theorem impl_TopOf.bits3 : waitsOk impl_TopOf.T3.2 impl_TopOf.B3 = true := by kernel_rfl
theorem impl_TopOf.calls (k : Nat) (a0_0 : Int) (A0_1 : Option Addr) (c0_1 : Nat) (l0_1 : List Int) (r : Int) (w : World) (hr0_1 : Kd.C (Kd.int .i64) w A0_1 l0_1.length l0_1) (hc0_1 : l0_1.length ≤ c0_1) (htab : Tab64 w) (h : impl_TopOf.f k a0_0 l0_1 = some r) :
  Calls Tryz.prog 19 #[.agg #[.int .i64 a0_0, .slice A0_1 l0_1.length c0_1]] w fun e w' => e = .returned (.int .i64 r) ∧ Below w.heap.size w w' := by
 have HTB := Aside0.mk htab; clear htab; have hu26 := Tryz.underlying26; have HR0_1 := Aside0.mk hr0_1; have HC0_1 := Aside0.mk hc0_1; clear hr0_1 hc0_1; have HB := Aside0.mk (Below.refl w.heap.size w); have H := h; clear h; unfold impl_TopOf.f at H; obtain ⟨t492, A2, H⟩ := bnd17_ H
 by_cases c3 : t492 = true
 ·
  subst c3; rw [if_pos rfl] at H; obtain ⟨t493, A4, H⟩ := bnd17_ H; obtain ⟨t496, A5, H⟩ := bnd17_ H; obtain ⟨t497, A6, H⟩ := bnd17_ H; obtain rfl := Option.some.inj H
  go_enter Tryz.func19, Tryz.ntmps19
  try go_wp2_with (first | (refine be_ 1 #[.int .i64 a0_0, .slice A0_1 l0_1.length c0_1] 26 ?_; intro gb491 hg w7 hbox hb; have n_ := ac_ (below_step s0_ hb) <| ac_ (hbox) <| ac_ ((gz_ w hg s0_)) <| Aside0.mk ((gz_ w hg s0_)); clear HB; obtain ⟨HB, BK491, GW491, GE491⟩ := n_; clear hb hbox hg; have hcz8_0 : w7.cell? ⟨gb491, 0, none⟩ = some (.int .i64 a0_0) := (blk_cell BK491.out 0).trans rfl; have hcz8_1 : w7.cell? ⟨gb491, 1, none⟩ = some (.slice A0_1 l0_1.length c0_1) := (blk_cell BK491.out 1).trans rfl; have hfz8_0 := blk_frozen BK491.out 0; have hfz8_1 := blk_frozen BK491.out 1) | (refine gL_ 44 4 Tryz.func44 #[.agg #[.int .i64 a0_0, .slice A0_1 l0_1.length c0_1]] ?_; (with_reducible refine (impl_IsContext.calls a0_0 _ _ l0_1 true _ ?side1 ?side2 A2.out).mono ?_); (case side1 => exact s2_); (case side2 => exact HC0_1.out); rintro e w9 ⟨rfl, hb⟩; refine ⟨_, rfl, ?_⟩; have n_ := ac_ (blk_below (g := gb491) (o := .cells #[.int .i64 a0_0, .slice A0_1 l0_1.length c0_1] 26 (0, 0)) q17_12 hb) <| Aside0.mk (below_step q17_9 hb); clear BK491 HB; obtain ⟨BK491, HB⟩ := n_; (try clear hb)))
  have n0_ := Aside0.mk (blk_drew BK491.out); have n1_ := Aside0.mk (below_drew1 HB.out); clear BK491; clear HB; have BK491 := n0_; have HB := n1_; clear n0_ n1_
  refine start_ (n := 8) (S := fun w' => w'.cell? ⟨gb491, 0, none⟩ = some (.int .i64 a0_0) ∧ w'.cell? ⟨gb491, 1, none⟩ = some (.slice A0_1 l0_1.length c0_1)) (ds := []) (tb_ 8 0) (by kernel_rfl) rfl rfl ⟨(blk_cell BK491.out 0).trans rfl, (blk_cell BK491.out 1).trans rfl⟩ (fun hHeld => ?_); refine with_tabW impl_TopOf.tab3 impl_TopOf.bits3 (fun HT_ HW_ => ?_)
  generalize w9.drew = w10 at BK491 HB hHeld ⊢
  refine pl_ 2 8 (tb_ 8 4) ?_; refine tk_ 0 6 (tb_ 8 5) hHeld ?_; refine tk_ 3 9 (tb_ 8 13) hHeld ?_; refine pl_ 4 10 (tb_ 8 29) ?_
  refine on_ 1 7 (tb_ 8 31) (fun K hK => ?_)
  refine goes_ Tryz.func30 (by kernel_rfl) rfl #[.agg #[.int .i64 a0_0, .slice A0_1 l0_1.length c0_1]] (by rfl) rfl rfl s1_ ?_
  with_reducible refine (impl_Concepts.calls k a0_0 _ _ l0_1 t493 _ ?side1 ?side2 ?tab A4.out).mono ?_
  (case tab => first | exact HTB.out | (refine Tab64.below HTB.out ?_; repeat (first | (with_reducible first | exact HB.out | apply below_alloc | apply pw_below_drewN | apply below_drew1 | refine below_set ?_ GE491.out) | exact HB.out)) | (repeat (first | exact HTB.out | apply Tab64.drewN | apply Tab64.drew | apply Tab64.alloc)))
  (case side1 => exact s2_)
  (case side2 => exact HC0_1.out)
  rintro e w11 ⟨v494, rfl, ho0, hb⟩
  refine ⟨_, rfl, ?_⟩
  have n0_ := Aside0.mk (Kd.R_lower ho0 (below_size q17_9)); have n1_ := Aside0.mk (blk_below (g := gb491) (o := .cells #[.int .i64 a0_0, .slice A0_1 l0_1.length c0_1] 26 (0, 0)) q17_12 hb); have n2_ := Aside0.mk (below_step q17_9 hb); clear BK491; clear HB; have HO495 := n0_; have BK491 := n1_; have HB := n2_; clear n0_ n1_ n2_
  (try clear hb)
  (try clear hb2)
  (try clear hk)
  (try clear hi)
  (try clear ho0)
  refine hK.out _ _ ⟨(blk_cell BK491.out 0).trans rfl, (blk_cell BK491.out 1).trans rfl⟩ (fun hHeld => ?_)
  clear hK K
  refine norm_ (a' := ?_) ?_ ?_
  rotate_left
  ·
   show Act.put _ (some 7) _ = _
   simp only [Act.put, List.setIfInBounds_toArray, List.set_cons_zero, List.set_cons_succ, i64_w, i32_w]
   rfl
  refine on_ 5 11 (tb_ 8 63) (fun K hK => ?_)
  refine goes_ Tryz.func46 (by kernel_rfl) rfl #[.int .i64 (l0_1.length : Int)] (by rfl) rfl rfl s1_ ?_
  with_reducible refine (impl_FullSet.calls (l0_1.length : Int) t496 _ A5.out).mono ?_
  rintro e w' ⟨rfl, ⟨nd, rfl⟩⟩
  refine ⟨_, rfl, ?_⟩
  obtain ⟨Ao12, co12, eo12⟩ := Kd.R_slice HO495.out
  (first | subst eo12 | (injection eo12 with f1_ f2_ f3_; have f4_ := f1_.symm; have f5_ := f3_.symm; clear f1_ f2_ f3_; subst f4_; subst f5_))
  refine hK.out _ _ ⟨(blk_cell BK491.out 0).trans rfl, (blk_cell BK491.out 1).trans rfl⟩ (fun hHeld => ?_)
  clear hK K
  refine norm_ (a' := ?_) ?_ ?_
  rotate_left
  ·
   show Act.put _ (some 11) _ = _
   simp only [Act.put, List.setIfInBounds_toArray, List.set_cons_zero, List.set_cons_succ, i64_w, i32_w]
   rfl
  refine on_ 6 12 (tb_ 8 127) (fun K hK => ?_)
  refine goes_ Tryz.func45 (by kernel_rfl) rfl #[.slice Ao12 t493.length co12, .int .i64 t496] (by rfl) rfl rfl s1_ ?_
  with_reducible refine (impl_lattice_index.calls _ _ t493 t496 t497 _ ?side1 ?side2 A6.out).mono ?_
  (case side1 => repeat (first | exact (Kd.R_reads' HO495.out).2.2 | (with_reducible refine Kd.C_alloc ?_ _) | (with_reducible refine Kd.C_drewN ?_ _) | (with_reducible refine Kd.C_drew ?_)))
  (case side2 => exact (Kd.R_reads' HO495.out).2.1)
  rintro e w13 ⟨rfl, hb⟩
  refine ⟨_, rfl, ?_⟩
  have n0_ := Aside0.mk (Kd.R_below (by (with_reducible repeat (first | apply Kd.R_alloc | apply Kd.R_drewN | apply Kd.R_drew)); exact HO495.out) hb)
  have n1_ := Aside0.mk (blk_below (g := gb491) (o := .cells #[.int .i64 a0_0, .slice A0_1 l0_1.length c0_1] 26 (0, 0)) q17_12 hb); have n2_ := Aside0.mk (below_step q17_9 hb); clear HO495; clear BK491; clear HB; have HO495 := n0_; have BK491 := n1_; have HB := n2_; clear n0_ n1_ n2_
  (try clear hb)
  (try clear hb2)
  (try clear hk)
  (try clear hi)
  refine hK.out _ _ ⟨(blk_cell BK491.out 0).trans rfl, (blk_cell BK491.out 1).trans rfl⟩ (fun hHeld => ?_)
  clear hK K
  refine norm_ (a' := ?_) ?_ ?_
  rotate_left
  ·
   show Act.put _ (some 12) _ = _
   simp only [Act.put, List.setIfInBounds_toArray, List.set_cons_zero, List.set_cons_succ, i64_w, i32_w]
   rfl
  refine pl_ 7 2 (tb_ 8 255) ?_
  refine done_ (done_of HT_.out (by kernel_rfl)) ?_
  try go_wp2
  go_ret
  exact ⟨(by first | rfl | (simp [errW_none, errW_some] <;> rfl) | (simp [*, errW_none, errW_some] <;> rfl)), q17_9⟩
 ·
  replace c3 := Bool.eq_false_iff.mpr c3; subst c3
  rw [if_neg (show ¬ (false = true) by decide)] at H
  obtain rfl := Option.some.inj H
  go_enter Tryz.func19, Tryz.ntmps19
  go_wp2_with (first | (refine be_ 1 #[.int .i64 a0_0, .slice A0_1 l0_1.length c0_1] 26 ?_; intro gb491 hg w14 hbox hb; have n_ := ac_ (below_step s0_ hb) <| ac_ (hbox) <| ac_ ((gz_ w hg s0_)) <| Aside0.mk ((gz_ w hg s0_)); clear HB; obtain ⟨HB, BK491, GW491, GE491⟩ := n_; clear hb hbox hg; have hcz15_0 : w14.cell? ⟨gb491, 0, none⟩ = some (.int .i64 a0_0) := (blk_cell BK491.out 0).trans rfl; have hcz15_1 : w14.cell? ⟨gb491, 1, none⟩ = some (.slice A0_1 l0_1.length c0_1) := (blk_cell BK491.out 1).trans rfl; have hfz15_0 := blk_frozen BK491.out 0; have hfz15_1 := blk_frozen BK491.out 1) | (refine gL_ 44 4 Tryz.func44 #[.agg #[.int .i64 a0_0, .slice A0_1 l0_1.length c0_1]] ?_; (with_reducible refine (impl_IsContext.calls a0_0 _ _ l0_1 false _ ?side1 ?side2 A2.out).mono ?_); (case side1 => exact s2_); (case side2 => exact HC0_1.out); rintro e w16 ⟨rfl, hb⟩; refine ⟨_, rfl, ?_⟩; have n_ := ac_ (blk_below (g := gb491) (o := .cells #[.int .i64 a0_0, .slice A0_1 l0_1.length c0_1] 26 (0, 0)) q17_12 hb) <| Aside0.mk (below_step q17_9 hb); clear BK491 HB; obtain ⟨BK491, HB⟩ := n_; (try clear hb)))
  go_ret
  exact ⟨(by first | rfl | (simp [errW_none, errW_some] <;> rfl) | (simp [*, errW_none, errW_some] <;> rfl)), q17_9⟩
theorem bnd18_ {α β : Type} {o : Option α} {f : α → Option β} {r : β} (h : o.bind f = some r) : ∃ a, Aside0 (o = some a) ∧ f a = some r := by
 obtain ⟨a, h1, h2⟩ := Option.bind_eq_some_iff.mp h
 exact ⟨a, ⟨h1⟩, h2⟩
theorem q18_2 {P : Prop} (h : P := by repeat (first | exact (Kd.R_reads' HO364.out).2.2 | (with_reducible refine Kd.C_alloc ?_ _) | (with_reducible refine Kd.C_drewN ?_ _) | (with_reducible refine Kd.C_drew ?_))) : P := h
theorem q18_3 {P : Prop} (h : P := by repeat (first | (with_reducible first | exact HB.out | apply below_alloc | apply pw_below_drewN | apply below_drew1 | refine below_set ?_ GE361.out) | exact HB.out)) : P := h
theorem q18_6 {P : Prop} (h : P := by (with_reducible repeat (first | refine blk_drewN ?_ _ | refine blk_drew ?_ | refine blk_alloc ?_ _)); exact BK361.out) : P := h
def impl_JoinOf.f (k : Nat) (a0_0 : Int) (l0_1 : List Int) (a1 : Int) (a2 : Int) : Option (Int) := (impl_Concepts.f k a0_0 l0_1).bind fun t362 => ((impl_lattice_has.f t362 a1).bind fun t365 => (if t365 = true then ((impl_lattice_has.f t362 a2).bind fun t366 => (if t366 = true then ((impl_lattice_join.f t362 a1 a2).bind fun t367 => (some t367)) else (some (-1)))) else (some (-1))))
set_option maxHeartbeats 40000000 in
set_option maxRecDepth 100000 in
theorem impl_JoinOf.calls (k : Nat) (a0_0 : Int) (A0_1 : Option Addr) (c0_1 : Nat) (l0_1 : List Int) (a1 : Int) (a2 : Int) (r : Int) (w : World) (hr0_1 : Kd.C (Kd.int .i64) w A0_1 l0_1.length l0_1) (hc0_1 : l0_1.length ≤ c0_1) (htab : Tab64 w) (h : impl_JoinOf.f k a0_0 l0_1 a1 a2 = some r) :
  Calls Tryz.prog 7 #[.agg #[.int .i64 a0_0, .slice A0_1 l0_1.length c0_1], .int .i64 a1, .int .i64 a2] w fun e w' => e = .returned (.int .i64 r) ∧ Below w.heap.size w w' := by
 have HTB := Aside0.mk htab; clear htab; have hu26 := Tryz.underlying26; have HR0_1 := Aside0.mk hr0_1; have HC0_1 := Aside0.mk hc0_1; clear hr0_1 hc0_1; have HB := Aside0.mk (Below.refl w.heap.size w); have H := h; clear h; unfold impl_JoinOf.f at H; obtain ⟨t362, A4, H⟩ := bnd18_ H; obtain ⟨t365, A5, H⟩ := bnd18_ H
 by_cases c6 : t365 = true
 ·
  subst c6; rw [if_pos rfl] at H; obtain ⟨t366, A7, H⟩ := bnd18_ H
  by_cases c8 : t366 = true
  ·
   subst c8; rw [if_pos rfl] at H; obtain ⟨t367, A9, H⟩ := bnd18_ H; obtain rfl := Option.some.inj H
   go_enter Tryz.func7, Tryz.ntmps7
   go_wp2_with (first | (refine be_ 3 #[.int .i64 a0_0, .slice A0_1 l0_1.length c0_1] 26 ?_; intro gb361 hg w10 hbox hb; have n_ := ac_ (below_step s0_ hb) <| ac_ (hbox) <| ac_ ((gz_ w hg s0_)) <| Aside0.mk ((gz_ w hg s0_)); clear HB; obtain ⟨HB, BK361, GW361, GE361⟩ := n_; clear hb hbox hg; have hcz11_0 : w10.cell? ⟨gb361, 0, none⟩ = some (.int .i64 a0_0) := (blk_cell BK361.out 0).trans rfl; have hcz11_1 : w10.cell? ⟨gb361, 1, none⟩ = some (.slice A0_1 l0_1.length c0_1) := (blk_cell BK361.out 1).trans rfl; have hfz11_0 := blk_frozen BK361.out 0; have hfz11_1 := blk_frozen BK361.out 1) | (refine gL_ 30 9 Tryz.func30 #[.agg #[.int .i64 a0_0, .slice A0_1 l0_1.length c0_1]] ?_; (with_reducible refine (impl_Concepts.calls k a0_0 _ _ l0_1 t362 _ ?side1 ?side2 ?tab A4.out).mono ?_); (case tab => first | exact HTB.out | (refine Tab64.below HTB.out ?_; repeat (first | (with_reducible first | exact HB.out | apply below_alloc | apply pw_below_drewN | apply below_drew1 | refine below_set ?_ GE361.out) | exact HB.out)) | (repeat (first | exact HTB.out | apply Tab64.drewN | apply Tab64.drew | apply Tab64.alloc))); (case side1 => exact s2_); (case side2 => exact HC0_1.out); rintro e w12 ⟨v363, rfl, ho0, hb⟩; refine ⟨_, rfl, ?_⟩; have n_ := ac_ (Kd.R_lower ho0 (below_size q18_3)) <| ac_ (blk_below (g := gb361) (o := .cells #[.int .i64 a0_0, .slice A0_1 l0_1.length c0_1] 26 (0, 0)) q18_6 hb) <| Aside0.mk (below_step q18_3 hb); clear BK361 HB; obtain ⟨HO364, BK361, HB⟩ := n_; (try clear hb ho0); obtain ⟨Ao13, co13, eo13⟩ := Kd.R_slice HO364.out; subst eo13) | (refine gL_ 31 12 Tryz.func31 #[.slice Ao13 t362.length co13, .int .i64 a1] ?_; (with_reducible refine (impl_lattice_has.calls _ _ t362 a1 true _ ?side1 ?side2 A5.out).mono ?_); (case side1 => exact q18_2); (case side2 => exact (Kd.R_reads' HO364.out).2.1); rintro e w' ⟨rfl, ⟨nd, rfl⟩⟩; refine ⟨_, rfl, ?_⟩) | (go_at_call 31; (with_reducible refine (impl_lattice_has.calls _ _ t362 a2 true _ ?side1 ?side2 A7.out).mono ?_); (case side1 => exact q18_2); (case side2 => exact (Kd.R_reads' HO364.out).2.1); rintro e w' ⟨rfl, ⟨nd, rfl⟩⟩) | (refine gL_ 33 23 Tryz.func33 #[.slice Ao13 t362.length co13, .int .i64 a1, .int .i64 a2] ?_; (with_reducible refine (impl_lattice_join.calls _ _ t362 a1 a2 t367 _ ?side1 ?side2 A9.out).mono ?_); (case side1 => exact q18_2); (case side2 => exact (Kd.R_reads' HO364.out).2.1); rintro e w14 ⟨rfl, hb⟩; refine ⟨_, rfl, ?_⟩; have n_ := ac_ (Kd.R_below (by (with_reducible repeat (first | apply Kd.R_alloc | apply Kd.R_drewN | apply Kd.R_drew)); exact HO364.out) hb) <| ac_ (blk_below (g := gb361) (o := .cells #[.int .i64 a0_0, .slice A0_1 l0_1.length c0_1] 26 (0, 0)) q18_6 hb) <| Aside0.mk (below_step q18_3 hb); clear HO364 BK361 HB; obtain ⟨HO364, BK361, HB⟩ := n_; (try clear hb)))
   go_ret
   exact ⟨s5_, q18_3⟩
  ·
   replace c8 := Bool.eq_false_iff.mpr c8; subst c8
   rw [if_neg (show ¬ (false = true) by decide)] at H
   obtain rfl := Option.some.inj H
   go_enter Tryz.func7, Tryz.ntmps7
   go_wp2_with (first | (refine be_ 3 #[.int .i64 a0_0, .slice A0_1 l0_1.length c0_1] 26 ?_; intro gb361 hg w15 hbox hb; have n_ := ac_ (below_step s0_ hb) <| ac_ (hbox) <| ac_ ((gz_ w hg s0_)) <| Aside0.mk ((gz_ w hg s0_)); clear HB; obtain ⟨HB, BK361, GW361, GE361⟩ := n_; clear hb hbox hg; have hcz16_0 : w15.cell? ⟨gb361, 0, none⟩ = some (.int .i64 a0_0) := (blk_cell BK361.out 0).trans rfl; have hcz16_1 : w15.cell? ⟨gb361, 1, none⟩ = some (.slice A0_1 l0_1.length c0_1) := (blk_cell BK361.out 1).trans rfl; have hfz16_0 := blk_frozen BK361.out 0; have hfz16_1 := blk_frozen BK361.out 1) | (refine gL_ 30 9 Tryz.func30 #[.agg #[.int .i64 a0_0, .slice A0_1 l0_1.length c0_1]] ?_; (with_reducible refine (impl_Concepts.calls k a0_0 _ _ l0_1 t362 _ ?side1 ?side2 ?tab A4.out).mono ?_); (case tab => first | exact HTB.out | (refine Tab64.below HTB.out ?_; repeat (first | (with_reducible first | exact HB.out | apply below_alloc | apply pw_below_drewN | apply below_drew1 | refine below_set ?_ GE361.out) | exact HB.out)) | (repeat (first | exact HTB.out | apply Tab64.drewN | apply Tab64.drew | apply Tab64.alloc))); (case side1 => exact s2_); (case side2 => exact HC0_1.out); rintro e w17 ⟨v363, rfl, ho0, hb⟩; refine ⟨_, rfl, ?_⟩; have n_ := ac_ (Kd.R_lower ho0 (below_size q18_3)) <| ac_ (blk_below (g := gb361) (o := .cells #[.int .i64 a0_0, .slice A0_1 l0_1.length c0_1] 26 (0, 0)) q18_6 hb) <| Aside0.mk (below_step q18_3 hb); clear BK361 HB; obtain ⟨HO364, BK361, HB⟩ := n_; (try clear hb ho0); obtain ⟨Ao18, co18, eo18⟩ := Kd.R_slice HO364.out; subst eo18) | (refine gL_ 31 12 Tryz.func31 #[.slice Ao18 t362.length co18, .int .i64 a1] ?_; (with_reducible refine (impl_lattice_has.calls _ _ t362 a1 true _ ?side1 ?side2 A5.out).mono ?_); (case side1 => exact q18_2); (case side2 => exact (Kd.R_reads' HO364.out).2.1); rintro e w' ⟨rfl, ⟨nd, rfl⟩⟩; refine ⟨_, rfl, ?_⟩) | (go_at_call 31; (with_reducible refine (impl_lattice_has.calls _ _ t362 a2 false _ ?side1 ?side2 A7.out).mono ?_); (case side1 => exact q18_2); (case side2 => exact (Kd.R_reads' HO364.out).2.1); rintro e w' ⟨rfl, ⟨nd, rfl⟩⟩))
   go_ret
   exact ⟨s5_, q18_3⟩
 ·
  replace c6 := Bool.eq_false_iff.mpr c6; subst c6
  rw [if_neg (show ¬ (false = true) by decide)] at H
  obtain rfl := Option.some.inj H
  go_enter Tryz.func7, Tryz.ntmps7
  go_wp2_with (first | (refine be_ 3 #[.int .i64 a0_0, .slice A0_1 l0_1.length c0_1] 26 ?_; intro gb361 hg w19 hbox hb; have n_ := ac_ (below_step s0_ hb) <| ac_ (hbox) <| ac_ ((gz_ w hg s0_)) <| Aside0.mk ((gz_ w hg s0_)); clear HB; obtain ⟨HB, BK361, GW361, GE361⟩ := n_; clear hb hbox hg; have hcz20_0 : w19.cell? ⟨gb361, 0, none⟩ = some (.int .i64 a0_0) := (blk_cell BK361.out 0).trans rfl; have hcz20_1 : w19.cell? ⟨gb361, 1, none⟩ = some (.slice A0_1 l0_1.length c0_1) := (blk_cell BK361.out 1).trans rfl; have hfz20_0 := blk_frozen BK361.out 0; have hfz20_1 := blk_frozen BK361.out 1) | (refine gL_ 30 9 Tryz.func30 #[.agg #[.int .i64 a0_0, .slice A0_1 l0_1.length c0_1]] ?_; (with_reducible refine (impl_Concepts.calls k a0_0 _ _ l0_1 t362 _ ?side1 ?side2 ?tab A4.out).mono ?_); (case tab => first | exact HTB.out | (refine Tab64.below HTB.out ?_; repeat (first | (with_reducible first | exact HB.out | apply below_alloc | apply pw_below_drewN | apply below_drew1 | refine below_set ?_ GE361.out) | exact HB.out)) | (repeat (first | exact HTB.out | apply Tab64.drewN | apply Tab64.drew | apply Tab64.alloc))); (case side1 => exact s2_); (case side2 => exact HC0_1.out); rintro e w21 ⟨v363, rfl, ho0, hb⟩; refine ⟨_, rfl, ?_⟩; have n_ := ac_ (Kd.R_lower ho0 (below_size q18_3)) <| ac_ (blk_below (g := gb361) (o := .cells #[.int .i64 a0_0, .slice A0_1 l0_1.length c0_1] 26 (0, 0)) q18_6 hb) <| Aside0.mk (below_step q18_3 hb); clear BK361 HB; obtain ⟨HO364, BK361, HB⟩ := n_; (try clear hb ho0); obtain ⟨Ao22, co22, eo22⟩ := Kd.R_slice HO364.out; subst eo22) | (refine gL_ 31 12 Tryz.func31 #[.slice Ao22 t362.length co22, .int .i64 a1] ?_; (with_reducible refine (impl_lattice_has.calls _ _ t362 a1 false _ ?side1 ?side2 A5.out).mono ?_); (case side1 => exact q18_2); (case side2 => exact (Kd.R_reads' HO364.out).2.1); rintro e w' ⟨rfl, ⟨nd, rfl⟩⟩; refine ⟨_, rfl, ?_⟩))
  go_ret
  exact ⟨s5_, q18_3⟩
end Go.Proofs.YtfmpafgmcleogaaGreatDoor.Pr
namespace Go.Proofs.YtfmpafgmcleogaaGreatDoor.Pr
set_option maxHeartbeats 4000000
set_option maxRecDepth 100000
open Go.RowKit Go.Proofs.YtfmpafgmcleogaaGreatDoorW.PrintWords Go.Proofs.YtfmpafgmcleogaaGreatDoorW.PrintLast Go.Proofs.YtfmpafgmcleogaaGreatDoorW.PrintMore
set_option linter.unusedVariables false
set_option linter.unusedSimpArgs false
def belI (l : List S51) (i j : Nat) : Bool := Go.bits .andNot .i64 (l.getD i z51).f0 (l.getD j z51).f0 == 0
theorem belowI_val (l : List S51) {i j : Nat} (hi : i < l.length) (hj : j < l.length) : impl_lattice_below.f l (i : Int) (j : Int) = some (belI l i j) := by
  unfold impl_lattice_below.f impl_inSet.f
  rw [if_pos (by omega), if_pos (by omega), if_pos (by omega), if_pos (by omega), Option.bind_some]
  rfl
theorem underI_val (l : List S51) {i j : Nat} (hi : i < l.length) (hj : j < l.length) : impl_lattice_under.f l (i : Int) (j : Int) = some (decide (i ≠ j) && belI l i j) := by
  unfold impl_lattice_under.f
  by_cases e : i = j
  · rw [if_pos (by rw [e]), decide_eq_false (by simpa using e)]
    rfl
  · rw [if_neg (by omega), belowI_val l hi hj, Option.bind_some, decide_eq_true (show i ≠ j from e), Bool.true_and]
theorem covers_loop (l : List S51) {a b : Nat} (ha : a < l.length) (hb : b < l.length) (hl : l.length ≤ 1048576) : ∀ d i, i + d = l.length → Ev (fun k => impl_lattice_covers.l0 k l (a : Int) (b : Int) (l.length : Int) (i : Int)) ((List.range' i d).all fun k => !(decide (a ≠ k) && belI l a k && (decide (k ≠ b) && belI l k b))) := by
  intro d
  induction d with
  | zero =>
    intro i hi
    refine Ev.step (f := fun _ => some true) (fun k => ?_) (Ev.now _)
    simp only [impl_lattice_covers.l0]
    rw [if_neg (by omega)]
  | succ d ih =>
    intro i hi
    have h := ih (i + 1) (by omega)
    rw [List.range'_succ, List.all_cons]
    have ew : wrap64 ((i : Int) + 1) = ((i + 1 : Nat) : Int) := by unfold wrap64; omega
    refine Ev.step (f := fun k => if (decide (a ≠ i) && belI l a i) = true then (if (decide (i ≠ b) && belI l i b) = true then some false else impl_lattice_covers.l0 k l (a : Int) (b : Int) (l.length : Int) ((i + 1 : Nat) : Int)) else impl_lattice_covers.l0 k l (a : Int) (b : Int) (l.length : Int) ((i + 1 : Nat) : Int)) (fun k => ?_) ?_
    · simp only [impl_lattice_covers.l0]
      rw [if_pos (by omega), underI_val l ha (by omega), Option.bind_some, underI_val l (by omega) hb, Option.bind_some, ew]
    · cases (decide (a ≠ i) && belI l a i) with
      | false =>
        refine Ev.congr (fun k => by rw [if_neg (by decide)]) ?_
        exact h
      | true =>
        cases (decide (i ≠ b) && belI l i b) with
        | false =>
          refine Ev.congr (fun k => by rw [if_pos rfl, if_neg (by decide)]) ?_
          exact h
        | true => exact Ev.congr (fun k => by rw [if_pos rfl, if_pos rfl]) (Ev.now false)
theorem coversI_val (l : List S51) {a b : Nat} (ha : a < l.length) (hb : b < l.length) (hl : l.length ≤ 1048576) : Ev (fun k => impl_lattice_covers.f k l (a : Int) (b : Int)) (Pu.cov (belI l) l.length a b) := by
  unfold impl_lattice_covers.f Pu.cov
  rw [underI_val l ha hb]
  simp only [Option.bind_some]
  cases (decide (a ≠ b) && belI l a b) with
  | false => exact Ev.congr (fun k => by rw [if_neg (by decide)]) (Ev.now false)
  | true =>
    refine Ev.congr (fun k => by rw [if_pos rfl]) ?_
    rw [List.range_eq_range']
    exact covers_loop l ha hb hl l.length 0 (by omega)
def impl_lattice_upper_chosen0.f (l0 l1 : List S51) (a2 : Int) : Option (List Int) :=
  if 0 ≤ a2 ∧ a2 < (l1.length : Int) ∧ l0.length = l1.length ∧ l0.length ≤ 1048576 then some (choN (fun x => Pu.cov (belI l1) l1.length a2.toNat x.toNat) l0.length) else none
def impl_lattice_lower_chosen0.f (l0 l1 : List S51) (a2 : Int) : Option (List Int) :=
  if 0 ≤ a2 ∧ a2 < (l1.length : Int) ∧ l0.length = l1.length ∧ l0.length ≤ 1048576 then some (choN (fun x => Pu.cov (belI l1) l1.length x.toNat a2.toNat) l0.length) else none
theorem box_cellL {w w1 : World} {g : Nat} {cs : Array Value} {t : TypeId} (h : w.heap[g]? = some (.cells cs t (0, 0))) (hb : Below w.heap.size w w1) (i : Nat) : w1.cell? ⟨g, i, none⟩ = cs[i]? := blk_cell (blk_below h hb) i
theorem impl_lattice_upper_chosen0.calls (A0 : Option Addr) (c0 : Nat) (l0 : List S51) (A1 : Option Addr) (c1 : Nat) (l1 : List S51) (a2 : Int) (r : List Int) (w : World) (hr0 : Kd.C k51 w A0 l0.length l0) (hc0 : l0.length ≤ c0) (hr1 : Kd.C k51 w A1 l1.length l1) (hc1 : l1.length ≤ c1) (h : impl_lattice_upper_chosen0.f l0 l1 a2 = some r)
    {g g2 : Nat} (hg : w.heap[g]? = some (.cells #[.slice A1 l1.length c1] 40 (0, 0))) (hg2 : w.heap[g2]? = some (.cells #[.int .i64 a2] 3 (0, 0))) :
    Calls Tryz.prog 60 #[.slice A0 l0.length c0, .func (.func 61) #[] #[.pointer (some ⟨g, 0, none⟩), .pointer (some ⟨g2, 0, none⟩)]] w fun e w' => ∃ v0_ : Value, e = .returned (v0_) ∧ Kd.R (Kd.int .i64) 3 w' w.heap.size (fun _ => True) v0_ r ∧ Below w.heap.size w w' := by
  unfold impl_lattice_upper_chosen0.f at h
  by_cases hn : 0 ≤ a2 ∧ a2 < (l1.length : Int) ∧ l0.length = l1.length ∧ l0.length ≤ 1048576
  · rw [if_pos hn] at h
    obtain rfl := Option.some.inj h
    obtain ⟨a, rfl⟩ : ∃ a : Nat, a2 = (a : Int) := ⟨a2.toNat, by omega⟩
    have eg : ∀ args w, (callFunc 61 args).run Tryz.prog w = .ok (.enter 61 args) w := enters_of Tryz.func61 (by kernel_rfl) rfl
    refine chosen_at 61 #[.pointer (some ⟨g, 0, none⟩), .pointer (some ⟨g2, 0, none⟩)] eg _ A0 c0 l0.length w hn.2.2.2 ?_
    intro W x hx0 hx1 hb
    obtain ⟨y, rfl⟩ : ∃ y : Nat, x = (y : Int) := ⟨x.toNat, by omega⟩
    rw [show (#[.int .i64 (y : Int)] ++ #[.pointer (some ⟨g, 0, none⟩), .pointer (some ⟨g2, 0, none⟩)] : Array Value) = #[.int .i64 (y : Int), .pointer (some ⟨g, 0, none⟩), .pointer (some ⟨g2, 0, none⟩)] from rfl]
    obtain ⟨k, hk⟩ := Ev.rounds (coversI_val l1 (a := a) (b := y) (by omega) (by omega) (by omega))
    have hc0 : W.cell? ⟨g, 0, none⟩ = some (.slice A1 l1.length c1) := (box_cellL hg hb 0).trans rfl
    have hc2 : W.cell? ⟨g2, 0, none⟩ = some (.int .i64 (a : Int)) := (box_cellL hg2 hb 0).trans rfl
    have HR := Aside0.mk (Kd.C_below hr1 hb)
    have HC := Aside0.mk hc1
    have HK := Aside0.mk hk
    rw [Int.toNat_natCast, Int.toNat_natCast]
    clear hr1 hc1 hk hn hg hg2 h hr0 hx0 hx1
    generalize Pu.cov (belI l1) l1.length a y = q at *
    generalize (a : Int) = ai at *
    generalize (y : Int) = yi at *
    go_enter Tryz.func61, Tryz.ntmps61
    go_wp2_with (go_at_call 62; refine (impl_lattice_covers.calls k A1 c1 l1 ai yi q _ (by first | exact HR.out | exact Kd.C_drewN HR.out _) HC.out HK.out).mono ?_; rintro e w' ⟨rfl, ⟨nd, rfl⟩⟩)
    go_ret
    exact ⟨rfl, by repeat (first | exact Below.refl _ _ | apply below_alloc | apply pw_below_drewN | apply below_drew1)⟩
  · rw [if_neg hn] at h
    cases h
theorem impl_lattice_lower_chosen0.calls (A0 : Option Addr) (c0 : Nat) (l0 : List S51) (A1 : Option Addr) (c1 : Nat) (l1 : List S51) (a2 : Int) (r : List Int) (w : World) (hr0 : Kd.C k51 w A0 l0.length l0) (hc0 : l0.length ≤ c0) (hr1 : Kd.C k51 w A1 l1.length l1) (hc1 : l1.length ≤ c1) (h : impl_lattice_lower_chosen0.f l0 l1 a2 = some r)
    {g g2 : Nat} (hg : w.heap[g]? = some (.cells #[.slice A1 l1.length c1] 40 (0, 0))) (hg2 : w.heap[g2]? = some (.cells #[.int .i64 a2] 3 (0, 0))) :
    Calls Tryz.prog 60 #[.slice A0 l0.length c0, .func (.func 63) #[] #[.pointer (some ⟨g, 0, none⟩), .pointer (some ⟨g2, 0, none⟩)]] w fun e w' => ∃ v0_ : Value, e = .returned (v0_) ∧ Kd.R (Kd.int .i64) 3 w' w.heap.size (fun _ => True) v0_ r ∧ Below w.heap.size w w' := by
  unfold impl_lattice_lower_chosen0.f at h
  by_cases hn : 0 ≤ a2 ∧ a2 < (l1.length : Int) ∧ l0.length = l1.length ∧ l0.length ≤ 1048576
  · rw [if_pos hn] at h
    obtain rfl := Option.some.inj h
    obtain ⟨a, rfl⟩ : ∃ a : Nat, a2 = (a : Int) := ⟨a2.toNat, by omega⟩
    have eg : ∀ args w, (callFunc 63 args).run Tryz.prog w = .ok (.enter 63 args) w := enters_of Tryz.func63 (by kernel_rfl) rfl
    refine chosen_at 63 #[.pointer (some ⟨g, 0, none⟩), .pointer (some ⟨g2, 0, none⟩)] eg _ A0 c0 l0.length w hn.2.2.2 ?_
    intro W x hx0 hx1 hb
    obtain ⟨y, rfl⟩ : ∃ y : Nat, x = (y : Int) := ⟨x.toNat, by omega⟩
    rw [show (#[.int .i64 (y : Int)] ++ #[.pointer (some ⟨g, 0, none⟩), .pointer (some ⟨g2, 0, none⟩)] : Array Value) = #[.int .i64 (y : Int), .pointer (some ⟨g, 0, none⟩), .pointer (some ⟨g2, 0, none⟩)] from rfl]
    obtain ⟨k, hk⟩ := Ev.rounds (coversI_val l1 (a := y) (b := a) (by omega) (by omega) (by omega))
    have hc0 : W.cell? ⟨g, 0, none⟩ = some (.slice A1 l1.length c1) := (box_cellL hg hb 0).trans rfl
    have hc2 : W.cell? ⟨g2, 0, none⟩ = some (.int .i64 (a : Int)) := (box_cellL hg2 hb 0).trans rfl
    have HR := Aside0.mk (Kd.C_below hr1 hb)
    have HC := Aside0.mk hc1
    have HK := Aside0.mk hk
    rw [Int.toNat_natCast, Int.toNat_natCast]
    clear hr1 hc1 hk hn hg hg2 h hr0 hx0 hx1
    generalize Pu.cov (belI l1) l1.length y a = q at *
    generalize (a : Int) = ai at *
    generalize (y : Int) = yi at *
    go_enter Tryz.func63, Tryz.ntmps63
    go_wp2_with (go_at_call 62; refine (impl_lattice_covers.calls k A1 c1 l1 yi ai q _ (by first | exact HR.out | exact Kd.C_drewN HR.out _) HC.out HK.out).mono ?_; rintro e w' ⟨rfl, ⟨nd, rfl⟩⟩)
    go_ret
    exact ⟨rfl, by repeat (first | exact Below.refl _ _ | apply below_alloc | apply pw_below_drewN | apply below_drew1)⟩
  · rw [if_neg hn] at h
    cases h
end Go.Proofs.YtfmpafgmcleogaaGreatDoor.Pr
namespace Go.Proofs.YtfmpafgmcleogaaGreatDoor.Pr
open Go.RowKit Go.Proofs.YtfmpafgmcleogaaGreatDoorW.PrintWords Go.Proofs.YtfmpafgmcleogaaGreatDoorW.PrintLast Go.Proofs.YtfmpafgmcleogaaGreatDoorW.PrintMore
attribute [local go_sem] max2_int min2_int max_two min_two max_three min_three max_four min_four
set_option linter.unusedVariables false
set_option linter.unusedSimpArgs false
theorem bnd13_ {α β : Type} {o : Option α} {f : α → Option β} {r : β} (h : o.bind f = some r) : ∃ a, Aside0 (o = some a) ∧ f a = some r := by
 obtain ⟨a, h1, h2⟩ := Option.bind_eq_some_iff.mp h
 exact ⟨a, ⟨h1⟩, h2⟩
theorem q13_1 {P : Prop} (h : P := by repeat (first | (with_reducible first | exact HB.out | apply below_alloc | apply pw_below_drewN | apply below_drew1 | refine below_set ?_ GE383.out | refine below_set ?_ GE384.out) | exact HB.out)) : P := h
theorem q13_3 {P : Prop} (h : P := by repeat (first | (with_reducible first | exact HB.out | apply below_alloc | apply pw_below_drewN | apply below_drew1 | refine below_set ?_ GE383.out) | exact HB.out)) : P := h
theorem q13_5 {P : Prop} (h : P := by (with_reducible repeat (first | refine blk_drewN ?_ _ | refine blk_drew ?_ | refine blk_alloc ?_ _)); exact BK383.out) : P := h
theorem q13_6 {P : Prop} (h : P := by (with_reducible repeat (first | refine blk_drewN ?_ _ | refine blk_drew ?_ | refine blk_alloc ?_ _)); exact BK384.out) : P := h
def impl_lattice_upper.f (l0 : List (S51)) (a1 : Int) : Option (List Int) := (impl_lattice_upper_chosen0.f l0 l0 a1).bind fun t385 => (some t385)
set_option maxHeartbeats 40000000 in
set_option maxRecDepth 100000 in
theorem impl_lattice_upper.calls (A0 : Option Addr) (c0 : Nat) (l0 : List (S51)) (a1 : Int) (r : List Int) (w : World) (hr0 : Kd.C k51 w A0 l0.length l0) (hc0 : l0.length ≤ c0) (h : impl_lattice_upper.f l0 a1 = some r) :
  Calls Tryz.prog 34 #[.slice A0 l0.length c0, .int .i64 a1] w fun e w' => ∃ v0_ : Value, e = .returned (v0_) ∧ Kd.R (Kd.int .i64) 3 w' w.heap.size (fun _ => True) v0_ r ∧ Below w.heap.size w w' := by
 have HR0 := Aside0.mk hr0; have HC0 := Aside0.mk hc0; clear hr0 hc0; have HB := Aside0.mk (Below.refl w.heap.size w); have H := h; clear h; unfold impl_lattice_upper.f at H; obtain ⟨t385, A3, H⟩ := bnd13_ H; obtain rfl := Option.some.inj H
 go_enter Tryz.func34, Tryz.ntmps34
 go_wp2_with (first | (refine be_ 2 #[.slice A0 l0.length c0] 40 ?_; intro gb383 hg w4 hbox hb; have n_ := ac_ (below_step s0_ hb) <| ac_ (hbox) <| ac_ ((gz_ w hg s0_)) <| Aside0.mk ((gz_ w hg s0_)); clear HB; obtain ⟨HB, BK383, GW383, GE383⟩ := n_; clear hb hbox hg) | (refine be_ 3 #[.int .i64 a1] 3 ?_; intro gb384 hg w5 hbox hb; have n_ := ac_ (blk_below (g := gb383) (o := .cells #[.slice A0 l0.length c0] 40 (0, 0)) q13_5 hb) <| ac_ (below_step q13_3 hb) <| ac_ (hbox) <| ac_ ((gz_ w hg q13_3)) <| ac_ ((gz_ w hg q13_3)) <| ac_ ((nl_ hg (blk_lt (g := gb383) (o := .cells #[.slice A0 l0.length c0] 40 (0, 0)) q13_5))) <| Aside0.mk ((ng_ hg (blk_lt (g := gb383) (o := .cells #[.slice A0 l0.length c0] 40 (0, 0)) q13_5))); clear BK383 HB; obtain ⟨BK383, HB, BK384, GW384, GE384, NB383_384, NB384_383⟩ := n_; clear hb hbox hg; have hnb6 := NB383_384.out; have hnc6 := NB384_383.out; have hcz7_0 : w5.cell? ⟨gb383, 0, none⟩ = some (.slice A0 l0.length c0) := (blk_cell BK383.out 0).trans rfl; have hfz7_0 := blk_frozen BK383.out 0; have hcz8_0 : w5.cell? ⟨gb384, 0, none⟩ = some (.int .i64 a1) := (blk_cell BK384.out 0).trans rfl; have hfz8_0 := blk_frozen BK384.out 0) | ((with_reducible refine gate_callee (f := 60) rfl ?_); refine goesL_ (some 7) rfl rfl Tryz.func60 (by kernel_rfl) rfl #[.slice A0 l0.length c0, .func (.func 61) #[] #[.pointer (some ⟨gb383, 0, none⟩), .pointer (some ⟨gb384, 0, none⟩)]] rfl (by (try simp only [List.map_toArray, List.map_cons, List.map_nil]); first | done | rfl | (simp only [List.length_drop, List.length_take]; rfl)) ?_; (with_reducible refine (impl_lattice_upper_chosen0.calls ?u3_1 ?u3_2 l0 ?u3_3 ?u3_4 l0 a1 t385 _ ?side1 ?side2 ?side3 ?side4 A3.out ?box0 ?box1).mono ?_); (case box0 => (with_reducible repeat (first | refine blk_drewN ?_ _ | refine blk_drew ?_ | refine blk_alloc ?_ _)); exact BK383.out); (case box1 => (with_reducible repeat (first | refine blk_drewN ?_ _ | refine blk_drew ?_ | refine blk_alloc ?_ _)); exact BK384.out); (case side1 => exact s12_); (case side2 => exact HC0.out); (case side3 => exact s12_); (case side4 => exact HC0.out); rintro e w9 ⟨v386, rfl, ho0, hb⟩; refine ⟨_, rfl, ?_⟩; have n_ := ac_ (Kd.R_lower (Kd.R_newB ho0 (g := gb384) (o := .cells #[.int .i64 a1] 3 (0, 0)) q13_6) (below_size q13_1)) <| ac_ (blk_below (g := gb383) (o := .cells #[.slice A0 l0.length c0] 40 (0, 0)) q13_5 hb) <| ac_ (blk_below (g := gb384) (o := .cells #[.int .i64 a1] 3 (0, 0)) q13_6 hb) <| Aside0.mk (below_step q13_1 hb); clear BK383 BK384 HB; obtain ⟨HO387, BK383, BK384, HB⟩ := n_; (try clear hb ho0)))
 go_ret
 exact ⟨_, (by first | rfl | (simp [errW_none, errW_some] <;> rfl) | (simp [*, errW_none, errW_some] <;> rfl)), (by (with_reducible repeat (first | apply Kd.R_alloc | apply Kd.R_drewN | apply Kd.R_drew)); exact Kd.R_mono HO387.out (fun _ hk => trivial)), q13_1⟩
set_option maxHeartbeats 40000000
set_option maxRecDepth 100000
theorem bnd19_ {α β : Type} {o : Option α} {f : α → Option β} {r : β} (h : o.bind f = some r) : ∃ a, Aside0 (o = some a) ∧ f a = some r := by
 obtain ⟨a, h1, h2⟩ := Option.bind_eq_some_iff.mp h
 exact ⟨a, ⟨h1⟩, h2⟩
theorem q19_2 {P : Prop} (h : P := by repeat (first | exact (Kd.R_reads' HO391.out).2.2 | (with_reducible refine Kd.C_alloc ?_ _) | (with_reducible refine Kd.C_drewN ?_ _) | (with_reducible refine Kd.C_drew ?_))) : P := h
theorem q19_3 {P : Prop} (h : P := by repeat (first | (with_reducible first | exact HB.out | apply below_alloc | apply pw_below_drewN | apply below_drew1 | refine below_set ?_ GE388.out) | exact HB.out)) : P := h
theorem q19_6 {P : Prop} (h : P := by (with_reducible repeat (first | refine blk_drewN ?_ _ | refine blk_drew ?_ | refine blk_alloc ?_ _)); exact BK388.out) : P := h
def impl_UpperCovers.f (k : Nat) (a0_0 : Int) (l0_1 : List Int) (a1 : Int) : Option (List Int) := (impl_Concepts.f k a0_0 l0_1).bind fun t389 => ((impl_lattice_has.f t389 a1).bind fun t392 => (if t392 = true then ((impl_lattice_upper.f t389 a1).bind fun t393 => (some t393)) else (some ([] : List Int))))
theorem impl_UpperCovers.calls (k : Nat) (a0_0 : Int) (A0_1 : Option Addr) (c0_1 : Nat) (l0_1 : List Int) (a1 : Int) (r : List Int) (w : World) (hr0_1 : Kd.C (Kd.int .i64) w A0_1 l0_1.length l0_1) (hc0_1 : l0_1.length ≤ c0_1) (htab : Tab64 w) (h : impl_UpperCovers.f k a0_0 l0_1 a1 = some r) :
  Calls Tryz.prog 9 #[.agg #[.int .i64 a0_0, .slice A0_1 l0_1.length c0_1], .int .i64 a1] w fun e w' => ∃ v0_ : Value, e = .returned (v0_) ∧ Kd.R (Kd.int .i64) 3 w' w.heap.size (fun _ => True) v0_ r ∧ Below w.heap.size w w' := by
 have HTB := Aside0.mk htab; clear htab; have hu26 := Tryz.underlying26; have HR0_1 := Aside0.mk hr0_1; have HC0_1 := Aside0.mk hc0_1; clear hr0_1 hc0_1; have HB := Aside0.mk (Below.refl w.heap.size w); have H := h; clear h; unfold impl_UpperCovers.f at H; obtain ⟨t389, A3, H⟩ := bnd19_ H; obtain ⟨t392, A4, H⟩ := bnd19_ H
 by_cases c5 : t392 = true
 ·
  subst c5; rw [if_pos rfl] at H; obtain ⟨t393, A6, H⟩ := bnd19_ H; obtain rfl := Option.some.inj H
  go_enter Tryz.func9, Tryz.ntmps9
  go_wp2_with (first | (refine be_ 2 #[.int .i64 a0_0, .slice A0_1 l0_1.length c0_1] 26 ?_; intro gb388 hg w7 hbox hb; have n_ := ac_ (below_step s0_ hb) <| ac_ (hbox) <| ac_ ((gz_ w hg s0_)) <| Aside0.mk ((gz_ w hg s0_)); clear HB; obtain ⟨HB, BK388, GW388, GE388⟩ := n_; clear hb hbox hg; have hcz8_0 : w7.cell? ⟨gb388, 0, none⟩ = some (.int .i64 a0_0) := (blk_cell BK388.out 0).trans rfl; have hcz8_1 : w7.cell? ⟨gb388, 1, none⟩ = some (.slice A0_1 l0_1.length c0_1) := (blk_cell BK388.out 1).trans rfl; have hfz8_0 := blk_frozen BK388.out 0; have hfz8_1 := blk_frozen BK388.out 1) | (refine gL_ 30 7 Tryz.func30 #[.agg #[.int .i64 a0_0, .slice A0_1 l0_1.length c0_1]] ?_; (with_reducible refine (impl_Concepts.calls k a0_0 _ _ l0_1 t389 _ ?side1 ?side2 ?tab A3.out).mono ?_); (case tab => first | exact HTB.out | (refine Tab64.below HTB.out ?_; repeat (first | (with_reducible first | exact HB.out | apply below_alloc | apply pw_below_drewN | apply below_drew1 | refine below_set ?_ GE388.out) | exact HB.out)) | (repeat (first | exact HTB.out | apply Tab64.drewN | apply Tab64.drew | apply Tab64.alloc))); (case side1 => exact s2_); (case side2 => exact HC0_1.out); rintro e w9 ⟨v390, rfl, ho0, hb⟩; refine ⟨_, rfl, ?_⟩; have n_ := ac_ (Kd.R_lower ho0 (below_size q19_3)) <| ac_ (blk_below (g := gb388) (o := .cells #[.int .i64 a0_0, .slice A0_1 l0_1.length c0_1] 26 (0, 0)) q19_6 hb) <| Aside0.mk (below_step q19_3 hb); clear BK388 HB; obtain ⟨HO391, BK388, HB⟩ := n_; (try clear hb ho0); obtain ⟨Ao10, co10, eo10⟩ := Kd.R_slice HO391.out; subst eo10) | (refine gL_ 31 10 Tryz.func31 #[.slice Ao10 t389.length co10, .int .i64 a1] ?_; (with_reducible refine (impl_lattice_has.calls _ _ t389 a1 true _ ?side1 ?side2 A4.out).mono ?_); (case side1 => exact q19_2); (case side2 => exact (Kd.R_reads' HO391.out).2.1); rintro e w' ⟨rfl, ⟨nd, rfl⟩⟩; refine ⟨_, rfl, ?_⟩) | (refine gL_ 34 14 Tryz.func34 #[.slice Ao10 t389.length co10, .int .i64 a1] ?_; (with_reducible refine (impl_lattice_upper.calls _ _ t389 a1 t393 _ ?side1 ?side2 A6.out).mono ?_); (case side1 => exact q19_2); (case side2 => exact (Kd.R_reads' HO391.out).2.1); rintro e w11 ⟨v394, rfl, ho0, hb⟩; refine ⟨_, rfl, ?_⟩; have n_ := ac_ (Kd.R_below (by (with_reducible repeat (first | apply Kd.R_alloc | apply Kd.R_drewN | apply Kd.R_drew)); exact HO391.out) hb) <| ac_ (Kd.R_lower ho0 (below_size q19_3)) <| ac_ (blk_below (g := gb388) (o := .cells #[.int .i64 a0_0, .slice A0_1 l0_1.length c0_1] 26 (0, 0)) q19_6 hb) <| Aside0.mk (below_step q19_3 hb); clear HO391 BK388 HB; obtain ⟨HO391, HO395, BK388, HB⟩ := n_; (try clear hb ho0)))
  go_ret
  exact ⟨_, (by first | rfl | (simp [errW_none, errW_some] <;> rfl) | (simp [*, errW_none, errW_some] <;> rfl)), (by (with_reducible repeat (first | apply Kd.R_alloc | apply Kd.R_drewN | apply Kd.R_drew)); exact HO395.out), q19_3⟩
 ·
  replace c5 := Bool.eq_false_iff.mpr c5; subst c5
  rw [if_neg (show ¬ (false = true) by decide)] at H
  obtain rfl := Option.some.inj H
  go_enter Tryz.func9, Tryz.ntmps9
  go_wp2_with (first | (refine be_ 2 #[.int .i64 a0_0, .slice A0_1 l0_1.length c0_1] 26 ?_; intro gb388 hg w12 hbox hb; have n_ := ac_ (below_step s0_ hb) <| ac_ (hbox) <| ac_ ((gz_ w hg s0_)) <| Aside0.mk ((gz_ w hg s0_)); clear HB; obtain ⟨HB, BK388, GW388, GE388⟩ := n_; clear hb hbox hg; have hcz13_0 : w12.cell? ⟨gb388, 0, none⟩ = some (.int .i64 a0_0) := (blk_cell BK388.out 0).trans rfl; have hcz13_1 : w12.cell? ⟨gb388, 1, none⟩ = some (.slice A0_1 l0_1.length c0_1) := (blk_cell BK388.out 1).trans rfl; have hfz13_0 := blk_frozen BK388.out 0; have hfz13_1 := blk_frozen BK388.out 1) | (refine gL_ 30 7 Tryz.func30 #[.agg #[.int .i64 a0_0, .slice A0_1 l0_1.length c0_1]] ?_; (with_reducible refine (impl_Concepts.calls k a0_0 _ _ l0_1 t389 _ ?side1 ?side2 ?tab A3.out).mono ?_); (case tab => first | exact HTB.out | (refine Tab64.below HTB.out ?_; repeat (first | (with_reducible first | exact HB.out | apply below_alloc | apply pw_below_drewN | apply below_drew1 | refine below_set ?_ GE388.out) | exact HB.out)) | (repeat (first | exact HTB.out | apply Tab64.drewN | apply Tab64.drew | apply Tab64.alloc))); (case side1 => exact s2_); (case side2 => exact HC0_1.out); rintro e w14 ⟨v390, rfl, ho0, hb⟩; refine ⟨_, rfl, ?_⟩; have n_ := ac_ (Kd.R_lower ho0 (below_size q19_3)) <| ac_ (blk_below (g := gb388) (o := .cells #[.int .i64 a0_0, .slice A0_1 l0_1.length c0_1] 26 (0, 0)) q19_6 hb) <| Aside0.mk (below_step q19_3 hb); clear BK388 HB; obtain ⟨HO391, BK388, HB⟩ := n_; (try clear hb ho0); obtain ⟨Ao15, co15, eo15⟩ := Kd.R_slice HO391.out; subst eo15) | (refine gL_ 31 10 Tryz.func31 #[.slice Ao15 t389.length co15, .int .i64 a1] ?_; (with_reducible refine (impl_lattice_has.calls _ _ t389 a1 false _ ?side1 ?side2 A4.out).mono ?_); (case side1 => exact q19_2); (case side2 => exact (Kd.R_reads' HO391.out).2.1); rintro e w' ⟨rfl, ⟨nd, rfl⟩⟩; refine ⟨_, rfl, ?_⟩))
  go_ret
  exact ⟨_, (by first | rfl | (simp [errW_none, errW_some] <;> rfl) | (simp [*, errW_none, errW_some] <;> rfl)), (by first | exact Kd.R_nil _ _ _ _ _ | exact Kd.N_nil _ _ _ _ _ | exact Kd.V_nil _ _ _ _ _ | exact Kd.Q_nil _ _ _ _ _ | exact Kd.S_nil _ _ _ _ _), q19_3⟩
theorem q19_7 {P : Prop} (h : P := by repeat (first | (with_reducible first | exact HB.out | apply below_alloc | apply pw_below_drewN | apply below_drew1 | refine below_set ?_ GE527.out) | exact HB.out)) : P := h
theorem q19_10 {P : Prop} (h : P := by (with_reducible repeat (first | refine blk_drewN ?_ _ | refine blk_drew ?_ | refine blk_alloc ?_ _)); exact BK527.out) : P := h
def impl_CountEdges.l0 : Nat → List (S51) → Int → Int → Int → Option (Int)
 | 0, _, _, _, _ => none
 | k + 1, x3, x4, x9, x10 => if x10 < x9 then ((impl_lattice_upper.f x3 x10).bind fun t531 => (impl_CountEdges.l0 k x3 (wrap64 (x4 + (t531.length : Int))) x9 (wrap64 (x10 + 1)))) else (some x4)
def impl_CountEdges.f (k : Nat) (a0_0 : Int) (l0_1 : List Int) : Option (Int) := (impl_Concepts.f k a0_0 l0_1).bind fun t528 => (impl_CountEdges.l0 k t528 0 (t528.length : Int) 0)
theorem impl_CountEdges.calls (k : Nat) (a0_0 : Int) (A0_1 : Option Addr) (c0_1 : Nat) (l0_1 : List Int) (r : Int) (w : World) (hr0_1 : Kd.C (Kd.int .i64) w A0_1 l0_1.length l0_1) (hc0_1 : l0_1.length ≤ c0_1) (htab : Tab64 w) (h : impl_CountEdges.f k a0_0 l0_1 = some r) :
  Calls Tryz.prog 25 #[.agg #[.int .i64 a0_0, .slice A0_1 l0_1.length c0_1]] w fun e w' => e = .returned (.int .i64 r) ∧ Below w.heap.size w w' := by
 have HTB := Aside0.mk htab; clear htab; have hu26 := Tryz.underlying26; have HR0_1 := Aside0.mk hr0_1; have HC0_1 := Aside0.mk hc0_1; clear hr0_1 hc0_1; have HB := Aside0.mk (Below.refl w.heap.size w); have H := h; clear h; unfold impl_CountEdges.f at H; obtain ⟨t528, A2, H⟩ := bnd19_ H; have H' := Aside0.mk H; clear H
 go_enter Tryz.func25, Tryz.ntmps25
 go_wp2_with (first | (refine be_ 1 #[.int .i64 a0_0, .slice A0_1 l0_1.length c0_1] 26 ?_; intro gb527 hg w3 hbox hb; have n_ := ac_ (below_step s0_ hb) <| ac_ (hbox) <| ac_ ((gz_ w hg s0_)) <| Aside0.mk ((gz_ w hg s0_)); clear HB; obtain ⟨HB, BK527, GW527, GE527⟩ := n_; clear hb hbox hg; have hcz4_0 : w3.cell? ⟨gb527, 0, none⟩ = some (.int .i64 a0_0) := (blk_cell BK527.out 0).trans rfl; have hcz4_1 : w3.cell? ⟨gb527, 1, none⟩ = some (.slice A0_1 l0_1.length c0_1) := (blk_cell BK527.out 1).trans rfl; have hfz4_0 := blk_frozen BK527.out 0; have hfz4_1 := blk_frozen BK527.out 1) | (refine gL_ 30 7 Tryz.func30 #[.agg #[.int .i64 a0_0, .slice A0_1 l0_1.length c0_1]] ?_; (with_reducible refine (impl_Concepts.calls k a0_0 _ _ l0_1 t528 _ ?side1 ?side2 ?tab A2.out).mono ?_); (case tab => first | exact HTB.out | (refine Tab64.below HTB.out ?_; repeat (first | (with_reducible first | exact HB.out | apply below_alloc | apply pw_below_drewN | apply below_drew1 | refine below_set ?_ GE527.out) | exact HB.out)) | (repeat (first | exact HTB.out | apply Tab64.drewN | apply Tab64.drew | apply Tab64.alloc))); (case side1 => repeat (first | exact (Kd.C_below HR0_1.out HB.out) | (with_reducible refine Kd.C_alloc ?_ _) | (with_reducible refine Kd.C_drewN ?_ _) | (with_reducible refine Kd.C_drew ?_))); (case side2 => exact HC0_1.out); rintro e w5 ⟨v529, rfl, ho0, hb⟩; refine ⟨_, rfl, ?_⟩; have n_ := ac_ (Kd.R_lower ho0 (below_size q19_7)) <| ac_ (blk_below (g := gb527) (o := .cells #[.int .i64 a0_0, .slice A0_1 l0_1.length c0_1] 26 (0, 0)) q19_10 hb) <| Aside0.mk (below_step q19_7 hb); clear BK527 HB; obtain ⟨HO530, BK527, HB⟩ := n_; (try clear hb ho0); obtain ⟨Ao6, co6, eo6⟩ := Kd.R_slice HO530.out; subst eo6))
 go_loopg [4, 10] k (fun kq v4 v10 w' => ∃ (x4_1 : Int) (x10_1 : Int), v4 = .int .i64 x4_1 ∧ v10 = .int .i64 x10_1 ∧ Aside0 (impl_CountEdges.l0 kq t528 x4_1 (t528.length : Int) x10_1 = some r) ∧ Aside0 (kq ≤ k) ∧ Aside0 (Kd.R k51 51 w' w.heap.size (fun _ => True) (.slice Ao6 t528.length co6) t528) ∧ Aside0 (w'.heap[gb527]? = some (.cells #[.int .i64 a0_0, (.slice A0_1 l0_1.length c0_1)] 26 (0, 0))) ∧ Aside0 (Below w.heap.size w w'))
 case atStart => exact ⟨(0), (0), s3_, s3_, H', ⟨Nat.le_refl _⟩, ⟨(by (with_reducible repeat (first | apply Kd.R_alloc | apply Kd.R_drewN | apply Kd.R_drew)); exact HO530.out)⟩, ⟨q19_10⟩, ⟨q19_7⟩⟩
 case round =>
  clear H'
  try clear c2
  try clear p2
  try clear c3
  try clear hcz4_0
  try clear hcz4_1
  try clear hfz4_0
  try clear hfz4_1
  obtain ⟨x4_1, x10_1, rfl, rfl, HA, HK1, HO_3, BK527, HB⟩ := hrel
  cases gk with
  | zero => exact absurd HA.out (by simp [impl_CountEdges.l0])
  | succ k1 =>
   have H := HA.out; clear HA
   simp only [impl_CountEdges.l0] at H
   by_cases c7 : x10_1 < (t528.length : Int)
   ·
    rw [if_pos c7] at H; have c7b0 : decide (x10_1 < (t528.length : Int)) = true := decide_eq_true c7; clear c7; obtain ⟨t531, A8, H⟩ := bnd19_ H; have H' := Aside0.mk H; clear H
    go_wp2_with (first | (refine gL_ 34 16 Tryz.func34 #[.slice Ao6 t528.length co6, .int .i64 x10_1] ?_; (with_reducible refine (impl_lattice_upper.calls _ _ t528 x10_1 t531 _ ?side1 ?side2 A8.out).mono ?_); (case side1 => repeat (first | exact (Kd.R_reads' HO_3.out).2.2 | (with_reducible refine Kd.C_alloc ?_ _) | (with_reducible refine Kd.C_drewN ?_ _) | (with_reducible refine Kd.C_drew ?_))); (case side2 => exact (Kd.R_reads' HO_3.out).2.1); rintro e w9 ⟨v532, rfl, ho0, hb⟩; refine ⟨_, rfl, ?_⟩; have n_ := ac_ (Kd.R_below (by (with_reducible repeat (first | apply Kd.R_alloc | apply Kd.R_drewN | apply Kd.R_drew)); exact HO_3.out) hb) <| ac_ (Kd.R_lower ho0 (below_size q19_7)) <| ac_ (blk_below (g := gb527) (o := .cells #[.int .i64 a0_0, .slice A0_1 l0_1.length c0_1] 26 (0, 0)) q19_10 hb) <| Aside0.mk (below_step q19_7 hb); clear HO_3 BK527 HB; obtain ⟨HO_3, HO533, BK527, HB⟩ := n_; (try clear hb ho0); obtain ⟨Ao10, co10, eo10⟩ := Kd.R_slice HO533.out; subst eo10))
    go_roundg k1
    case measure => have := HK1.out; omega
    case rel => exact ⟨(wrap64 (x4_1 + (t531.length : Int))), (wrap64 (x10_1 + 1)), s3_, s3_, H', ⟨by have := HK1.out; omega⟩, ⟨(by (with_reducible repeat (first | apply Kd.R_alloc | apply Kd.R_drewN | apply Kd.R_drew)); exact HO_3.out)⟩, ⟨q19_10⟩, ⟨q19_7⟩⟩
   ·
    rw [if_neg c7] at H; have c7b0 : decide (x10_1 < (t528.length : Int)) = false := decide_eq_false c7; clear c7; obtain rfl := Option.some.inj H
    go_wp2
    go_ret
    exact ⟨(by first | rfl | (simp [errW_none, errW_some] <;> rfl) | (simp [*, errW_none, errW_some] <;> rfl)), q19_7⟩
theorem bnd14_ {α β : Type} {o : Option α} {f : α → Option β} {r : β} (h : o.bind f = some r) : ∃ a, Aside0 (o = some a) ∧ f a = some r := by
 obtain ⟨a, h1, h2⟩ := Option.bind_eq_some_iff.mp h
 exact ⟨a, ⟨h1⟩, h2⟩
theorem q14_1 {P : Prop} (h : P := by repeat (first | (with_reducible first | exact HB.out | apply below_alloc | apply pw_below_drewN | apply below_drew1 | refine below_set ?_ GE396.out | refine below_set ?_ GE397.out) | exact HB.out)) : P := h
theorem q14_3 {P : Prop} (h : P := by repeat (first | (with_reducible first | exact HB.out | apply below_alloc | apply pw_below_drewN | apply below_drew1 | refine below_set ?_ GE396.out) | exact HB.out)) : P := h
theorem q14_5 {P : Prop} (h : P := by (with_reducible repeat (first | refine blk_drewN ?_ _ | refine blk_drew ?_ | refine blk_alloc ?_ _)); exact BK396.out) : P := h
theorem q14_6 {P : Prop} (h : P := by (with_reducible repeat (first | refine blk_drewN ?_ _ | refine blk_drew ?_ | refine blk_alloc ?_ _)); exact BK397.out) : P := h
def impl_lattice_lower.f (l0 : List (S51)) (a1 : Int) : Option (List Int) := (impl_lattice_lower_chosen0.f l0 l0 a1).bind fun t398 => (some t398)
set_option maxHeartbeats 40000000 in
set_option maxRecDepth 100000 in
theorem impl_lattice_lower.calls (A0 : Option Addr) (c0 : Nat) (l0 : List (S51)) (a1 : Int) (r : List Int) (w : World) (hr0 : Kd.C k51 w A0 l0.length l0) (hc0 : l0.length ≤ c0) (h : impl_lattice_lower.f l0 a1 = some r) :
  Calls Tryz.prog 35 #[.slice A0 l0.length c0, .int .i64 a1] w fun e w' => ∃ v0_ : Value, e = .returned (v0_) ∧ Kd.R (Kd.int .i64) 3 w' w.heap.size (fun _ => True) v0_ r ∧ Below w.heap.size w w' := by
 have HR0 := Aside0.mk hr0; have HC0 := Aside0.mk hc0; clear hr0 hc0; have HB := Aside0.mk (Below.refl w.heap.size w); have H := h; clear h; unfold impl_lattice_lower.f at H; obtain ⟨t398, A3, H⟩ := bnd14_ H; obtain rfl := Option.some.inj H
 go_enter Tryz.func35, Tryz.ntmps35
 go_wp2_with (first | (refine be_ 2 #[.slice A0 l0.length c0] 40 ?_; intro gb396 hg w4 hbox hb; have n_ := ac_ (below_step s0_ hb) <| ac_ (hbox) <| ac_ ((gz_ w hg s0_)) <| Aside0.mk ((gz_ w hg s0_)); clear HB; obtain ⟨HB, BK396, GW396, GE396⟩ := n_; clear hb hbox hg) | (refine be_ 3 #[.int .i64 a1] 3 ?_; intro gb397 hg w5 hbox hb; have n_ := ac_ (blk_below (g := gb396) (o := .cells #[.slice A0 l0.length c0] 40 (0, 0)) q14_5 hb) <| ac_ (below_step q14_3 hb) <| ac_ (hbox) <| ac_ ((gz_ w hg q14_3)) <| ac_ ((gz_ w hg q14_3)) <| ac_ ((nl_ hg (blk_lt (g := gb396) (o := .cells #[.slice A0 l0.length c0] 40 (0, 0)) q14_5))) <| Aside0.mk ((ng_ hg (blk_lt (g := gb396) (o := .cells #[.slice A0 l0.length c0] 40 (0, 0)) q14_5))); clear BK396 HB; obtain ⟨BK396, HB, BK397, GW397, GE397, NB396_397, NB397_396⟩ := n_; clear hb hbox hg; have hnb6 := NB396_397.out; have hnc6 := NB397_396.out; have hcz7_0 : w5.cell? ⟨gb396, 0, none⟩ = some (.slice A0 l0.length c0) := (blk_cell BK396.out 0).trans rfl; have hfz7_0 := blk_frozen BK396.out 0; have hcz8_0 : w5.cell? ⟨gb397, 0, none⟩ = some (.int .i64 a1) := (blk_cell BK397.out 0).trans rfl; have hfz8_0 := blk_frozen BK397.out 0) | ((with_reducible refine gate_callee (f := 60) rfl ?_); refine goesL_ (some 7) rfl rfl Tryz.func60 (by kernel_rfl) rfl #[.slice A0 l0.length c0, .func (.func 63) #[] #[.pointer (some ⟨gb396, 0, none⟩), .pointer (some ⟨gb397, 0, none⟩)]] rfl (by (try simp only [List.map_toArray, List.map_cons, List.map_nil]); first | done | rfl | (simp only [List.length_drop, List.length_take]; rfl)) ?_; (with_reducible refine (impl_lattice_lower_chosen0.calls ?u4_1 ?u4_2 l0 ?u4_3 ?u4_4 l0 a1 t398 _ ?side1 ?side2 ?side3 ?side4 A3.out ?box0 ?box1).mono ?_); (case box0 => (with_reducible repeat (first | refine blk_drewN ?_ _ | refine blk_drew ?_ | refine blk_alloc ?_ _)); exact BK396.out); (case box1 => (with_reducible repeat (first | refine blk_drewN ?_ _ | refine blk_drew ?_ | refine blk_alloc ?_ _)); exact BK397.out); (case side1 => exact s12_); (case side2 => exact HC0.out); (case side3 => exact s12_); (case side4 => exact HC0.out); rintro e w9 ⟨v399, rfl, ho0, hb⟩; refine ⟨_, rfl, ?_⟩; have n_ := ac_ (Kd.R_lower (Kd.R_newB ho0 (g := gb397) (o := .cells #[.int .i64 a1] 3 (0, 0)) q14_6) (below_size q14_1)) <| ac_ (blk_below (g := gb396) (o := .cells #[.slice A0 l0.length c0] 40 (0, 0)) q14_5 hb) <| ac_ (blk_below (g := gb397) (o := .cells #[.int .i64 a1] 3 (0, 0)) q14_6 hb) <| Aside0.mk (below_step q14_1 hb); clear BK396 BK397 HB; obtain ⟨HO400, BK396, BK397, HB⟩ := n_; (try clear hb ho0)))
 go_ret
 exact ⟨_, (by first | rfl | (simp [errW_none, errW_some] <;> rfl) | (simp [*, errW_none, errW_some] <;> rfl)), (by (with_reducible repeat (first | apply Kd.R_alloc | apply Kd.R_drewN | apply Kd.R_drew)); exact Kd.R_mono HO400.out (fun _ hk => trivial)), q14_1⟩
theorem bnd20_ {α β : Type} {o : Option α} {f : α → Option β} {r : β} (h : o.bind f = some r) : ∃ a, Aside0 (o = some a) ∧ f a = some r := by
 obtain ⟨a, h1, h2⟩ := Option.bind_eq_some_iff.mp h
 exact ⟨a, ⟨h1⟩, h2⟩
theorem q20_2 {P : Prop} (h : P := by repeat (first | exact (Kd.R_reads' HO404.out).2.2 | (with_reducible refine Kd.C_alloc ?_ _) | (with_reducible refine Kd.C_drewN ?_ _) | (with_reducible refine Kd.C_drew ?_))) : P := h
theorem q20_3 {P : Prop} (h : P := by repeat (first | (with_reducible first | exact HB.out | apply below_alloc | apply pw_below_drewN | apply below_drew1 | refine below_set ?_ GE401.out) | exact HB.out)) : P := h
theorem q20_6 {P : Prop} (h : P := by (with_reducible repeat (first | refine blk_drewN ?_ _ | refine blk_drew ?_ | refine blk_alloc ?_ _)); exact BK401.out) : P := h
def impl_LowerCovers.f (k : Nat) (a0_0 : Int) (l0_1 : List Int) (a1 : Int) : Option (List Int) := (impl_Concepts.f k a0_0 l0_1).bind fun t402 => ((impl_lattice_has.f t402 a1).bind fun t405 => (if t405 = true then ((impl_lattice_lower.f t402 a1).bind fun t406 => (some t406)) else (some ([] : List Int))))
set_option maxHeartbeats 40000000 in
set_option maxRecDepth 100000 in
theorem impl_LowerCovers.calls (k : Nat) (a0_0 : Int) (A0_1 : Option Addr) (c0_1 : Nat) (l0_1 : List Int) (a1 : Int) (r : List Int) (w : World) (hr0_1 : Kd.C (Kd.int .i64) w A0_1 l0_1.length l0_1) (hc0_1 : l0_1.length ≤ c0_1) (htab : Tab64 w) (h : impl_LowerCovers.f k a0_0 l0_1 a1 = some r) :
  Calls Tryz.prog 10 #[.agg #[.int .i64 a0_0, .slice A0_1 l0_1.length c0_1], .int .i64 a1] w fun e w' => ∃ v0_ : Value, e = .returned (v0_) ∧ Kd.R (Kd.int .i64) 3 w' w.heap.size (fun _ => True) v0_ r ∧ Below w.heap.size w w' := by
 have HTB := Aside0.mk htab; clear htab; have hu26 := Tryz.underlying26; have HR0_1 := Aside0.mk hr0_1; have HC0_1 := Aside0.mk hc0_1; clear hr0_1 hc0_1; have HB := Aside0.mk (Below.refl w.heap.size w); have H := h; clear h; unfold impl_LowerCovers.f at H; obtain ⟨t402, A3, H⟩ := bnd20_ H; obtain ⟨t405, A4, H⟩ := bnd20_ H
 by_cases c5 : t405 = true
 ·
  subst c5; rw [if_pos rfl] at H; obtain ⟨t406, A6, H⟩ := bnd20_ H; obtain rfl := Option.some.inj H
  go_enter Tryz.func10, Tryz.ntmps10
  go_wp2_with (first | (refine be_ 2 #[.int .i64 a0_0, .slice A0_1 l0_1.length c0_1] 26 ?_; intro gb401 hg w7 hbox hb; have n_ := ac_ (below_step s0_ hb) <| ac_ (hbox) <| ac_ ((gz_ w hg s0_)) <| Aside0.mk ((gz_ w hg s0_)); clear HB; obtain ⟨HB, BK401, GW401, GE401⟩ := n_; clear hb hbox hg; have hcz8_0 : w7.cell? ⟨gb401, 0, none⟩ = some (.int .i64 a0_0) := (blk_cell BK401.out 0).trans rfl; have hcz8_1 : w7.cell? ⟨gb401, 1, none⟩ = some (.slice A0_1 l0_1.length c0_1) := (blk_cell BK401.out 1).trans rfl; have hfz8_0 := blk_frozen BK401.out 0; have hfz8_1 := blk_frozen BK401.out 1) | (refine gL_ 30 7 Tryz.func30 #[.agg #[.int .i64 a0_0, .slice A0_1 l0_1.length c0_1]] ?_; (with_reducible refine (impl_Concepts.calls k a0_0 _ _ l0_1 t402 _ ?side1 ?side2 ?tab A3.out).mono ?_); (case tab => first | exact HTB.out | (refine Tab64.below HTB.out ?_; repeat (first | (with_reducible first | exact HB.out | apply below_alloc | apply pw_below_drewN | apply below_drew1 | refine below_set ?_ GE401.out) | exact HB.out)) | (repeat (first | exact HTB.out | apply Tab64.drewN | apply Tab64.drew | apply Tab64.alloc))); (case side1 => exact s2_); (case side2 => exact HC0_1.out); rintro e w9 ⟨v403, rfl, ho0, hb⟩; refine ⟨_, rfl, ?_⟩; have n_ := ac_ (Kd.R_lower ho0 (below_size q20_3)) <| ac_ (blk_below (g := gb401) (o := .cells #[.int .i64 a0_0, .slice A0_1 l0_1.length c0_1] 26 (0, 0)) q20_6 hb) <| Aside0.mk (below_step q20_3 hb); clear BK401 HB; obtain ⟨HO404, BK401, HB⟩ := n_; (try clear hb ho0); obtain ⟨Ao10, co10, eo10⟩ := Kd.R_slice HO404.out; subst eo10) | (refine gL_ 31 10 Tryz.func31 #[.slice Ao10 t402.length co10, .int .i64 a1] ?_; (with_reducible refine (impl_lattice_has.calls _ _ t402 a1 true _ ?side1 ?side2 A4.out).mono ?_); (case side1 => exact q20_2); (case side2 => exact (Kd.R_reads' HO404.out).2.1); rintro e w' ⟨rfl, ⟨nd, rfl⟩⟩; refine ⟨_, rfl, ?_⟩) | (refine gL_ 35 14 Tryz.func35 #[.slice Ao10 t402.length co10, .int .i64 a1] ?_; (with_reducible refine (impl_lattice_lower.calls _ _ t402 a1 t406 _ ?side1 ?side2 A6.out).mono ?_); (case side1 => exact q20_2); (case side2 => exact (Kd.R_reads' HO404.out).2.1); rintro e w11 ⟨v407, rfl, ho0, hb⟩; refine ⟨_, rfl, ?_⟩; have n_ := ac_ (Kd.R_below (by (with_reducible repeat (first | apply Kd.R_alloc | apply Kd.R_drewN | apply Kd.R_drew)); exact HO404.out) hb) <| ac_ (Kd.R_lower ho0 (below_size q20_3)) <| ac_ (blk_below (g := gb401) (o := .cells #[.int .i64 a0_0, .slice A0_1 l0_1.length c0_1] 26 (0, 0)) q20_6 hb) <| Aside0.mk (below_step q20_3 hb); clear HO404 BK401 HB; obtain ⟨HO404, HO408, BK401, HB⟩ := n_; (try clear hb ho0)))
  go_ret
  exact ⟨_, (by first | rfl | (simp [errW_none, errW_some] <;> rfl) | (simp [*, errW_none, errW_some] <;> rfl)), (by (with_reducible repeat (first | apply Kd.R_alloc | apply Kd.R_drewN | apply Kd.R_drew)); exact HO408.out), q20_3⟩
 ·
  replace c5 := Bool.eq_false_iff.mpr c5; subst c5
  rw [if_neg (show ¬ (false = true) by decide)] at H
  obtain rfl := Option.some.inj H
  go_enter Tryz.func10, Tryz.ntmps10
  go_wp2_with (first | (refine be_ 2 #[.int .i64 a0_0, .slice A0_1 l0_1.length c0_1] 26 ?_; intro gb401 hg w12 hbox hb; have n_ := ac_ (below_step s0_ hb) <| ac_ (hbox) <| ac_ ((gz_ w hg s0_)) <| Aside0.mk ((gz_ w hg s0_)); clear HB; obtain ⟨HB, BK401, GW401, GE401⟩ := n_; clear hb hbox hg; have hcz13_0 : w12.cell? ⟨gb401, 0, none⟩ = some (.int .i64 a0_0) := (blk_cell BK401.out 0).trans rfl; have hcz13_1 : w12.cell? ⟨gb401, 1, none⟩ = some (.slice A0_1 l0_1.length c0_1) := (blk_cell BK401.out 1).trans rfl; have hfz13_0 := blk_frozen BK401.out 0; have hfz13_1 := blk_frozen BK401.out 1) | (refine gL_ 30 7 Tryz.func30 #[.agg #[.int .i64 a0_0, .slice A0_1 l0_1.length c0_1]] ?_; (with_reducible refine (impl_Concepts.calls k a0_0 _ _ l0_1 t402 _ ?side1 ?side2 ?tab A3.out).mono ?_); (case tab => first | exact HTB.out | (refine Tab64.below HTB.out ?_; repeat (first | (with_reducible first | exact HB.out | apply below_alloc | apply pw_below_drewN | apply below_drew1 | refine below_set ?_ GE401.out) | exact HB.out)) | (repeat (first | exact HTB.out | apply Tab64.drewN | apply Tab64.drew | apply Tab64.alloc))); (case side1 => exact s2_); (case side2 => exact HC0_1.out); rintro e w14 ⟨v403, rfl, ho0, hb⟩; refine ⟨_, rfl, ?_⟩; have n_ := ac_ (Kd.R_lower ho0 (below_size q20_3)) <| ac_ (blk_below (g := gb401) (o := .cells #[.int .i64 a0_0, .slice A0_1 l0_1.length c0_1] 26 (0, 0)) q20_6 hb) <| Aside0.mk (below_step q20_3 hb); clear BK401 HB; obtain ⟨HO404, BK401, HB⟩ := n_; (try clear hb ho0); obtain ⟨Ao15, co15, eo15⟩ := Kd.R_slice HO404.out; subst eo15) | (refine gL_ 31 10 Tryz.func31 #[.slice Ao15 t402.length co15, .int .i64 a1] ?_; (with_reducible refine (impl_lattice_has.calls _ _ t402 a1 false _ ?side1 ?side2 A4.out).mono ?_); (case side1 => exact q20_2); (case side2 => exact (Kd.R_reads' HO404.out).2.1); rintro e w' ⟨rfl, ⟨nd, rfl⟩⟩; refine ⟨_, rfl, ?_⟩))
  go_ret
  exact ⟨_, (by first | rfl | (simp [errW_none, errW_some] <;> rfl) | (simp [*, errW_none, errW_some] <;> rfl)), (by first | exact Kd.R_nil _ _ _ _ _ | exact Kd.N_nil _ _ _ _ _ | exact Kd.V_nil _ _ _ _ _ | exact Kd.Q_nil _ _ _ _ _ | exact Kd.S_nil _ _ _ _ _), q20_3⟩
end Go.Proofs.YtfmpafgmcleogaaGreatDoor.Pr
namespace Go.Proofs.YtfmpafgmcleogaaGreatDoor.Pr
open Go.RowKit Go.Maps Go.Proofs.YtfmpafgmcleogaaGreatDoorW.PrintWords Go.Proofs.YtfmpafgmcleogaaGreatDoorW.PrintLast Go.Proofs.YtfmpafgmcleogaaGreatDoorW.PrintMore
attribute [local go_sem] max2_int min2_int max_two min_two
set_option linter.unusedVariables false
set_option linter.unusedSimpArgs false
theorem law3H : Keyed Tryz.prog 3 := int_keyed Tryz.underlying3
theorem zero3H (w : World) : (zeroValue 3).run Tryz.prog w = .ok (.int .i64 0) w := by kernel_rfl
theorem far_self (U : Nat → Nat → Bool) (k : Nat) : Pu.far U k ≤ k := by
  induction k using Nat.strongRecOn with
  | ind k ih => exact Pu.far_le fun i hi _ => by have := ih i hi; omega
theorem gr_alloc {w W : World} {r : Option Nat} (h : w.grownBy W r) (o : Obj) : w.grownBy (W.alloc o) r := h.trans (World.grownBy_alloc W o r)
theorem gr_drewN {w W : World} {r : Option Nat} (h : w.grownBy W r) (n : Nat) : w.grownBy (W.drewN n) r := ⟨h.os, h.tape, h.output, h.size, h.block⟩
theorem gr_below {w W w1 : World} {r : Option Nat} (h : w.grownBy W r) (hb : Below W.heap.size W w1) : w.grownBy w1 r := h.trans ⟨hb.os, hb.tape, hb.output, hb.size, fun i hi _ => hb.block i hi⟩
theorem own_below {w w1 : World} {B n : Nat} {D : DataW Unit} (h : w.ownsMap Tryz.prog 3 (plainElem Tryz.prog 3) B n D) (hb : Below w.heap.size w w1) : w1.ownsMap Tryz.prog 3 (plainElem Tryz.prog 3) B n D := by
  obtain ⟨es, cl, h1, h2⟩ := h
  exact ⟨es, cl, blk_below h1 hb, h2⟩
theorem own_drewN {w : World} {B n : Nat} {D : DataW Unit} (h : w.ownsMap Tryz.prog 3 (plainElem Tryz.prog 3) B n D) (m : Nat) : (w.drewN m).ownsMap Tryz.prog 3 (plainElem Tryz.prog 3) B n D := h
theorem upper_at (l : List S51) {a : Nat} (ha : a < l.length) (hl : l.length ≤ 256) : impl_lattice_upper.f l (a : Int) = some (Pu.upN (belI l) l.length a |>.map fun i : Nat => (i : Int)) := by
  unfold impl_lattice_upper.f impl_lattice_upper_chosen0.f
  rw [if_pos (by omega), Option.bind_some]
  unfold choN Pu.upN
  simp only [Int.toNat_natCast]
def stepH (U : Nat → Nat → Bool) (b x : Nat) : Nat := max b (1 + Pu.far U x)
theorem stepH_take (U : Nat → Nat → Bool) (L : List Nat) {i : Nat} (hi : i < L.length) : (L.take (i + 1)).foldl (stepH U) 0 = stepH U ((L.take i).foldl (stepH U) 0) (L.getD i 0) := by
  rw [List.take_add_one, List.foldl_append, List.getElem?_eq_getElem hi, List.getD_eq_getElem?_getD, List.getElem?_eq_getElem hi]
  rfl
set_option maxHeartbeats 40000000 in
set_option maxRecDepth 100000 in
theorem height_at (l : List S51) (hl : l.length ≤ 256) (hd : ∀ a b, a < l.length → b < l.length → belI l a b = true → a ≠ b → b < a) (ht : ∀ a b c, a < l.length → b < l.length → c < l.length → belI l a b = true → belI l b c = true → belI l a c = true)
    (A : Option Addr) (c : Nat) (w0 : World) (hr : Kd.C k51 w0 A l.length l) (hc : l.length ≤ c) (B : Nat) (hB0 : w0.heap.size ≤ B) : ∀ (d a : Nat), a < d → a < l.length → ∀ (D : DataW Unit) (w : World), agrees (Pu.far (belI l)) D →
    w.ownsMap Tryz.prog 3 (plainElem Tryz.prog 3) B (known l.length D) D → Below w0.heap.size w0 w →
    Calls Tryz.prog 48 #[.slice A l.length c, .int .i64 (a : Int), .map (some B)] w fun e w' => e = .returned (.int .i64 (Pu.far (belI l) a : Int)) ∧ ∃ D' : DataW Unit, agrees (Pu.far (belI l)) D' ∧
      w'.ownsMap Tryz.prog 3 (plainElem Tryz.prog 3) B (known l.length D') D' ∧ (∀ y, a < y → Maps.has D' (kyH y) = Maps.has D (kyH y)) ∧ w.grownBy w' (some B) := by
  intro d
  induction d with
  | zero => intro a h; omega
  | succ d ih =>
    intro a had ha D w hag hown hB
    have IH := Aside0.mk ih
    have HR := Aside0.mk hr
    have HC := Aside0.mk hc
    have HA := Aside0.mk had
    have HN := Aside0.mk ha
    have HL := Aside0.mk hl
    have HAG := Aside0.mk hag
    have HOW := Aside0.mk hown
    have HB := Aside0.mk hB
    have HG := Aside0.mk (World.grownBy.refl w (some B))
    have HB0 := Aside0.mk hB0
    have hU := upper_at l ha hl
    obtain ⟨L, hL⟩ : ∃ L, L = Pu.upN (belI l) l.length a := ⟨_, rfl⟩
    rw [← hL] at hU
    have hF : L.foldl (stepH (belI l)) 0 = Pu.far (belI l) a := by rw [hL]; exact Pu.far_up hd ht ha
    have hM : ∀ i, i < L.length → L.getD i 0 < a ∧ L.getD i 0 < l.length := by
      intro i hi
      have hm : L.getD i 0 ∈ L := by rw [List.getD_eq_getElem?_getD, List.getElem?_eq_getElem hi]; exact List.getElem_mem hi
      have hm2 : L.getD i 0 ∈ Pu.upN (belI l) l.length a := hL ▸ hm
      obtain ⟨h1, h2⟩ := Pu.mem_upN.1 hm2
      obtain ⟨⟨h3, h4⟩, _⟩ := Pu.cov_iff.1 h2
      exact ⟨hd a _ ha h1 h4 h3, h1⟩
    have hLn : L.length ≤ 256 := by rw [hL]; exact Nat.le_trans (List.length_filter_le _ _) (by rw [List.length_range]; exact hl)
    obtain ⟨Li, hLi⟩ : ∃ Li : List Int, Li = L.map fun i : Nat => (i : Int) := ⟨_, rfl⟩
    rw [← hLi] at hU
    have hE : Li.length = L.length := by rw [hLi, List.length_map]
    have hRD : ∀ i : Nat, i < L.length → rd Li (i : Int) = ((L.getD i 0 : Nat) : Int) := by
      intro i hi
      rw [hLi]
      unfold rd
      rw [Int.toNat_natCast, List.getD_eq_getElem?_getD, List.getElem?_map, List.getD_eq_getElem?_getD, List.getElem?_eq_getElem hi]
      rfl
    have HU := Aside0.mk hU
    have HF := Aside0.mk hF
    have HM := Aside0.mk hM
    have HE := Aside0.mk hE
    have HRD := Aside0.mk hRD
    have HLN := Aside0.mk hLn
    have HFS : Aside0 (∀ x, Pu.far (belI l) x ≤ x) := ⟨far_self _⟩
    clear hU hF hM hE hRD hL hLi hLn
    have HBL := Aside0.mk (World.ownsMap.lt hown)
    have hkey : keyOf Tryz.prog 3 (.int .i64 (a : Int)) = some (kyH a) := keyOf_int_mk Tryz.underlying3 (WalkArith.wf_i64 (by omega))
    have HKY := Aside0.mk hkey
    clear ih hr hc had ha hag hown hB hB0 hd ht hkey
    cases hh : Maps.has D (kyH a) with
    | true =>
      have HH := Aside0.mk hh
      clear hh
      go_enter Tryz.func48, Tryz.ntmps48
      go_wp2_with (at_lookup; refine wpList_lookup_own_ok_int _ rfl _ _ 58 rfl 3 3 .i64 law3H Tryz.underlying58 Tryz.underlying3 (zero3H _) B (known l.length D) D rfl HOW.out _ _ rfl HKY.out ?_; intro c1 hat hwc; rw [HH.out]; have HAT := Aside0.mk hat; clear hat hwc)
      go_ret
      have h1 := HAG.out.2 a HH.out (.lit (.int .i64 0))
      rw [HAT.out] at h1
      injection h1 with h1
      injection h1 with _ h1
      subst h1
      exact ⟨rfl, D, HAG.out, HOW.out, fun _ _ => rfl, HG.out⟩
    | false =>
      have HH := Aside0.mk hh
      clear hh
      go_enter Tryz.func48, Tryz.ntmps48
      go_wp2_with (first
        | (at_lookup; refine wpList_lookup_own_ok_int _ rfl _ _ 58 rfl 3 3 .i64 law3H Tryz.underlying58 Tryz.underlying3 (zero3H _) B (known l.length D) D rfl HOW.out _ _ rfl HKY.out ?_; intro c1 hat hwc; rw [HH.out]; clear hat hwc)
        | (go_at_call 34; refine (impl_lattice_upper.calls A c l (a : Int) _ _ (by first | exact Kd.C_below HR.out HB.out | exact Kd.C_drewN (Kd.C_below HR.out HB.out) _) HC.out HU.out).mono ?_; rintro e w1 ⟨v1, rfl, ho, hb⟩; have HO := Aside0.mk (Kd.R_mono (Kd.R_bound ho) (ok' := fun k => k ≠ B) (fun k hk e => by have h1 := hk.2.1; have h2 := HBL.out; subst e; exact absurd h1 (by first | exact Nat.not_le.2 h2 | exact Nat.not_le.2 (blk_lt_drewN h2)))); have HOW1 := Aside0.mk (own_below (by first | exact HOW.out | exact own_drewN HOW.out _) hb); have HG1 := Aside0.mk (gr_below (by repeat (first | exact HG.out | apply gr_drewN | apply gr_alloc)) hb); clear hb ho; obtain ⟨Ao, co, eo⟩ := Kd.R_slice HO.out; subst eo))
      go_loopg [9, 24] (L.length + 1) (fun kq v9 v24 w' => ∃ (b i : Nat) (D1 : DataW Unit), v9 = .int .i64 (b : Int) ∧ v24 = .int .i64 (i : Int) ∧ Aside0 (i ≤ L.length ∧ L.length - i < kq) ∧ Aside0 (b = (L.take i).foldl (stepH (belI l)) 0 ∧ b ≤ 256) ∧ Aside0 (agrees (Pu.far (belI l)) D1) ∧ Aside0 (w'.ownsMap Tryz.prog 3 (plainElem Tryz.prog 3) B (known l.length D1) D1) ∧ Aside0 (∀ y, a ≤ y → Maps.has D1 (kyH y) = Maps.has D (kyH y)) ∧ Aside0 (Kd.R (Kd.int .i64) 3 w' w.heap.size (fun k => k ≠ B) (.slice Ao Li.length co) Li) ∧ Aside0 (w.grownBy w' (some B)))
      case atStart => exact ⟨0, 0, D, rfl, rfl, ⟨Nat.zero_le _, by omega⟩, ⟨rfl, Nat.zero_le _⟩, HAG, HOW1, ⟨fun _ _ => rfl⟩, HO, HG1⟩
      case round =>
        obtain ⟨b, i, D1, rfl, rfl, HI, HBE, HAG1, HOW1, HHS, HO1, HG1⟩ := hrel
        by_cases hlt : i < L.length
        · have hltI : (i : Int) < (Li.length : Int) := by rw [HE.out]; omega
          have c0 : decide ((i : Int) < (Li.length : Int)) = true := decide_eq_true hltI
          obtain ⟨ad, e, hx⟩ := Kd.at_int (Kd.R_reads' HO1.out).2.2 (i : Int) (by omega) hltI
          cases e
          rw [HRD.out i hlt, Int.toNat_natCast] at hx
          obtain ⟨x, hxe⟩ : ∃ x, x = L.getD i 0 := ⟨_, rfl⟩
          have HX : Aside0 (x < a ∧ x < l.length) := ⟨by rw [hxe]; exact HM.out i hlt⟩
          rw [← hxe] at hx
          have HXE := Aside0.mk hxe
          clear hxe
          have HLT := Aside0.mk hlt
          have p0 : (0 ≤ (i : Int)) = True := eq_true (by omega)
          have hlt2 : ((i : Int) < (Li.length : Int)) = True := eq_true hltI
          have hwx : wrap64 (1 + ((Pu.far (belI l) x : Nat) : Int)) = ((1 + Pu.far (belI l) x : Nat) : Int) := by
            have h1 := HFS.out x; have h2 := HX.out; have h3 := HL.out
            unfold wrap64; omega
          have hwi : wrap64 ((i : Int) + 1) = ((i + 1 : Nat) : Int) := by
            have h2 := HLN.out
            unfold wrap64; omega
          have HWI := Aside0.mk hwi
          have hX := HX.out
          have HXd : Aside0 (x < d) := ⟨by have h1 := HA.out; omega⟩
          clear hX hlt hltI hwi
          go_wp2_with (go_at_call 48; refine (IH.out x HXd.out HX.out.2 D1 _ HAG1.out (by first | exact HOW1.out | exact own_drewN HOW1.out _) (Below.grown HB.out (by repeat (first | exact HG1.out | apply gr_drewN | apply gr_alloc)) HB.out.size (fun k e => by cases e; exact HB0.out))).mono ?_; rintro e w2 ⟨rfl, D2, hag2, hown2, hhs2, hg2⟩; have HAG2 := Aside0.mk hag2; have HOW2 := Aside0.mk hown2; have HHS2 := Aside0.mk hhs2; have HO2 := Aside0.mk (Kd.R_grown HO1.out hg2 (fun k hk e => hk (Option.some.inj e))); have HG2 := Aside0.mk (World.grownBy.trans (by repeat (first | exact HG1.out | apply gr_drewN | apply gr_alloc)) hg2); clear hag2 hown2 hhs2 hg2)
          all_goals have HHN : Aside0 (∀ y, a ≤ y → Maps.has D2 (kyH y) = Maps.has D (kyH y)) := ⟨fun y hy => by have h1 := HX.out; exact (HHS2.out y (by omega)).trans (HHS.out y hy)⟩
          all_goals have HST : Aside0 ((L.take (i + 1)).foldl (stepH (belI l)) 0 = max b (1 + Pu.far (belI l) x)) := ⟨by rw [stepH_take _ _ HLT.out, ← HBE.out.1, ← HXE.out]; rfl⟩
          · have HMX := Aside0.mk h
            clear h
            go_roundg (gk - 1)
            case measure => have h1 := HI.out; have h2 := HLT.out; omega
            case rel => exact ⟨1 + Pu.far (belI l) x, i + 1, D2, by rw [Int.natCast_add]; rfl, by rw [HWI.out], ⟨by have h1 := HI.out; have h2 := HLT.out; omega⟩, ⟨by rw [HST.out]; have h1 := HMX.out; omega, by have h1 := HFS.out x; have h2 := HX.out; have h3 := HN.out; have h4 := HL.out; omega⟩, HAG2, HOW2, HHN, HO2, HG2⟩
          · have HMX := Aside0.mk h
            clear h
            go_roundg (gk - 1)
            case measure => have h1 := HI.out; have h2 := HLT.out; omega
            case rel => exact ⟨b, i + 1, D2, rfl, by rw [HWI.out], ⟨by have h1 := HI.out; have h2 := HLT.out; omega⟩, ⟨by rw [HST.out]; have h1 := HMX.out; omega, HBE.out.2⟩, HAG2, HOW2, HHN, HO2, HG2⟩
        · have c0 : (i < Li.length) = False := eq_false (by rw [HE.out]; exact hlt)
          have hbf : b = Pu.far (belI l) a := by
            have h1 := HBE.out.1
            rw [List.take_of_length_le (by have h2 := HI.out; omega), HF.out] at h1
            exact h1
          subst hbf
          have HKN : Aside0 (known l.length D1 < maxLen) := ⟨by have h1 := known_le l.length D1; have h2 := HL.out; unfold maxLen; omega⟩
          have HWF : Aside0 ((Lit.int .i64 ((Pu.far (belI l) a : Nat) : Int)).wf = true) := ⟨WalkArith.wf_i64 (by have h1 := HFS.out a; have h2 := HN.out; have h3 := HL.out; omega)⟩
          clear hlt
          go_wp2_with (at_mapUpdate; refine wpList_mapUpdate_own _ rfl _ _ _ 58 rfl 3 3 law3H Tryz.underlying58 _ B (known l.length D1) D1 rfl (by first | exact HOW1.out | exact own_drewN HOW1.out _) HKN.out _ _ _ rfl rfl HKY.out _ [] (plainElem_int Tryz.underlying3 HWF.out) ?_; intro w3 hown3 hgrow3; have HOW3 := Aside0.mk hown3; have HG3 := Aside0.mk (World.grownBy.trans (by repeat (first | exact HG1.out | apply gr_drewN | apply gr_alloc)) hgrow3); clear hown3 hgrow3)
          go_ret
          have hno : Maps.has D1 (kyH a) = false := (HHS.out a (Nat.le_refl _)).trans HH.out
          exact ⟨rfl, _, agrees_put HAG1.out a, (HOW3.out).mono (known_put HAG1.out.1 HN.out hno _), fun y hy => (has_put_other (kyH_ne (by omega)) _).trans (HHS.out y (by omega)), HG3.out⟩
end Go.Proofs.YtfmpafgmcleogaaGreatDoor.Pr
