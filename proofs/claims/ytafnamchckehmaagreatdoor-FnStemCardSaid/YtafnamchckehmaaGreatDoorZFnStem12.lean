/- Functions of the program as plain functions, proofs that their calls answer so, and plain laws: what the law needs. No condition beyond what each statement says. -/
import Derived.Test.YtafnamchckehmaaGreatDoorZFnStem11
import Derived.Test.YtafnamchckehmaaGreatDoorZFnStem9
import Derived.Sort.WalkA
namespace Go.Proofs.YtafnamchckehmaaGreatDoor.Pr
set_option maxHeartbeats 40000000
set_option maxRecDepth 100000
open Go.RowKit Go.Proofs.YtafnamchckehmaaGreatDoorW.PrintWords Go.Proofs.YtafnamchckehmaaGreatDoorW.PrintLast Go.Proofs.YtafnamchckehmaaGreatDoorW.PrintMore
attribute [local go_sem] max2_int min2_int max_two min_two max_three min_three max_four min_four
set_option linter.unusedVariables false
set_option linter.unusedSimpArgs false
theorem bnd46_ {α β : Type} {o : Option α} {f : α → Option β} {r : β} (h : o.bind f = some r) : ∃ a, Aside0 (o = some a) ∧ f a = some r := by
 obtain ⟨a, h1, h2⟩ := Option.bind_eq_some_iff.mp h
 exact ⟨a, ⟨h1⟩, h2⟩
theorem q46_2 {P : Prop} (h : P := by repeat (first | (with_reducible first | exact HB.out | apply below_alloc | apply pw_below_drewN | apply below_drew1 | refine below_set ?_ GE1306.out) | exact HB.out)) : P := h
theorem q46_5 {P : Prop} (h : P := by (with_reducible repeat (first | refine blk_drewN ?_ _ | refine blk_drew ?_ | refine blk_alloc ?_ _)); exact BK1306.out) : P := h
theorem q46_6 {P : Prop} (h : P := by (with_reducible repeat (first | apply Kd.R_alloc | apply Kd.R_drewN | apply Kd.R_drew)); exact HO_12.out) : P := h
def impl_Concepts.l0 : Nat → List (S102) → List Int → Int → Int → Int → List Int → Option ((List (S102)))
 | 0, _, _, _, _, _, _ => none
 | k + 1, x3, x12, x13, x14, x1307000, x1307001 => if x14 < x13 then (if 0 ≤ x14 then (if x14 < (x12.length : Int) then ((impl_IsClosed.f k x1307000 x1307001 (rd x12 x14)).bind fun t1315 => (if t1315 = true then ((impl_ExtentOf.f k x1307000 x1307001 (rd x12 x14)).bind fun t1316 => (if x3.length < 8796093022208 then (impl_Concepts.l0 k (x3 ++ [(⟨t1316, rd x12 x14⟩ : S102)]) x12 x13 (wrap64 (x14 + 1)) x1307000 x1307001) else (none))) else (impl_Concepts.l0 k x3 x12 x13 (wrap64 (x14 + 1)) x1307000 x1307001))) else (none)) else (none)) else (some x3)
def impl_Concepts.f (k : Nat) (a0_0 : Int) (l0_1 : List Int) : Option ((List (S102))) := (impl_IsContext.f a0_0 l0_1).bind fun t1307 => (if t1307 = true then ((impl_allSets.f k a0_0).bind fun t1311 => (impl_Concepts.l0 k (([] : List (S102))) t1311 (t1311.length : Int) 0 a0_0 l0_1)) else (some ([] : List (S102))))
theorem impl_Concepts.calls (k : Nat) (a0_0 : Int) (A0_1 : Option Addr) (c0_1 : Nat) (l0_1 : List Int) (r : List (S102)) (w : World) (hr0_1 : Kd.C (Kd.int .i64) w A0_1 l0_1.length l0_1) (hc0_1 : l0_1.length ≤ c0_1) (htab : Tab64 w) (h : impl_Concepts.f k a0_0 l0_1 = some r) :
  Calls Tryz.prog 170 #[.agg #[.int .i64 a0_0, .slice A0_1 l0_1.length c0_1]] w fun e w' => ∃ v0_ : Value, e = .returned (v0_) ∧ Kd.R k102 102 w' w.heap.size (fun _ => True) v0_ r ∧ Below w.heap.size w w' := by
 have HTB := Aside0.mk htab; clear htab; have hu29 := Tryz.underlying29; have hu102 := Tryz.underlying102; have HR0_1 := Aside0.mk hr0_1; have HC0_1 := Aside0.mk hc0_1; clear hr0_1 hc0_1; have HB := Aside0.mk (Below.refl w.heap.size w); have H := h; clear h; unfold impl_Concepts.f at H; obtain ⟨t1307, A2, H⟩ := bnd46_ H
 by_cases c3 : t1307 = true
 ·
  subst c3; rw [if_pos rfl] at H; obtain ⟨y1308, hy_⟩ : ∃ y_ : List (S102), y_ = (([] : List (S102))) := ⟨_, rfl⟩
  replace H : ((impl_allSets.f k a0_0).bind fun t1311 => (impl_Concepts.l0 k y1308 t1311 (t1311.length : Int) 0 a0_0 l0_1)) = some r := rH_
  have Ny1308 := Aside0.mk hy_; clear hy_; obtain ⟨t1311, A4, H⟩ := bnd46_ H; have H' := Aside0.mk H; clear H
  go_enter Tryz.func170, Tryz.ntmps170
  go_wp2_with ((with_reducible refine gw_ rfl ?_); first | (refine be_ 1 #[.int .i64 a0_0, .slice A0_1 l0_1.length c0_1] 29 ?_; intro gb1306 hg w5 hbox hb; have n_ := ac_ (below_step s1_ hb) <| ac_ (hbox) <| ac_ ((gz_ w hg s1_)) <| Aside0.mk ((gz_ w hg s1_)); clear HB; obtain ⟨HB, BK1306, GW1306, GE1306⟩ := n_; clear hb hbox hg; have hcz6_0 : w5.cell? ⟨gb1306, 0, none⟩ = some (.int .i64 a0_0) := (blk_cell BK1306.out 0).trans rfl; have hcz6_1 : w5.cell? ⟨gb1306, 1, none⟩ = some (.slice A0_1 l0_1.length c0_1) := (blk_cell BK1306.out 1).trans rfl; have hfz6_0 := blk_frozen BK1306.out 0; have hfz6_1 := blk_frozen BK1306.out 1) | (refine gL_ 164 7 Tryz.func164 #[.agg #[.int .i64 a0_0, .slice A0_1 l0_1.length c0_1]] ?_; (with_reducible refine (impl_IsContext.calls a0_0 _ _ l0_1 true _ ?side1 ?side2 A2.out).mono ?_); (case side1 => exact s2_); (case side2 => exact HC0_1.out); rintro e w7 ⟨rfl, hb⟩; refine ⟨_, rfl, ?_⟩; have n_ := ac_ (blk_below (g := gb1306) (o := .cells #[.int .i64 a0_0, .slice A0_1 l0_1.length c0_1] 29 (0, 0)) q46_5 hb) <| Aside0.mk (below_step q46_2 hb); clear BK1306 HB; obtain ⟨BK1306, HB⟩ := n_; (try clear hb)) | (refine rl_ k102 102 9 ?_; intro v1309 w8 ho9 hb hg_ hnew_; clear hg_ hnew_; (first | rw [← Ny1308.out] at ho9 | (simp only [Int.reduceToNat] at ho9; rw [← Ny1308.out] at ho9)); have n_ := ac_ (Kd.R_lower ho9 (below_size q46_2)) <| ac_ (blk_below (g := gb1306) (o := .cells #[.int .i64 a0_0, .slice A0_1 l0_1.length c0_1] 29 (0, 0)) q46_5 hb) <| Aside0.mk (below_step q46_2 hb); clear BK1306 HB; obtain ⟨HO1310, BK1306, HB⟩ := n_; clear hb ho9; have hcz10_0 : w8.cell? ⟨gb1306, 0, none⟩ = some (.int .i64 a0_0) := (blk_cell BK1306.out 0).trans rfl; have hcz10_1 : w8.cell? ⟨gb1306, 1, none⟩ = some (.slice A0_1 l0_1.length c0_1) := (blk_cell BK1306.out 1).trans rfl; have hfz10_0 := blk_frozen BK1306.out 0; have hfz10_1 := blk_frozen BK1306.out 1) | (refine gL_ 121 12 Tryz.func121 #[.int .i64 a0_0] ?_; (with_reducible refine (impl_allSets.calls k a0_0 t1311 _ ?tab A4.out).mono ?_); (case tab => first | exact HTB.out | (refine Tab64.below HTB.out ?_; repeat (first | (with_reducible first | exact HB.out | apply below_alloc | apply pw_below_drewN | apply below_drew1 | refine below_set ?_ GE1306.out) | exact HB.out)) | (repeat (first | exact HTB.out | apply Tab64.drewN | apply Tab64.drew | apply Tab64.alloc))); rintro e w11 ⟨v1312, rfl, ho0, hb⟩; refine ⟨_, rfl, ?_⟩; have n_ := ac_ (Kd.R_below (by (with_reducible repeat (first | apply Kd.R_alloc | apply Kd.R_drewN | apply Kd.R_drew)); exact HO1310.out) hb) <| ac_ (Kd.R_lower ho0 (below_size q46_2)) <| ac_ (blk_below (g := gb1306) (o := .cells #[.int .i64 a0_0, .slice A0_1 l0_1.length c0_1] 29 (0, 0)) q46_5 hb) <| Aside0.mk (below_step q46_2 hb); clear HO1310 BK1306 HB; obtain ⟨HO1310, HO1313, BK1306, HB⟩ := n_; (try clear hb ho0); obtain ⟨Ao12, co12, eo12⟩ := Kd.R_slice HO1313.out; subst eo12))
  go_loopg [3, 14] k (fun kq v3 v14 w' => ∃ (x3_1 : List (S102)) (x14_1 : Int), v14 = .int .i64 x14_1 ∧ Aside0 (impl_Concepts.l0 kq x3_1 t1311 (t1311.length : Int) x14_1 a0_0 l0_1 = some r) ∧ Aside0 (kq ≤ k) ∧ Aside0 (Kd.R k102 102 w' w.heap.size (fun _ => True) v3 x3_1) ∧ Aside0 (Kd.R (Kd.int .i64) 3 w' w.heap.size (fun _ => True) (.slice Ao12 t1311.length co12) t1311) ∧ Aside0 (w'.heap[gb1306]? = some (.cells #[.int .i64 a0_0, (.slice A0_1 l0_1.length c0_1)] 29 (0, 0))) ∧ Aside0 (Below w.heap.size w w'))
  case atStart => exact ⟨(y1308), (0), s3_, H', ⟨Nat.le_refl _⟩, ⟨(by (with_reducible repeat (first | apply Kd.R_alloc | apply Kd.R_drewN | apply Kd.R_drew)); exact HO1310.out)⟩, ⟨(by (with_reducible repeat (first | apply Kd.R_alloc | apply Kd.R_drewN | apply Kd.R_drew)); exact HO1313.out)⟩, ⟨q46_5⟩, ⟨q46_2⟩⟩
  case round =>
   clear H'
   try clear c1
   try clear p2
   try clear c3
   try clear c12
   try clear hcz10_0
   try clear hcz10_1
   try clear hcz6_0
   try clear hcz6_1
   try clear hfz10_0
   try clear hfz10_1
   try clear hfz6_0
   try clear hfz6_1
   obtain ⟨x3_1, x14_1, rfl, HA, HK1, HO_3, HO_12, BK1306, HB⟩ := hrel
   cases gk with
   | zero => exact absurd HA.out (by simp [impl_Concepts.l0])
   | succ k1 =>
    have H := HA.out; clear HA
    simp only [impl_Concepts.l0] at H
    by_cases c13 : x14_1 < (t1311.length : Int)
    ·
     rw [if_pos c13] at H; have c13b0 : decide (x14_1 < (t1311.length : Int)) = true := decide_eq_true c13; clear c13
     by_cases c14 : 0 ≤ x14_1
     ·
      rw [if_pos c14] at H; have c14b0 : decide (0 ≤ x14_1) = true := decide_eq_true c14; clear c14
      by_cases c15 : x14_1 < (t1311.length : Int)
      ·
       rw [if_pos c15] at H; have c15b0 : decide (x14_1 < (t1311.length : Int)) = true := decide_eq_true c15; clear c15; obtain ⟨t1315, A16, H⟩ := bnd46_ H
       by_cases c17 : t1315 = true
       ·
        subst c17; rw [if_pos rfl] at H; obtain ⟨t1316, A18, H⟩ := bnd46_ H
        by_cases c19 : x3_1.length < 8796093022208
        ·
         rw [if_pos c19] at H; have LMc19 := Aside0.mk c19; clear c19; obtain ⟨y1317, hy_⟩ : ∃ y_ : List (S102), y_ = (x3_1 ++ [(⟨t1316, rd t1311 x14_1⟩ : S102)]) := ⟨_, rfl⟩
         replace H : (impl_Concepts.l0 k1 y1317 t1311 (t1311.length : Int) (wrap64 (x14_1 + 1)) a0_0 l0_1) = some r := rH_
         have Ny1317 := Aside0.mk hy_; clear hy_; have H' := Aside0.mk H; clear H; have p1314 : 0 ≤ (x14_1 : Int) := of_decide_eq_true s4_; have q1314 : x14_1 < (t1311.length : Int) := of_decide_eq_true s4_; obtain ⟨ad1314, e1314, hx1314_0⟩ := Kd.at_int (Kd.R_reads' HO_12.out).2.2 x14_1 p1314 q1314
         cases e1314
         replace p1314 := eq_true p1314; replace q1314 := eq_true q1314; have hcz20_0 : wr.cell? ⟨gb1306, 0, none⟩ = some (.int .i64 a0_0) := (blk_cell BK1306.out 0).trans rfl; have hcz20_1 : wr.cell? ⟨gb1306, 1, none⟩ = some (.slice A0_1 l0_1.length c0_1) := (blk_cell BK1306.out 1).trans rfl; have hfz20_0 := blk_frozen BK1306.out 0; have hfz20_1 := blk_frozen BK1306.out 1
         go_wp2_with (first | ((with_reducible refine gw_ rfl ?_); first | (refine gL_ 229 20 Tryz.func229 #[.agg #[.int .i64 a0_0, .slice A0_1 l0_1.length c0_1], .int .i64 (rd t1311 x14_1)] ?_; (with_reducible refine (impl_IsClosed.calls k1 a0_0 _ _ l0_1 (rd t1311 x14_1) true _ ?side1 ?side2 A16.out).mono ?_); (case side1 => exact s2_); (case side2 => exact HC0_1.out); rintro e w21 ⟨rfl, hb⟩; refine ⟨_, rfl, ?_⟩; have n_ := ac_ (Kd.R_below s11_ hb) <| ac_ (Kd.R_below q46_6 hb) <| ac_ (blk_below (g := gb1306) (o := .cells #[.int .i64 a0_0, .slice A0_1 l0_1.length c0_1] 29 (0, 0)) q46_5 hb) <| Aside0.mk (below_step q46_2 hb); clear HO_3 HO_12 BK1306 HB; obtain ⟨HO_3, HO_12, BK1306, HB⟩ := n_; (try clear hb); have hcz22_0 : w21.cell? ⟨gb1306, 0, none⟩ = some (.int .i64 a0_0) := (blk_cell BK1306.out 0).trans rfl; have hcz22_1 : w21.cell? ⟨gb1306, 1, none⟩ = some (.slice A0_1 l0_1.length c0_1) := (blk_cell BK1306.out 1).trans rfl; have hfz22_0 := blk_frozen BK1306.out 0; have hfz22_1 := blk_frozen BK1306.out 1) | (refine gL_ 227 24 Tryz.func227 #[.agg #[.int .i64 a0_0, .slice A0_1 l0_1.length c0_1], .int .i64 (rd t1311 x14_1)] ?_; (with_reducible refine (impl_ExtentOf.calls k1 a0_0 _ _ l0_1 (rd t1311 x14_1) t1316 _ ?side1 ?side2 A18.out).mono ?_); (case side1 => exact s2_); (case side2 => exact HC0_1.out); rintro e w23 ⟨rfl, hb⟩; refine ⟨_, rfl, ?_⟩; have n_ := ac_ (Kd.R_below s11_ hb) <| ac_ (Kd.R_below q46_6 hb) <| ac_ (blk_below (g := gb1306) (o := .cells #[.int .i64 a0_0, .slice A0_1 l0_1.length c0_1] 29 (0, 0)) q46_5 hb) <| Aside0.mk (below_step q46_2 hb); clear HO_3 HO_12 BK1306 HB; obtain ⟨HO_3, HO_12, BK1306, HB⟩ := n_; (try clear hb))) | ((with_reducible refine gate_builtin (b := .append) (xs := #[.tmp 21, .tmp 27]) rfl ?_); at_builtin; refine Kd.R_append k102 (w0 := w) w.heap.size rfl (.tmp 21) (.tmp 27) 41 102 (.agg #[(.int .i64 0), (.int .i64 0)]) 16 rfl Tryz.underlying41 info102 rfl (by decide) (by omega) u3 x3_1 (⟨t1316, rd t1311 x14_1⟩ : S102) [.int .i64 t1316, .int .i64 (rd t1311 x14_1)] (fun _ => True) (fun _ => False) rfl rfl ?aP (fun _ hk => hk.elim) ?aF ?aO ?aB ?aS ?aL ?_; (case aP => exact k102_mkM _ _ _ (⟨t1316, rd t1311 x14_1⟩ : S102)); (case aB => exact q46_2); (case aF => exact (fun _ _ => trivial)); (case aO => exact s11_); (case aS => exact (below_size q46_2)); (case aL => have := LMc19.out; omega); intro v1318 w24 ho hb hg hat; rw [← Ny1317.out] at ho; have n_ := ac_ (Kd.R_over' q46_6 (Kd.R_typed s11_) (by decide) hg) <| ac_ (blk_grown (g := gb1306) (o := .cells #[.int .i64 a0_0, .slice A0_1 l0_1.length c0_1] 29 (0, 0)) q46_5 hg (Kd.R_ne HO_3.out BK1306.out (by decide))) <| ac_ (hb) <| Aside0.mk (ho); clear HO_12 BK1306 HB HO_3; obtain ⟨HO_12, BK1306, HB, HO1319⟩ := n_; clear ho hb hg hat))
         go_roundg k1
         case measure => have := HK1.out; omega
         case rel => exact ⟨(y1317), (wrap64 (x14_1 + 1)), s3_, H', ⟨by have := HK1.out; omega⟩, ⟨(by (with_reducible repeat (first | apply Kd.R_alloc | apply Kd.R_drewN | apply Kd.R_drew)); exact HO1319.out)⟩, ⟨q46_6⟩, ⟨q46_5⟩, ⟨q46_2⟩⟩
        ·
         rw [if_neg c19] at H
         exact absurd H (by simp)
       ·
        replace c17 := Bool.eq_false_iff.mpr c17; subst c17
        rw [if_neg (show ¬ (false = true) by decide)] at H
        have H' := Aside0.mk H; clear H; have p1314 : 0 ≤ (x14_1 : Int) := of_decide_eq_true s4_; have q1314 : x14_1 < (t1311.length : Int) := of_decide_eq_true s4_; obtain ⟨ad1314, e1314, hx1314_0⟩ := Kd.at_int (Kd.R_reads' HO_12.out).2.2 x14_1 p1314 q1314
        cases e1314
        replace p1314 := eq_true p1314; replace q1314 := eq_true q1314; have hcz25_0 : wr.cell? ⟨gb1306, 0, none⟩ = some (.int .i64 a0_0) := (blk_cell BK1306.out 0).trans rfl; have hcz25_1 : wr.cell? ⟨gb1306, 1, none⟩ = some (.slice A0_1 l0_1.length c0_1) := (blk_cell BK1306.out 1).trans rfl; have hfz25_0 := blk_frozen BK1306.out 0; have hfz25_1 := blk_frozen BK1306.out 1
        go_wp2_with ((with_reducible refine gw_ rfl ?_); (refine gL_ 229 20 Tryz.func229 #[.agg #[.int .i64 a0_0, .slice A0_1 l0_1.length c0_1], .int .i64 (rd t1311 x14_1)] ?_; (with_reducible refine (impl_IsClosed.calls k1 a0_0 _ _ l0_1 (rd t1311 x14_1) false _ ?side1 ?side2 A16.out).mono ?_); (case side1 => exact s2_); (case side2 => exact HC0_1.out); rintro e w26 ⟨rfl, hb⟩; refine ⟨_, rfl, ?_⟩; have n_ := ac_ (Kd.R_below s11_ hb) <| ac_ (Kd.R_below q46_6 hb) <| ac_ (blk_below (g := gb1306) (o := .cells #[.int .i64 a0_0, .slice A0_1 l0_1.length c0_1] 29 (0, 0)) q46_5 hb) <| Aside0.mk (below_step q46_2 hb); clear HO_3 HO_12 BK1306 HB; obtain ⟨HO_3, HO_12, BK1306, HB⟩ := n_; (try clear hb)))
        go_roundg k1
        case measure => have := HK1.out; omega
        case rel => exact ⟨(x3_1), (wrap64 (x14_1 + 1)), s3_, H', ⟨by have := HK1.out; omega⟩, ⟨s11_⟩, ⟨q46_6⟩, ⟨q46_5⟩, ⟨q46_2⟩⟩
      ·
       rw [if_neg c15] at H
       exact absurd H (by simp)
     ·
      rw [if_neg c14] at H
      exact absurd H (by simp)
    ·
     rw [if_neg c13] at H; have c13b0 : decide (x14_1 < (t1311.length : Int)) = false := decide_eq_false c13; clear c13; obtain rfl := Option.some.inj H
     go_wp2
     go_ret
     exact ⟨_, (by first | rfl | (simp [errW_none, errW_some] <;> rfl) | (simp [*, errW_none, errW_some] <;> rfl)), s11_, q46_2⟩
 ·
  replace c3 := Bool.eq_false_iff.mpr c3; subst c3
  rw [if_neg (show ¬ (false = true) by decide)] at H
  obtain rfl := Option.some.inj H
  go_enter Tryz.func170, Tryz.ntmps170
  go_wp2_with ((with_reducible refine gw_ rfl ?_); first | (refine be_ 1 #[.int .i64 a0_0, .slice A0_1 l0_1.length c0_1] 29 ?_; intro gb1306 hg w27 hbox hb; have n_ := ac_ (below_step s1_ hb) <| ac_ (hbox) <| ac_ ((gz_ w hg s1_)) <| Aside0.mk ((gz_ w hg s1_)); clear HB; obtain ⟨HB, BK1306, GW1306, GE1306⟩ := n_; clear hb hbox hg; have hcz28_0 : w27.cell? ⟨gb1306, 0, none⟩ = some (.int .i64 a0_0) := (blk_cell BK1306.out 0).trans rfl; have hcz28_1 : w27.cell? ⟨gb1306, 1, none⟩ = some (.slice A0_1 l0_1.length c0_1) := (blk_cell BK1306.out 1).trans rfl; have hfz28_0 := blk_frozen BK1306.out 0; have hfz28_1 := blk_frozen BK1306.out 1) | (refine gL_ 164 7 Tryz.func164 #[.agg #[.int .i64 a0_0, .slice A0_1 l0_1.length c0_1]] ?_; (with_reducible refine (impl_IsContext.calls a0_0 _ _ l0_1 false _ ?side1 ?side2 A2.out).mono ?_); (case side1 => exact s2_); (case side2 => exact HC0_1.out); rintro e w29 ⟨rfl, hb⟩; refine ⟨_, rfl, ?_⟩; have n_ := ac_ (blk_below (g := gb1306) (o := .cells #[.int .i64 a0_0, .slice A0_1 l0_1.length c0_1] 29 (0, 0)) q46_5 hb) <| Aside0.mk (below_step q46_2 hb); clear BK1306 HB; obtain ⟨BK1306, HB⟩ := n_; (try clear hb)))
  go_ret
  exact ⟨_, (by first | rfl | (simp [errW_none, errW_some] <;> rfl) | (simp [*, errW_none, errW_some] <;> rfl)), (by first | exact Kd.R_nil _ _ _ _ _ | exact Kd.N_nil _ _ _ _ _ | exact Kd.V_nil _ _ _ _ _ | exact Kd.Q_nil _ _ _ _ _ | exact Kd.S_nil _ _ _ _ _), q46_2⟩
theorem q46_11 {P : Prop} (h : P := by repeat (first | (with_reducible first | exact HB.out | apply below_alloc | apply pw_below_drewN | apply below_drew1 | refine below_set ?_ GE1320.out) | exact HB.out)) : P := h
theorem q46_14 {P : Prop} (h : P := by (with_reducible repeat (first | refine blk_drewN ?_ _ | refine blk_drew ?_ | refine blk_alloc ?_ _)); exact BK1320.out) : P := h
def impl_CountRules.f (k : Nat) (a0_0 : Int) (l0_1 : List Int) : Option (Int) := (impl_IsContext.f a0_0 l0_1).bind fun t1321 => (if t1321 = true then (if 0 ≤ a0_0 then ((impl_Concepts.f k a0_0 l0_1).bind fun t1322 => (some (wrap64 ((shl .i64 1 a0_0) - (t1322.length : Int))))) else (none)) else (some (-1)))
def impl_CountRules.T3 : Bool × List (List Nat × List Nat) := (true, [([], []), ([0], [0]), ([1], [1]), ([], []), ([3], [3]), ([4], [4]), ([2, 5], [2, 5]), ([6, 4, 0, 1, 2, 3, 4, 5, 6], [6])])
def impl_CountRules.B3 : List Nat := [0, 1, 3, 0, 8, 24, 63, 127]
theorem impl_CountRules.tab3 : rtab .any (opsOf Tryz.f59 3) = impl_CountRules.T3 := by kernel_rfl
theorem impl_CountRules.bits3 : waitsOk impl_CountRules.T3.2 impl_CountRules.B3 = true := by kernel_rfl
theorem impl_CountRules.calls (k : Nat) (a0_0 : Int) (A0_1 : Option Addr) (c0_1 : Nat) (l0_1 : List Int) (r : Int) (w : World) (hr0_1 : Kd.C (Kd.int .i64) w A0_1 l0_1.length l0_1) (hc0_1 : l0_1.length ≤ c0_1) (htab : Tab64 w) (h : impl_CountRules.f k a0_0 l0_1 = some r) :
  Calls Tryz.prog 59 #[.agg #[.int .i64 a0_0, .slice A0_1 l0_1.length c0_1]] w fun e w' => e = .returned (.int .i64 r) ∧ Below w.heap.size w w' := by
 have HTB := Aside0.mk htab; clear htab; have hu29 := Tryz.underlying29; have HR0_1 := Aside0.mk hr0_1; have HC0_1 := Aside0.mk hc0_1; clear hr0_1 hc0_1; have HB := Aside0.mk (Below.refl w.heap.size w); have H := h; clear h; unfold impl_CountRules.f at H; obtain ⟨t1321, A2, H⟩ := bnd46_ H
 by_cases c3 : t1321 = true
 ·
  subst c3; rw [if_pos rfl] at H
  by_cases c4 : 0 ≤ a0_0
  ·
   rw [if_pos c4] at H; have c4b0 := eq_true c4; have c4b1 : decide (0 ≤ a0_0) = true := decide_eq_true c4; clear c4; obtain ⟨ji5, hji5⟩ : ∃ j_ : Int, (shl .i64 1 a0_0) = j_ := ⟨_, rfl⟩
   replace H : ((impl_Concepts.f k a0_0 l0_1).bind fun t1322 => (some (wrap64 ((ji5) - (t1322.length : Int))))) = some r := by first | (rw [hji5] at H; exact H) | (simp only [hji5] at H ⊢; exact H)
   (try rw [hji5] at A2)
   have hji5_ : (IntKind.i64.wrap (1 * 2 ^ min a0_0.toNat 64)) = ji5 := hji5; have hji5z : a0_0 ≤ 64 → (IntKind.i64.wrap (1 * 2 ^ a0_0.toNat)) = ji5 := shl_small hji5
   have hji5u : (IntKind.i64.wrap (2 ^ min a0_0.toNat 64)) = ji5 := by have h_ := hji5_; rw [Int.one_mul] at h_; exact h_
   have hji5v : a0_0 ≤ 64 → (IntKind.i64.wrap (2 ^ a0_0.toNat)) = ji5 := fun hle_ => by have h_ := hji5z hle_; rw [Int.one_mul] at h_; exact h_
   have hji5y : (wrap64 (1 * 2 ^ min a0_0.toNat 64)) = ji5 := (i64_w _).symm.trans hji5_
   have hji5x : a0_0 ≤ 64 → (wrap64 (1 * 2 ^ a0_0.toNat)) = ji5 := fun h_ => (i64_w _).symm.trans (hji5z h_)
   obtain ⟨t1322, A6, H⟩ := bnd46_ H; obtain rfl := Option.some.inj H
   go_enter Tryz.func59, Tryz.ntmps59
   try go_wp2_with ((with_reducible refine gw_ rfl ?_); first | (refine be_ 1 #[.int .i64 a0_0, .slice A0_1 l0_1.length c0_1] 29 ?_; intro gb1320 hg w7 hbox hb; have n_ := ac_ (below_step s1_ hb) <| ac_ (hbox) <| ac_ ((gz_ w hg s1_)) <| Aside0.mk ((gz_ w hg s1_)); clear HB; obtain ⟨HB, BK1320, GW1320, GE1320⟩ := n_; clear hb hbox hg; have hcz8_0 : w7.cell? ⟨gb1320, 0, none⟩ = some (.int .i64 a0_0) := (blk_cell BK1320.out 0).trans rfl; have hcz8_1 : w7.cell? ⟨gb1320, 1, none⟩ = some (.slice A0_1 l0_1.length c0_1) := (blk_cell BK1320.out 1).trans rfl; have hfz8_0 := blk_frozen BK1320.out 0; have hfz8_1 := blk_frozen BK1320.out 1) | (refine gL_ 164 4 Tryz.func164 #[.agg #[.int .i64 a0_0, .slice A0_1 l0_1.length c0_1]] ?_; (with_reducible refine (impl_IsContext.calls a0_0 _ _ l0_1 true _ ?side1 ?side2 A2.out).mono ?_); (case side1 => exact s2_); (case side2 => exact HC0_1.out); rintro e w9 ⟨rfl, hb⟩; refine ⟨_, rfl, ?_⟩; have n_ := ac_ (blk_below (g := gb1320) (o := .cells #[.int .i64 a0_0, .slice A0_1 l0_1.length c0_1] 29 (0, 0)) q46_14 hb) <| Aside0.mk (below_step q46_11 hb); clear BK1320 HB; obtain ⟨BK1320, HB⟩ := n_; (try clear hb)))
   have n0_ := Aside0.mk (blk_drew BK1320.out); have n1_ := Aside0.mk (below_drew1 HB.out); clear BK1320; clear HB; have BK1320 := n0_; have HB := n1_; clear n0_ n1_
   refine start_ (n := 8) (S := fun w' => w'.cell? ⟨gb1320, 0, none⟩ = some (.int .i64 a0_0) ∧ w'.cell? ⟨gb1320, 1, none⟩ = some (.slice A0_1 l0_1.length c0_1)) (ds := []) (tb_ 8 0) (by kernel_rfl) rfl rfl ⟨(blk_cell BK1320.out 0).trans rfl, (blk_cell BK1320.out 1).trans rfl⟩ (fun hHeld => ?_); refine with_tabW impl_CountRules.tab3 impl_CountRules.bits3 (fun HT_ HW_ => ?_)
   generalize w9.drew = w10 at BK1320 HB hHeld ⊢
   refine pl_ 0 6 (tb_ 8 1) ?_; refine tk_ 1 7 (tb_ 8 3) hHeld ?_; refine pl_ 2 8 (tb_ 8 7) ?_; refine tk_ 3 9 (tb_ 8 15) hHeld ?_
   refine on_ 4 10 (tb_ 8 31) (fun K hK => ?_)
   refine goes_ Tryz.func170 (by kernel_rfl) rfl #[.agg #[.int .i64 a0_0, .slice A0_1 l0_1.length c0_1]] (by rfl) rfl rfl s0_ ?_
   with_reducible refine (impl_Concepts.calls k a0_0 _ _ l0_1 t1322 _ ?side1 ?side2 ?tab A6.out).mono ?_
   (case tab => first | exact HTB.out | (refine Tab64.below HTB.out ?_; repeat (first | (with_reducible first | exact HB.out | apply below_alloc | apply pw_below_drewN | apply below_drew1 | refine below_set ?_ GE1320.out) | exact HB.out)) | (repeat (first | exact HTB.out | apply Tab64.drewN | apply Tab64.drew | apply Tab64.alloc)))
   (case side1 => exact s2_)
   (case side2 => exact HC0_1.out)
   rintro e w11 ⟨v1323, rfl, ho0, hb⟩
   refine ⟨_, rfl, ?_⟩
   have n0_ := Aside0.mk (Kd.R_lower ho0 (below_size q46_11)); have n1_ := Aside0.mk (blk_below (g := gb1320) (o := .cells #[.int .i64 a0_0, .slice A0_1 l0_1.length c0_1] 29 (0, 0)) q46_14 hb); have n2_ := Aside0.mk (below_step q46_11 hb); clear BK1320; clear HB; have HO1324 := n0_; have BK1320 := n1_; have HB := n2_; clear n0_ n1_ n2_
   (try clear hb)
   (try clear hb2)
   (try clear hk)
   (try clear hi)
   (try clear ho0)
   obtain ⟨Ao12, co12, eo12⟩ := Kd.R_slice HO1324.out
   (first | subst eo12 | (injection eo12 with f1_ f2_ f3_; have f4_ := f1_.symm; have f5_ := f3_.symm; clear f1_ f2_ f3_; subst f4_; subst f5_))
   refine hK.out _ _ ⟨(blk_cell BK1320.out 0).trans rfl, (blk_cell BK1320.out 1).trans rfl⟩ (fun hHeld => ?_)
   clear hK K
   refine norm_ (a' := ?_) ?_ ?_
   rotate_left
   ·
    show Act.put _ (some 10) _ = _
    simp only [Act.put, List.setIfInBounds_toArray, List.set_cons_zero, List.set_cons_succ, i64_w, i32_w]
    rfl
   refine pl_ 5 11 (tb_ 8 63) ?_; refine pl_ 6 12 (tb_ 8 127) ?_; refine pl_ 7 2 (tb_ 8 255) ?_
   refine done_ (done_of HT_.out (by kernel_rfl)) ?_
   try go_wp2
   go_ret
   exact ⟨(by first | rfl | (simp [errW_none, errW_some] <;> rfl) | (simp only [← hji5]; first | rfl | (simp [errW_none, errW_some] <;> rfl)) | (simp [*, errW_none, errW_some] <;> rfl)), q46_11⟩
  ·
   rw [if_neg c4] at H
   exact absurd H (by simp)
 ·
  replace c3 := Bool.eq_false_iff.mpr c3; subst c3
  rw [if_neg (show ¬ (false = true) by decide)] at H
  obtain rfl := Option.some.inj H
  go_enter Tryz.func59, Tryz.ntmps59
  go_wp2_with ((with_reducible refine gw_ rfl ?_); first | (refine be_ 1 #[.int .i64 a0_0, .slice A0_1 l0_1.length c0_1] 29 ?_; intro gb1320 hg w13 hbox hb; have n_ := ac_ (below_step s1_ hb) <| ac_ (hbox) <| ac_ ((gz_ w hg s1_)) <| Aside0.mk ((gz_ w hg s1_)); clear HB; obtain ⟨HB, BK1320, GW1320, GE1320⟩ := n_; clear hb hbox hg; have hcz14_0 : w13.cell? ⟨gb1320, 0, none⟩ = some (.int .i64 a0_0) := (blk_cell BK1320.out 0).trans rfl; have hcz14_1 : w13.cell? ⟨gb1320, 1, none⟩ = some (.slice A0_1 l0_1.length c0_1) := (blk_cell BK1320.out 1).trans rfl; have hfz14_0 := blk_frozen BK1320.out 0; have hfz14_1 := blk_frozen BK1320.out 1) | (refine gL_ 164 4 Tryz.func164 #[.agg #[.int .i64 a0_0, .slice A0_1 l0_1.length c0_1]] ?_; (with_reducible refine (impl_IsContext.calls a0_0 _ _ l0_1 false _ ?side1 ?side2 A2.out).mono ?_); (case side1 => exact s2_); (case side2 => exact HC0_1.out); rintro e w15 ⟨rfl, hb⟩; refine ⟨_, rfl, ?_⟩; have n_ := ac_ (blk_below (g := gb1320) (o := .cells #[.int .i64 a0_0, .slice A0_1 l0_1.length c0_1] 29 (0, 0)) q46_14 hb) <| Aside0.mk (below_step q46_11 hb); clear BK1320 HB; obtain ⟨BK1320, HB⟩ := n_; (try clear hb)))
  go_ret
  exact ⟨(by first | rfl | (simp [errW_none, errW_some] <;> rfl) | (simp [*, errW_none, errW_some] <;> rfl)), q46_11⟩
end Go.Proofs.YtafnamchckehmaaGreatDoor.Pr
namespace Go.Proofs.YtafnamchckehmaaGreatDoor.Pr
open Go.RowKit Go.Proofs.YtafnamchckehmaaGreatDoorW.PrintWords Go.Proofs.YtafnamchckehmaaGreatDoorW.PrintLast Go.Proofs.YtafnamchckehmaaGreatDoorW.PrintMore
open Go.Sort Go.Shelf Go.Lib
set_option linter.unusedVariables false
set_option linter.unusedSimpArgs false
variable {α : Type} [Inhabited α]
theorem symM_s (enc : α → Value) (cf : α → α → Int) (g : Nat) (cb : Array Value) (blk off cap : Nat) (d0 : Array α) (w0 : World)
    (eg : ∀ args w, (callFunc g args).run Tryz.prog w = .ok (.enter g args) w) (hcmp : CmpLays1 Tryz.prog g cb enc cf blk off d0.size w0) (R : Row1 enc w0 blk off d0) (hsz : d0.size < 4611686018427387904) :
    ∀ (k a m b : Nat) (d : Array α) (w : World), d0.size = d.size → SW enc w0 blk off d w → b - a ≤ k → a < m → m < b → b ≤ d.size →
    Calls Tryz.prog 271 #[.slice (some ⟨blk, off, none⟩) d.size cap, .int .i64 (a : Int), .int .i64 (m : Int), .int .i64 (b : Int), .func (.func g) #[] cb] w fun e w' => e = .returned (.tuple #[]) ∧ SW enc w0 blk off (symM (ltOf cf) k a m b d) w' := by
  intro k
  induction k with
  | zero => intro a m b d w hs S h1 h2 h3 h4; omega
  | succ k ih =>
    intro a m b d w hs S h1 h2 h3 h4
    rw [symM]
    by_cases c1 : m = a + 1
    · rw [if_pos c1]
      exact symL_s enc cf g cb blk off cap a m b c1 d0 d w0 w eg hcmp R hs S h3 h4 (by omega)
    · rw [if_neg c1]
      by_cases c2 : b = m + 1
      · rw [if_pos c2]
        exact symR_s enc cf g cb blk off cap a m b c2 d0 d w0 w eg hcmp R hs S (by omega) h4 (by omega)
      · rw [if_neg c2]
        refine symG_s enc cf g cb blk off cap a m b ((a + b) / 2) ((a + b) / 2 + m) ((a + b) / 2 + m - 1) _ _ (symM (ltOf cf) k) (fun a m b D => symM_size _ k a m b D) d0 d w0 w eg hcmp R hs S ?_ (by omega) (by omega) h4 (by omega) rfl rfl rfl rfl rfl
        show ∀ _, _
        intro a' m' b' D W hD hS hlt e1 e2 e3
        have := ih a' m' b' D W (by omega) hS (by omega) e1 e2 (by omega)
        rwa [hD] at this
def insF (lt : α → α → Bool) (a b : Nat) : Nat → Nat → Array α → Array α
  | 0, _, d => d
  | k + 1, i, d => if i < b then insF lt a b k (i + 1) (insInner lt a i d) else d
theorem insF_eq (lt : α → α → Bool) (a b : Nat) : ∀ (k i : Nat) (d : Array α), b ≤ i + k → insOuter lt a b i d = insF lt a b k i d := by
  intro k
  induction k with
  | zero => intro i d h; rw [insF, insOuter_stop _ _ _ _ _ (by omega)]
  | succ k ih =>
    intro i d h
    rw [insF]
    by_cases hi : i < b
    · rw [if_pos hi, insOuter_go _ _ _ _ _ hi]
      exact ih (i + 1) _ (by omega)
    · rw [if_neg hi, insOuter_stop _ _ _ _ _ hi]
def insS (lt : α → α → Bool) (d : Array α) (a b : Nat) : Array α := insF lt a b b (a + 1) d
theorem insS_eq (lt : α → α → Bool) (d : Array α) (a b : Nat) : Sort.insertionSort lt d a b = insS lt d a b := insF_eq lt a b b (a + 1) d (by omega)
theorem insInner_size (lt : α → α → Bool) (a : Nat) : ∀ (j : Nat) (d : Array α), (insInner lt a j d).size = d.size
  | 0, d => by rw [insInner]
  | j + 1, d => by
    rw [insInner]
    split
    · rw [insInner_size lt a j, size_swp]
    · rfl
theorem insF_size (lt : α → α → Bool) (a b : Nat) : ∀ (k i : Nat) (d : Array α), (insF lt a b k i d).size = d.size
  | 0, _, _ => rfl
  | k + 1, i, d => by
    rw [insF]
    split
    · rw [insF_size lt a b k, insInner_size]
    · rfl
theorem insS_size (lt : α → α → Bool) (d : Array α) (a b : Nat) : (insS lt d a b).size = d.size := insF_size _ _ _ _ _ _
def stA (lt : α → α → Bool) (n : Nat) : Nat → Nat → Array α → Nat × Array α
  | 0, a, d => (a, d)
  | k + 1, a, d => if a + 20 ≤ n then stA lt n k (a + 20) (insS lt d a (a + 20)) else (a, d)
def stB (lt : α → α → Bool) (n bs : Nat) : Nat → Nat → Array α → Nat × Array α
  | 0, a, d => (a, d)
  | k + 1, a, d => if a + 2 * bs ≤ n then stB lt n bs k (a + 2 * bs) (symM lt (2 * bs) a (a + bs) (a + 2 * bs) d) else (a, d)
def stC (lt : α → α → Bool) (n : Nat) : Nat → Nat → Array α → Array α
  | 0, _, d => d
  | k + 1, bs, d => if bs < n then stC lt n k (2 * bs) (if (stB lt n bs n 0 d).1 + bs < n then symM lt (n - (stB lt n bs n 0 d).1) (stB lt n bs n 0 d).1 ((stB lt n bs n 0 d).1 + bs) n (stB lt n bs n 0 d).2 else (stB lt n bs n 0 d).2) else d
def stab (lt : α → α → Bool) (d : Array α) : Array α := stC lt d.size d.size 20 (insS lt (stA lt d.size d.size 0 d).2 (stA lt d.size d.size 0 d).1 d.size)
set_option maxHeartbeats 40000000 in
set_option maxRecDepth 1000000 in
theorem stable_s (enc : α → Value) (cf : α → α → Int) (g : Nat) (cb : Array Value) (blk off cap : Nat) (d0 d : Array α) (w0 w : World)
    (eg : ∀ args w, (callFunc g args).run Tryz.prog w = .ok (.enter g args) w) (hcmp : CmpLays1 Tryz.prog g cb enc cf blk off d0.size w0) (R : Row1 enc w0 blk off d0) (hs : d0.size = d.size) (S : SW enc w0 blk off d w) (hsz : d.size < 1099511627776) :
    Calls Tryz.prog 253 #[.slice (some ⟨blk, off, none⟩) d.size cap, .int .i64 (d.size : Int), .func (.func g) #[] cb] w fun e w' => e = .returned (.tuple #[]) ∧ SW enc w0 blk off (stab (ltOf cf) d) w' := by
  have HINS : Aside (∀ (a b : Nat) (D : Array α) (W : World), D.size = d.size → SW enc w0 blk off D W → a ≤ b → b ≤ d.size → Calls Tryz.prog 270 #[.slice (some ⟨blk, off, none⟩) d.size cap, .int .i64 (a : Int), .int .i64 (b : Int), .func (.func g) #[] cb] W fun e w' => e = .returned (.tuple #[]) ∧ SW enc w0 blk off (insS (ltOf cf) D a b) w') := by
    show ∀ _, _
    intro a b D W hD hS h1 h2
    have := Tryz.insertionSortCmpFunc_s enc cf g cb blk off cap a b d0 D w0 W eg hcmp R (by omega) hS h1 (by omega) (by omega)
    rw [hD, insS_eq] at this
    exact this
  have HSYM : Aside (∀ (k a m b : Nat) (D : Array α) (W : World), D.size = d.size → SW enc w0 blk off D W → b - a ≤ k → a < m → m < b → b ≤ d.size → Calls Tryz.prog 271 #[.slice (some ⟨blk, off, none⟩) d.size cap, .int .i64 (a : Int), .int .i64 (m : Int), .int .i64 (b : Int), .func (.func g) #[] cb] W fun e w' => e = .returned (.tuple #[]) ∧ SW enc w0 blk off (symM (ltOf cf) k a m b D) w') := by
    show ∀ _, _
    intro k a m b D W hD hS h0 h1 h2 h3
    have := symM_s enc cf g cb blk off cap d0 w0 eg hcmp R (by omega) k a m b D W (by omega) hS h0 h1 h2 (by omega)
    rw [hD] at this
    exact this
  have S0 : Aside (SW enc w0 blk off d w) := S
  clear S hcmp
  obtain ⟨n, hn⟩ : ∃ n, n = d.size := ⟨_, rfl⟩
  have HN : Aside (n = d.size) := hn
  have HE : Aside (stab (ltOf cf) d = stC (ltOf cf) n n 20 (insS (ltOf cf) (stA (ltOf cf) n n 0 d).2 (stA (ltOf cf) n n 0 d).1 n)) := by
    show _ = _
    rw [hn]
    rfl
  rw [← hn] at hsz ⊢
  have hd1 : n ≤ d.size := by omega
  have hd2 : d.size ≤ n := by omega
  rw [← hn] at HINS HSYM
  clear hn
  go_enter Tryz.func253, Tryz.ntmps253
  go_wp2
  go_loopg [7, 8] n (fun kx s7 s8 wr => ∃ (a b kk : Nat) (dk : Array α), s7 = .int .i64 (a : Int) ∧ s8 = .int .i64 (b : Int) ∧ a + 20 ≤ b ∧ b ≤ a + 20 ∧ a ≤ n ∧ n - a ≤ kx ∧ n - a ≤ kk ∧ Aside (dk.size = n) ∧ Aside (SW enc w0 blk off dk wr) ∧ Hid (stA (ltOf cf) n kk a dk = stA (ltOf cf) n n 0 d))
  case atStart => exact ⟨0, 20, n, d, rfl, rfl, by omega, by omega, Nat.zero_le _, Nat.le_refl _, Nat.le_refl _, HN.out.symm, S0, rfl⟩
  case round =>
    clear S0
    obtain ⟨a, b, kk, dk, rfl, rfl, hb1, hb2, han, hkx, hkk, hds, S1, heq⟩ := hrel
    by_cases hlt : b ≤ n
    · have hltz : (b : Int) ≤ (n : Int) := by omega
      go_wp2_with fail
      refine (HINS.out a b dk _ hds.out S1.out (by omega) hlt).mono ?_
      rintro e w2 ⟨rfl, hS2⟩
      have S2 : Aside (SW enc w0 blk off (insS (ltOf cf) dk a b) w2) := hS2
      clear hS2 S1
      go_wp2
      go_roundg (n - b)
      case measure => omega
      case rel => exact ⟨b, b + 20, kk - 1, insS (ltOf cf) dk a b, rfl, by first | rfl | go_num | (congr 1; omega), by omega, by omega, hlt, Nat.le_refl _, by omega, (show _ = _ from by rw [insS_size]; exact hds.out), S2, (show Hid _ from by
        obtain rfl : b = a + 20 := by omega
        obtain ⟨k', rfl⟩ : ∃ k', kk = k' + 1 := ⟨kk - 1, by omega⟩
        have h := heq.out
        rw [stA, if_pos hlt] at h
        exact h)⟩
    · have hltz : ¬ (b : Int) ≤ (n : Int) := by omega
      have hA : stA (ltOf cf) n n 0 d = (a, dk) := by
        rw [← heq.out]
        cases kk with
        | zero => rfl
        | succ k' => rw [stA, if_neg (by omega)]
      have HA : Aside (stab (ltOf cf) d = stC (ltOf cf) n n 20 (insS (ltOf cf) dk a n)) := by
        show _ = _
        rw [HE.out, hA]
      clear heq hA HE
      go_wp2_with fail
      refine (HINS.out a n dk _ hds.out S1.out han (Nat.le_refl _)).mono ?_
      rintro e w2 ⟨rfl, hS2⟩
      have S2 : Aside (SW enc w0 blk off (insS (ltOf cf) dk a n) w2) := hS2
      have Z2 : Aside ((insS (ltOf cf) dk a n).size = n) := (insS_size _ _ _ _).trans hds.out
      generalize insS (ltOf cf) dk a n = d2 at HA S2 Z2
      clear hS2 S1 hds hltz hlt hb1 hb2 hkx hkk
      go_wp2
      go_loopg [6, 7, 8, 9] n (fun kx s6 s7 s8 s9 wr => ∃ (bs kk : Nat) (dk : Array α), s6 = .int .i64 (bs : Int) ∧ 20 ≤ bs ∧ bs ≤ 2 * n + 20 ∧ n - bs ≤ kx ∧ n - bs ≤ kk ∧ Aside (dk.size = n) ∧ Aside (SW enc w0 blk off dk wr) ∧ Hid (stC (ltOf cf) n kk bs dk = stC (ltOf cf) n n 20 d2))
      case atStart => exact ⟨20, n, d2, rfl, by omega, by omega, by omega, by omega, Z2, S2, rfl⟩
      case round =>
        clear S2 Z2
        obtain ⟨bs, kk, dk, rfl, h20, hbn, hkx, hkk, hds, S1, heq⟩ := hrel
        by_cases hlt : bs < n
        · have hltz : (bs : Int) < (n : Int) := by omega
          obtain ⟨k', hk'⟩ : ∃ k', kk = k' + 1 := ⟨kk - 1, by omega⟩
          have HB : Aside (stC (ltOf cf) n k' (2 * bs) (if (stB (ltOf cf) n bs n 0 dk).1 + bs < n then symM (ltOf cf) (n - (stB (ltOf cf) n bs n 0 dk).1) (stB (ltOf cf) n bs n 0 dk).1 ((stB (ltOf cf) n bs n 0 dk).1 + bs) n (stB (ltOf cf) n bs n 0 dk).2 else (stB (ltOf cf) n bs n 0 dk).2) = stC (ltOf cf) n n 20 d2) := by
            show _ = _
            have h := heq.out
            rw [hk', stC, if_pos hlt] at h
            exact h
          have hkk2 : n - bs ≤ k' + 1 := by omega
          clear heq hk' hkk
          go_wp2
          go_loopg [7, 8] n (fun kx s7 s8 wr => ∃ (a b kk : Nat) (de : Array α), s7 = .int .i64 (a : Int) ∧ s8 = .int .i64 (b : Int) ∧ a + 2 * bs ≤ b ∧ b ≤ a + 2 * bs ∧ a ≤ n ∧ n - a ≤ kx ∧ n - a ≤ kk ∧ Aside (de.size = n) ∧ Aside (SW enc w0 blk off de wr) ∧ Hid (stB (ltOf cf) n bs kk a de = stB (ltOf cf) n bs n 0 dk))
          case atStart => exact ⟨0, 2 * bs, n, dk, rfl, by first | rfl | go_num | (congr 1; omega), by omega, by omega, Nat.zero_le _, Nat.le_refl _, Nat.le_refl _, hds, S1, rfl⟩
          case round =>
            clear S1 hds
            obtain ⟨a, b, kk, de, rfl, rfl, hb1, hb2, han, hkx2, hkk3, hds, S1, heq⟩ := hrel
            by_cases hlt2 : b ≤ n
            · have hltz2 : (b : Int) ≤ (n : Int) := by omega
              obtain ⟨m, hm⟩ : ∃ m, m = a + bs := ⟨_, rfl⟩
              have hmz : (a : Int) + (bs : Int) = (m : Int) := by omega
              have hm1 : a < m := by omega
              have hm2 : m < b := by omega
              have HM : Aside (m = a + bs) := hm
              clear hm
              go_wp2_with fail
              refine (HSYM.out (2 * bs) a m b de _ hds.out S1.out (by omega) hm1 hm2 hlt2).mono ?_
              rintro e w3 ⟨rfl, hS2⟩
              have S2 : Aside (SW enc w0 blk off (symM (ltOf cf) (2 * bs) a m b de) w3) := hS2
              clear hS2 S1 hmz
              go_wp2
              go_roundg (n - b)
              case measure => omega
              case rel => exact ⟨b, b + 2 * bs, kk - 1, symM (ltOf cf) (2 * bs) a m b de, rfl, by first | rfl | go_num | (congr 1; omega), by omega, by omega, hlt2, Nat.le_refl _, by omega, (show _ = _ from by rw [symM_size]; exact hds.out), S2, (show Hid _ from by
                obtain rfl : b = a + 2 * bs := by omega
                obtain ⟨k'', rfl⟩ : ∃ k'', kk = k'' + 1 := ⟨kk - 1, by omega⟩
                have h := heq.out
                rw [stB, if_pos hlt2] at h
                rw [HM.out]
                exact h)⟩
            · have hltz2 : ¬ (b : Int) ≤ (n : Int) := by omega
              have hA : stB (ltOf cf) n bs n 0 dk = (a, de) := by
                rw [← heq.out]
                cases kk with
                | zero => rfl
                | succ k'' => rw [stB, if_neg (by omega)]
              rw [hA] at HB
              clear heq hA
              obtain ⟨m, hm⟩ : ∃ m, m = a + bs := ⟨_, rfl⟩
              have hmz : (a : Int) + (bs : Int) = (m : Int) := by omega
              have hm1 : a < m := by omega
              have HM : Aside (m = a + bs) := hm
              by_cases hmn : m < n
              · have hmnz : (m : Int) < (n : Int) := by omega
                have HB2 : Aside (stC (ltOf cf) n k' (2 * bs) (symM (ltOf cf) (n - a) a m n de) = stC (ltOf cf) n n 20 d2) := by
                  show _ = _
                  have h := HB.out
                  rw [← hm, if_pos hmn] at h
                  exact h
                clear hm HB
                go_wp2_with fail
                refine (HSYM.out (n - a) a m n de _ hds.out S1.out (Nat.le_refl _) hm1 hmn (Nat.le_refl _)).mono ?_
                rintro e w3 ⟨rfl, hS2⟩
                have S2 : Aside (SW enc w0 blk off (symM (ltOf cf) (n - a) a m n de) w3) := hS2
                clear hS2 S1
                go_wp2
                go_roundg (n - 2 * bs)
                case measure => omega
                case rel => exact ⟨2 * bs, k', symM (ltOf cf) (n - a) a m n de, by first | rfl | go_num | (congr 1; omega), by omega, by omega, Nat.le_refl _, by omega, (show _ = _ from by rw [symM_size]; exact hds.out), S2, HB2.out⟩
              · have hmnz : ¬ (m : Int) < (n : Int) := by omega
                have HB2 : Aside (stC (ltOf cf) n k' (2 * bs) de = stC (ltOf cf) n n 20 d2) := by
                  show _ = _
                  have h := HB.out
                  rw [← hm, if_neg hmn] at h
                  exact h
                clear hm HB
                go_wp2
                go_roundg (n - 2 * bs)
                case measure => omega
                case rel => exact ⟨2 * bs, k', de, by first | rfl | go_num | (congr 1; omega), by omega, by omega, Nat.le_refl _, by omega, hds, S1, HB2.out⟩
        · have hltz : ¬ (bs : Int) < (n : Int) := by omega
          have hF : stab (ltOf cf) d = dk := by
            rw [HA.out, ← heq.out]
            cases kk with
            | zero => rfl
            | succ k' => rw [stC, if_neg hlt]
          clear heq
          go_wp2
          go_end0
          exact ⟨rfl, by first | exact S1.out | (rw [hF]; exact S1.out)⟩
set_option maxHeartbeats 1000000 in
theorem sortStable_s (enc : α → Value) (cf : α → α → Int) (g : Nat) (cb : Array Value) (blk off cap : Nat) (d : Array α) (w : World)
    (eg : ∀ args w, (callFunc g args).run Tryz.prog w = .ok (.enter g args) w) (hcmp : CmpLays1 Tryz.prog g cb enc cf blk off d.size w) (R : Row1 enc w blk off d) (hsz : d.size < 1099511627776) :
    Calls Tryz.prog 220 #[.slice (some ⟨blk, off, none⟩) d.size cap, .func (.func g) #[] cb] w fun e w' => e = .returned (.tuple #[]) ∧ ∃ n os, w' = sortWorld enc w blk off n (stab (ltOf cf) d) os := by
  have H := Aside0.mk (stable_s enc cf g cb blk off cap d d w w eg hcmp R rfl (SW.start R.hH) hsz)
  clear hcmp R
  go_enter Tryz.func220, Tryz.ntmps220
  go_wp2_with fail
  refine H.out.mono ?_
  rintro e w2 ⟨rfl, hS⟩
  have HS := Aside0.mk hS
  clear hS
  go_wp2
  go_end0
  exact ⟨rfl, HS.out⟩
end Go.Proofs.YtafnamchckehmaaGreatDoor.Pr
namespace Go.Proofs.YtafnamchckehmaaGreatDoor.Pr
open Go.RowKit Go.Proofs.YtafnamchckehmaaGreatDoorW.PrintWords Go.Proofs.YtafnamchckehmaaGreatDoorW.PrintLast Go.Proofs.YtafnamchckehmaaGreatDoorW.PrintMore
set_option linter.unusedVariables false
set_option linter.unusedSimpArgs false
set_option maxHeartbeats 4000000 in
set_option maxRecDepth 100000 in
theorem SortLectic_nil (A0 : Option Addr) (c0 : Nat) (w : World) (hr0 : Kd.C (Kd.int .i64) w A0 ([] : List Int).length []) :
    Calls Tryz.prog 208 #[.slice A0 ([] : List Int).length c0] w fun e w' => ∃ v0_ : Value, e = .returned (v0_) ∧ Kd.R (Kd.int .i64) 3 w' w.heap.size (fun _ => True) v0_ [] ∧ Below w.heap.size w w' := by
  have eg : ∀ args w, (callFunc 246 args).run Tryz.prog w = .ok (.enter 246 args) w := enters_of Tryz.func246 (by kernel_rfl) rfl
  have h0 := ContainsFunc_int 246 #[] eg A0 c0 [] (fun x => !Pu.isAny x) w hr0 (fun W x hb => (impl_SortLectic_1.calls x _ W (sl1_val x)).mono fun e w' ⟨he, q, hw⟩ => ⟨he, by rw [hw]; exact pw_below_drewN (Below.refl _ _) q⟩)
  have hcl : slices_Clone_int.f ([] : List Int) = some [] := rfl
  have hclone := fun W hr => slices_Clone_int.calls A0 c0 [] [] W hr (Nat.zero_le _) hcl
  have HR0 := Aside0.mk hr0
  have HCL := Aside0.mk hclone
  clear hr0 hclone hcl
  go_enter Tryz.func208, Tryz.ntmps208
  go_wp2_with (first | (go_at_call 223; refine h0.mono ?_; rintro e w1 ⟨rfl, hb1⟩; have HB1 := Aside0.mk hb1; clear hb1) | (go_at_call 247; refine (HCL.out _ (Kd.C_below HR0.out HB1.out)).mono ?_; rintro e w2 ⟨v, rfl, hR2, hB2⟩; obtain ⟨A, c, hv⟩ := Kd.R_slice hR2; subst hv; have HO2 := Aside0.mk (Kd.R_lower hR2 (below_size HB1.out)); have HB2 := Aside0.mk (below_step HB1.out hB2); clear hR2 hB2) | (go_at_call 248; refine (Tryz.slices_SortFunc_none (α := Int) A c _ _).mono ?_; rintro e w3 ⟨rfl, rfl⟩) | (go_at_call 250; refine (Tryz.slices_Compact_int_empty A c _).mono ?_; rintro e w4 ⟨rfl, rfl⟩))
  go_ret
  exact ⟨_, rfl, HO2.out, HB2.out⟩
theorem sortLec_all (A : Option Addr) (c : Nat) (q : List Nat) (w : World) {w5 : World} (hq : ∀ x ∈ q, x < 256) (hn : q.Nodup) (hR : (Kd.int .i64).R 3 w w5.heap.size (fun _ => True) (.slice A (Pu.cast q).length c) (Pu.cast q)) (htab : Tab64 w) :
    Calls Tryz.prog 208 #[.slice A (Pu.cast q).length c] w fun e w' => ∃ v0_ : Value, e = .returned (v0_) ∧ Kd.R (Kd.int .i64) 3 w' w.heap.size (fun _ => True) v0_ (Pu.cast (Pu.lecR q)) ∧ Below w.heap.size w w' := by
  have hr := (Kd.R_reads' hR).2.2
  cases q with
  | nil =>
    have e : Pu.lecR [] = [] := by
      refine List.eq_nil_iff_forall_not_mem.2 fun x hx => ?_
      have := (Pu.mem_lecR (fun _ h => by cases h)).1 hx
      cases this
    rw [e]
    exact SortLectic_nil A c w hr
  | cons x q =>
    refine impl_SortLectic.calls A c _ _ w hr (Kd.R_reads' hR).2.1 htab ?_
    unfold impl_SortLectic.f
    rw [if_pos ⟨Pu.cast_any hq, cast_nodup hn, by rw [Pu.cast_length, List.length_cons]; omega⟩]
    have e : (Pu.cast (x :: q)).map Int.toNat = x :: q := by
      unfold Pu.cast
      rw [List.map_map]
      exact List.map_id _
    rw [e]
    rfl
end Go.Proofs.YtafnamchckehmaaGreatDoor.Pr
namespace Go.Proofs.YtafnamchckehmaaGreatDoor.Pr
open Go.RowKit Go.Proofs.YtafnamchckehmaaGreatDoorW.PrintWords Go.Proofs.YtafnamchckehmaaGreatDoorW.PrintLast Go.Proofs.YtafnamchckehmaaGreatDoorW.PrintMore
attribute [local go_sem] max2_int min2_int max_two min_two max_three min_three max_four min_four
set_option linter.unusedVariables false
set_option linter.unusedSimpArgs false
theorem bnd34_ {α β : Type} {o : Option α} {f : α → Option β} {r : β} (h : o.bind f = some r) : ∃ a, Aside0 (o = some a) ∧ f a = some r := by
 obtain ⟨a, h1, h2⟩ := Option.bind_eq_some_iff.mp h
 exact ⟨a, ⟨h1⟩, h2⟩
theorem q34_1 {P : Prop} (h : P := by repeat (first | (with_reducible first | exact HB.out | apply below_alloc | apply pw_below_drewN | apply below_drew1 | refine below_set ?_ GE847.out | refine below_set ?_ GE848.out) | exact HB.out)) : P := h
theorem q34_3 {P : Prop} (h : P := by repeat (first | (with_reducible first | exact HB.out | apply below_alloc | apply pw_below_drewN | apply below_drew1 | refine below_set ?_ GE847.out) | exact HB.out)) : P := h
theorem q34_6 {P : Prop} (h : P := by (with_reducible repeat (first | refine blk_drewN ?_ _ | refine blk_drew ?_ | refine blk_alloc ?_ _)); exact BK847.out) : P := h
theorem q34_7 {P : Prop} (h : P := by (with_reducible repeat (first | refine blk_drewN ?_ _ | refine blk_drew ?_ | refine blk_alloc ?_ _)); exact BK848.out) : P := h
def impl_HoldsIn.f (k : Nat) (a0_0 : Int) (l0_1 : List Int) (a1_0 : Int) (a1_1 : Int) : Option (Bool) := (impl_areAttributes.f a0_0 l0_1 a1_0).bind fun t849 => (if t849 = true then ((impl_areAttributes.f a0_0 l0_1 a1_1).bind fun t850 => (if t850 = true then ((impl_ClosureOf.f k a0_0 l0_1 a1_0).bind fun t851 => ((impl_inSet.f a1_1 t851).bind fun t852 => (some t852))) else (some false))) else (some false))
def impl_HoldsIn.T1 : Bool × List (List Nat × List Nat) := (true, [([], []), ([], []), ([1], [1]), ([0, 2], [0, 2]), ([3, 3], [3]), ([4], [4]), ([4], [4]), ([6, 4], [4, 6]), ([5, 7, 4, 4], [4, 5, 7]), ([4, 8], [4, 8]), ([9, 8], [9]), ([10], [10]), ([11, 10], [10, 11]), ([10], [10]), ([10], [10]), ([14, 10], [10, 14]), ([13, 15, 10, 10], [10, 13, 15]), ([12, 16, 16, 10], [10, 12, 16]), ([10, 17], [10, 17]), ([18, 17, 0, 1, 2, 3, 4, 5, 6, 7, 8, 9, 10, 11, 12, 13, 14, 15, 16, 17, 18], [18])])
def impl_HoldsIn.B1 : List Nat := [0, 0, 2, 7, 15, 31, 31, 95, 255, 511, 1023, 2047, 4095, 2047, 2047, 18431, 59391, 131071, 262143, 524287]
theorem impl_HoldsIn.tab1 : rtab .any (opsOf Tryz.f66 1) = impl_HoldsIn.T1 := by kernel_rfl
theorem impl_HoldsIn.bits1 : waitsOk impl_HoldsIn.T1.2 impl_HoldsIn.B1 = true := by kernel_rfl
set_option maxHeartbeats 40000000 in
set_option maxRecDepth 100000 in
theorem impl_HoldsIn.calls (k : Nat) (a0_0 : Int) (A0_1 : Option Addr) (c0_1 : Nat) (l0_1 : List Int) (a1_0 : Int) (a1_1 : Int) (r : Bool) (w : World) (hr0_1 : Kd.C (Kd.int .i64) w A0_1 l0_1.length l0_1) (hc0_1 : l0_1.length ≤ c0_1) (h : impl_HoldsIn.f k a0_0 l0_1 a1_0 a1_1 = some r) :
  Calls Tryz.prog 66 #[.agg #[.int .i64 a0_0, .slice A0_1 l0_1.length c0_1], .agg #[.int .i64 a1_0, .int .i64 a1_1]] w fun e w' => e = .returned (.bool r) ∧ Below w.heap.size w w' := by
 have hu29 := Tryz.underlying29; have hu48 := Tryz.underlying48; have HR0_1 := Aside0.mk hr0_1; have HC0_1 := Aside0.mk hc0_1; clear hr0_1 hc0_1; have HB := Aside0.mk (Below.refl w.heap.size w); have H := h; clear h; unfold impl_HoldsIn.f at H; obtain ⟨t849, A3, H⟩ := bnd34_ H
 by_cases c4 : t849 = true
 ·
  subst c4; rw [if_pos rfl] at H; obtain ⟨t850, A5, H⟩ := bnd34_ H
  by_cases c6 : t850 = true
  ·
   subst c6; rw [if_pos rfl] at H; obtain ⟨t851, A7, H⟩ := bnd34_ H; obtain ⟨t852, A8, H⟩ := bnd34_ H; obtain rfl := Option.some.inj H
   go_enter Tryz.func66, Tryz.ntmps66
   try go_wp2_with ((with_reducible refine gw_ rfl ?_); first | (refine be_ 2 #[.int .i64 a0_0, .slice A0_1 l0_1.length c0_1] 29 ?_; intro gb847 hg w9 hbox hb; have n_ := ac_ (below_step s1_ hb) <| ac_ (hbox) <| ac_ ((gz_ w hg s1_)) <| Aside0.mk ((gz_ w hg s1_)); clear HB; obtain ⟨HB, BK847, GW847, GE847⟩ := n_; clear hb hbox hg) | (refine be_ 3 #[.int .i64 a1_0, .int .i64 a1_1] 48 ?_; intro gb848 hg w10 hbox hb; have n_ := ac_ (blk_below (g := gb847) (o := .cells #[.int .i64 a0_0, .slice A0_1 l0_1.length c0_1] 29 (0, 0)) q34_6 hb) <| ac_ (below_step q34_3 hb) <| ac_ (hbox) <| ac_ ((gz_ w hg q34_3)) <| ac_ ((gz_ w hg q34_3)) <| ac_ ((nl_ hg (blk_lt (g := gb847) (o := .cells #[.int .i64 a0_0, .slice A0_1 l0_1.length c0_1] 29 (0, 0)) q34_6))) <| Aside0.mk ((ng_ hg (blk_lt (g := gb847) (o := .cells #[.int .i64 a0_0, .slice A0_1 l0_1.length c0_1] 29 (0, 0)) q34_6))); clear BK847 HB; obtain ⟨BK847, HB, BK848, GW848, GE848, NB847_848, NB848_847⟩ := n_; clear hb hbox hg))
   have n0_ := Aside0.mk (blk_drew BK847.out); have n1_ := Aside0.mk (blk_drew BK848.out); have n2_ := Aside0.mk (below_drew1 HB.out); clear BK847; clear BK848; clear HB; have BK847 := n0_; have BK848 := n1_; have HB := n2_; clear n0_ n1_ n2_
   refine start_ (n := 20) (S := fun w' => w'.cell? ⟨gb847, 0, none⟩ = some (.int .i64 a0_0) ∧ w'.cell? ⟨gb847, 1, none⟩ = some (.slice A0_1 l0_1.length c0_1) ∧ w'.cell? ⟨gb848, 0, none⟩ = some (.int .i64 a1_0) ∧ w'.cell? ⟨gb848, 1, none⟩ = some (.int .i64 a1_1)) (ds := []) (tb_ 20 0) (by kernel_rfl) rfl rfl ⟨(blk_cell BK847.out 0).trans rfl, (blk_cell BK847.out 1).trans rfl, (blk_cell BK848.out 0).trans rfl, (blk_cell BK848.out 1).trans rfl⟩ (fun hHeld => ?_); refine with_tabW impl_HoldsIn.tab1 impl_HoldsIn.bits1 (fun HT_ HW_ => ?_)
   generalize w10.drew = w11 at BK847 BK848 HB hHeld ⊢
   refine pl_ 1 6 (tb_ 20 2) ?_; refine tk_ 0 5 (tb_ 20 3) hHeld ?_; refine tk_ 2 7 (tb_ 20 7) hHeld ?_
   refine on_ 3 8 (tb_ 20 15) (fun K hK => ?_)
   refine goes_ Tryz.func175 (by kernel_rfl) rfl #[.agg #[.int .i64 a0_0, .slice A0_1 l0_1.length c0_1], .int .i64 a1_0] (by rfl) rfl rfl s0_ ?_
   with_reducible refine (impl_areAttributes.calls a0_0 _ _ l0_1 a1_0 true _ ?side1 ?side2 A3.out).mono ?_
   (case side1 => exact s2_)
   (case side2 => exact HC0_1.out)
   rintro e w12 ⟨rfl, hb⟩
   refine ⟨_, rfl, ?_⟩
   have n0_ := Aside0.mk (blk_below (g := gb847) (o := .cells #[.int .i64 a0_0, .slice A0_1 l0_1.length c0_1] 29 (0, 0)) q34_6 hb); have n1_ := Aside0.mk (blk_below (g := gb848) (o := .cells #[.int .i64 a1_0, .int .i64 a1_1] 48 (0, 0)) q34_7 hb); have n2_ := Aside0.mk (below_step q34_1 hb); clear BK847; clear BK848; clear HB; have BK847 := n0_; have BK848 := n1_; have HB := n2_; clear n0_ n1_ n2_
   (try clear hb)
   (try clear hb2)
   (try clear hk)
   (try clear hi)
   refine hK.out _ _ ⟨(blk_cell BK847.out 0).trans rfl, (blk_cell BK847.out 1).trans rfl, (blk_cell BK848.out 0).trans rfl, (blk_cell BK848.out 1).trans rfl⟩ (fun hHeld => ?_)
   clear hK K
   refine norm_ (a' := ?_) ?_ ?_
   rotate_left
   ·
    show Act.put _ (some 8) _ = _
    exact s9_
   refine pl_ 4 9 (tb_ 20 31) ?_; refine pl_ 6 11 (tb_ 20 95) ?_; refine tk_ 5 10 (tb_ 20 127) hHeld ?_; refine tk_ 7 12 (tb_ 20 255) hHeld ?_
   refine on_ 8 13 (tb_ 20 511) (fun K hK => ?_)
   refine goes_ Tryz.func175 (by kernel_rfl) rfl #[.agg #[.int .i64 a0_0, .slice A0_1 l0_1.length c0_1], .int .i64 a1_1] (by rfl) rfl rfl s0_ ?_
   with_reducible refine (impl_areAttributes.calls a0_0 _ _ l0_1 a1_1 true _ ?side1 ?side2 A5.out).mono ?_
   (case side1 => exact s2_)
   (case side2 => exact HC0_1.out)
   rintro e w13 ⟨rfl, hb⟩
   refine ⟨_, rfl, ?_⟩
   have n0_ := Aside0.mk (blk_below (g := gb847) (o := .cells #[.int .i64 a0_0, .slice A0_1 l0_1.length c0_1] 29 (0, 0)) q34_6 hb); have n1_ := Aside0.mk (blk_below (g := gb848) (o := .cells #[.int .i64 a1_0, .int .i64 a1_1] 48 (0, 0)) q34_7 hb); have n2_ := Aside0.mk (below_step q34_1 hb); clear BK847; clear BK848; clear HB; have BK847 := n0_; have BK848 := n1_; have HB := n2_; clear n0_ n1_ n2_
   (try clear hb)
   (try clear hb2)
   (try clear hk)
   (try clear hi)
   refine hK.out _ _ ⟨(blk_cell BK847.out 0).trans rfl, (blk_cell BK847.out 1).trans rfl, (blk_cell BK848.out 0).trans rfl, (blk_cell BK848.out 1).trans rfl⟩ (fun hHeld => ?_)
   clear hK K
   refine norm_ (a' := ?_) ?_ ?_
   rotate_left
   ·
    show Act.put _ (some 13) _ = _
    exact s9_
   refine pl_ 9 14 (tb_ 20 1023) ?_; refine pl_ 10 15 (tb_ 20 2047) ?_; refine pl_ 11 16 (tb_ 20 4095) ?_; refine pl_ 14 19 (tb_ 20 20479) ?_; refine tk_ 12 17 (tb_ 20 24575) hHeld ?_; refine tk_ 13 18 (tb_ 20 32767) hHeld ?_; refine tk_ 15 20 (tb_ 20 65535) hHeld ?_
   refine on_ 16 21 (tb_ 20 131071) (fun K hK => ?_)
   refine goes_ Tryz.func163 (by kernel_rfl) rfl #[.agg #[.int .i64 a0_0, .slice A0_1 l0_1.length c0_1], .int .i64 a1_0] (by rfl) rfl rfl s0_ ?_
   with_reducible refine (impl_ClosureOf.calls k a0_0 _ _ l0_1 a1_0 t851 _ ?side1 ?side2 A7.out).mono ?_
   (case side1 => exact s2_)
   (case side2 => exact HC0_1.out)
   rintro e w14 ⟨rfl, hb⟩
   refine ⟨_, rfl, ?_⟩
   have n0_ := Aside0.mk (blk_below (g := gb847) (o := .cells #[.int .i64 a0_0, .slice A0_1 l0_1.length c0_1] 29 (0, 0)) q34_6 hb); have n1_ := Aside0.mk (blk_below (g := gb848) (o := .cells #[.int .i64 a1_0, .int .i64 a1_1] 48 (0, 0)) q34_7 hb); have n2_ := Aside0.mk (below_step q34_1 hb); clear BK847; clear BK848; clear HB; have BK847 := n0_; have BK848 := n1_; have HB := n2_; clear n0_ n1_ n2_
   (try clear hb)
   (try clear hb2)
   (try clear hk)
   (try clear hi)
   refine hK.out _ _ ⟨(blk_cell BK847.out 0).trans rfl, (blk_cell BK847.out 1).trans rfl, (blk_cell BK848.out 0).trans rfl, (blk_cell BK848.out 1).trans rfl⟩ (fun hHeld => ?_)
   clear hK K
   refine norm_ (a' := ?_) ?_ ?_
   rotate_left
   ·
    show Act.put _ (some 21) _ = _
    exact s9_
   refine on_ 17 22 (tb_ 20 262143) (fun K hK => ?_)
   refine goes_ Tryz.func141 (by kernel_rfl) rfl #[.int .i64 a1_1, .int .i64 t851] (by rfl) rfl rfl s0_ ?_
   with_reducible refine (impl_inSet.calls a1_1 t851 t852 _ A8.out).mono ?_
   rintro e w' ⟨rfl, ⟨nd, rfl⟩⟩
   refine ⟨_, rfl, ?_⟩
   refine hK.out _ _ ⟨(blk_cell BK847.out 0).trans rfl, (blk_cell BK847.out 1).trans rfl, (blk_cell BK848.out 0).trans rfl, (blk_cell BK848.out 1).trans rfl⟩ (fun hHeld => ?_)
   clear hK K
   refine norm_ (a' := ?_) ?_ ?_
   rotate_left
   ·
    show Act.put _ (some 22) _ = _
    exact s9_
   refine pl_ 18 23 (tb_ 20 524287) ?_; refine pl_ 19 4 (tb_ 20 1048575) ?_
   refine done_ (done_of HT_.out (by kernel_rfl)) ?_
   try go_wp2
   go_ret
   exact ⟨s5_, q34_1⟩
  ·
   replace c6 := Bool.eq_false_iff.mpr c6; subst c6
   rw [if_neg (show ¬ (false = true) by decide)] at H
   obtain rfl := Option.some.inj H
   go_enter Tryz.func66, Tryz.ntmps66
   try go_wp2_with ((with_reducible refine gw_ rfl ?_); first | (refine be_ 2 #[.int .i64 a0_0, .slice A0_1 l0_1.length c0_1] 29 ?_; intro gb847 hg w15 hbox hb; have n_ := ac_ (below_step s1_ hb) <| ac_ (hbox) <| ac_ ((gz_ w hg s1_)) <| Aside0.mk ((gz_ w hg s1_)); clear HB; obtain ⟨HB, BK847, GW847, GE847⟩ := n_; clear hb hbox hg) | (refine be_ 3 #[.int .i64 a1_0, .int .i64 a1_1] 48 ?_; intro gb848 hg w16 hbox hb; have n_ := ac_ (blk_below (g := gb847) (o := .cells #[.int .i64 a0_0, .slice A0_1 l0_1.length c0_1] 29 (0, 0)) q34_6 hb) <| ac_ (below_step q34_3 hb) <| ac_ (hbox) <| ac_ ((gz_ w hg q34_3)) <| ac_ ((gz_ w hg q34_3)) <| ac_ ((nl_ hg (blk_lt (g := gb847) (o := .cells #[.int .i64 a0_0, .slice A0_1 l0_1.length c0_1] 29 (0, 0)) q34_6))) <| Aside0.mk ((ng_ hg (blk_lt (g := gb847) (o := .cells #[.int .i64 a0_0, .slice A0_1 l0_1.length c0_1] 29 (0, 0)) q34_6))); clear BK847 HB; obtain ⟨BK847, HB, BK848, GW848, GE848, NB847_848, NB848_847⟩ := n_; clear hb hbox hg))
   have n0_ := Aside0.mk (blk_drew BK847.out); have n1_ := Aside0.mk (blk_drew BK848.out); have n2_ := Aside0.mk (below_drew1 HB.out); clear BK847; clear BK848; clear HB; have BK847 := n0_; have BK848 := n1_; have HB := n2_; clear n0_ n1_ n2_
   refine start_ (n := 20) (S := fun w' => w'.cell? ⟨gb847, 0, none⟩ = some (.int .i64 a0_0) ∧ w'.cell? ⟨gb847, 1, none⟩ = some (.slice A0_1 l0_1.length c0_1) ∧ w'.cell? ⟨gb848, 0, none⟩ = some (.int .i64 a1_0) ∧ w'.cell? ⟨gb848, 1, none⟩ = some (.int .i64 a1_1)) (ds := []) (tb_ 20 0) (by kernel_rfl) rfl rfl ⟨(blk_cell BK847.out 0).trans rfl, (blk_cell BK847.out 1).trans rfl, (blk_cell BK848.out 0).trans rfl, (blk_cell BK848.out 1).trans rfl⟩ (fun hHeld => ?_); refine with_tabW impl_HoldsIn.tab1 impl_HoldsIn.bits1 (fun HT_ HW_ => ?_)
   generalize w16.drew = w17 at BK847 BK848 HB hHeld ⊢
   refine pl_ 1 6 (tb_ 20 2) ?_; refine tk_ 0 5 (tb_ 20 3) hHeld ?_; refine tk_ 2 7 (tb_ 20 7) hHeld ?_
   refine on_ 3 8 (tb_ 20 15) (fun K hK => ?_)
   refine goes_ Tryz.func175 (by kernel_rfl) rfl #[.agg #[.int .i64 a0_0, .slice A0_1 l0_1.length c0_1], .int .i64 a1_0] (by rfl) rfl rfl s0_ ?_
   with_reducible refine (impl_areAttributes.calls a0_0 _ _ l0_1 a1_0 true _ ?side1 ?side2 A3.out).mono ?_
   (case side1 => exact s2_)
   (case side2 => exact HC0_1.out)
   rintro e w18 ⟨rfl, hb⟩
   refine ⟨_, rfl, ?_⟩
   have n0_ := Aside0.mk (blk_below (g := gb847) (o := .cells #[.int .i64 a0_0, .slice A0_1 l0_1.length c0_1] 29 (0, 0)) q34_6 hb); have n1_ := Aside0.mk (blk_below (g := gb848) (o := .cells #[.int .i64 a1_0, .int .i64 a1_1] 48 (0, 0)) q34_7 hb); have n2_ := Aside0.mk (below_step q34_1 hb); clear BK847; clear BK848; clear HB; have BK847 := n0_; have BK848 := n1_; have HB := n2_; clear n0_ n1_ n2_
   (try clear hb)
   (try clear hb2)
   (try clear hk)
   (try clear hi)
   refine hK.out _ _ ⟨(blk_cell BK847.out 0).trans rfl, (blk_cell BK847.out 1).trans rfl, (blk_cell BK848.out 0).trans rfl, (blk_cell BK848.out 1).trans rfl⟩ (fun hHeld => ?_)
   clear hK K
   refine norm_ (a' := ?_) ?_ ?_
   rotate_left
   ·
    show Act.put _ (some 8) _ = _
    exact s9_
   refine pl_ 4 9 (tb_ 20 31) ?_; refine pl_ 6 11 (tb_ 20 95) ?_; refine tk_ 5 10 (tb_ 20 127) hHeld ?_; refine tk_ 7 12 (tb_ 20 255) hHeld ?_
   refine on_ 8 13 (tb_ 20 511) (fun K hK => ?_)
   refine goes_ Tryz.func175 (by kernel_rfl) rfl #[.agg #[.int .i64 a0_0, .slice A0_1 l0_1.length c0_1], .int .i64 a1_1] (by rfl) rfl rfl s0_ ?_
   with_reducible refine (impl_areAttributes.calls a0_0 _ _ l0_1 a1_1 false _ ?side1 ?side2 A5.out).mono ?_
   (case side1 => exact s2_)
   (case side2 => exact HC0_1.out)
   rintro e w19 ⟨rfl, hb⟩
   refine ⟨_, rfl, ?_⟩
   have n0_ := Aside0.mk (blk_below (g := gb847) (o := .cells #[.int .i64 a0_0, .slice A0_1 l0_1.length c0_1] 29 (0, 0)) q34_6 hb); have n1_ := Aside0.mk (blk_below (g := gb848) (o := .cells #[.int .i64 a1_0, .int .i64 a1_1] 48 (0, 0)) q34_7 hb); have n2_ := Aside0.mk (below_step q34_1 hb); clear BK847; clear BK848; clear HB; have BK847 := n0_; have BK848 := n1_; have HB := n2_; clear n0_ n1_ n2_
   (try clear hb)
   (try clear hb2)
   (try clear hk)
   (try clear hi)
   refine hK.out _ _ ⟨(blk_cell BK847.out 0).trans rfl, (blk_cell BK847.out 1).trans rfl, (blk_cell BK848.out 0).trans rfl, (blk_cell BK848.out 1).trans rfl⟩ (fun hHeld => ?_)
   clear hK K
   refine norm_ (a' := ?_) ?_ ?_
   rotate_left
   ·
    show Act.put _ (some 13) _ = _
    exact s9_
   refine pl_ 9 14 (tb_ 20 1023) ?_; refine pl_ 10 15 (tb_ 20 2047) ?_; refine pr_ 11 16 (tb_ 20 4095) ?_; refine pr_ 12 17 (tb_ 20 8191) ?_; refine pr_ 13 18 (tb_ 20 16383) ?_; refine pr_ 14 19 (tb_ 20 32767) ?_; refine pr_ 15 20 (tb_ 20 65535) ?_; refine pr_ 16 21 (tb_ 20 131071) ?_; refine pr_ 17 22 (tb_ 20 262143) ?_; refine pl_ 18 23 (tb_ 20 524287) ?_; refine pl_ 19 4 (tb_ 20 1048575) ?_
   refine done_ (done_of HT_.out (by kernel_rfl)) ?_
   try go_wp2
   go_ret
   exact ⟨s5_, q34_1⟩
 ·
  replace c4 := Bool.eq_false_iff.mpr c4; subst c4
  rw [if_neg (show ¬ (false = true) by decide)] at H
  obtain rfl := Option.some.inj H
  go_enter Tryz.func66, Tryz.ntmps66
  try go_wp2_with ((with_reducible refine gw_ rfl ?_); first | (refine be_ 2 #[.int .i64 a0_0, .slice A0_1 l0_1.length c0_1] 29 ?_; intro gb847 hg w20 hbox hb; have n_ := ac_ (below_step s1_ hb) <| ac_ (hbox) <| ac_ ((gz_ w hg s1_)) <| Aside0.mk ((gz_ w hg s1_)); clear HB; obtain ⟨HB, BK847, GW847, GE847⟩ := n_; clear hb hbox hg) | (refine be_ 3 #[.int .i64 a1_0, .int .i64 a1_1] 48 ?_; intro gb848 hg w21 hbox hb; have n_ := ac_ (blk_below (g := gb847) (o := .cells #[.int .i64 a0_0, .slice A0_1 l0_1.length c0_1] 29 (0, 0)) q34_6 hb) <| ac_ (below_step q34_3 hb) <| ac_ (hbox) <| ac_ ((gz_ w hg q34_3)) <| ac_ ((gz_ w hg q34_3)) <| ac_ ((nl_ hg (blk_lt (g := gb847) (o := .cells #[.int .i64 a0_0, .slice A0_1 l0_1.length c0_1] 29 (0, 0)) q34_6))) <| Aside0.mk ((ng_ hg (blk_lt (g := gb847) (o := .cells #[.int .i64 a0_0, .slice A0_1 l0_1.length c0_1] 29 (0, 0)) q34_6))); clear BK847 HB; obtain ⟨BK847, HB, BK848, GW848, GE848, NB847_848, NB848_847⟩ := n_; clear hb hbox hg))
  have n0_ := Aside0.mk (blk_drew BK847.out); have n1_ := Aside0.mk (blk_drew BK848.out); have n2_ := Aside0.mk (below_drew1 HB.out); clear BK847; clear BK848; clear HB; have BK847 := n0_; have BK848 := n1_; have HB := n2_; clear n0_ n1_ n2_
  refine start_ (n := 20) (S := fun w' => w'.cell? ⟨gb847, 0, none⟩ = some (.int .i64 a0_0) ∧ w'.cell? ⟨gb847, 1, none⟩ = some (.slice A0_1 l0_1.length c0_1) ∧ w'.cell? ⟨gb848, 0, none⟩ = some (.int .i64 a1_0) ∧ w'.cell? ⟨gb848, 1, none⟩ = some (.int .i64 a1_1)) (ds := []) (tb_ 20 0) (by kernel_rfl) rfl rfl ⟨(blk_cell BK847.out 0).trans rfl, (blk_cell BK847.out 1).trans rfl, (blk_cell BK848.out 0).trans rfl, (blk_cell BK848.out 1).trans rfl⟩ (fun hHeld => ?_); refine with_tabW impl_HoldsIn.tab1 impl_HoldsIn.bits1 (fun HT_ HW_ => ?_)
  generalize w21.drew = w22 at BK847 BK848 HB hHeld ⊢
  refine pl_ 1 6 (tb_ 20 2) ?_; refine tk_ 0 5 (tb_ 20 3) hHeld ?_; refine tk_ 2 7 (tb_ 20 7) hHeld ?_
  refine on_ 3 8 (tb_ 20 15) (fun K hK => ?_)
  refine goes_ Tryz.func175 (by kernel_rfl) rfl #[.agg #[.int .i64 a0_0, .slice A0_1 l0_1.length c0_1], .int .i64 a1_0] (by rfl) rfl rfl s0_ ?_
  with_reducible refine (impl_areAttributes.calls a0_0 _ _ l0_1 a1_0 false _ ?side1 ?side2 A3.out).mono ?_
  (case side1 => exact s2_)
  (case side2 => exact HC0_1.out)
  rintro e w23 ⟨rfl, hb⟩
  refine ⟨_, rfl, ?_⟩
  have n0_ := Aside0.mk (blk_below (g := gb847) (o := .cells #[.int .i64 a0_0, .slice A0_1 l0_1.length c0_1] 29 (0, 0)) q34_6 hb); have n1_ := Aside0.mk (blk_below (g := gb848) (o := .cells #[.int .i64 a1_0, .int .i64 a1_1] 48 (0, 0)) q34_7 hb); have n2_ := Aside0.mk (below_step q34_1 hb); clear BK847; clear BK848; clear HB; have BK847 := n0_; have BK848 := n1_; have HB := n2_; clear n0_ n1_ n2_
  (try clear hb)
  (try clear hb2)
  (try clear hk)
  (try clear hi)
  refine hK.out _ _ ⟨(blk_cell BK847.out 0).trans rfl, (blk_cell BK847.out 1).trans rfl, (blk_cell BK848.out 0).trans rfl, (blk_cell BK848.out 1).trans rfl⟩ (fun hHeld => ?_)
  clear hK K
  refine norm_ (a' := ?_) ?_ ?_
  rotate_left
  ·
   show Act.put _ (some 8) _ = _
   exact s9_
  refine pl_ 4 9 (tb_ 20 31) ?_; refine pr_ 5 10 (tb_ 20 63) ?_; refine pr_ 6 11 (tb_ 20 127) ?_; refine pr_ 7 12 (tb_ 20 255) ?_; refine pr_ 8 13 (tb_ 20 511) ?_; refine pl_ 9 14 (tb_ 20 1023) ?_; refine pl_ 10 15 (tb_ 20 2047) ?_; refine pr_ 11 16 (tb_ 20 4095) ?_; refine pr_ 12 17 (tb_ 20 8191) ?_; refine pr_ 13 18 (tb_ 20 16383) ?_; refine pr_ 14 19 (tb_ 20 32767) ?_; refine pr_ 15 20 (tb_ 20 65535) ?_; refine pr_ 16 21 (tb_ 20 131071) ?_; refine pr_ 17 22 (tb_ 20 262143) ?_; refine pl_ 18 23 (tb_ 20 524287) ?_; refine pl_ 19 4 (tb_ 20 1048575) ?_
  refine done_ (done_of HT_.out (by kernel_rfl)) ?_
  try go_wp2
  go_ret
  exact ⟨s5_, q34_1⟩
end Go.Proofs.YtafnamchckehmaaGreatDoor.Pr
namespace Go.Proofs.YtafnamchckehmaaGreatDoor.Pr
open Go.RowKit Go.Proofs.YtafnamchckehmaaGreatDoorW.PrintWords Go.Proofs.YtafnamchckehmaaGreatDoorW.PrintLast Go.Proofs.YtafnamchckehmaaGreatDoorW.PrintMore
set_option linter.unusedVariables false
def impl_areAnyRules.f (l0 : List S48) : Option Bool := some (l0.all Pu.anyR)
theorem areAny1_val (r : S48) : impl_areAnyRules_1.f r.f0 r.f1 = some (!Pu.anyR r) := by
  unfold impl_areAnyRules_1.f
  rw [Pu.any_val, Option.bind_some]
  unfold Pu.anyR
  cases Pu.isAny r.f0 with
  | false => rfl
  | true => simp [Pu.any_val]
theorem impl_areAnyRules.calls (A0 : Option Addr) (c0 : Nat) (l0 : List S48) (r : Bool) (w : World) (hr0 : Kd.C k48 w A0 l0.length l0) (hc0 : l0.length ≤ c0) (h : impl_areAnyRules.f l0 = some r) :
    Calls Tryz.prog 149 #[.slice A0 l0.length c0] w fun e w' => e = .returned (.bool r) ∧ Below w.heap.size w w' := by
  obtain rfl := Option.some.inj h
  clear h
  have eg : ∀ args w, (callFunc 218 args).run Tryz.prog w = .ok (.enter 218 args) w := enters_of Tryz.func218 (by kernel_rfl) rfl
  have h0 := ContainsFunc_rule 218 #[] eg A0 c0 l0 (fun r => !Pu.anyR r) w hr0 (fun W x hb => (impl_areAnyRules_1.calls x.f0 x.f1 _ W (areAny1_val x)).mono fun e w' ⟨he, hb'⟩ => ⟨he, hb'⟩)
  have h1 : Aside0 ((!(l0.any fun r => !Pu.anyR r)) = l0.all Pu.anyR) := ⟨by rw [List.all_eq_not_any_not]⟩
  clear hr0
  go_enter Tryz.func149, Tryz.ntmps149
  go_wp2_with (go_at_call 167; refine h0.mono ?_; rintro e w' ⟨rfl, hb⟩)
  go_ret
  exact ⟨by rw [← h1.out]; rfl, hb⟩
end Go.Proofs.YtafnamchckehmaaGreatDoor.Pr
namespace Go.Proofs.YtafnamchckehmaaGreatDoor.Pr
set_option maxHeartbeats 40000000
set_option maxRecDepth 100000
open Go.RowKit Go.Proofs.YtafnamchckehmaaGreatDoorW.PrintWords Go.Proofs.YtafnamchckehmaaGreatDoorW.PrintLast Go.Proofs.YtafnamchckehmaaGreatDoorW.PrintMore
attribute [local go_sem] max2_int min2_int max_two min_two max_three min_three max_four min_four
set_option linter.unusedVariables false
set_option linter.unusedSimpArgs false
theorem bnd29_ {α β : Type} {o : Option α} {f : α → Option β} {r : β} (h : o.bind f = some r) : ∃ a, Aside0 (o = some a) ∧ f a = some r := by
 obtain ⟨a, h1, h2⟩ := Option.bind_eq_some_iff.mp h
 exact ⟨a, ⟨h1⟩, h2⟩
theorem q29_1 {P : Prop} (h : P := by repeat (first | (with_reducible first | exact HB.out | apply below_alloc | apply pw_below_drewN | apply below_drew1 | refine below_set ?_ GE314.out) | exact HB.out)) : P := h
mutual
def impl_OneStep.j0 : Nat → List (S48) → Int → Bool → Option (Int)
 | 0, _, _, _ => none
 | k + 1, x0, x1, x15 => if x15 = true then (some x1) else (impl_OneStep.l0 k x1 x1 x0 (x0.length : Int) 0)
def impl_OneStep.l0 : Nat → Int → Int → List (S48) → Int → Int → Option (Int)
 | 0, _, _, _, _, _ => none
 | k + 1, x1, x5, x18, x19, x20 => if x20 < x19 then (if 0 ≤ x20 then (if x20 < (x18.length : Int) then ((impl_inSet.f ((rd_T48 x18 x20).f0) x1).bind fun t315 => (if t315 = true then (impl_OneStep.l0 k x1 (Go.bits .or .i64 x5 ((rd_T48 x18 x20).f1)) x18 x19 (wrap64 (x20 + 1))) else (impl_OneStep.l0 k x1 x5 x18 x19 (wrap64 (x20 + 1))))) else (none)) else (none)) else (some x5)
end
def impl_OneStep.f (k : Nat) (l0 : List (S48)) (a1 : Int) : Option (Int) := (impl_isAnySet.f a1).bind fun t311 => (if t311 = true then ((impl_areAnyRules.f l0).bind fun t312 => (impl_OneStep.j0 k l0 a1 (!t312))) else (impl_OneStep.j0 k l0 a1 true))
theorem impl_OneStep.calls (k : Nat) (A0 : Option Addr) (c0 : Nat) (l0 : List (S48)) (a1 : Int) (r : Int) (w : World) (hr0 : Kd.C k48 w A0 l0.length l0) (hc0 : l0.length ≤ c0) (h : impl_OneStep.f k l0 a1 = some r) :
  Calls Tryz.prog 116 #[.slice A0 l0.length c0, .int .i64 a1] w fun e w' => e = .returned (.int .i64 r) ∧ Below w.heap.size w w' := by
 have hu48 := Tryz.underlying48; have HR0 := Aside0.mk hr0; have HC0 := Aside0.mk hc0; clear hr0 hc0; have HB := Aside0.mk (Below.refl w.heap.size w); have H := h; clear h; unfold impl_OneStep.f at H; have HC3 := Aside0.mk H; clear H
 go_enter Tryz.func116, Tryz.ntmps116
 go_upto_region 1 with (fail)
 go_cut [15] (fun v15 wc => ∃ (kq : Nat) (x15_2 : Bool), v15 = .bool x15_2 ∧ Aside0 (impl_OneStep.j0 kq l0 a1 x15_2 = some r) ∧ Aside0 (kq ≤ k) ∧ Aside0 (Below w.heap.size w wc))
 case first =>
  have H := HC3.out; clear HC3; obtain ⟨t311, A4, H⟩ := bnd29_ H
  by_cases c5 : t311 = true
  ·
   subst c5; rw [if_pos rfl] at H; obtain ⟨t312, A6, H⟩ := bnd29_ H; have H' := Aside0.mk H; clear H
   go_wp2_with (first | ((with_reducible refine gw_ rfl ?_); (refine gL_ 177 9 Tryz.func177 #[.int .i64 a1] ?_; (with_reducible refine (impl_isAnySet.calls a1 true _ A4.out).mono ?_); rintro e w' ⟨rfl, ⟨nd, rfl⟩⟩; refine ⟨_, rfl, ?_⟩)) | (go_at_call 149; (with_reducible refine (impl_areAnyRules.calls _ _ l0 t312 _ ?side1 ?side2 A6.out).mono ?_); (case side1 => repeat (first | exact (Kd.C_below HR0.out s1_) | (with_reducible refine Kd.C_alloc ?_ _) | (with_reducible refine Kd.C_drewN ?_ _) | (with_reducible refine Kd.C_drew ?_))); (case side2 => exact HC0.out); rintro e w7 ⟨rfl, hb⟩; have n_ := Aside0.mk (below_step s1_ hb); clear HB; have HB := n_; clear n_; (try clear hb)))
   go_meet
   case rel => exact ⟨_, (!t312), s3_, H', ⟨(by first | omega | exact Nat.le_refl _)⟩, ⟨s1_⟩⟩
  ·
   replace c5 := Bool.eq_false_iff.mpr c5; subst c5
   rw [if_neg (show ¬ (false = true) by decide)] at H
   have H' := Aside0.mk H; clear H
   go_wp2_with ((with_reducible refine gw_ rfl ?_); (refine gL_ 177 9 Tryz.func177 #[.int .i64 a1] ?_; (with_reducible refine (impl_isAnySet.calls a1 false _ A4.out).mono ?_); rintro e w' ⟨rfl, ⟨nd, rfl⟩⟩; refine ⟨_, rfl, ?_⟩))
   go_meet
   case rel => exact ⟨_, (true), s3_, H', ⟨(by first | omega | exact Nat.le_refl _)⟩, ⟨s1_⟩⟩
 case rest =>
  clear HC3
  try clear c1
  try clear p2
  try clear c5
  obtain ⟨kq, x15_2, rfl, HA, HJ2, HB⟩ := hcut
  cases kq with
  | zero => exact absurd HA.out (by simp [impl_OneStep.j0])
  | succ kj2 =>
   have H := HA.out; clear HA
   simp only [impl_OneStep.j0] at H
   by_cases c8 : x15_2 = true
   ·
    subst c8; rw [if_pos rfl] at H; obtain rfl := Option.some.inj H
    go_wp2
    go_ret
    exact ⟨(by first | rfl | (simp [errW_none, errW_some] <;> rfl) | (simp [*, errW_none, errW_some] <;> rfl)), s1_⟩
   ·
    replace c8 := Bool.eq_false_iff.mpr c8; subst c8
    rw [if_neg (show ¬ (false = true) by decide)] at H
    have H' := Aside0.mk H; clear H
    go_wp2
    go_loopg [5, 20] kj2 (fun kq v5 v20 w' => ∃ (x5_2 : Int) (x20_2 : Int), v5 = .int .i64 x5_2 ∧ v20 = .int .i64 x20_2 ∧ Aside0 (impl_OneStep.l0 kq a1 x5_2 l0 (l0.length : Int) x20_2 = some r) ∧ Aside0 (kq ≤ kj2) ∧ Aside0 (Below w.heap.size w w'))
    case atStart => exact ⟨(a1), (0), s3_, s3_, H', ⟨Nat.le_refl _⟩, ⟨s1_⟩⟩
    case round =>
     clear H'
     try clear c1
     try clear p2
     try clear c5
     try clear c8
     try clear p2
     obtain ⟨x5_2, x20_2, rfl, rfl, HA, HK2, HB⟩ := hrel
     cases gk with
     | zero => exact absurd HA.out (by simp [impl_OneStep.l0])
     | succ k2 =>
      have H := HA.out; clear HA
      simp only [impl_OneStep.l0] at H
      by_cases c9 : x20_2 < (l0.length : Int)
      ·
       rw [if_pos c9] at H; have c9b0 : decide (x20_2 < (l0.length : Int)) = true := decide_eq_true c9; clear c9
       by_cases c10 : 0 ≤ x20_2
       ·
        rw [if_pos c10] at H; have c10b0 : decide (0 ≤ x20_2) = true := decide_eq_true c10; clear c10
        by_cases c11 : x20_2 < (l0.length : Int)
        ·
         rw [if_pos c11] at H; have c11b0 : decide (x20_2 < (l0.length : Int)) = true := decide_eq_true c11; clear c11; obtain ⟨t315, A12, H⟩ := bnd29_ H
         by_cases c13 : t315 = true
         ·
          subst c13; rw [if_pos rfl] at H; have H' := Aside0.mk H; clear H; have p313 : 0 ≤ (x20_2 : Int) := of_decide_eq_true s4_; have q313 : x20_2 < (l0.length : Int) := of_decide_eq_true s4_; obtain ⟨ad313, e313, hx313_0, hx313_1⟩ := at_T48 HR0.out x20_2 p313 q313
          cases e313
          replace hx313_0 := (HB.out.cell (World.block_lt_of_cell? w _ hx313_0)).trans hx313_0; replace hx313_1 := (HB.out.cell (World.block_lt_of_cell? w _ hx313_1)).trans hx313_1; replace p313 := eq_true p313; replace q313 := eq_true q313
          go_wp2_with ((with_reducible refine gw_ rfl ?_); first | (refine be_ 7 #[.int .i64 0, .int .i64 0] 48 ?_; intro gb314 hg w14 hbox hb; have n_ := ac_ (below_step s1_ hb) <| ac_ (hbox) <| ac_ ((gz_ w hg s1_)) <| Aside0.mk ((gz_ w hg s1_)); clear HB; obtain ⟨HB, BK314, GW314, GE314⟩ := n_; clear hb hbox hg; have hcz15_0 : w14.cell? ⟨gb314, 0, none⟩ = some (.int .i64 0) := (blk_cell BK314.out 0).trans rfl; have hcz15_1 : w14.cell? ⟨gb314, 1, none⟩ = some (.int .i64 0) := (blk_cell BK314.out 1).trans rfl; have hfz15_0 := blk_frozen BK314.out 0; have hfz15_1 := blk_frozen BK314.out 1) | (refine gL_ 141 27 Tryz.func141 #[.int .i64 ((rd_T48 l0 x20_2).f0), .int .i64 a1] ?_; (with_reducible refine (impl_inSet.calls ((rd_T48 l0 x20_2).f0) a1 true _ A12.out).mono ?_); rintro e w' ⟨rfl, ⟨nd, rfl⟩⟩; refine ⟨_, rfl, ?_⟩))
          go_roundg k2
          case measure => have := HJ2.out; have := HK2.out; omega
          case rel => exact ⟨(Go.bits .or .i64 x5_2 ((rd_T48 l0 x20_2).f1)), (wrap64 (x20_2 + 1)), s3_, s3_, H', ⟨by have := HJ2.out; have := HK2.out; omega⟩, ⟨q29_1⟩⟩
         ·
          replace c13 := Bool.eq_false_iff.mpr c13; subst c13
          rw [if_neg (show ¬ (false = true) by decide)] at H
          have H' := Aside0.mk H; clear H; have p313 : 0 ≤ (x20_2 : Int) := of_decide_eq_true s4_; have q313 : x20_2 < (l0.length : Int) := of_decide_eq_true s4_; obtain ⟨ad313, e313, hx313_0, hx313_1⟩ := at_T48 HR0.out x20_2 p313 q313
          cases e313
          replace hx313_0 := (HB.out.cell (World.block_lt_of_cell? w _ hx313_0)).trans hx313_0; replace hx313_1 := (HB.out.cell (World.block_lt_of_cell? w _ hx313_1)).trans hx313_1; replace p313 := eq_true p313; replace q313 := eq_true q313
          go_wp2_with ((with_reducible refine gw_ rfl ?_); first | (refine be_ 7 #[.int .i64 0, .int .i64 0] 48 ?_; intro gb314 hg w16 hbox hb; have n_ := ac_ (below_step s1_ hb) <| ac_ (hbox) <| ac_ ((gz_ w hg s1_)) <| Aside0.mk ((gz_ w hg s1_)); clear HB; obtain ⟨HB, BK314, GW314, GE314⟩ := n_; clear hb hbox hg; have hcz17_0 : w16.cell? ⟨gb314, 0, none⟩ = some (.int .i64 0) := (blk_cell BK314.out 0).trans rfl; have hcz17_1 : w16.cell? ⟨gb314, 1, none⟩ = some (.int .i64 0) := (blk_cell BK314.out 1).trans rfl; have hfz17_0 := blk_frozen BK314.out 0; have hfz17_1 := blk_frozen BK314.out 1) | (refine gL_ 141 27 Tryz.func141 #[.int .i64 ((rd_T48 l0 x20_2).f0), .int .i64 a1] ?_; (with_reducible refine (impl_inSet.calls ((rd_T48 l0 x20_2).f0) a1 false _ A12.out).mono ?_); rintro e w' ⟨rfl, ⟨nd, rfl⟩⟩; refine ⟨_, rfl, ?_⟩))
          go_roundg k2
          case measure => have := HJ2.out; have := HK2.out; omega
          case rel => exact ⟨(x5_2), (wrap64 (x20_2 + 1)), s3_, s3_, H', ⟨by have := HJ2.out; have := HK2.out; omega⟩, ⟨q29_1⟩⟩
        ·
         rw [if_neg c11] at H
         exact absurd H (by simp)
       ·
        rw [if_neg c10] at H
        exact absurd H (by simp)
      ·
       rw [if_neg c9] at H; have c9b0 : decide (x20_2 < (l0.length : Int)) = false := decide_eq_false c9; clear c9; obtain rfl := Option.some.inj H
       go_wp2
       go_ret
       exact ⟨(by first | rfl | (simp [errW_none, errW_some] <;> rfl) | (simp [*, errW_none, errW_some] <;> rfl)), s1_⟩
mutual
def impl_ClosedBy.j0 : Nat → List (S48) → Int → Bool → Option (Int)
 | 0, _, _, _ => none
 | k + 1, x0, x1, x13 => if x13 = true then (some x1) else ((impl_OneStep.f k x0 x1).bind fun t318 => (impl_ClosedBy.l0 k x0 x1 t318))
def impl_ClosedBy.l0 : Nat → List (S48) → Int → Int → Option (Int)
 | 0, _, _, _ => none
 | k + 1, x0, x1, x5 => if x5 = x1 then (some x1) else ((impl_OneStep.f k x0 x5).bind fun t319 => (impl_ClosedBy.l0 k x0 x5 t319))
end
def impl_ClosedBy.f (k : Nat) (l0 : List (S48)) (a1 : Int) : Option (Int) := (impl_isAnySet.f a1).bind fun t316 => (if t316 = true then ((impl_areAnyRules.f l0).bind fun t317 => (impl_ClosedBy.j0 k l0 a1 (!t317))) else (impl_ClosedBy.j0 k l0 a1 true))
theorem impl_ClosedBy.calls (k : Nat) (A0 : Option Addr) (c0 : Nat) (l0 : List (S48)) (a1 : Int) (r : Int) (w : World) (hr0 : Kd.C k48 w A0 l0.length l0) (hc0 : l0.length ≤ c0) (h : impl_ClosedBy.f k l0 a1 = some r) :
  Calls Tryz.prog 70 #[.slice A0 l0.length c0, .int .i64 a1] w fun e w' => e = .returned (.int .i64 r) ∧ Below w.heap.size w w' := by
 have HR0 := Aside0.mk hr0; have HC0 := Aside0.mk hc0; clear hr0 hc0; have HB := Aside0.mk (Below.refl w.heap.size w); have H := h; clear h; unfold impl_ClosedBy.f at H; have HC3 := Aside0.mk H; clear H
 go_enter Tryz.func70, Tryz.ntmps70
 go_upto_region 1 with (fail)
 go_cut [13] (fun v13 wc => ∃ (kq : Nat) (x13_2 : Bool), v13 = .bool x13_2 ∧ Aside0 (impl_ClosedBy.j0 kq l0 a1 x13_2 = some r) ∧ Aside0 (kq ≤ k) ∧ Aside0 (Below w.heap.size w wc))
 case first =>
  have H := HC3.out; clear HC3; obtain ⟨t316, A4, H⟩ := bnd29_ H
  by_cases c5 : t316 = true
  ·
   subst c5; rw [if_pos rfl] at H; obtain ⟨t317, A6, H⟩ := bnd29_ H; have H' := Aside0.mk H; clear H
   go_wp2_with (first | ((with_reducible refine gw_ rfl ?_); (refine gL_ 177 7 Tryz.func177 #[.int .i64 a1] ?_; (with_reducible refine (impl_isAnySet.calls a1 true _ A4.out).mono ?_); rintro e w' ⟨rfl, ⟨nd, rfl⟩⟩; refine ⟨_, rfl, ?_⟩)) | (go_at_call 149; (with_reducible refine (impl_areAnyRules.calls _ _ l0 t317 _ ?side1 ?side2 A6.out).mono ?_); (case side1 => repeat (first | exact (Kd.C_below HR0.out s1_) | (with_reducible refine Kd.C_alloc ?_ _) | (with_reducible refine Kd.C_drewN ?_ _) | (with_reducible refine Kd.C_drew ?_))); (case side2 => exact HC0.out); rintro e w7 ⟨rfl, hb⟩; have n_ := Aside0.mk (below_step s1_ hb); clear HB; have HB := n_; clear n_; (try clear hb)))
   go_meet
   case rel => exact ⟨_, (!t317), s3_, H', ⟨(by first | omega | exact Nat.le_refl _)⟩, ⟨s1_⟩⟩
  ·
   replace c5 := Bool.eq_false_iff.mpr c5; subst c5
   rw [if_neg (show ¬ (false = true) by decide)] at H
   have H' := Aside0.mk H; clear H
   go_wp2_with ((with_reducible refine gw_ rfl ?_); (refine gL_ 177 7 Tryz.func177 #[.int .i64 a1] ?_; (with_reducible refine (impl_isAnySet.calls a1 false _ A4.out).mono ?_); rintro e w' ⟨rfl, ⟨nd, rfl⟩⟩; refine ⟨_, rfl, ?_⟩))
   go_meet
   case rel => exact ⟨_, (true), s3_, H', ⟨(by first | omega | exact Nat.le_refl _)⟩, ⟨s1_⟩⟩
 case rest =>
  clear HC3
  try clear c1
  try clear p2
  try clear c5
  try clear c7
  obtain ⟨kq, x13_2, rfl, HA, HJ2, HB⟩ := hcut
  cases kq with
  | zero => exact absurd HA.out (by simp [impl_ClosedBy.j0])
  | succ kj2 =>
   have H := HA.out; clear HA
   simp only [impl_ClosedBy.j0] at H
   by_cases c8 : x13_2 = true
   ·
    subst c8; rw [if_pos rfl] at H; obtain rfl := Option.some.inj H
    go_wp2
    go_ret
    exact ⟨(by first | rfl | (simp [errW_none, errW_some] <;> rfl) | (simp [*, errW_none, errW_some] <;> rfl)), s1_⟩
   ·
    replace c8 := Bool.eq_false_iff.mpr c8; subst c8
    rw [if_neg (show ¬ (false = true) by decide)] at H
    obtain ⟨t318, A9, H⟩ := bnd29_ H; have H' := Aside0.mk H; clear H
    go_wp2_with ((with_reducible refine gw_ rfl ?_); (refine gL_ 116 17 Tryz.func116 #[.slice A0 l0.length c0, .int .i64 a1] ?_; (with_reducible refine (impl_OneStep.calls kj2 _ _ l0 a1 t318 _ ?side1 ?side2 A9.out).mono ?_); (case side1 => exact s13_); (case side2 => exact HC0.out); rintro e w10 ⟨rfl, hb⟩; refine ⟨_, rfl, ?_⟩; have n_ := Aside0.mk (below_step s1_ hb); clear HB; have HB := n_; clear n_; (try clear hb)))
    go_loopg [1, 5] kj2 (fun kq v1 v5 w' => ∃ (x1_2 : Int) (x5_2 : Int), v1 = .int .i64 x1_2 ∧ v5 = .int .i64 x5_2 ∧ Aside0 (impl_ClosedBy.l0 kq l0 x1_2 x5_2 = some r) ∧ Aside0 (kq ≤ kj2) ∧ Aside0 (Below w.heap.size w w'))
    case atStart => exact ⟨(a1), (t318), s3_, s3_, H', ⟨Nat.le_refl _⟩, ⟨s1_⟩⟩
    case round =>
     clear H'
     try clear c1
     try clear p2
     try clear c5
     try clear c7
     try clear c8
     try clear p2
     obtain ⟨x1_2, x5_2, rfl, rfl, HA, HK2, HB⟩ := hrel
     cases gk with
     | zero => exact absurd HA.out (by simp [impl_ClosedBy.l0])
     | succ k2 =>
      have H := HA.out; clear HA
      simp only [impl_ClosedBy.l0] at H
      by_cases c11 : x5_2 = x1_2
      ·
       rw [if_pos c11] at H; have c11b0 : (x5_2 == x1_2) = true := beq_iff_eq.mpr c11; have c11b1 : (x5_2 != x1_2) = false := bne_eq_false_iff_eq.mpr c11; clear c11; obtain rfl := Option.some.inj H
       go_wp2
       go_ret
       exact ⟨(by first | rfl | (simp [errW_none, errW_some] <;> rfl) | (simp [*, errW_none, errW_some] <;> rfl)), s1_⟩
      ·
       rw [if_neg c11] at H; have c11b0 : (x5_2 == x1_2) = false := beq_eq_false_iff_ne.mpr c11; have c11b1 : (x5_2 != x1_2) = true := bne_iff_ne.mpr c11; obtain ⟨t319, A12, H⟩ := bnd29_ H; have H' := Aside0.mk H; clear H
       go_wp2_with ((with_reducible refine gw_ rfl ?_); (refine gL_ 116 23 Tryz.func116 #[.slice A0 l0.length c0, .int .i64 x5_2] ?_; (with_reducible refine (impl_OneStep.calls k2 _ _ l0 x5_2 t319 _ ?side1 ?side2 A12.out).mono ?_); (case side1 => exact s13_); (case side2 => exact HC0.out); rintro e w13 ⟨rfl, hb⟩; refine ⟨_, rfl, ?_⟩; have n_ := Aside0.mk (below_step s1_ hb); clear HB; have HB := n_; clear n_; (try clear hb)))
       go_roundg k2
       case measure => have := HJ2.out; have := HK2.out; omega
       case rel => exact ⟨(x5_2), (t319), s3_, s3_, H', ⟨by have := HJ2.out; have := HK2.out; omega⟩, ⟨s1_⟩⟩
theorem q29_11 {P : Prop} (h : P := by repeat (first | exact (Kd.R_reads' HO324.out).2.2 | (with_reducible refine Kd.C_alloc ?_ _) | (with_reducible refine Kd.C_drewN ?_ _) | (with_reducible refine Kd.C_drew ?_))) : P := h
theorem q29_12 {P : Prop} (h : P := by repeat (first | (with_reducible first | exact HB.out | apply below_alloc | apply pw_below_drewN | apply below_drew1 | refine below_set ?_ GE320.out) | exact HB.out)) : P := h
theorem q29_15 {P : Prop} (h : P := by (with_reducible repeat (first | refine blk_drewN ?_ _ | refine blk_drew ?_ | refine blk_alloc ?_ _)); exact BK320.out) : P := h
theorem q29_16 {P : Prop} (h : P := by (with_reducible repeat (first | apply Kd.R_alloc | apply Kd.R_drewN | apply Kd.R_drew)); exact HO324.out) : P := h
def impl_Follows.f (k : Nat) (l0 : List (S48)) (a1_0 : Int) (a1_1 : Int) : Option (Bool) := (impl_areAnyRules.f l0).bind fun t321 => (if t321 = true then ((impl_areAnyRules.f (([(⟨a1_0, a1_1⟩ : S48)] : List (S48)))).bind fun t325 => (if t325 = true then ((impl_ClosedBy.f k l0 a1_0).bind fun t326 => ((impl_inSet.f a1_1 t326).bind fun t327 => (some t327))) else (some false))) else (some false))
def impl_Follows.T1 : Bool × List (List Nat × List Nat) := (true, [([], []), ([0], [0]), ([1, 1], [1]), ([2], [2]), ([3, 2], [2, 3]), ([4, 2, 2], [2, 4]), ([2, 5], [2, 5]), ([6, 5], [6]), ([7], [7]), ([8, 7], [7, 8]), ([7], [7]), ([7], [7]), ([11, 7], [7, 11]), ([10, 12, 7, 7], [7, 10, 12]), ([9, 13, 13, 7], [7, 9, 13]), ([7, 14], [7, 14]), ([15, 14, 0, 1, 2, 3, 4, 5, 6, 7, 8, 9, 10, 11, 12, 13, 14, 15], [15])])
def impl_Follows.B1 : List Nat := [0, 1, 3, 7, 15, 31, 63, 127, 255, 511, 255, 255, 2303, 7423, 16383, 32767, 65535]
theorem impl_Follows.tab1 : rtab .any (opsOf Tryz.f68 1) = impl_Follows.T1 := by kernel_rfl
theorem impl_Follows.bits1 : waitsOk impl_Follows.T1.2 impl_Follows.B1 = true := by kernel_rfl
theorem impl_Follows.calls (k : Nat) (A0 : Option Addr) (c0 : Nat) (l0 : List (S48)) (a1_0 : Int) (a1_1 : Int) (r : Bool) (w : World) (hr0 : Kd.C k48 w A0 l0.length l0) (hc0 : l0.length ≤ c0) (h : impl_Follows.f k l0 a1_0 a1_1 = some r) :
  Calls Tryz.prog 68 #[.slice A0 l0.length c0, .agg #[.int .i64 a1_0, .int .i64 a1_1]] w fun e w' => e = .returned (.bool r) ∧ Below w.heap.size w w' := by
 have hu48 := Tryz.underlying48; have HR0 := Aside0.mk hr0; have HC0 := Aside0.mk hc0; clear hr0 hc0; have HB := Aside0.mk (Below.refl w.heap.size w); have H := h; clear h; unfold impl_Follows.f at H; obtain ⟨t321, A3, H⟩ := bnd29_ H
 by_cases c4 : t321 = true
 ·
  subst c4; rw [if_pos rfl] at H; obtain ⟨y322, hy_⟩ : ∃ y_ : List (S48), y_ = (([(⟨a1_0, a1_1⟩ : S48)] : List (S48))) := ⟨_, rfl⟩
  replace H : ((impl_areAnyRules.f y322).bind fun t325 => (if t325 = true then ((impl_ClosedBy.f k l0 a1_0).bind fun t326 => ((impl_inSet.f a1_1 t326).bind fun t327 => (some t327))) else (some false))) = some r := rH_
  have Ny322 := Aside0.mk hy_; clear hy_; obtain ⟨t325, A5, H⟩ := bnd29_ H
  by_cases c6 : t325 = true
  ·
   subst c6; rw [if_pos rfl] at H; obtain ⟨t326, A7, H⟩ := bnd29_ H; obtain ⟨t327, A8, H⟩ := bnd29_ H; obtain rfl := Option.some.inj H
   go_enter Tryz.func68, Tryz.ntmps68
   try go_wp2_with (first | ((with_reducible refine gate_dst (N := 3) rfl ?_); (try (refine gate_guard (by rfl) ?_; dsimp only)); refine box_event ?hg (N := 3) ?hd (cs := #[.int .i64 a1_0, .int .i64 a1_1]) (t := 48) ?hr ?_; (case hd => rfl); (case hg => rfl); (case hr => first | (go_simp; done) | (go_simp; rfl)); intro gb320 hg w9 hbox hb; have n_ := ac_ (below_step s1_ hb) <| ac_ (hbox) <| ac_ ((gz_ w hg s1_)) <| Aside0.mk ((gz_ w hg s1_)); clear HB; obtain ⟨HB, BK320, GW320, GE320⟩ := n_; clear hb hbox hg))
   have n0_ := Aside0.mk (blk_drew BK320.out); have n1_ := Aside0.mk (below_drew1 HB.out); clear BK320; clear HB; have BK320 := n0_; have HB := n1_; clear n0_ n1_
   refine start_ (n := 17) (S := fun w' => w'.cell? ⟨gb320, 0, none⟩ = some (.int .i64 a1_0) ∧ w'.cell? ⟨gb320, 1, none⟩ = some (.int .i64 a1_1)) (ds := []) (tb_ 17 0) (by kernel_rfl) rfl rfl ⟨(blk_cell BK320.out 0).trans rfl, (blk_cell BK320.out 1).trans rfl⟩ (fun hHeld => ?_); refine with_tabW impl_Follows.tab1 impl_Follows.bits1 (fun HT_ HW_ => ?_)
   generalize w9.drew = w10 at BK320 HB hHeld ⊢
   refine pl_ 0 5 (tb_ 17 1) ?_
   refine on_ 1 6 (tb_ 17 3) (fun K hK => ?_)
   refine goes_ Tryz.func149 (by kernel_rfl) rfl #[.slice A0 l0.length c0] (by rfl) rfl rfl s0_ ?_
   with_reducible refine (impl_areAnyRules.calls _ _ l0 true _ ?side1 ?side2 A3.out).mono ?_
   (case side1 => exact s13_)
   (case side2 => exact HC0.out)
   rintro e w11 ⟨rfl, hb⟩
   refine ⟨_, rfl, ?_⟩
   have n0_ := Aside0.mk (blk_below (g := gb320) (o := .cells #[.int .i64 a1_0, .int .i64 a1_1] 48 (0, 0)) q29_15 hb); have n1_ := Aside0.mk (below_step q29_12 hb); clear BK320; clear HB; have BK320 := n0_; have HB := n1_; clear n0_ n1_
   (try clear hb)
   (try clear hb2)
   (try clear hk)
   (try clear hi)
   refine hK.out _ _ ⟨(blk_cell BK320.out 0).trans rfl, (blk_cell BK320.out 1).trans rfl⟩ (fun hHeld => ?_)
   clear hK K
   refine norm_ (a' := ?_) ?_ ?_
   rotate_left
   ·
    show Act.put _ (some 6) _ = _
    exact s9_
   refine pl_ 2 7 (tb_ 17 7) ?_; refine tk_ 3 8 (tb_ 17 15) hHeld ?_
   refine on_ 4 9 (tb_ 17 31) (fun K hK => ?_)
   refine Kd.R_lit_step k48 _ 48 ?hg (N := 9) ?hd (xs := ([(⟨a1_0, a1_1⟩ : S48)] : List (S48))) (inner := [.int .i64 a1_0, .int .i64 a1_1]) (ok := fun _ => True) (okp := fun _ => True) ?hr ?hp (fun _ hk => hk) trivial (Below.refl _ _) (Nat.le_refl _) (by simp) ?_; (case hd => rfl); (case hg => rfl); (case hr => first | (go_simp; done) | (go_simp; rfl)); (case hp => exact (Reps.c2 (show Kd.M k48 _ _ _ (⟨a1_0, a1_1⟩ : S48) [.int .i64 a1_0, .int .i64 a1_1] from (k48_mkM _ _ _ (⟨a1_0, a1_1⟩ : S48) )) (Reps.none _ _)))
   intro v323 w12 ho13 hb hg_ hnew_
   clear hg_ hnew_
   (first | rw [← Ny322.out] at ho13 | (simp only [Int.reduceToNat] at ho13; rw [← Ny322.out] at ho13))
   have n0_ := Aside0.mk (Kd.R_lower (Kd.R_newB ho13 (g := gb320) (o := .cells #[.int .i64 a1_0, .int .i64 a1_1] 48 (0, 0)) q29_15) (below_size q29_12)); have n1_ := Aside0.mk (blk_below (g := gb320) (o := .cells #[.int .i64 a1_0, .int .i64 a1_1] 48 (0, 0)) q29_15 hb); have n2_ := Aside0.mk (below_step q29_12 hb); clear BK320; clear HB; have HO324 := n0_; have BK320 := n1_; have HB := n2_; clear n0_ n1_ n2_; clear hb ho13; obtain ⟨Ao14, co14, eo14⟩ := Kd.R_slice HO324.out
   (first | subst eo14 | (injection eo14 with f1_ f2_ f3_; have f4_ := f1_.symm; have f5_ := f3_.symm; clear f1_ f2_ f3_; subst f4_; subst f5_))
   refine hK.out _ _ ⟨(blk_cell BK320.out 0).trans rfl, (blk_cell BK320.out 1).trans rfl⟩ (fun hHeld => ?_)
   clear hK K
   refine norm_ (a' := ?_) ?_ ?_
   rotate_left
   ·
    show Act.put _ (some 9) _ = _
    exact s9_
   refine on_ 5 10 (tb_ 17 63) (fun K hK => ?_)
   refine goes_ Tryz.func149 (by kernel_rfl) rfl #[.slice Ao14 y322.length co14] (by rfl) rfl rfl s0_ ?_
   with_reducible refine (impl_areAnyRules.calls _ _ y322 true _ ?side1 ?side2 A5.out).mono ?_
   (case side1 => exact q29_11)
   (case side2 => exact (Kd.R_reads' HO324.out).2.1)
   rintro e w15 ⟨rfl, hb⟩
   refine ⟨_, rfl, ?_⟩
   have n0_ := Aside0.mk (Kd.R_below q29_16 hb); have n1_ := Aside0.mk (blk_below (g := gb320) (o := .cells #[.int .i64 a1_0, .int .i64 a1_1] 48 (0, 0)) q29_15 hb); have n2_ := Aside0.mk (below_step q29_12 hb); clear HO324; clear BK320; clear HB; have HO324 := n0_; have BK320 := n1_; have HB := n2_; clear n0_ n1_ n2_
   (try clear hb)
   (try clear hb2)
   (try clear hk)
   (try clear hi)
   refine hK.out _ _ ⟨(blk_cell BK320.out 0).trans rfl, (blk_cell BK320.out 1).trans rfl⟩ (fun hHeld => ?_)
   clear hK K
   refine norm_ (a' := ?_) ?_ ?_
   rotate_left
   ·
    show Act.put _ (some 10) _ = _
    exact s9_
   refine pl_ 6 11 (tb_ 17 127) ?_; refine pl_ 7 12 (tb_ 17 255) ?_; refine pl_ 8 13 (tb_ 17 511) ?_; refine pl_ 10 15 (tb_ 17 1535) ?_; refine pl_ 11 16 (tb_ 17 3583) ?_; refine tk_ 9 14 (tb_ 17 4095) hHeld ?_; refine tk_ 12 17 (tb_ 17 8191) hHeld ?_
   refine on_ 13 18 (tb_ 17 16383) (fun K hK => ?_)
   refine goes_ Tryz.func70 (by kernel_rfl) rfl #[.slice A0 l0.length c0, .int .i64 a1_0] (by rfl) rfl rfl s0_ ?_
   with_reducible refine (impl_ClosedBy.calls k _ _ l0 a1_0 t326 _ ?side1 ?side2 A7.out).mono ?_
   (case side1 => exact s13_)
   (case side2 => exact HC0.out)
   rintro e w16 ⟨rfl, hb⟩
   refine ⟨_, rfl, ?_⟩
   have n0_ := Aside0.mk (Kd.R_below q29_16 hb); have n1_ := Aside0.mk (blk_below (g := gb320) (o := .cells #[.int .i64 a1_0, .int .i64 a1_1] 48 (0, 0)) q29_15 hb); have n2_ := Aside0.mk (below_step q29_12 hb); clear HO324; clear BK320; clear HB; have HO324 := n0_; have BK320 := n1_; have HB := n2_; clear n0_ n1_ n2_
   (try clear hb)
   (try clear hb2)
   (try clear hk)
   (try clear hi)
   refine hK.out _ _ ⟨(blk_cell BK320.out 0).trans rfl, (blk_cell BK320.out 1).trans rfl⟩ (fun hHeld => ?_)
   clear hK K
   refine norm_ (a' := ?_) ?_ ?_
   rotate_left
   ·
    show Act.put _ (some 18) _ = _
    exact s9_
   refine on_ 14 19 (tb_ 17 32767) (fun K hK => ?_)
   refine goes_ Tryz.func141 (by kernel_rfl) rfl #[.int .i64 a1_1, .int .i64 t326] (by rfl) rfl rfl s0_ ?_
   with_reducible refine (impl_inSet.calls a1_1 t326 t327 _ A8.out).mono ?_
   rintro e w' ⟨rfl, ⟨nd, rfl⟩⟩
   refine ⟨_, rfl, ?_⟩
   refine hK.out _ _ ⟨(blk_cell BK320.out 0).trans rfl, (blk_cell BK320.out 1).trans rfl⟩ (fun hHeld => ?_)
   clear hK K
   refine norm_ (a' := ?_) ?_ ?_
   rotate_left
   ·
    show Act.put _ (some 19) _ = _
    exact s9_
   refine pl_ 15 20 (tb_ 17 65535) ?_; refine pl_ 16 4 (tb_ 17 131071) ?_
   refine done_ (done_of HT_.out (by kernel_rfl)) ?_
   try go_wp2
   go_ret
   exact ⟨s5_, q29_12⟩
  ·
   replace c6 := Bool.eq_false_iff.mpr c6; subst c6
   rw [if_neg (show ¬ (false = true) by decide)] at H
   obtain rfl := Option.some.inj H
   go_enter Tryz.func68, Tryz.ntmps68
   try go_wp2_with (first | ((with_reducible refine gate_dst (N := 3) rfl ?_); (try (refine gate_guard (by rfl) ?_; dsimp only)); refine box_event ?hg (N := 3) ?hd (cs := #[.int .i64 a1_0, .int .i64 a1_1]) (t := 48) ?hr ?_; (case hd => rfl); (case hg => rfl); (case hr => first | (go_simp; done) | (go_simp; rfl)); intro gb320 hg w17 hbox hb; have n_ := ac_ (below_step s1_ hb) <| ac_ (hbox) <| ac_ ((gz_ w hg s1_)) <| Aside0.mk ((gz_ w hg s1_)); clear HB; obtain ⟨HB, BK320, GW320, GE320⟩ := n_; clear hb hbox hg))
   have n0_ := Aside0.mk (blk_drew BK320.out); have n1_ := Aside0.mk (below_drew1 HB.out); clear BK320; clear HB; have BK320 := n0_; have HB := n1_; clear n0_ n1_
   refine start_ (n := 17) (S := fun w' => w'.cell? ⟨gb320, 0, none⟩ = some (.int .i64 a1_0) ∧ w'.cell? ⟨gb320, 1, none⟩ = some (.int .i64 a1_1)) (ds := []) (tb_ 17 0) (by kernel_rfl) rfl rfl ⟨(blk_cell BK320.out 0).trans rfl, (blk_cell BK320.out 1).trans rfl⟩ (fun hHeld => ?_); refine with_tabW impl_Follows.tab1 impl_Follows.bits1 (fun HT_ HW_ => ?_)
   generalize w17.drew = w18 at BK320 HB hHeld ⊢
   refine pl_ 0 5 (tb_ 17 1) ?_
   refine on_ 1 6 (tb_ 17 3) (fun K hK => ?_)
   refine goes_ Tryz.func149 (by kernel_rfl) rfl #[.slice A0 l0.length c0] (by rfl) rfl rfl s0_ ?_
   with_reducible refine (impl_areAnyRules.calls _ _ l0 true _ ?side1 ?side2 A3.out).mono ?_
   (case side1 => exact s13_)
   (case side2 => exact HC0.out)
   rintro e w19 ⟨rfl, hb⟩
   refine ⟨_, rfl, ?_⟩
   have n0_ := Aside0.mk (blk_below (g := gb320) (o := .cells #[.int .i64 a1_0, .int .i64 a1_1] 48 (0, 0)) q29_15 hb); have n1_ := Aside0.mk (below_step q29_12 hb); clear BK320; clear HB; have BK320 := n0_; have HB := n1_; clear n0_ n1_
   (try clear hb)
   (try clear hb2)
   (try clear hk)
   (try clear hi)
   refine hK.out _ _ ⟨(blk_cell BK320.out 0).trans rfl, (blk_cell BK320.out 1).trans rfl⟩ (fun hHeld => ?_)
   clear hK K
   refine norm_ (a' := ?_) ?_ ?_
   rotate_left
   ·
    show Act.put _ (some 6) _ = _
    exact s9_
   refine pl_ 2 7 (tb_ 17 7) ?_; refine tk_ 3 8 (tb_ 17 15) hHeld ?_
   refine on_ 4 9 (tb_ 17 31) (fun K hK => ?_)
   refine Kd.R_lit_step k48 _ 48 ?hg (N := 9) ?hd (xs := ([(⟨a1_0, a1_1⟩ : S48)] : List (S48))) (inner := [.int .i64 a1_0, .int .i64 a1_1]) (ok := fun _ => True) (okp := fun _ => True) ?hr ?hp (fun _ hk => hk) trivial (Below.refl _ _) (Nat.le_refl _) (by simp) ?_; (case hd => rfl); (case hg => rfl); (case hr => first | (go_simp; done) | (go_simp; rfl)); (case hp => exact (Reps.c2 (show Kd.M k48 _ _ _ (⟨a1_0, a1_1⟩ : S48) [.int .i64 a1_0, .int .i64 a1_1] from (k48_mkM _ _ _ (⟨a1_0, a1_1⟩ : S48) )) (Reps.none _ _)))
   intro v323 w20 ho21 hb hg_ hnew_
   clear hg_ hnew_
   (first | rw [← Ny322.out] at ho21 | (simp only [Int.reduceToNat] at ho21; rw [← Ny322.out] at ho21))
   have n0_ := Aside0.mk (Kd.R_lower (Kd.R_newB ho21 (g := gb320) (o := .cells #[.int .i64 a1_0, .int .i64 a1_1] 48 (0, 0)) q29_15) (below_size q29_12)); have n1_ := Aside0.mk (blk_below (g := gb320) (o := .cells #[.int .i64 a1_0, .int .i64 a1_1] 48 (0, 0)) q29_15 hb); have n2_ := Aside0.mk (below_step q29_12 hb); clear BK320; clear HB; have HO324 := n0_; have BK320 := n1_; have HB := n2_; clear n0_ n1_ n2_; clear hb ho21; obtain ⟨Ao22, co22, eo22⟩ := Kd.R_slice HO324.out
   (first | subst eo22 | (injection eo22 with f1_ f2_ f3_; have f4_ := f1_.symm; have f5_ := f3_.symm; clear f1_ f2_ f3_; subst f4_; subst f5_))
   refine hK.out _ _ ⟨(blk_cell BK320.out 0).trans rfl, (blk_cell BK320.out 1).trans rfl⟩ (fun hHeld => ?_)
   clear hK K
   refine norm_ (a' := ?_) ?_ ?_
   rotate_left
   ·
    show Act.put _ (some 9) _ = _
    exact s9_
   refine on_ 5 10 (tb_ 17 63) (fun K hK => ?_)
   refine goes_ Tryz.func149 (by kernel_rfl) rfl #[.slice Ao22 y322.length co22] (by rfl) rfl rfl s0_ ?_
   with_reducible refine (impl_areAnyRules.calls _ _ y322 false _ ?side1 ?side2 A5.out).mono ?_
   (case side1 => exact q29_11)
   (case side2 => exact (Kd.R_reads' HO324.out).2.1)
   rintro e w23 ⟨rfl, hb⟩
   refine ⟨_, rfl, ?_⟩
   have n0_ := Aside0.mk (Kd.R_below q29_16 hb); have n1_ := Aside0.mk (blk_below (g := gb320) (o := .cells #[.int .i64 a1_0, .int .i64 a1_1] 48 (0, 0)) q29_15 hb); have n2_ := Aside0.mk (below_step q29_12 hb); clear HO324; clear BK320; clear HB; have HO324 := n0_; have BK320 := n1_; have HB := n2_; clear n0_ n1_ n2_
   (try clear hb)
   (try clear hb2)
   (try clear hk)
   (try clear hi)
   refine hK.out _ _ ⟨(blk_cell BK320.out 0).trans rfl, (blk_cell BK320.out 1).trans rfl⟩ (fun hHeld => ?_)
   clear hK K
   refine norm_ (a' := ?_) ?_ ?_
   rotate_left
   ·
    show Act.put _ (some 10) _ = _
    exact s9_
   refine pl_ 6 11 (tb_ 17 127) ?_; refine pl_ 7 12 (tb_ 17 255) ?_; refine pr_ 8 13 (tb_ 17 511) ?_; refine pr_ 9 14 (tb_ 17 1023) ?_; refine pr_ 10 15 (tb_ 17 2047) ?_; refine pr_ 11 16 (tb_ 17 4095) ?_; refine pr_ 12 17 (tb_ 17 8191) ?_; refine pr_ 13 18 (tb_ 17 16383) ?_; refine pr_ 14 19 (tb_ 17 32767) ?_; refine pl_ 15 20 (tb_ 17 65535) ?_; refine pl_ 16 4 (tb_ 17 131071) ?_
   refine done_ (done_of HT_.out (by kernel_rfl)) ?_
   try go_wp2
   go_ret
   exact ⟨s5_, q29_12⟩
 ·
  replace c4 := Bool.eq_false_iff.mpr c4; subst c4
  rw [if_neg (show ¬ (false = true) by decide)] at H
  obtain rfl := Option.some.inj H
  go_enter Tryz.func68, Tryz.ntmps68
  try go_wp2_with (first | ((with_reducible refine gate_dst (N := 3) rfl ?_); (try (refine gate_guard (by rfl) ?_; dsimp only)); refine box_event ?hg (N := 3) ?hd (cs := #[.int .i64 a1_0, .int .i64 a1_1]) (t := 48) ?hr ?_; (case hd => rfl); (case hg => rfl); (case hr => first | (go_simp; done) | (go_simp; rfl)); intro gb320 hg w24 hbox hb; have n_ := ac_ (below_step s1_ hb) <| ac_ (hbox) <| ac_ ((gz_ w hg s1_)) <| Aside0.mk ((gz_ w hg s1_)); clear HB; obtain ⟨HB, BK320, GW320, GE320⟩ := n_; clear hb hbox hg))
  have n0_ := Aside0.mk (blk_drew BK320.out); have n1_ := Aside0.mk (below_drew1 HB.out); clear BK320; clear HB; have BK320 := n0_; have HB := n1_; clear n0_ n1_
  refine start_ (n := 17) (S := fun w' => True) (ds := []) (tb_ 17 0) (by kernel_rfl) rfl rfl trivial (fun hHeld => ?_); refine with_tabW impl_Follows.tab1 impl_Follows.bits1 (fun HT_ HW_ => ?_)
  generalize w24.drew = w25 at BK320 HB hHeld ⊢
  refine pl_ 0 5 (tb_ 17 1) ?_
  refine on_ 1 6 (tb_ 17 3) (fun K hK => ?_)
  refine goes_ Tryz.func149 (by kernel_rfl) rfl #[.slice A0 l0.length c0] (by rfl) rfl rfl s0_ ?_
  with_reducible refine (impl_areAnyRules.calls _ _ l0 false _ ?side1 ?side2 A3.out).mono ?_
  (case side1 => exact s13_)
  (case side2 => exact HC0.out)
  rintro e w26 ⟨rfl, hb⟩
  refine ⟨_, rfl, ?_⟩
  have n0_ := Aside0.mk (blk_below (g := gb320) (o := .cells #[.int .i64 a1_0, .int .i64 a1_1] 48 (0, 0)) q29_15 hb); have n1_ := Aside0.mk (below_step q29_12 hb); clear BK320; clear HB; have BK320 := n0_; have HB := n1_; clear n0_ n1_
  (try clear hb)
  (try clear hb2)
  (try clear hk)
  (try clear hi)
  refine hK.out _ _ trivial (fun hHeld => ?_)
  clear hK K
  refine norm_ (a' := ?_) ?_ ?_
  rotate_left
  ·
   show Act.put _ (some 6) _ = _
   exact s9_
  refine pl_ 2 7 (tb_ 17 7) ?_; refine pr_ 3 8 (tb_ 17 15) ?_; refine pr_ 4 9 (tb_ 17 31) ?_; refine pr_ 5 10 (tb_ 17 63) ?_; refine pl_ 6 11 (tb_ 17 127) ?_; refine pl_ 7 12 (tb_ 17 255) ?_; refine pr_ 8 13 (tb_ 17 511) ?_; refine pr_ 9 14 (tb_ 17 1023) ?_; refine pr_ 10 15 (tb_ 17 2047) ?_; refine pr_ 11 16 (tb_ 17 4095) ?_; refine pr_ 12 17 (tb_ 17 8191) ?_; refine pr_ 13 18 (tb_ 17 16383) ?_; refine pr_ 14 19 (tb_ 17 32767) ?_; refine pl_ 15 20 (tb_ 17 65535) ?_; refine pl_ 16 4 (tb_ 17 131071) ?_
  refine done_ (done_of HT_.out (by kernel_rfl)) ?_
  try go_wp2
  go_ret
  exact ⟨s5_, q29_12⟩
end Go.Proofs.YtafnamchckehmaaGreatDoor.Pr
namespace Go.Proofs.YtafnamchckehmaaGreatDoor.Pr
set_option maxHeartbeats 4000000
set_option maxRecDepth 100000
open Go.RowKit Go.Proofs.YtafnamchckehmaaGreatDoorW.PrintWords Go.Proofs.YtafnamchckehmaaGreatDoorW.PrintLast Go.Proofs.YtafnamchckehmaaGreatDoorW.PrintMore
set_option linter.unusedVariables false
def ruleB (n : Int) (r : S48) : Bool := Pu.isSetB n r.f0 && Pu.isSetB n r.f1
def impl_AreRules.f (a0 : Int) (l1 : List S48) : Option Bool := some (decide (0 ≤ a0 ∧ a0 ≤ 6) && decide ((l1.length : Int) ≤ 40) && l1.all (ruleB a0))
theorem AreRules1_calls (n : Int) (b : Nat) (x : S48) (W : World) (hc : W.cell? ⟨b, 0, none⟩ = some (.int .i64 n)) :
    Calls Tryz.prog 185 #[.agg #[.int .i64 x.f0, .int .i64 x.f1], .pointer (some ⟨b, 0, none⟩)] W fun e w' => e = .returned (.bool (!ruleB n x)) ∧ Below W.heap.size W w' := by
  have hb : b < W.heap.size := World.block_lt_of_cell? W _ hc
  have hu := Tryz.underlying48
  cases h1 : Pu.isSetB n x.f0 with
  | false =>
    have H : Aside0 (ruleB n x = false) := ⟨by unfold ruleB; rw [h1]; rfl⟩
    have K1 : Aside0 (impl_IsSet.f n x.f0 = some false) := ⟨by rw [Pu.set_val, h1]⟩
    clear h1
    go_enter Tryz.func185, Tryz.ntmps185
    go_wp2_with (go_at_call 130; refine (impl_IsSet.calls n x.f0 false _ K1.out).mono ?_; rintro e w' ⟨rfl, ⟨⟨q, rfl⟩⟩⟩)
    go_ret
    exact ⟨by rw [H.out]; rfl, by repeat (first | apply below_alloc | apply pw_below_drewN | apply below_drew1 | exact Below.refl _ _)⟩
  | true =>
    cases h2 : Pu.isSetB n x.f1 with
    | false =>
      have H : Aside0 (ruleB n x = false) := ⟨by unfold ruleB; rw [h1, h2]; rfl⟩
      have K1 : Aside0 (impl_IsSet.f n x.f0 = some true) := ⟨by rw [Pu.set_val, h1]⟩
      have K2 : Aside0 (impl_IsSet.f n x.f1 = some false) := ⟨by rw [Pu.set_val, h2]⟩
      clear h1 h2
      go_enter Tryz.func185, Tryz.ntmps185
      go_wp2_with fail
      refine (impl_IsSet.calls n x.f0 true _ K1.out).mono ?_
      rintro e w' ⟨rfl, ⟨⟨q, rfl⟩⟩⟩
      go_wp2_with fail
      refine (impl_IsSet.calls n x.f1 false _ K2.out).mono ?_
      rintro e w' ⟨rfl, ⟨⟨q2, rfl⟩⟩⟩
      go_wp2
      go_ret
      exact ⟨by rw [H.out]; rfl, by repeat (first | apply below_alloc | apply pw_below_drewN | apply below_drew1 | exact Below.refl _ _)⟩
    | true =>
      have H : Aside0 (ruleB n x = true) := ⟨by unfold ruleB; rw [h1, h2]; rfl⟩
      have K1 : Aside0 (impl_IsSet.f n x.f0 = some true) := ⟨by rw [Pu.set_val, h1]⟩
      have K2 : Aside0 (impl_IsSet.f n x.f1 = some true) := ⟨by rw [Pu.set_val, h2]⟩
      clear h1 h2
      go_enter Tryz.func185, Tryz.ntmps185
      go_wp2_with fail
      refine (impl_IsSet.calls n x.f0 true _ K1.out).mono ?_
      rintro e w' ⟨rfl, ⟨⟨q, rfl⟩⟩⟩
      go_wp2_with fail
      refine (impl_IsSet.calls n x.f1 true _ K2.out).mono ?_
      rintro e w' ⟨rfl, ⟨⟨q2, rfl⟩⟩⟩
      go_wp2
      go_ret
      exact ⟨by rw [H.out]; rfl, by repeat (first | apply below_alloc | apply pw_below_drewN | apply below_drew1 | exact Below.refl _ _)⟩
theorem AreRules1_fn (n : Int) (b : Nat) (w : World) (hc : w.cell? ⟨b, 0, none⟩ = some (.int .i64 n)) : FnRb 185 #[.pointer (some ⟨b, 0, none⟩)] (fun x => !ruleB n x) w := by
  intro W x hb
  rw [show (#[.agg #[.int .i64 x.f0, .int .i64 x.f1]] ++ #[.pointer (some ⟨b, 0, none⟩)] : Array Value) = #[.agg #[.int .i64 x.f0, .int .i64 x.f1], .pointer (some ⟨b, 0, none⟩)] from rfl]
  exact AreRules1_calls n b x W ((hb.cell (p := ⟨b, 0, none⟩) (World.block_lt_of_cell? w _ hc)).trans hc)
theorem box_cell {w w1 : World} {a : Value} {t : TypeId} (h : Below (w.alloc (.cells #[a] t)).heap.size (w.alloc (.cells #[a] t)) w1) : w1.cell? ⟨w.heap.size, 0, none⟩ = some a := by
  have h0 : (w.alloc (.cells #[a] t)).cell? ⟨w.heap.size, 0, none⟩ = some a := blk_cell (heap_alloc_new w (.cells #[a] t)) 0
  exact (h.cell (p := ⟨w.heap.size, 0, none⟩) (by simp)).trans h0
theorem impl_AreRules.calls (a0 : Int) (A1 : Option Addr) (c1 : Nat) (l1 : List S48) (r : Bool) (w : World) (hr1 : Kd.C k48 w A1 l1.length l1) (hc1 : l1.length ≤ c1) (h : impl_AreRules.f a0 l1 = some r) :
    Calls Tryz.prog 81 #[.int .i64 a0, .slice A1 l1.length c1] w fun e w' => e = .returned (.bool r) ∧ Below w.heap.size w w' := by
  have HR := Aside0.mk hr1
  have hr := Aside0.mk (Option.some.inj h)
  clear h hr1
  have eg : ∀ args w, (callFunc 185 args).run Tryz.prog w = .ok (.enter 185 args) w := enters_of Tryz.func185 (by kernel_rfl) rfl
  cases h1 : decide (0 ≤ a0 ∧ a0 ≤ 6) with
  | false =>
    have K : Aside0 (impl_within.f a0 0 6 = some false) := ⟨by rw [Pu.within_val, h1]⟩
    have H : Aside0 (r = false) := ⟨by rw [← hr.out, h1]; rfl⟩
    clear h1
    go_enter Tryz.func81, Tryz.ntmps81
    go_wp2_with (go_at_call 127; refine (impl_within.calls a0 0 6 false _ K.out).mono ?_; rintro e w' ⟨rfl, ⟨⟨q, rfl⟩⟩⟩)
    go_ret
    exact ⟨by rw [H.out]; rfl, by repeat (first | apply below_alloc | apply pw_below_drewN | apply below_drew1 | exact Below.refl _ _)⟩
  | true =>
    have K : Aside0 (impl_within.f a0 0 6 = some true) := ⟨by rw [Pu.within_val, h1]⟩
    by_cases h2 : (l1.length : Int) ≤ 40
    · have h2b : decide ((l1.length : Int) ≤ 40) = true := decide_eq_true h2
      have H : Aside0 (r = !(l1.any fun x => !ruleB a0 x)) := ⟨by rw [← hr.out, h1, h2b, ← List.all_eq_not_any_not]; rfl⟩
      clear h1 h2
      go_enter Tryz.func81, Tryz.ntmps81
      go_wp2_with (go_at_call 127; refine (impl_within.calls a0 0 6 true _ K.out).mono ?_; rintro e w1 ⟨rfl, hd⟩; have HB1 := Aside0.mk (below_step (below_alloc (Below.refl w.heap.size w) _) hd.below); have HC1 := Aside0.mk (box_cell (a := .int .i64 a0) hd.below); clear hd)
      refine (ContainsFunc_rule 185 #[.pointer (some ⟨w.heap.size, 0, none⟩)] eg A1 c1 l1 (fun x => !ruleB a0 x) w1 (Kd.C_below HR.out HB1.out) (AreRules1_fn a0 w.heap.size w1 HC1.out)).mono ?_
      rintro e w' ⟨rfl, hb⟩
      go_wp2
      go_ret
      exact ⟨by rw [H.out]; rfl, below_step HB1.out hb⟩
    · have h2b : decide ((l1.length : Int) ≤ 40) = false := decide_eq_false h2
      have H : Aside0 (r = false) := ⟨by rw [← hr.out, h1, h2b]; rfl⟩
      clear h1 h2
      go_enter Tryz.func81, Tryz.ntmps81
      go_wp2_with (go_at_call 127; refine (impl_within.calls a0 0 6 true _ K.out).mono ?_; rintro e w' ⟨rfl, ⟨⟨q, rfl⟩⟩⟩)
      go_ret
      exact ⟨by rw [H.out]; rfl, by repeat (first | apply below_alloc | apply pw_below_drewN | apply below_drew1 | exact Below.refl _ _)⟩
end Go.Proofs.YtafnamchckehmaaGreatDoor.Pr
