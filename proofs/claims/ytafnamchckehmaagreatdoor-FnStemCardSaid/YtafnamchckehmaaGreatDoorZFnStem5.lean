/- Functions of the program as plain functions, proofs that their calls answer so, and plain laws: what the law needs. No condition beyond what each statement says. -/
import Derived.Test.YtafnamchckehmaaGreatDoorZFnStem4
namespace Go.Proofs.YtafnamchckehmaaGreatDoor.Pr
set_option maxHeartbeats 40000000
set_option maxRecDepth 100000
open Go.RowKit Go.Proofs.YtafnamchckehmaaGreatDoorW.PrintWords Go.Proofs.YtafnamchckehmaaGreatDoorW.PrintLast Go.Proofs.YtafnamchckehmaaGreatDoorW.PrintMore
attribute [local go_sem] max2_int min2_int max_two min_two max_three min_three max_four min_four
set_option linter.unusedVariables false
set_option linter.unusedSimpArgs false
theorem bnd25_ {α β : Type} {o : Option α} {f : α → Option β} {r : β} (h : o.bind f = some r) : ∃ a, Aside0 (o = some a) ∧ f a = some r := by
 obtain ⟨a, h1, h2⟩ := Option.bind_eq_some_iff.mp h
 exact ⟨a, ⟨h1⟩, h2⟩
def laws_sameInts.l0 : Nat → List Int → List Int → Int → Option (Bool)
 | 0, _, _, _ => none
 | k + 1, x0, x1, x5 => if x5 < (x0.length : Int) then (if 0 ≤ x5 then (if x5 < (x1.length : Int) then (if (rd x0 x5) = (rd x1 x5) then (laws_sameInts.l0 k x0 x1 (wrap64 (x5 + 1))) else (some false)) else (none)) else (none)) else (some true)
def laws_sameInts.f (k : Nat) (l0 : List Int) (l1 : List Int) : Option (Bool) := if (l0.length : Int) = (l1.length : Int) then (laws_sameInts.l0 k l0 l1 0) else (some false)
theorem laws_sameInts.calls (k : Nat) (A0 : Option Addr) (c0 : Nat) (l0 : List Int) (A1 : Option Addr) (c1 : Nat) (l1 : List Int) (r : Bool) (w : World) (hr0 : Kd.C (Kd.int .i64) w A0 l0.length l0) (hc0 : l0.length ≤ c0) (hr1 : Kd.C (Kd.int .i64) w A1 l1.length l1) (hc1 : l1.length ≤ c1) (h : laws_sameInts.f k l0 l1 = some r) :
  Calls Tryz.prog 21 #[.slice A0 l0.length c0, .slice A1 l1.length c1] w fun e w' => e = .returned (.bool r) ∧ Drawn0 w w' := by
 have HR0 := Aside0.mk hr0; have HC0 := Aside0.mk hc0; clear hr0 hc0; have HR1 := Aside0.mk hr1; have HC1 := Aside0.mk hc1; clear hr1 hc1; have H := h; clear h; unfold laws_sameInts.f at H
 by_cases c3 : (l0.length : Int) = (l1.length : Int)
 ·
  rw [if_pos c3] at H; have c3b0 : ((l0.length : Int) == (l1.length : Int)) = true := beq_iff_eq.mpr c3; have c3b1 : ((l0.length : Int) != (l1.length : Int)) = false := bne_eq_false_iff_eq.mpr c3
  have c3b2 : (l0.length == l1.length) = true := by first | simpa using c3 | (simp at c3 ⊢; omega)
  clear c3; have H' := Aside0.mk H; clear H
  go_enter Tryz.func21, Tryz.ntmps21
  go_wp2
  repeat (go_quiet (fail); try go_wp2)
  go_loopg [5] k (fun kq v5 w' => ∃ (x5_1 : Int), v5 = .int .i64 x5_1 ∧ Aside0 (laws_sameInts.l0 kq l0 l1 x5_1 = some r) ∧ Aside0 (kq ≤ k) ∧ Drawn0 w w')
  case atStart => exact ⟨(0), s3_, H', ⟨Nat.le_refl _⟩, s6_⟩
  case round =>
   clear H'
   try clear c1
   try clear c2
   try clear p2
   try clear c3
   try clear c3b0
   try clear c3b1
   try clear c3b2
   obtain ⟨x5_1, rfl, HA, HK1, ⟨m1, rfl⟩⟩ := hrel
   cases gk with
   | zero => exact absurd HA.out (by simp [laws_sameInts.l0])
   | succ k1 =>
    have H := HA.out; clear HA
    simp only [laws_sameInts.l0] at H
    by_cases c4 : x5_1 < (l0.length : Int)
    ·
     rw [if_pos c4] at H; have c4b0 : decide (x5_1 < (l0.length : Int)) = true := decide_eq_true c4; clear c4
     by_cases c5 : 0 ≤ x5_1
     ·
      rw [if_pos c5] at H; have c5b0 : decide (0 ≤ x5_1) = true := decide_eq_true c5; clear c5
      by_cases c6 : x5_1 < (l1.length : Int)
      ·
       rw [if_pos c6] at H; have c6b0 : decide (x5_1 < (l1.length : Int)) = true := decide_eq_true c6; clear c6
       by_cases c7 : (rd l0 x5_1) = (rd l1 x5_1)
       ·
        rw [if_pos c7] at H; have c7b0 : ((rd l0 x5_1) == (rd l1 x5_1)) = true := beq_iff_eq.mpr c7; have c7b1 : ((rd l0 x5_1) != (rd l1 x5_1)) = false := bne_eq_false_iff_eq.mpr c7; clear c7; have H' := Aside0.mk H; clear H; have p1144 : 0 ≤ (x5_1 : Int) := of_decide_eq_true s4_; have q1144 : x5_1 < (l0.length : Int) := of_decide_eq_true s4_; obtain ⟨ad1144, e1144, hx1144_0⟩ := Kd.at_int HR0.out x5_1 p1144 q1144
        cases e1144
        replace p1144 := eq_true p1144; replace q1144 := eq_true q1144; have p1145 : 0 ≤ (x5_1 : Int) := of_decide_eq_true s4_; have q1145 : x5_1 < (l1.length : Int) := of_decide_eq_true s4_; obtain ⟨ad1145, e1145, hx1145_0⟩ := Kd.at_int HR1.out x5_1 p1145 q1145
        cases e1145
        replace p1145 := eq_true p1145; replace q1145 := eq_true q1145
        go_wp2
        repeat (go_quiet (fail); try go_wp2)
        go_roundg k1
        case measure => have := HK1.out; omega
        case rel => exact ⟨(wrap64 (x5_1 + 1)), s3_, H', ⟨by have := HK1.out; omega⟩, s6_⟩
       ·
        rw [if_neg c7] at H; have c7b0 : ((rd l0 x5_1) == (rd l1 x5_1)) = false := beq_eq_false_iff_ne.mpr c7; have c7b1 : ((rd l0 x5_1) != (rd l1 x5_1)) = true := bne_iff_ne.mpr c7; obtain rfl := Option.some.inj H; have p1144 : 0 ≤ (x5_1 : Int) := of_decide_eq_true s4_; have q1144 : x5_1 < (l0.length : Int) := of_decide_eq_true s4_; obtain ⟨ad1144, e1144, hx1144_0⟩ := Kd.at_int HR0.out x5_1 p1144 q1144
        cases e1144
        replace p1144 := eq_true p1144; replace q1144 := eq_true q1144; have p1145 : 0 ≤ (x5_1 : Int) := of_decide_eq_true s4_; have q1145 : x5_1 < (l1.length : Int) := of_decide_eq_true s4_; obtain ⟨ad1145, e1145, hx1145_0⟩ := Kd.at_int HR1.out x5_1 p1145 q1145
        cases e1145
        replace p1145 := eq_true p1145; replace q1145 := eq_true q1145
        go_wp2
        repeat (go_quiet (fail); try go_wp2)
        go_ret
        exact ⟨s3_, s6_⟩
      ·
       rw [if_neg c6] at H
       exact absurd H (by simp)
     ·
      rw [if_neg c5] at H
      exact absurd H (by simp)
    ·
     rw [if_neg c4] at H; have c4b0 : decide (x5_1 < (l0.length : Int)) = false := decide_eq_false c4; clear c4; obtain rfl := Option.some.inj H
     go_wp2
     repeat (go_quiet (fail); try go_wp2)
     go_ret
     exact ⟨s3_, s6_⟩
 ·
  rw [if_neg c3] at H; have c3b0 : ((l0.length : Int) == (l1.length : Int)) = false := beq_eq_false_iff_ne.mpr c3; have c3b1 : ((l0.length : Int) != (l1.length : Int)) = true := bne_iff_ne.mpr c3
  have c3b2 : (l0.length == l1.length) = false := by first | simpa using c3 | (simp at c3 ⊢; omega)
  obtain rfl := Option.some.inj H
  go_enter Tryz.func21, Tryz.ntmps21
  go_wp2
  repeat (go_quiet (fail); try go_wp2)
  go_ret
  exact ⟨s3_, s6_⟩
theorem q25_4 {P : Prop} (h : P := by repeat (first | exact (Kd.C_below HR0_1.out (by repeat (first | (with_reducible first | exact HB.out | apply below_alloc | apply pw_below_drewN | apply below_drew1 | refine below_set ?_ GE1146.out) | exact HB.out))) | (with_reducible refine Kd.C_alloc ?_ _) | (with_reducible refine Kd.C_drewN ?_ _) | (with_reducible refine Kd.C_drew ?_))) : P := h
theorem q25_6 {P : Prop} (h : P := by repeat (first | (with_reducible first | exact HB.out | apply below_alloc | apply pw_below_drewN | apply below_drew1 | refine below_set ?_ GE1146.out) | exact HB.out)) : P := h
theorem q25_9 {P : Prop} (h : P := by (with_reducible repeat (first | refine blk_drewN ?_ _ | refine blk_drew ?_ | refine blk_alloc ?_ _)); exact BK1146.out) : P := h
mutual
def spec_l10Pseudo.l0 : Nat → List Int → Int → Int → List Int → Option (List Int)
 | 0, _, _, _, _ => none
 | k + 1, x3, x4, x1147000, x1147001 => (spec_FullSet.f x1147000).bind fun t1150 => (if x4 ≤ t1150 then ((spec_l4Closure.f k x1147000 x1147001 x4).bind fun t1154 => (if t1154 = x4 then (spec_l10Pseudo.l0 k x3 (wrap64 (x4 + 1)) x1147000 x1147001) else (spec_l10Pseudo.l1 k x3 x4 true 0 x1147000 x1147001))) else ((spec_SortLectic.f k x3).bind fun t1151 => (some t1151)))
def spec_l10Pseudo.l1 : Nat → List Int → Int → Bool → Int → Int → List Int → Option (List Int)
 | 0, _, _, _, _, _, _ => none
 | k + 1, x3, x4, x5, x6, x1147000, x1147001 => if x6 < (x3.length : Int) then (if x5 = true then (if 0 ≤ x6 then (if (Go.bits .and .i64 (rd x3 x6) x4) = (rd x3 x6) then ((spec_l4Closure.f k x1147000 x1147001 (rd x3 x6)).bind fun t1158 => ((spec_l4Closure.f k x1147000 x1147001 (rd x3 x6)).bind fun t1160 => (spec_l10Pseudo.l1 k x3 x4 ((Go.bits .and .i64 t1158 x4) == t1160) (wrap64 (x6 + 1)) x1147000 x1147001))) else (spec_l10Pseudo.l1 k x3 x4 true (wrap64 (x6 + 1)) x1147000 x1147001)) else (none)) else (spec_l10Pseudo.l1 k x3 x4 false (wrap64 (x6 + 1)) x1147000 x1147001)) else (if x5 = true then (if x3.length < 17592186044416 then (spec_l10Pseudo.l0 k (x3 ++ [x4]) (wrap64 (x4 + 1)) x1147000 x1147001) else (none)) else (spec_l10Pseudo.l0 k x3 (wrap64 (x4 + 1)) x1147000 x1147001))
end
def spec_l10Pseudo.f (k : Nat) (a0_0 : Int) (l0_1 : List Int) : Option (List Int) := spec_l10Pseudo.l0 k (([] : List Int)) 0 a0_0 l0_1
def spec_l10Pseudo.T10 : Bool × List (List Nat × List Nat) := (true, [([], []), ([0], [0]), ([1], [1]), ([1], [1]), ([2, 3, 1], [1, 2, 3]), ([4, 1], [1, 4]), ([1], [1]), ([5, 6, 1], [1, 5, 6]), ([1], [1]), ([1], [1]), ([8, 9, 1], [1, 8, 9]), ([10, 1], [1, 10]), ([7, 11, 1], [1, 7, 11]), ([12, 1, 1], [1, 12]), ([13], [13]), ([13], [13]), ([13], [13]), ([15, 16, 13], [13, 15, 16]), ([17, 13], [13, 17]), ([14, 18, 13, 13], [13, 14, 18]), ([13], [13]), ([19, 20, 13], [13, 19, 20]), ([13], [13]), ([13], [13]), ([13], [13]), ([23, 24, 13], [13, 23, 24]), ([25, 13], [13, 25]), ([22, 26, 19, 13], [13, 22, 26]), ([21, 27, 13], [13, 21, 27]), ([13, 28, 1], [1, 13, 28]), ([1, 29], [1, 29]), ([30, 27, 0, 1, 2, 3, 4, 5, 6, 7, 8, 9, 10, 11, 12, 13, 14, 15, 16, 17, 18, 19, 20, 21, 22, 23, 24, 25, 26, 27, 28, 29, 30], [0, 30])])
def spec_l10Pseudo.B10 : List Nat := [0, 1, 3, 3, 15, 31, 3, 127, 3, 3, 771, 1795, 4095, 8191, 16383, 16383, 16383, 114687, 245759, 524287, 16383, 2097151, 16383, 16383, 16383, 25182207, 58736639, 131071999, 268435455, 536870911, 1073741823, 2147483647]
theorem spec_l10Pseudo.tab10 : rtab .any (opsOf Tryz.f169 10) = spec_l10Pseudo.T10 := s12_
theorem spec_l10Pseudo.bits10 : waitsOk spec_l10Pseudo.T10.2 spec_l10Pseudo.B10 = true := s12_
theorem spec_l10Pseudo.calls (k : Nat) (a0_0 : Int) (A0_1 : Option Addr) (c0_1 : Nat) (l0_1 : List Int) (r : List Int) (w : World) (hr0_1 : Kd.C (Kd.int .i64) w A0_1 l0_1.length l0_1) (hc0_1 : l0_1.length ≤ c0_1) (h : spec_l10Pseudo.f k a0_0 l0_1 = some r) :
  Calls Tryz.prog 169 #[.agg #[.int .i64 a0_0, .slice A0_1 l0_1.length c0_1]] w fun e w' => ∃ v0_ : Value, e = .returned (v0_) ∧ Kd.R (Kd.int .i64) 3 w' w.heap.size (fun _ => True) v0_ r ∧ Below w.heap.size w w' := by
 have hu29 := Tryz.underlying29; have HR0_1 := Aside0.mk hr0_1; have HC0_1 := Aside0.mk hc0_1; clear hr0_1 hc0_1; have HB := Aside0.mk (Below.refl w.heap.size w); have H := h; clear h; unfold spec_l10Pseudo.f at H; obtain ⟨y1147, hy_⟩ : ∃ y_ : List Int, y_ = (([] : List Int)) := ⟨_, rfl⟩
 replace H : (spec_l10Pseudo.l0 k y1147 0 a0_0 l0_1) = some r := rH_
 have Ny1147 := Aside0.mk hy_; clear hy_; have H' := Aside0.mk H; clear H
 go_enter Tryz.func169, Tryz.ntmps169
 go_wp2_with ((with_reducible refine gw_ rfl ?_); first | (refine be_ 1 #[.int .i64 a0_0, .slice A0_1 l0_1.length c0_1] 29 ?_; intro gb1146 hg w2 hbox hb; have n_ := ac_ (below_step s1_ hb) <| ac_ (hbox) <| ac_ ((gz_ w hg s1_)) <| Aside0.mk ((gz_ w hg s1_)); clear HB; obtain ⟨HB, BK1146, GW1146, GE1146⟩ := n_; clear hb hbox hg) | (refine rl_ (Kd.int .i64) 3 7 ?_; intro v1148 w3 ho4 hb hg_ hnew_; clear hg_ hnew_; (first | rw [← Ny1147.out] at ho4 | (simp only [Int.reduceToNat] at ho4; rw [← Ny1147.out] at ho4)); have n_ := ac_ (Kd.R_lower ho4 (below_size q25_6)) <| ac_ (blk_below (g := gb1146) (o := .cells #[.int .i64 a0_0, .slice A0_1 l0_1.length c0_1] 29 (0, 0)) q25_9 hb) <| Aside0.mk (below_step q25_6 hb); clear BK1146 HB; obtain ⟨HO1149, BK1146, HB⟩ := n_; clear hb ho4))
 go_loopg [3, 4] k (fun kq v3 v4 w' => ∃ (x3_1 : List Int) (x4_1 : Int), v4 = .int .i64 x4_1 ∧ Aside0 (spec_l10Pseudo.l0 kq x3_1 x4_1 a0_0 l0_1 = some r) ∧ Aside0 (kq ≤ k) ∧ Aside0 (Kd.R (Kd.int .i64) 3 w' w.heap.size (fun _ => True) v3 x3_1) ∧ Aside0 (w'.heap[gb1146]? = some (.cells #[.int .i64 a0_0, (.slice A0_1 l0_1.length c0_1)] 29 (0, 0))) ∧ Aside0 (Below w.heap.size w w'))
 case atStart => exact ⟨(y1147), (0), s3_, H', ⟨Nat.le_refl _⟩, ⟨(by (with_reducible repeat (first | apply Kd.R_alloc | apply Kd.R_drewN | apply Kd.R_drew)); exact HO1149.out)⟩, ⟨q25_9⟩, ⟨q25_6⟩⟩
 case round =>
  clear H'
  try clear c1
  try clear p2
  obtain ⟨x3_1, x4_1, rfl, HA, HK1, HO_3, BK1146, HB⟩ := hrel
  cases gk with
  | zero => exact absurd HA.out (by simp [spec_l10Pseudo.l0])
  | succ k1 =>
   have H := HA.out; clear HA
   simp only [spec_l10Pseudo.l0] at H
   obtain ⟨t1150, A5, H⟩ := bnd25_ H
   by_cases c6 : x4_1 ≤ t1150
   ·
    rw [if_pos c6] at H; have c6b0 : decide (x4_1 ≤ t1150) = true := decide_eq_true c6; clear c6; obtain ⟨t1154, A7, H⟩ := bnd25_ H
    by_cases c8 : t1154 = x4_1
    ·
     rw [if_pos c8] at H; have c8b0 : (t1154 == x4_1) = true := beq_iff_eq.mpr c8; have c8b1 : (t1154 != x4_1) = false := bne_eq_false_iff_eq.mpr c8; clear c8; have H' := Aside0.mk H; clear H; have hcz9_0 : wr.cell? ⟨gb1146, 0, none⟩ = some (.int .i64 a0_0) := (blk_cell BK1146.out 0).trans rfl; have hcz9_1 : wr.cell? ⟨gb1146, 1, none⟩ = some (.slice A0_1 l0_1.length c0_1) := (blk_cell BK1146.out 1).trans rfl; have hfz9_0 := blk_frozen BK1146.out 0; have hfz9_1 := blk_frozen BK1146.out 1
     go_wp2_with ((with_reducible refine gw_ rfl ?_); first | (refine gL_ 62 11 Tryz.func62 #[.int .i64 a0_0] ?_; (with_reducible refine (spec_FullSet.calls a0_0 t1150 _ A5.out).mono ?_); rintro e w' ⟨rfl, ⟨nd, rfl⟩⟩; refine ⟨_, rfl, ?_⟩) | (refine gL_ 135 17 Tryz.func135 #[.agg #[.int .i64 a0_0, .slice A0_1 l0_1.length c0_1], .int .i64 x4_1] ?_; (with_reducible refine (spec_l4Closure.calls k1 a0_0 _ _ l0_1 x4_1 t1154 _ ?side1 ?side2 A7.out).mono ?_); (case side1 => exact q25_4); (case side2 => exact HC0_1.out); rintro e w10 ⟨rfl, hb⟩; refine ⟨_, rfl, ?_⟩; have n_ := ac_ (Kd.R_below s11_ hb) <| ac_ (blk_below (g := gb1146) (o := .cells #[.int .i64 a0_0, .slice A0_1 l0_1.length c0_1] 29 (0, 0)) q25_9 hb) <| Aside0.mk (below_step q25_6 hb); clear HO_3 BK1146 HB; obtain ⟨HO_3, BK1146, HB⟩ := n_; (try clear hb)))
     go_roundg k1
     case measure => have := HK1.out; omega
     case rel => exact ⟨(x3_1), (wrap64 (x4_1 + 1)), s3_, H', ⟨by have := HK1.out; omega⟩, ⟨s11_⟩, ⟨q25_9⟩, ⟨q25_6⟩⟩
    ·
     rw [if_neg c8] at H; have c8b0 : (t1154 == x4_1) = false := beq_eq_false_iff_ne.mpr c8; have c8b1 : (t1154 != x4_1) = true := bne_iff_ne.mpr c8; have H' := Aside0.mk H; clear H; have hcz11_0 : wr.cell? ⟨gb1146, 0, none⟩ = some (.int .i64 a0_0) := (blk_cell BK1146.out 0).trans rfl; have hcz11_1 : wr.cell? ⟨gb1146, 1, none⟩ = some (.slice A0_1 l0_1.length c0_1) := (blk_cell BK1146.out 1).trans rfl; have hfz11_0 := blk_frozen BK1146.out 0; have hfz11_1 := blk_frozen BK1146.out 1
     go_wp2_with ((with_reducible refine gw_ rfl ?_); first | (refine gL_ 62 11 Tryz.func62 #[.int .i64 a0_0] ?_; (with_reducible refine (spec_FullSet.calls a0_0 t1150 _ A5.out).mono ?_); rintro e w' ⟨rfl, ⟨nd, rfl⟩⟩; refine ⟨_, rfl, ?_⟩) | (refine gL_ 135 17 Tryz.func135 #[.agg #[.int .i64 a0_0, .slice A0_1 l0_1.length c0_1], .int .i64 x4_1] ?_; (with_reducible refine (spec_l4Closure.calls k1 a0_0 _ _ l0_1 x4_1 t1154 _ ?side1 ?side2 A7.out).mono ?_); (case side1 => exact q25_4); (case side2 => exact HC0_1.out); rintro e w12 ⟨rfl, hb⟩; refine ⟨_, rfl, ?_⟩; have n_ := ac_ (Kd.R_below s11_ hb) <| ac_ (blk_below (g := gb1146) (o := .cells #[.int .i64 a0_0, .slice A0_1 l0_1.length c0_1] 29 (0, 0)) q25_9 hb) <| Aside0.mk (below_step q25_6 hb); clear HO_3 BK1146 HB; obtain ⟨HO_3, BK1146, HB⟩ := n_; (try clear hb)))
     go_loopg [5, 6] k1 (fun kq v5 v6 w' => ∃ (x5_2 : Bool) (x6_2 : Int), v5 = .bool x5_2 ∧ v6 = .int .i64 x6_2 ∧ Aside0 (spec_l10Pseudo.l1 kq x3_1 x4_1 x5_2 x6_2 a0_0 l0_1 = some r) ∧ Aside0 (kq ≤ k1) ∧ Aside0 (Kd.R (Kd.int .i64) 3 w' w.heap.size (fun _ => True) u3 x3_1) ∧ Aside0 (w'.heap[gb1146]? = some (.cells #[.int .i64 a0_0, (.slice A0_1 l0_1.length c0_1)] 29 (0, 0))) ∧ Aside0 (Below w.heap.size w w'))
     case atStart => exact ⟨(true), (0), s3_, s3_, H', ⟨Nat.le_refl _⟩, ⟨s11_⟩, ⟨q25_9⟩, ⟨q25_6⟩⟩
     case round =>
      clear H'
      try clear c1
      try clear p2
      try clear c6
      try clear c6b0
      try clear p6
      try clear c8
      try clear c8b0
      try clear c8b1
      try clear hcz11_0
      try clear hcz11_1
      try clear hcz9_0
      try clear hcz9_1
      try clear hfz11_0
      try clear hfz11_1
      try clear hfz9_0
      try clear hfz9_1
      try clear p2
      obtain ⟨x5_2, x6_2, rfl, rfl, HA, HK2, HO_3, BK1146, HB⟩ := hrel
      cases gk with
      | zero => exact absurd HA.out (by simp [spec_l10Pseudo.l1])
      | succ k2 =>
       have H := HA.out; clear HA
       simp only [spec_l10Pseudo.l1] at H
       by_cases c13 : x6_2 < (x3_1.length : Int)
       ·
        rw [if_pos c13] at H; have c13b0 : decide (x6_2 < (x3_1.length : Int)) = true := decide_eq_true c13; clear c13
        by_cases c14 : x5_2 = true
        ·
         subst c14; rw [if_pos rfl] at H
         by_cases c15 : 0 ≤ x6_2
         ·
          rw [if_pos c15] at H; have c15b0 : decide (0 ≤ x6_2) = true := decide_eq_true c15; clear c15
          by_cases c16 : (Go.bits .and .i64 (rd x3_1 x6_2) x4_1) = (rd x3_1 x6_2)
          ·
           rw [if_pos c16] at H; have c16b0 : ((Go.bits .and .i64 (rd x3_1 x6_2) x4_1) == (rd x3_1 x6_2)) = true := beq_iff_eq.mpr c16; have c16b1 : ((Go.bits .and .i64 (rd x3_1 x6_2) x4_1) != (rd x3_1 x6_2)) = false := bne_eq_false_iff_eq.mpr c16; clear c16; obtain ⟨t1158, A17, H⟩ := bnd25_ H; obtain ⟨t1160, A18, H⟩ := bnd25_ H; have H' := Aside0.mk H; clear H; obtain ⟨Ao19, co19, eo19⟩ := Kd.R_slice HO_3.out; subst eo19
           try go_wp2
           have n0_ := Aside0.mk (Kd.R_drew HO_3.out); have n1_ := Aside0.mk (blk_drew BK1146.out); have n2_ := Aside0.mk (below_drew1 HB.out); clear HO_3; clear BK1146; clear HB; have HO_3 := n0_; have BK1146 := n1_; have HB := n2_; clear n0_ n1_ n2_; have p1155 : 0 ≤ (x6_2 : Int) := of_decide_eq_true s4_; have q1155 : x6_2 < (x3_1.length : Int) := of_decide_eq_true s4_; obtain ⟨ad1155, e1155, hx1155_0⟩ := Kd.at_int (Kd.R_reads' HO_3.out).2.2 x6_2 p1155 q1155
           cases e1155
           replace p1155 := eq_true p1155; replace q1155 := eq_true q1155; have p1156 : 0 ≤ (x6_2 : Int) := of_decide_eq_true s4_; have q1156 : x6_2 < (x3_1.length : Int) := of_decide_eq_true s4_; obtain ⟨ad1156, e1156, hx1156_0⟩ := Kd.at_int (Kd.R_reads' HO_3.out).2.2 x6_2 p1156 q1156
           obtain rfl : ad1155 = ad1156 := (by injection e1156)
           replace p1156 := eq_true p1156; replace q1156 := eq_true q1156; have p1157 : 0 ≤ (x6_2 : Int) := of_decide_eq_true s4_; have q1157 : x6_2 < (x3_1.length : Int) := of_decide_eq_true s4_; obtain ⟨ad1157, e1157, hx1157_0⟩ := Kd.at_int (Kd.R_reads' HO_3.out).2.2 x6_2 p1157 q1157
           obtain rfl : ad1155 = ad1157 := (by injection e1157)
           replace p1157 := eq_true p1157; replace q1157 := eq_true q1157; have p1159 : 0 ≤ (x6_2 : Int) := of_decide_eq_true s4_; have q1159 : x6_2 < (x3_1.length : Int) := of_decide_eq_true s4_; obtain ⟨ad1159, e1159, hx1159_0⟩ := Kd.at_int (Kd.R_reads' HO_3.out).2.2 x6_2 p1159 q1159
           obtain rfl : ad1155 = ad1159 := (by injection e1159)
           replace p1159 := eq_true p1159; replace q1159 := eq_true q1159
           refine start_ (n := 32) (S := fun w' => w'.cell? ⟨gb1146, 0, none⟩ = some (.int .i64 a0_0) ∧ w'.cell? ⟨gb1146, 1, none⟩ = some (.slice A0_1 l0_1.length c0_1) ∧ w'.cell? (ad1155.add (x6_2).toNat) = some (.int .i64 (rd x3_1 x6_2)) ∧ w'.cell? (ad1155.add (x6_2).toNat) = some (.int .i64 (rd x3_1 x6_2)) ∧ w'.cell? (ad1155.add (x6_2).toNat) = some (.int .i64 (rd x3_1 x6_2)) ∧ w'.cell? (ad1155.add (x6_2).toNat) = some (.int .i64 (rd x3_1 x6_2))) (ds := []) (tb_ 32 0) s12_ rfl rfl ⟨(blk_cell BK1146.out 0).trans rfl, (blk_cell BK1146.out 1).trans rfl, hx1155_0, hx1156_0, hx1157_0, hx1159_0⟩ (fun hHeld => ?_); refine with_tabW spec_l10Pseudo.tab10 spec_l10Pseudo.bits10 (fun HT_ HW_ => ?_)
           generalize wr.drew = w20 at HO_3 BK1146 HB hx1155_0 hx1156_0 hx1157_0 hx1159_0 hHeld ⊢
           refine pl_ 0 26 (tb_ 32 1) ?_; refine pl_ 1 27 (tb_ 32 3) ?_; refine pl_ 2 28 (tb_ 32 7) ?_; refine pl_ 3 29 (tb_ 32 15) ?_; refine pl_ 4 30 (tb_ 32 31) ?_; refine pl_ 6 32 (tb_ 32 95) ?_; refine pl_ 8 34 (tb_ 32 351) ?_; refine pl_ 9 35 (tb_ 32 863) ?_; refine pl_ 10 36 (tb_ 32 1887) ?_; refine tk_ 5 31 (tb_ 32 1919) hHeld ?_; refine pl_ 7 33 (tb_ 32 2047) ?_; refine tk_ 11 37 (tb_ 32 4095) hHeld ?_; refine pl_ 12 38 (tb_ 32 8191) ?_; refine pl_ 13 39 (tb_ 32 16383) ?_; refine pl_ 15 41 (tb_ 32 49151) ?_; refine pl_ 16 42 (tb_ 32 114687) ?_; refine pl_ 17 43 (tb_ 32 245759) ?_; refine pl_ 20 46 (tb_ 32 1294335) ?_; refine pl_ 23 49 (tb_ 32 9682943) ?_; refine pl_ 24 50 (tb_ 32 26460159) ?_; refine pl_ 25 51 (tb_ 32 60014591) ?_; refine tk_ 14 40 (tb_ 32 60030975) hHeld ?_; refine tk_ 18 44 (tb_ 32 60293119) hHeld ?_; refine tk_ 22 48 (tb_ 32 64487423) hHeld ?_; refine tk_ 26 52 (tb_ 32 131596287) hHeld ?_
           refine on_ 19 45 (tb_ 32 132120575) (fun K hK => ?_)
           refine goes_ Tryz.func135 s12_ rfl #[.agg #[.int .i64 a0_0, .slice _ l0_1.length c0_1], .int .i64 (rd x3_1 x6_2)] (by rfl) rfl rfl s0_ ?_
           with_reducible refine (spec_l4Closure.calls k2 a0_0 _ _ l0_1 (rd x3_1 x6_2) t1158 _ ?side1 ?side2 A17.out).mono ?_
           (case side1 => exact s2_)
           (case side2 => exact HC0_1.out)
           rintro e w21 ⟨rfl, hb⟩
           have HS2_ := (hb.cell (World.block_lt_of_cell? _ _ (hHeld.2.2.1))).trans (hHeld.2.2.1); have HS3_ := (hb.cell (World.block_lt_of_cell? _ _ (hHeld.2.2.2.1))).trans (hHeld.2.2.2.1); have HS4_ := (hb.cell (World.block_lt_of_cell? _ _ (hHeld.2.2.2.2.1))).trans (hHeld.2.2.2.2.1); have HS5_ := (hb.cell (World.block_lt_of_cell? _ _ (hHeld.2.2.2.2.2))).trans (hHeld.2.2.2.2.2)
           refine ⟨_, rfl, ?_⟩
           have n0_ := Aside0.mk (Kd.R_below s11_ hb); have n1_ := Aside0.mk (blk_below (g := gb1146) (o := .cells #[.int .i64 a0_0, .slice A0_1 l0_1.length c0_1] 29 (0, 0)) q25_9 hb); have n2_ := Aside0.mk (below_step q25_6 hb); clear HO_3; clear BK1146; clear HB; have HO_3 := n0_; have BK1146 := n1_; have HB := n2_; clear n0_ n1_ n2_
           (try clear hb)
           (try clear hb2)
           (try clear hk)
           (try clear hi)
           refine hK.out _ _ ⟨(blk_cell BK1146.out 0).trans rfl, (blk_cell BK1146.out 1).trans rfl, HS2_, HS3_, HS4_, HS5_⟩ (fun hHeld => ?_)
           clear hK K
           refine norm_ (a' := ?_) ?_ ?_
           rotate_left
           ·
            show Act.put _ (some 45) _ = _
            simp only [Act.put, List.setIfInBounds_toArray, List.set_cons_zero, List.set_cons_succ, i64_w, i32_w]
            rfl
           refine pl_ 21 47 (tb_ 32 134217727) ?_
           refine on_ 27 53 (tb_ 32 268435455) (fun K hK => ?_)
           refine goes_ Tryz.func135 s12_ rfl #[.agg #[.int .i64 a0_0, .slice _ l0_1.length c0_1], .int .i64 (rd x3_1 x6_2)] (by rfl) rfl rfl s0_ ?_
           with_reducible refine (spec_l4Closure.calls k2 a0_0 _ _ l0_1 (rd x3_1 x6_2) t1160 _ ?side1 ?side2 A18.out).mono ?_
           (case side1 => exact s2_)
           (case side2 => exact HC0_1.out)
           rintro e w22 ⟨rfl, hb⟩
           have HS2_ := (hb.cell (World.block_lt_of_cell? _ _ (hHeld.2.2.1))).trans (hHeld.2.2.1); have HS3_ := (hb.cell (World.block_lt_of_cell? _ _ (hHeld.2.2.2.1))).trans (hHeld.2.2.2.1); have HS4_ := (hb.cell (World.block_lt_of_cell? _ _ (hHeld.2.2.2.2.1))).trans (hHeld.2.2.2.2.1); have HS5_ := (hb.cell (World.block_lt_of_cell? _ _ (hHeld.2.2.2.2.2))).trans (hHeld.2.2.2.2.2)
           refine ⟨_, rfl, ?_⟩
           have n0_ := Aside0.mk (Kd.R_below s11_ hb); have n1_ := Aside0.mk (blk_below (g := gb1146) (o := .cells #[.int .i64 a0_0, .slice A0_1 l0_1.length c0_1] 29 (0, 0)) q25_9 hb); have n2_ := Aside0.mk (below_step q25_6 hb); clear HO_3; clear BK1146; clear HB; have HO_3 := n0_; have BK1146 := n1_; have HB := n2_; clear n0_ n1_ n2_
           (try clear hb)
           (try clear hb2)
           (try clear hk)
           (try clear hi)
           refine hK.out _ _ ⟨(blk_cell BK1146.out 0).trans rfl, (blk_cell BK1146.out 1).trans rfl, HS2_, HS3_, HS4_, HS5_⟩ (fun hHeld => ?_)
           clear hK K
           refine norm_ (a' := ?_) ?_ ?_
           rotate_left
           ·
            show Act.put _ (some 53) _ = _
            simp only [Act.put, List.setIfInBounds_toArray, List.set_cons_zero, List.set_cons_succ, i64_w, i32_w]
            rfl
           refine pl_ 28 54 (tb_ 32 536870911) ?_; refine pl_ 29 55 (tb_ 32 1073741823) ?_; refine pl_ 30 56 (tb_ 32 2147483647) ?_; refine pl_ 31 5 (tb_ 32 4294967295) ?_
           refine done_ (done_of HT_.out s12_) ?_
           try go_wp2
           go_roundg k2
           case measure => have := HK1.out; have := HK2.out; omega
           case rel => exact ⟨(((Go.bits .and .i64 t1158 x4_1) == t1160)), (wrap64 (x6_2 + 1)), s3_, s3_, H', ⟨by have := HK1.out; have := HK2.out; omega⟩, ⟨s11_⟩, ⟨q25_9⟩, ⟨q25_6⟩⟩
          ·
           rw [if_neg c16] at H; have c16b0 : ((Go.bits .and .i64 (rd x3_1 x6_2) x4_1) == (rd x3_1 x6_2)) = false := beq_eq_false_iff_ne.mpr c16; have c16b1 : ((Go.bits .and .i64 (rd x3_1 x6_2) x4_1) != (rd x3_1 x6_2)) = true := bne_iff_ne.mpr c16; have H' := Aside0.mk H; clear H; obtain ⟨Ao23, co23, eo23⟩ := Kd.R_slice HO_3.out; subst eo23
           try go_wp2
           have n0_ := Aside0.mk (Kd.R_drew HO_3.out); have n1_ := Aside0.mk (blk_drew BK1146.out); have n2_ := Aside0.mk (below_drew1 HB.out); clear HO_3; clear BK1146; clear HB; have HO_3 := n0_; have BK1146 := n1_; have HB := n2_; clear n0_ n1_ n2_; have p1155 : 0 ≤ (x6_2 : Int) := of_decide_eq_true s4_; have q1155 : x6_2 < (x3_1.length : Int) := of_decide_eq_true s4_; obtain ⟨ad1155, e1155, hx1155_0⟩ := Kd.at_int (Kd.R_reads' HO_3.out).2.2 x6_2 p1155 q1155
           cases e1155
           replace p1155 := eq_true p1155; replace q1155 := eq_true q1155; have p1156 : 0 ≤ (x6_2 : Int) := of_decide_eq_true s4_; have q1156 : x6_2 < (x3_1.length : Int) := of_decide_eq_true s4_; obtain ⟨ad1156, e1156, hx1156_0⟩ := Kd.at_int (Kd.R_reads' HO_3.out).2.2 x6_2 p1156 q1156
           obtain rfl : ad1155 = ad1156 := (by injection e1156)
           replace p1156 := eq_true p1156; replace q1156 := eq_true q1156
           refine start_ (n := 32) (S := fun w' => w'.cell? (ad1155.add (x6_2).toNat) = some (.int .i64 (rd x3_1 x6_2)) ∧ w'.cell? (ad1155.add (x6_2).toNat) = some (.int .i64 (rd x3_1 x6_2))) (ds := []) (tb_ 32 0) s12_ rfl rfl ⟨hx1155_0, hx1156_0⟩ (fun hHeld => ?_); refine with_tabW spec_l10Pseudo.tab10 spec_l10Pseudo.bits10 (fun HT_ HW_ => ?_)
           generalize wr.drew = w24 at HO_3 BK1146 HB hx1155_0 hx1156_0 hHeld ⊢
           refine pl_ 0 26 (tb_ 32 1) ?_; refine pl_ 1 27 (tb_ 32 3) ?_; refine pl_ 2 28 (tb_ 32 7) ?_; refine pl_ 3 29 (tb_ 32 15) ?_; refine pl_ 4 30 (tb_ 32 31) ?_; refine pl_ 6 32 (tb_ 32 95) ?_; refine pl_ 8 34 (tb_ 32 351) ?_; refine pl_ 9 35 (tb_ 32 863) ?_; refine pl_ 10 36 (tb_ 32 1887) ?_; refine tk_ 5 31 (tb_ 32 1919) hHeld ?_; refine pl_ 7 33 (tb_ 32 2047) ?_; refine tk_ 11 37 (tb_ 32 4095) hHeld ?_; refine pl_ 12 38 (tb_ 32 8191) ?_; refine pl_ 13 39 (tb_ 32 16383) ?_; refine pr_ 14 40 (tb_ 32 32767) ?_; refine pr_ 15 41 (tb_ 32 65535) ?_; refine pr_ 16 42 (tb_ 32 131071) ?_; refine pr_ 17 43 (tb_ 32 262143) ?_; refine pr_ 18 44 (tb_ 32 524287) ?_; refine pr_ 19 45 (tb_ 32 1048575) ?_; refine pr_ 20 46 (tb_ 32 2097151) ?_; refine pr_ 21 47 (tb_ 32 4194303) ?_; refine pr_ 22 48 (tb_ 32 8388607) ?_; refine pr_ 23 49 (tb_ 32 16777215) ?_; refine pr_ 24 50 (tb_ 32 33554431) ?_; refine pr_ 25 51 (tb_ 32 67108863) ?_; refine pr_ 26 52 (tb_ 32 134217727) ?_
           refine pr_ 27 53 (tb_ 32 268435455) ?_; refine pr_ 28 54 (tb_ 32 536870911) ?_; refine pl_ 29 55 (tb_ 32 1073741823) ?_; refine pl_ 30 56 (tb_ 32 2147483647) ?_; refine pl_ 31 5 (tb_ 32 4294967295) ?_
           refine done_ (done_of HT_.out s12_) ?_
           try go_wp2
           go_roundg k2
           case measure => have := HK1.out; have := HK2.out; omega
           case rel => exact ⟨(true), (wrap64 (x6_2 + 1)), s3_, s3_, H', ⟨by have := HK1.out; have := HK2.out; omega⟩, ⟨s11_⟩, ⟨q25_9⟩, ⟨q25_6⟩⟩
         ·
          rw [if_neg c15] at H
          exact absurd H (by simp)
        ·
         replace c14 := Bool.eq_false_iff.mpr c14; subst c14
         rw [if_neg (show ¬ (false = true) by decide)] at H
         have H' := Aside0.mk H; clear H; obtain ⟨Ao25, co25, eo25⟩ := Kd.R_slice HO_3.out; subst eo25
         try go_wp2
         have n0_ := Aside0.mk (Kd.R_drew HO_3.out); have n1_ := Aside0.mk (blk_drew BK1146.out); have n2_ := Aside0.mk (below_drew1 HB.out); clear HO_3; clear BK1146; clear HB; have HO_3 := n0_; have BK1146 := n1_; have HB := n2_; clear n0_ n1_ n2_
         refine start_ (n := 32) (S := fun w' => True) (ds := []) (tb_ 32 0) s12_ rfl rfl trivial (fun hHeld => ?_); refine with_tabW spec_l10Pseudo.tab10 spec_l10Pseudo.bits10 (fun HT_ HW_ => ?_)
         generalize wr.drew = w26 at HO_3 BK1146 HB hHeld ⊢
         refine pl_ 0 26 (tb_ 32 1) ?_; refine pl_ 1 27 (tb_ 32 3) ?_; refine pr_ 2 28 (tb_ 32 7) ?_; refine pr_ 3 29 (tb_ 32 15) ?_; refine pr_ 4 30 (tb_ 32 31) ?_; refine pr_ 5 31 (tb_ 32 63) ?_; refine pr_ 6 32 (tb_ 32 127) ?_; refine pr_ 7 33 (tb_ 32 255) ?_; refine pr_ 8 34 (tb_ 32 511) ?_; refine pr_ 9 35 (tb_ 32 1023) ?_; refine pr_ 10 36 (tb_ 32 2047) ?_; refine pr_ 11 37 (tb_ 32 4095) ?_; refine pr_ 12 38 (tb_ 32 8191) ?_; refine pr_ 13 39 (tb_ 32 16383) ?_; refine pr_ 14 40 (tb_ 32 32767) ?_; refine pr_ 15 41 (tb_ 32 65535) ?_; refine pr_ 16 42 (tb_ 32 131071) ?_; refine pr_ 17 43 (tb_ 32 262143) ?_; refine pr_ 18 44 (tb_ 32 524287) ?_; refine pr_ 19 45 (tb_ 32 1048575) ?_; refine pr_ 20 46 (tb_ 32 2097151) ?_; refine pr_ 21 47 (tb_ 32 4194303) ?_; refine pr_ 22 48 (tb_ 32 8388607) ?_; refine pr_ 23 49 (tb_ 32 16777215) ?_; refine pr_ 24 50 (tb_ 32 33554431) ?_; refine pr_ 25 51 (tb_ 32 67108863) ?_; refine pr_ 26 52 (tb_ 32 134217727) ?_
         refine pr_ 27 53 (tb_ 32 268435455) ?_; refine pr_ 28 54 (tb_ 32 536870911) ?_; refine pr_ 29 55 (tb_ 32 1073741823) ?_; refine pl_ 30 56 (tb_ 32 2147483647) ?_; refine pl_ 31 5 (tb_ 32 4294967295) ?_
         refine done_ (done_of HT_.out s12_) ?_
         try go_wp2
         go_roundg k2
         case measure => have := HK1.out; have := HK2.out; omega
         case rel => exact ⟨(false), (wrap64 (x6_2 + 1)), s3_, s3_, H', ⟨by have := HK1.out; have := HK2.out; omega⟩, ⟨s11_⟩, ⟨q25_9⟩, ⟨q25_6⟩⟩
       ·
        rw [if_neg c13] at H; have c13b0 : decide (x6_2 < (x3_1.length : Int)) = false := decide_eq_false c13; clear c13
        by_cases c27 : x5_2 = true
        ·
         subst c27; rw [if_pos rfl] at H
         by_cases c28 : x3_1.length < 17592186044416
         ·
          rw [if_pos c28] at H; have LMc28 := Aside0.mk c28; clear c28; obtain ⟨y1161, hy_⟩ : ∃ y_ : List Int, y_ = (x3_1 ++ [x4_1]) := ⟨_, rfl⟩
          replace H : (spec_l10Pseudo.l0 k2 y1161 (wrap64 (x4_1 + 1)) a0_0 l0_1) = some r := rH_
          have Ny1161 := Aside0.mk hy_; clear hy_; have H' := Aside0.mk H; clear H; obtain ⟨Ao29, co29, eo29⟩ := Kd.R_slice HO_3.out; subst eo29
          go_wp2_with (first | ((with_reducible refine gate_builtin (b := .append) (xs := #[.tmp 58, .tmp 60]) rfl ?_); at_builtin; refine Kd.R_append (Kd.int .i64) (w0 := w) w.heap.size rfl (.tmp 58) (.tmp 60) 27 3 (.int .i64 0) 8 rfl Tryz.underlying27 info3 rfl (by decide) (by omega) (.slice Ao29 x3_1.length co29) x3_1 x4_1 [.int .i64 x4_1] (fun _ => True) (fun _ => False) rfl rfl ?aP (fun _ hk => hk.elim) ?aF ?aO ?aB ?aS ?aL ?_; (case aP => exact rfl); (case aB => exact q25_6); (case aF => exact (fun _ _ => trivial)); (case aO => exact s11_); (case aS => exact (below_size q25_6)); (case aL => have := LMc28.out; omega); intro v1162 w30 ho hb hg hat; rw [← Ny1161.out] at ho; have n_ := ac_ (blk_grown (g := gb1146) (o := .cells #[.int .i64 a0_0, .slice A0_1 l0_1.length c0_1] 29 (0, 0)) q25_9 hg (Kd.R_ne HO_3.out BK1146.out (by decide))) <| ac_ (hb) <| Aside0.mk (ho); clear BK1146 HB HO_3; obtain ⟨BK1146, HB, HO1163⟩ := n_; clear ho hb hg hat))
          go_roundg k2
          case measure => have := HK1.out; have := HK2.out; omega
          case rel => exact ⟨(y1161), (wrap64 (x4_1 + 1)), s3_, H', ⟨by have := HK1.out; have := HK2.out; omega⟩, ⟨(by (with_reducible repeat (first | apply Kd.R_alloc | apply Kd.R_drewN | apply Kd.R_drew)); exact HO1163.out)⟩, ⟨q25_9⟩, ⟨q25_6⟩⟩
         ·
          rw [if_neg c28] at H
          exact absurd H (by simp)
        ·
         replace c27 := Bool.eq_false_iff.mpr c27; subst c27
         rw [if_neg (show ¬ (false = true) by decide)] at H
         have H' := Aside0.mk H; clear H; obtain ⟨Ao31, co31, eo31⟩ := Kd.R_slice HO_3.out; subst eo31
         go_wp2
         go_roundg k2
         case measure => have := HK1.out; have := HK2.out; omega
         case rel => exact ⟨(x3_1), (wrap64 (x4_1 + 1)), s3_, H', ⟨by have := HK1.out; have := HK2.out; omega⟩, ⟨s11_⟩, ⟨q25_9⟩, ⟨q25_6⟩⟩
   ·
    rw [if_neg c6] at H; have c6b0 : decide (x4_1 ≤ t1150) = false := decide_eq_false c6; clear c6; obtain ⟨t1151, A32, H⟩ := bnd25_ H; obtain rfl := Option.some.inj H; have hcz33_0 : wr.cell? ⟨gb1146, 0, none⟩ = some (.int .i64 a0_0) := (blk_cell BK1146.out 0).trans rfl; have hcz33_1 : wr.cell? ⟨gb1146, 1, none⟩ = some (.slice A0_1 l0_1.length c0_1) := (blk_cell BK1146.out 1).trans rfl; have hfz33_0 := blk_frozen BK1146.out 0; have hfz33_1 := blk_frozen BK1146.out 1
    go_wp2_with ((with_reducible refine gw_ rfl ?_); first | (refine gL_ 62 11 Tryz.func62 #[.int .i64 a0_0] ?_; (with_reducible refine (spec_FullSet.calls a0_0 t1150 _ A5.out).mono ?_); rintro e w' ⟨rfl, ⟨nd, rfl⟩⟩; refine ⟨_, rfl, ?_⟩; obtain ⟨Ao34, co34, eo34⟩ := Kd.R_slice HO_3.out; subst eo34) | (refine gL_ 139 63 Tryz.func139 #[.slice Ao34 x3_1.length co34] ?_; (with_reducible refine (spec_SortLectic.calls k1 _ _ x3_1 t1151 _ ?side1 ?side2 A32.out).mono ?_); (case side1 => repeat (first | exact (Kd.R_reads' HO_3.out).2.2 | (with_reducible refine Kd.C_alloc ?_ _) | (with_reducible refine Kd.C_drewN ?_ _) | (with_reducible refine Kd.C_drew ?_))); (case side2 => exact (Kd.R_reads' HO_3.out).2.1); rintro e w35 ⟨v1152, rfl, ho0, hb⟩; refine ⟨_, rfl, ?_⟩; have n_ := ac_ (Kd.R_elder' s11_ (Kd.R_base ho0) hb) <| ac_ (Kd.R_lower (Kd.R_new' ho0 (Kd.R_lt s11_)) (below_size q25_6)) <| ac_ (blk_below (g := gb1146) (o := .cells #[.int .i64 a0_0, .slice A0_1 l0_1.length c0_1] 29 (0, 0)) q25_9 hb) <| Aside0.mk (below_step q25_6 hb); clear HO_3 BK1146 HB; obtain ⟨HO_3, HO1153, BK1146, HB⟩ := n_; (try clear hb ho0)))
    go_ret
    exact ⟨_, (by first | rfl | (simp [errW_none, errW_some] <;> rfl) | (simp [*, errW_none, errW_some] <;> rfl)), (by (with_reducible repeat (first | apply Kd.R_alloc | apply Kd.R_drewN | apply Kd.R_drew)); exact Kd.R_mono HO1153.out (fun _ hk => trivial)), q25_6⟩
theorem bnd11_ {α β : Type} {o : Option α} {f : α → Option β} {r : β} (h : o.bind f = some r) : ∃ a, Aside0 (o = some a) ∧ f a = some r := by
 obtain ⟨a, h1, h2⟩ := Option.bind_eq_some_iff.mp h
 exact ⟨a, ⟨h1⟩, h2⟩
theorem q11_1 {P : Prop} (h : P := by (with_reducible repeat (first | refine blk_drewN ?_ _ | refine blk_drew ?_ | refine blk_alloc ?_ _)); refine blk_put (cs := #[.int .i64 a1, u725001]) ?_ 1 _ rfl; (with_reducible repeat (first | refine blk_drewN ?_ _ | refine blk_drew ?_ | refine blk_alloc ?_ _)); exact BK724.out) : P := h
theorem q11_2 {P : Prop} (h : P := by (with_reducible repeat (first | refine blk_drewN ?_ _ | refine blk_drew ?_ | refine blk_alloc ?_ _)); refine blk_far ?_ NB723_724.out _; (with_reducible repeat (first | refine blk_drewN ?_ _ | refine blk_drew ?_ | refine blk_alloc ?_ _)); exact BK723.out) : P := h
theorem q11_3 {P : Prop} (h : P := by repeat (first | (with_reducible first | exact HI0.out | apply IsS152.alloc | apply IsS152.drewN | apply IsS152.drew | apply IsS152.set_1 | apply IsS152.set_2 | refine IsS152.far ?_ NB0_723.out _ | refine IsS152.far ?_ NB0_724.out _) | exact HI0.out)) : P := h
theorem q11_4 {P : Prop} (h : P := by repeat (first | (with_reducible first | exact HB.out | apply below_alloc | apply pw_below_drewN | apply below_drew1 | refine below_set ?_ (IsS152.ge HI0.out) | refine below_set ?_ GE723.out | refine below_set ?_ GE724.out) | exact HB.out)) : P := h
theorem q11_5 {P : Prop} (h : P := by repeat (first | (with_reducible first | exact HI0.out | apply IsS152.alloc | apply IsS152.drewN | apply IsS152.drew | apply IsS152.set_1 | apply IsS152.set_2 | refine IsS152.far ?_ NB0_723.out _) | exact HI0.out)) : P := h
theorem q11_6 {P : Prop} (h : P := by repeat (first | (with_reducible first | exact HK.out | apply KeepBut.set_ | apply keep_drewN | apply keep_drew | apply keep_alloc | refine keep_far ?_ GW723.out _ | refine keep_far ?_ GW724.out _) | exact HK.out)) : P := h
theorem q11_7 {P : Prop} (h : P := by repeat (first | (with_reducible first | exact HK.out | apply KeepBut.set_ | apply keep_drewN | apply keep_drew | apply keep_alloc | refine keep_far ?_ GW723.out _) | exact HK.out)) : P := h
theorem q11_9 {P : Prop} (h : P := by (try simp only [List.map_toArray, List.map_cons, List.map_nil]); first | done | (simp only [hji27]; rfl) | rfl | (simp only [List.length_drop, List.length_take]; rfl)) : P := h
theorem q11_12 {P : Prop} (h : P := by (with_reducible repeat (first | refine blk_drewN ?_ _ | refine blk_drew ?_ | refine blk_alloc ?_ _)); exact BK723.out) : P := h
theorem q11_13 {P : Prop} (h : P := by (with_reducible repeat (first | refine blk_drewN ?_ _ | refine blk_drew ?_ | refine blk_alloc ?_ _)); exact BK724.out) : P := h
theorem q11_14 {P : Prop} (h : P := by (with_reducible repeat (first | apply Kd.R_alloc | apply Kd.R_drewN | apply Kd.R_drew)); exact HO_725001.out) : P := h
def spec_l3Make.l0 : Nat → Int → Int → Int → List Int → Int → Int → Int → List Int → Option (Int × List Int × Int × Int)
 | 0, _, _, _, _, _, _, _, _ => none
 | k + 1, x1, x8, x9, x1000, x1001, x1002, x725000, x725001 => if x9 < x8 then ((spec_l1Once.f x1000 x1001 x1002 2).bind fun bt728 => (if bt728.1 = true then (if 0 ≤ (IntKind.u64.wrap (x1)) then ((spec_l1Below.f x1000 bt728.2.1 bt728.2.2 (shl .i64 1 (IntKind.u64.wrap (x1)))).bind fun bt731 => (if x725001.length < 17592186044416 then (spec_l3Make.l0 k x1 x8 (wrap64 (x9 + 1)) x1000 bt731.2.1 bt731.2.2 x725000 (x725001 ++ [bt731.1])) else (none))) else (none)) else (if 0 ≤ (IntKind.u64.wrap (x1)) then ((spec_l1Below.f x1000 bt728.2.1 bt728.2.2 (shl .i64 1 (IntKind.u64.wrap (x1)))).bind fun bt737 => ((spec_l1Below.f x1000 bt737.2.1 bt737.2.2 (shl .i64 1 (IntKind.u64.wrap (x1)))).bind fun bt740 => (if x725001.length < 17592186044416 then (spec_l3Make.l0 k x1 x8 (wrap64 (x9 + 1)) x1000 bt740.2.1 bt740.2.2 x725000 (x725001 ++ [Go.bits .or .i64 bt737.1 bt740.1])) else (none)))) else (none)))) else (some (x725000, x725001, x1001, x1002))
def spec_l3Make.f (k : Nat) (s0_0 : List Int) (s0_1 : Int) (s0_2 : Int) (a1 : Int) (a2 : Int) : Option (Int × List Int × Int × Int) := (spec_l1Below.f s0_0 s0_1 s0_2 (wrap64 (a2 + 1))).bind fun bt725 => (spec_l3Make.l0 k a1 bt725.1 0 s0_0 bt725.2.1 bt725.2.2 a1 ([] : List Int))
def spec_l3Make.T7 : Bool × List (List Nat × List Nat) := (true, [([], []), ([0], [0]), ([], []), ([], []), ([3], [3]), ([4], [4]), ([2, 5], [2, 5]), ([6], [6]), ([1, 7, 6], [1, 7]), ([0, 1, 2, 3, 4, 5, 6, 7, 8], []), ([9, 8, 8, 0, 1, 2, 3, 4, 5, 6, 7, 8], [8, 9])])
def spec_l3Make.B7 : List Nat := [0, 1, 0, 0, 8, 24, 60, 124, 255, 511, 1023]
theorem spec_l3Make.tab7 : rtab .any (opsOf Tryz.f245 7) = spec_l3Make.T7 := by kernel_rfl
theorem spec_l3Make.bits7 : waitsOk spec_l3Make.T7.2 spec_l3Make.B7 = true := by kernel_rfl
def spec_l3Make.T8 : Bool × List (List Nat × List Nat) := (true, [([], []), ([0], [0]), ([], []), ([], []), ([3], [3]), ([4], [4]), ([2, 5], [2, 5]), ([], []), ([], []), ([8], [8]), ([9], [9]), ([7, 10, 6], [7, 10]), ([6, 11], [6, 11]), ([12], [12]), ([1, 13, 11], [1, 13]), ([0, 1, 2, 3, 4, 5, 6, 7, 8, 9, 10, 11, 12, 13, 14], []), ([15, 14, 14, 0, 1, 2, 3, 4, 5, 6, 7, 8, 9, 10, 11, 12, 13, 14], [14, 15])])
def spec_l3Make.B8 : List Nat := [0, 1, 0, 0, 8, 24, 60, 0, 0, 256, 768, 2044, 4092, 8188, 16383, 32767, 65535]
theorem spec_l3Make.tab8 : rtab .any (opsOf Tryz.f245 8) = spec_l3Make.T8 := by kernel_rfl
theorem spec_l3Make.bits8 : waitsOk spec_l3Make.T8.2 spec_l3Make.B8 = true := by kernel_rfl
theorem spec_l3Make.calls (k : Nat) (g : Nat) (s0_0 : List Int) (s0_1 : Int) (s0_2 : Int) (a1 : Int) (a2 : Int) (r1 : Int) (r2 : List Int) (r3 : Int) (r4 : Int) (w0 w : World) (hI : IsS152 w0 w g s0_0 s0_1 s0_2) (hB : Below w0.heap.size w0 w) (h : spec_l3Make.f k s0_0 s0_1 s0_2 a1 a2 = some (r1, r2, r3, r4)) :
  Calls Tryz.prog 245 #[.pointer (some ⟨g, 0, none⟩), .int .i64 a1, .int .i64 a2] w fun e w' => ∃ v1_ : Value, e = .returned (.agg #[.int .i64 r1, v1_]) ∧ Kd.R (Kd.int .i64) 3 w' w.heap.size (fun _ => True) v1_ r2 ∧ IsS152 w0 w' g s0_0 r3 r4 ∧ Below w0.heap.size w0 w' ∧ KeepBut w w' g none := by
 have hu29 := Tryz.underlying29; have HI0 := Aside0.mk hI; have HK := Aside0.mk (KeepBut.refl w g none); have HL := Aside0.mk hB.size; clear hI; have HW0 := Aside0.mk hB.size; have HB := Aside0.mk hB; clear hB; have H := h; clear h; unfold spec_l3Make.f at H; obtain ⟨⟨t725, t726, t727⟩, A4, H⟩ := bnd11_ H; dsimp only at H; have H' := Aside0.mk H; clear H
 go_enter Tryz.func245, Tryz.ntmps245
 go_wp2_with ((with_reducible refine gw_ rfl ?_); first | (refine be_ 6 #[.int .i64 0, .slice none 0 0] 29 ?_; intro gb723 hg w5 hbox hb; have n_ := ac_ (IsS152.below s7_ hb) <| ac_ (KeepBut.trans s8_ (KeepBut.of_below hb g none) (.inl rfl)) <| ac_ (below_step (by repeat (first | (with_reducible first | exact HB.out | apply below_alloc | apply pw_below_drewN | apply below_drew1 | refine below_set ?_ (IsS152.ge HI0.out)) | exact HB.out)) hb) <| ac_ (hbox) <| ac_ ((by rw [hg]; exact (keep_size (w := w) (g := g) (row := none) s8_) : w.heap.size ≤ gb723)) <| ac_ ((Nat.le_trans HW0.out (by rw [hg]; exact (keep_size (w := w) (g := g) (row := none) s8_) : w.heap.size ≤ gb723) : w0.heap.size ≤ gb723)) <| ac_ ((nl_ hg (IsS152.lt (show IsS152 w0 _ g s0_0 s0_1 s0_2 from s7_)))) <| Aside0.mk ((ng_ hg (IsS152.lt (show IsS152 w0 _ g s0_0 s0_1 s0_2 from s7_)))); clear HI0 HK HB; obtain ⟨HI0, HK, HB, BK723, GW723, GE723, NB0_723, NB723_0⟩ := n_; clear hb hbox hg) | (refine be_ 7 #[.int .i64 0, .slice none 0 0] 29 ?_; intro gb724 hg w6 hbox hb; have n_ := ac_ (IsS152.below q11_5 hb) <| ac_ (blk_below (g := gb723) (o := .cells #[.int .i64 0, .slice none 0 0] 29 (0, 0)) q11_12 hb) <| ac_ (KeepBut.trans q11_7 (KeepBut.of_below hb g none) (.inl rfl)) <| ac_ (below_step (by repeat (first | (with_reducible first | exact HB.out | apply below_alloc | apply pw_below_drewN | apply below_drew1 | refine below_set ?_ (IsS152.ge HI0.out) | refine below_set ?_ GE723.out) | exact HB.out)) hb) <| ac_ (hbox) <| ac_ ((by rw [hg]; exact (keep_size (w := w) (g := g) (row := none) q11_7) : w.heap.size ≤ gb724)) <| ac_ ((Nat.le_trans HW0.out (by rw [hg]; exact (keep_size (w := w) (g := g) (row := none) q11_7) : w.heap.size ≤ gb724) : w0.heap.size ≤ gb724)) <| ac_ ((nl_ hg (blk_lt (g := gb723) (o := .cells #[.int .i64 0, .slice none 0 0] 29 (0, 0)) q11_12))) <| ac_ ((ng_ hg (blk_lt (g := gb723) (o := .cells #[.int .i64 0, .slice none 0 0] 29 (0, 0)) q11_12))) <| ac_ ((nl_ hg (IsS152.lt (show IsS152 w0 _ g s0_0 s0_1 s0_2 from q11_5)))) <| Aside0.mk ((ng_ hg (IsS152.lt (show IsS152 w0 _ g s0_0 s0_1 s0_2 from q11_5)))); clear HI0 BK723 HK HB; obtain ⟨HI0, BK723, HK, HB, BK724, GW724, GE724, NB723_724, NB724_723, NB0_724, NB724_0⟩ := n_; clear hb hbox hg; have hnb7 := NB724_723.out; have hnc7 := NB723_724.out; have hnb8 := NB724_0.out; have hnc8 := NB0_724.out; have hcz9_0 : w6.cell? ⟨gb724, 0, none⟩ = some (.int .i64 0) := (blk_cell BK724.out 0).trans rfl; have hcz9_1 : w6.cell? ⟨gb724, 1, none⟩ = some (.slice none 0 0) := (blk_cell BK724.out 1).trans rfl; have hfz9_0 := blk_frozen BK724.out 0; have hfz9_1 := blk_frozen BK724.out 1) | (refine gL_ 146 15 Tryz.func146 #[.pointer (some ⟨g, 0, none⟩), .int .i64 (wrap64 (a2 + 1))] ?_; (with_reducible refine (spec_l1Below.calls g s0_0 s0_1 s0_2 (wrap64 (a2 + 1)) t725 t726 t727 w0 _ ?side1 ?side2 A4.out).mono ?_); (case side1 => exact q11_3); (case side2 => exact q11_4); rintro e w10 ⟨rfl, hi, hb, hk⟩; refine ⟨_, rfl, ?_⟩; have n_ := ac_ (KeepBut.blk hk (g' := gb723) (o := .cells #[.int .i64 0, .slice none 0 0] 29 (0, 0)) (by (with_reducible repeat (first | refine blk_drewN ?_ _ | refine blk_drew ?_ | refine blk_alloc ?_ _)); refine blk_far ?_ NB723_724.out _; (with_reducible repeat (first | refine blk_drewN ?_ _ | refine blk_drew ?_ | refine blk_alloc ?_ _)); refine blk_far ?_ NB723_724.out _; (with_reducible repeat (first | refine blk_drewN ?_ _ | refine blk_drew ?_ | refine blk_alloc ?_ _)); exact BK723.out) NB723_0.out (by simp)) <| ac_ (KeepBut.blk hk (g' := gb724) (o := .cells #[.int .i64 a1, .slice none 0 0] 29 (0, 0)) (by (with_reducible repeat (first | refine blk_drewN ?_ _ | refine blk_drew ?_ | refine blk_alloc ?_ _)); refine blk_put (cs := #[.int .i64 a1, .slice none 0 0]) ?_ 1 _ rfl; (with_reducible repeat (first | refine blk_drewN ?_ _ | refine blk_drew ?_ | refine blk_alloc ?_ _)); refine blk_put (cs := #[.int .i64 0, .slice none 0 0]) ?_ 0 _ rfl; (with_reducible repeat (first | refine blk_drewN ?_ _ | refine blk_drew ?_ | refine blk_alloc ?_ _)); exact BK724.out) NB724_0.out (by simp)) <| ac_ (KeepBut.trans q11_6 hk (.inl rfl)) <| ac_ (hb) <| Aside0.mk (hi); clear BK723 BK724 HK HB HI0; obtain ⟨BK723, BK724, HK, HB, HI0⟩ := n_; (try clear hb hk hi)))
 go_loopg [9] k (fun kq v9 w' => ∃ (x9_1 : Int) (x1001_1 : Int) (x1002_1 : Int) (x725001_1 : List Int) (u725001 : Value), v9 = .int .i64 x9_1 ∧ Aside0 (spec_l3Make.l0 kq a1 t725 x9_1 s0_0 x1001_1 x1002_1 a1 x725001_1 = some (r1, r2, r3, r4)) ∧ Aside0 (kq ≤ k) ∧ Aside0 (Kd.R (Kd.int .i64) 3 w' w.heap.size (fun _ => True) u725001 x725001_1) ∧ Aside0 (w'.heap[gb723]? = some (.cells #[.int .i64 0, (.slice none 0 0)] 29 (0, 0))) ∧ Aside0 (w'.heap[gb724]? = some (.cells #[.int .i64 a1, u725001] 29 (0, 0))) ∧ Aside0 (IsS152 w0 w' g s0_0 x1001_1 x1002_1) ∧ Aside0 (KeepBut w w' g none) ∧ Aside0 (Below w0.heap.size w0 w'))
 case atStart => exact ⟨(0), (t726), (t727), (([] : List Int)), (.slice none 0 0), s3_, H', ⟨Nat.le_refl _⟩, ⟨(by first | exact Kd.R_nil _ _ _ _ _ | exact Kd.N_nil _ _ _ _ _ | exact Kd.V_nil _ _ _ _ _ | exact Kd.Q_nil _ _ _ _ _ | exact Kd.S_nil _ _ _ _ _)⟩, ⟨q11_12⟩, ⟨q11_13⟩, ⟨q11_3⟩, ⟨q11_6⟩, ⟨q11_4⟩⟩
 case round =>
  clear H'
  try clear c1
  try clear c2
  try clear p2
  try clear p6
  try clear c7
  try clear c8
  try clear hcz9_0
  try clear hcz9_1
  try clear hfz9_0
  try clear hfz9_1
  obtain ⟨x9_1, x1001_1, x1002_1, x725001_1, u725001, rfl, HA, HK1, HO_725001, BK723, BK724, HI0, HK, HB⟩ := hrel
  cases gk with
  | zero => exact absurd HA.out (by simp [spec_l3Make.l0])
  | succ k1 =>
   have H := HA.out; clear HA
   simp only [spec_l3Make.l0] at H
   by_cases c11 : x9_1 < t725
   ·
    rw [if_pos c11] at H; have c11b0 : decide (x9_1 < t725) = true := decide_eq_true c11; clear c11; obtain ⟨⟨t728, t729, t730⟩, A12, H⟩ := bnd11_ H; dsimp only at H
    by_cases c13 : t728 = true
    ·
     subst c13; rw [if_pos rfl] at H; obtain ⟨ji14, hji14⟩ : ∃ j_ : Int, (IntKind.u64.wrap (a1)) = j_ := ⟨_, rfl⟩
     replace H : (if 0 ≤ (ji14) then ((spec_l1Below.f s0_0 t729 t730 (shl .i64 1 (ji14))).bind fun bt731 => (if x725001_1.length < 17592186044416 then (spec_l3Make.l0 k1 a1 t725 (wrap64 (x9_1 + 1)) s0_0 bt731.2.1 bt731.2.2 a1 (x725001_1 ++ [bt731.1])) else (none))) else (none)) = some (r1, r2, r3, r4) := by first | (rw [hji14] at H; exact H) | (simp only [hji14] at H ⊢; exact H)
     (try rw [hji14] at A12)
     by_cases c15 : 0 ≤ (ji14)
     ·
      rw [if_pos c15] at H; have c15b0 := eq_true c15; have c15b1 : decide (0 ≤ (ji14)) = true := decide_eq_true c15; clear c15; obtain ⟨ji16, hji16⟩ : ∃ j_ : Int, (shl .i64 1 (ji14)) = j_ := ⟨_, rfl⟩
      replace H : ((spec_l1Below.f s0_0 t729 t730 (ji16)).bind fun bt731 => (if x725001_1.length < 17592186044416 then (spec_l3Make.l0 k1 a1 t725 (wrap64 (x9_1 + 1)) s0_0 bt731.2.1 bt731.2.2 a1 (x725001_1 ++ [bt731.1])) else (none))) = some (r1, r2, r3, r4) := by first | (rw [hji16] at H; exact H) | (simp only [hji16] at H ⊢; exact H)
      (try rw [hji16] at A12)
      have hji16_ : (IntKind.i64.wrap (1 * 2 ^ min (ji14).toNat 64)) = ji16 := hji16; have hji16z : (ji14) ≤ 64 → (IntKind.i64.wrap (1 * 2 ^ (ji14).toNat)) = ji16 := shl_small hji16
      have hji16u : (IntKind.i64.wrap (2 ^ min (ji14).toNat 64)) = ji16 := by have h_ := hji16_; rw [Int.one_mul] at h_; exact h_
      have hji16v : (ji14) ≤ 64 → (IntKind.i64.wrap (2 ^ (ji14).toNat)) = ji16 := fun hle_ => by have h_ := hji16z hle_; rw [Int.one_mul] at h_; exact h_
      have hji16y : (wrap64 (1 * 2 ^ min (ji14).toNat 64)) = ji16 := (i64_w _).symm.trans hji16_
      have hji16x : (ji14) ≤ 64 → (wrap64 (1 * 2 ^ (ji14).toNat)) = ji16 := fun h_ => (i64_w _).symm.trans (hji16z h_)
      obtain ⟨⟨t731, t732, t733⟩, A17, H⟩ := bnd11_ H; dsimp only at H
      by_cases c18 : x725001_1.length < 17592186044416
      ·
       rw [if_pos c18] at H; have LMc18 := Aside0.mk c18; clear c18; obtain ⟨y734, hy_⟩ : ∃ y_ : List Int, y_ = (x725001_1 ++ [t731]) := ⟨_, rfl⟩
       replace H : (spec_l3Make.l0 k1 a1 t725 (wrap64 (x9_1 + 1)) s0_0 t732 t733 a1 y734) = some (r1, r2, r3, r4) := rH_
       have Ny734 := Aside0.mk hy_; clear hy_; have H' := Aside0.mk H; clear H
       try go_wp2_with ((with_reducible refine gw_ rfl ?_); (refine gL_ 145 22 Tryz.func145 #[.pointer (some ⟨g, 0, none⟩), .int .i64 2] ?_; (with_reducible refine (spec_l1Once.calls g s0_0 x1001_1 x1002_1 2 true t729 t730 w0 _ ?side1 ?side2 A12.out).mono ?_); (case side1 => exact q11_3); (case side2 => exact q11_4); rintro e w19 ⟨rfl, hi, hb, hk⟩; refine ⟨_, rfl, ?_⟩; have n_ := ac_ (Kd.R_mono (Kd.R_keep (IsS152.apart (show IsS152 w0 _ g s0_0 x1001_1 x1002_1 from q11_3) q11_14 (by decide)) hk (fun _ h => h.2)) (fun _ h => h.1)) <| ac_ (KeepBut.blk hk (g' := gb723) (o := .cells #[.int .i64 0, .slice none 0 0] 29 (0, 0)) q11_12 NB723_0.out (by simp)) <| ac_ (KeepBut.blk hk (g' := gb724) (o := .cells #[.int .i64 a1, u725001] 29 (0, 0)) q11_13 NB724_0.out (by simp)) <| ac_ (KeepBut.trans q11_6 hk (.inl rfl)) <| ac_ (hb) <| Aside0.mk (hi); clear HO_725001 BK723 BK724 HK HB HI0; obtain ⟨HO_725001, BK723, BK724, HK, HB, HI0⟩ := n_; (try clear hb hk hi)))
       have n0_ := Aside0.mk (Kd.R_drew HO_725001.out); have n1_ := Aside0.mk (blk_drew BK723.out); have n2_ := Aside0.mk (blk_drew BK724.out); have n3_ := Aside0.mk (IsS152.drew HI0.out); have n4_ := Aside0.mk (keep_drew HK.out); have n5_ := Aside0.mk (below_drew1 HB.out); clear HO_725001; clear BK723; clear BK724; clear HI0; clear HK; clear HB; have HO_725001 := n0_; have BK723 := n1_; have BK724 := n2_; have HI0 := n3_; have HK := n4_; have HB := n5_; clear n0_ n1_ n2_ n3_ n4_ n5_
       refine start_ (n := 11) (S := fun w' => w'.cell? ⟨gb724, 0, none⟩ = some (.int .i64 a1) ∧ w'.cell? ⟨gb724, 1, none⟩ = some (u725001)) (ds := [10]) (tb_ 11 0) (by kernel_rfl) rfl rfl ⟨(blk_cell BK724.out 0).trans rfl, (blk_cell BK724.out 1).trans rfl⟩ (fun hHeld => ?_); refine with_tabW spec_l3Make.tab7 spec_l3Make.bits7 (fun HT_ HW_ => ?_)
       generalize w19.drew = w20 at HO_725001 BK723 BK724 HI0 HK HB hHeld ⊢
       refine pl_ 0 23 (tb_ 11 1) ?_; refine pl_ 2 25 (tb_ 11 5) ?_; refine pl_ 3 26 (tb_ 11 13) ?_; refine pl_ 4 27 (tb_ 11 29) ?_; refine pl_ 5 28 (tb_ 11 61) ?_; refine tk_ 1 24 (tb_ 11 63) hHeld ?_
       refine on_ 6 29 (tb_ 11 127) (fun K hK => ?_)
       refine goes_ Tryz.func146 (by kernel_rfl) rfl #[.pointer (some ⟨g, 0, none⟩), .int .i64 ji16] (by rfl) rfl rfl (by (try simp only [List.map_toArray, List.map_cons, List.map_nil]); first | done | (simp only [hji16]; rfl) | rfl | (simp only [List.length_drop, List.length_take]; rfl)) ?_
       with_reducible refine (spec_l1Below.calls g s0_0 t729 t730 ji16 t731 t732 t733 w0 _ ?side1 ?side2 A17.out).mono ?_
       (case side1 => exact q11_3)
       (case side2 => exact q11_4)
       rintro e w21 ⟨rfl, hi, hb, hk⟩
       refine ⟨_, rfl, ?_⟩
       have n0_ := Aside0.mk (Kd.R_mono (Kd.R_keep (IsS152.apart (show IsS152 w0 _ g s0_0 t729 t730 from q11_3) q11_14 (by decide)) hk (fun _ h => h.2)) (fun _ h => h.1))
       have n1_ := Aside0.mk (KeepBut.blk hk (g' := gb723) (o := .cells #[.int .i64 0, .slice none 0 0] 29 (0, 0)) q11_12 NB723_0.out (by simp))
       have n2_ := Aside0.mk (KeepBut.blk hk (g' := gb724) (o := .cells #[.int .i64 a1, u725001] 29 (0, 0)) q11_13 NB724_0.out (by simp))
       have n3_ := Aside0.mk (KeepBut.trans q11_6 hk (.inl rfl)); have n4_ := Aside0.mk (hb); have n5_ := Aside0.mk (hi); clear HO_725001; clear BK723; clear BK724; clear HK; clear HB; clear HI0; have HO_725001 := n0_; have BK723 := n1_; have BK724 := n2_; have HK := n3_; have HB := n4_; have HI0 := n5_; clear n0_ n1_ n2_ n3_ n4_ n5_
       (try clear hb)
       (try clear hb2)
       (try clear hk)
       (try clear hi)
       refine hK.out _ _ ⟨(blk_cell BK724.out 0).trans rfl, (blk_cell BK724.out 1).trans rfl⟩ (fun hHeld => ?_)
       clear hK K
       refine norm_ (a' := ?_) ?_ ?_
       rotate_left
       ·
        show Act.put _ (some 29) _ = _
        exact s9_
       refine on_ 7 30 (tb_ 11 255) (fun K hK => ?_)
       refine value_ (w1 := ?_) (v := ?_) (by rfl) rfl ?_ ?_
       rotate_left 2
       ·
        go_simp
        constructor
        ·
         rfl
        ·
         rfl
       refine hK.out _ _ ⟨(blk_cell (blk_alloc BK724.out _) 0).trans rfl, (blk_cell (blk_alloc BK724.out _) 1).trans rfl⟩ (fun hHeld => ?_)
       clear hK K
       refine norm_ (a' := ?_) ?_ ?_
       rotate_left
       ·
        show Act.put _ (some 30) _ = _
        exact s9_
       refine on_ 8 31 (tb_ 11 511) (fun K hK => ?_)
       refine Kd.R_append_step (Kd.int .i64) w.heap.size (by rfl) (.tmp 24) (.tmp 30) 27 3 (.int .i64 0) 8 rfl Tryz.underlying27 info3 rfl (by decide) (by omega) u725001 x725001_1 t731 [.int .i64 t731] (fun _ => True) (fun _ => False) rfl rfl ?aP (fun _ hk => hk.elim) ?aF ?aO (Below.refl _ _) ?aS ?aL ?_
       (case aP => exact rfl)
       (case aF => exact (fun _ _ => trivial))
       (case aO => exact q11_14)
       (case aS => exact (keep_size (w := w) (g := g) (row := none) q11_6))
       (case aL => have := LMc18.out; omega)
       intro v735 w22 ho hb hg hat
       rw [← Ny734.out] at ho
       have n0_ := Aside0.mk (blk_grown (g := gb723) (o := .cells #[.int .i64 0, .slice none 0 0] 29 (0, 0)) q11_12 hg (Kd.R_ne HO_725001.out BK723.out (by decide)))
       have n1_ := Aside0.mk (blk_grown (g := gb724) (o := .cells #[.int .i64 a1, u725001] 29 (0, 0)) q11_13 hg (Kd.R_ne HO_725001.out BK724.out (by decide)))
       have n2_ := Aside0.mk (IsS152.grown q11_3 hg (IsS152.own_ne HI0.out HO_725001.out (by decide)))
       have n3_ := Aside0.mk (below_weaken q11_4 HL.out hb); have n4_ := Aside0.mk (KeepBut.trans q11_6 (KeepBut.of_grown hg g) (Kd.R_base2 HO_725001.out)); have n5_ := Aside0.mk (ho); clear BK723; clear BK724; clear HI0; clear HB; clear HK; clear HO_725001; have BK723 := n0_; have BK724 := n1_; have HI0 := n2_; have HB := n3_; have HK := n4_; have HO736 := n5_; clear n0_ n1_ n2_ n3_ n4_ n5_; clear ho hb hg hat; obtain ⟨Ao23, co23, eo23⟩ := Kd.R_slice HO736.out
       (first | subst eo23 | (injection eo23 with f1_ f2_ f3_; have f4_ := f1_.symm; have f5_ := f3_.symm; clear f1_ f2_ f3_; subst f4_; subst f5_))
       refine hK.out _ _ ⟨(blk_cell BK724.out 0).trans rfl, (blk_cell BK724.out 1).trans rfl⟩ (fun hHeld => ?_)
       clear hK K
       refine norm_ (a' := ?_) ?_ ?_
       rotate_left
       ·
        show Act.put _ (some 31) _ = _
        exact s9_
       refine pl_ 9 32 (tb_ 11 1023) ?_
       refine last_ (i := 10) (N := none) (tb_ 11 2047) rfl rfl (one_of HT_.out (by kernel_rfl)) (by decide) (fun K hK => ?_)
       have hs24 : w22.cell? ⟨gb724, 1, none⟩ = some (u725001) := (blk_cell BK724.out 1).trans rfl; have hfs24 := blk_frozen BK724.out 1; have hns24_0 := NB723_724.out; have hms24_0 := NB724_723.out
       refine skip_ (w1 := ?_) (by rfl) rfl ?_ ?_
       rotate_left
       ·
        go_simp
        rfl
       refine hK.out _ _ ?_
       clear hK K
       refine done_ (done_of HT_.out (by kernel_rfl)) ?_
       try go_wp2
       go_roundg k1
       case measure => have := HK1.out; omega
       case rel => exact ⟨(wrap64 (x9_1 + 1)), (t732), (t733), (y734), (.slice Ao23 y734.length co23), s3_, H', ⟨by have := HK1.out; omega⟩, ⟨(by (with_reducible repeat (first | apply Kd.R_alloc | apply Kd.R_drewN | apply Kd.R_drew)); exact Kd.R_mono (Kd.R_far (p := ⟨gb724, 1, none⟩) (Kd.R_types HO736.out BK724.out (by decide)) (fun _ hk => hk.2) (.slice Ao23 y734.length co23)) (fun _ hk => trivial))⟩, ⟨q11_2⟩, ⟨q11_1⟩, ⟨q11_3⟩, ⟨q11_6⟩, ⟨q11_4⟩⟩
      ·
       rw [if_neg c18] at H
       exact absurd H (by simp)
     ·
      rw [if_neg c15] at H
      exact absurd H (by simp)
    ·
     replace c13 := Bool.eq_false_iff.mpr c13; subst c13
     rw [if_neg (show ¬ (false = true) by decide)] at H
     obtain ⟨ji25, hji25⟩ : ∃ j_ : Int, (IntKind.u64.wrap (a1)) = j_ := ⟨_, rfl⟩
     replace H : (if 0 ≤ (ji25) then ((spec_l1Below.f s0_0 t729 t730 (shl .i64 1 (ji25))).bind fun bt737 => ((spec_l1Below.f s0_0 bt737.2.1 bt737.2.2 (shl .i64 1 (ji25))).bind fun bt740 => (if x725001_1.length < 17592186044416 then (spec_l3Make.l0 k1 a1 t725 (wrap64 (x9_1 + 1)) s0_0 bt740.2.1 bt740.2.2 a1 (x725001_1 ++ [Go.bits .or .i64 bt737.1 bt740.1])) else (none)))) else (none)) = some (r1, r2, r3, r4) := by first | (rw [hji25] at H; exact H) | (simp only [hji25] at H ⊢; exact H)
     (try rw [hji25] at A12)
     by_cases c26 : 0 ≤ (ji25)
     ·
      rw [if_pos c26] at H; have c26b0 := eq_true c26; have c26b1 : decide (0 ≤ (ji25)) = true := decide_eq_true c26; clear c26; obtain ⟨ji27, hji27⟩ : ∃ j_ : Int, (shl .i64 1 (ji25)) = j_ := ⟨_, rfl⟩
      replace H : ((spec_l1Below.f s0_0 t729 t730 (ji27)).bind fun bt737 => ((spec_l1Below.f s0_0 bt737.2.1 bt737.2.2 (ji27)).bind fun bt740 => (if x725001_1.length < 17592186044416 then (spec_l3Make.l0 k1 a1 t725 (wrap64 (x9_1 + 1)) s0_0 bt740.2.1 bt740.2.2 a1 (x725001_1 ++ [Go.bits .or .i64 bt737.1 bt740.1])) else (none)))) = some (r1, r2, r3, r4) := by first | (rw [hji27] at H; exact H) | (simp only [hji27] at H ⊢; exact H)
      (try rw [hji27] at A12)
      have hji27_ : (IntKind.i64.wrap (1 * 2 ^ min (ji25).toNat 64)) = ji27 := hji27; have hji27z : (ji25) ≤ 64 → (IntKind.i64.wrap (1 * 2 ^ (ji25).toNat)) = ji27 := shl_small hji27
      have hji27u : (IntKind.i64.wrap (2 ^ min (ji25).toNat 64)) = ji27 := by have h_ := hji27_; rw [Int.one_mul] at h_; exact h_
      have hji27v : (ji25) ≤ 64 → (IntKind.i64.wrap (2 ^ (ji25).toNat)) = ji27 := fun hle_ => by have h_ := hji27z hle_; rw [Int.one_mul] at h_; exact h_
      have hji27y : (wrap64 (1 * 2 ^ min (ji25).toNat 64)) = ji27 := (i64_w _).symm.trans hji27_
      have hji27x : (ji25) ≤ 64 → (wrap64 (1 * 2 ^ (ji25).toNat)) = ji27 := fun h_ => (i64_w _).symm.trans (hji27z h_)
      obtain ⟨⟨t737, t738, t739⟩, A28, H⟩ := bnd11_ H; dsimp only at H
      have c29b0 := eq_true (of_decide_eq_true (by first | (with_reducible assumption) | assumption) : 0 ≤ (ji25))
      obtain ⟨⟨t740, t741, t742⟩, A30, H⟩ := bnd11_ H; dsimp only at H
      by_cases c31 : x725001_1.length < 17592186044416
      ·
       rw [if_pos c31] at H; have LMc31 := Aside0.mk c31; clear c31; obtain ⟨y743, hy_⟩ : ∃ y_ : List Int, y_ = (x725001_1 ++ [Go.bits .or .i64 t737 t740]) := ⟨_, rfl⟩
       replace H : (spec_l3Make.l0 k1 a1 t725 (wrap64 (x9_1 + 1)) s0_0 t741 t742 a1 y743) = some (r1, r2, r3, r4) := rH_
       have Ny743 := Aside0.mk hy_; clear hy_; have H' := Aside0.mk H; clear H
       try go_wp2_with ((with_reducible refine gw_ rfl ?_); (refine gL_ 145 22 Tryz.func145 #[.pointer (some ⟨g, 0, none⟩), .int .i64 2] ?_; (with_reducible refine (spec_l1Once.calls g s0_0 x1001_1 x1002_1 2 false t729 t730 w0 _ ?side1 ?side2 A12.out).mono ?_); (case side1 => exact q11_3); (case side2 => exact q11_4); rintro e w32 ⟨rfl, hi, hb, hk⟩; refine ⟨_, rfl, ?_⟩; have n_ := ac_ (Kd.R_mono (Kd.R_keep (IsS152.apart (show IsS152 w0 _ g s0_0 x1001_1 x1002_1 from q11_3) q11_14 (by decide)) hk (fun _ h => h.2)) (fun _ h => h.1)) <| ac_ (KeepBut.blk hk (g' := gb723) (o := .cells #[.int .i64 0, .slice none 0 0] 29 (0, 0)) q11_12 NB723_0.out (by simp)) <| ac_ (KeepBut.blk hk (g' := gb724) (o := .cells #[.int .i64 a1, u725001] 29 (0, 0)) q11_13 NB724_0.out (by simp)) <| ac_ (KeepBut.trans q11_6 hk (.inl rfl)) <| ac_ (hb) <| Aside0.mk (hi); clear HO_725001 BK723 BK724 HK HB HI0; obtain ⟨HO_725001, BK723, BK724, HK, HB, HI0⟩ := n_; (try clear hb hk hi)))
       have n0_ := Aside0.mk (Kd.R_drew HO_725001.out); have n1_ := Aside0.mk (blk_drew BK723.out); have n2_ := Aside0.mk (blk_drew BK724.out); have n3_ := Aside0.mk (IsS152.drew HI0.out); have n4_ := Aside0.mk (keep_drew HK.out); have n5_ := Aside0.mk (below_drew1 HB.out); clear HO_725001; clear BK723; clear BK724; clear HI0; clear HK; clear HB; have HO_725001 := n0_; have BK723 := n1_; have BK724 := n2_; have HI0 := n3_; have HK := n4_; have HB := n5_; clear n0_ n1_ n2_ n3_ n4_ n5_
       refine start_ (n := 17) (S := fun w' => w'.cell? ⟨gb724, 0, none⟩ = some (.int .i64 a1) ∧ w'.cell? ⟨gb724, 1, none⟩ = some (u725001)) (ds := [16]) (tb_ 17 0) (by kernel_rfl) rfl rfl ⟨(blk_cell BK724.out 0).trans rfl, (blk_cell BK724.out 1).trans rfl⟩ (fun hHeld => ?_); refine with_tabW spec_l3Make.tab8 spec_l3Make.bits8 (fun HT_ HW_ => ?_)
       generalize w32.drew = w33 at HO_725001 BK723 BK724 HI0 HK HB hHeld ⊢
       refine pl_ 0 33 (tb_ 17 1) ?_; refine pl_ 2 35 (tb_ 17 5) ?_; refine pl_ 3 36 (tb_ 17 13) ?_; refine pl_ 4 37 (tb_ 17 29) ?_; refine pl_ 5 38 (tb_ 17 61) ?_; refine pl_ 7 40 (tb_ 17 189) ?_; refine pl_ 8 41 (tb_ 17 445) ?_; refine pl_ 9 42 (tb_ 17 957) ?_; refine pl_ 10 43 (tb_ 17 1981) ?_; refine tk_ 1 34 (tb_ 17 1983) hHeld ?_
       refine on_ 6 39 (tb_ 17 2047) (fun K hK => ?_)
       refine goes_ Tryz.func146 (by kernel_rfl) rfl #[.pointer (some ⟨g, 0, none⟩), .int .i64 ji27] (by rfl) rfl rfl q11_9 ?_
       with_reducible refine (spec_l1Below.calls g s0_0 t729 t730 ji27 t737 t738 t739 w0 _ ?side1 ?side2 A28.out).mono ?_
       (case side1 => exact q11_3)
       (case side2 => exact q11_4)
       rintro e w34 ⟨rfl, hi, hb, hk⟩
       refine ⟨_, rfl, ?_⟩
       have n0_ := Aside0.mk (Kd.R_mono (Kd.R_keep (IsS152.apart (show IsS152 w0 _ g s0_0 t729 t730 from q11_3) q11_14 (by decide)) hk (fun _ h => h.2)) (fun _ h => h.1))
       have n1_ := Aside0.mk (KeepBut.blk hk (g' := gb723) (o := .cells #[.int .i64 0, .slice none 0 0] 29 (0, 0)) q11_12 NB723_0.out (by simp))
       have n2_ := Aside0.mk (KeepBut.blk hk (g' := gb724) (o := .cells #[.int .i64 a1, u725001] 29 (0, 0)) q11_13 NB724_0.out (by simp))
       have n3_ := Aside0.mk (KeepBut.trans q11_6 hk (.inl rfl)); have n4_ := Aside0.mk (hb); have n5_ := Aside0.mk (hi); clear HO_725001; clear BK723; clear BK724; clear HK; clear HB; clear HI0; have HO_725001 := n0_; have BK723 := n1_; have BK724 := n2_; have HK := n3_; have HB := n4_; have HI0 := n5_; clear n0_ n1_ n2_ n3_ n4_ n5_
       (try clear hb)
       (try clear hb2)
       (try clear hk)
       (try clear hi)
       refine hK.out _ _ ⟨(blk_cell BK724.out 0).trans rfl, (blk_cell BK724.out 1).trans rfl⟩ (fun hHeld => ?_)
       clear hK K
       refine norm_ (a' := ?_) ?_ ?_
       rotate_left
       ·
        show Act.put _ (some 39) _ = _
        exact s9_
       refine on_ 11 44 (tb_ 17 4095) (fun K hK => ?_)
       refine goes_ Tryz.func146 (by kernel_rfl) rfl #[.pointer (some ⟨g, 0, none⟩), .int .i64 ji27] (by rfl) rfl rfl q11_9 ?_
       with_reducible refine (spec_l1Below.calls g s0_0 t738 t739 ji27 t740 t741 t742 w0 _ ?side1 ?side2 A30.out).mono ?_
       (case side1 => exact q11_3)
       (case side2 => exact q11_4)
       rintro e w35 ⟨rfl, hi, hb, hk⟩
       refine ⟨_, rfl, ?_⟩
       have n0_ := Aside0.mk (Kd.R_mono (Kd.R_keep (IsS152.apart (show IsS152 w0 _ g s0_0 t738 t739 from q11_3) q11_14 (by decide)) hk (fun _ h => h.2)) (fun _ h => h.1))
       have n1_ := Aside0.mk (KeepBut.blk hk (g' := gb723) (o := .cells #[.int .i64 0, .slice none 0 0] 29 (0, 0)) q11_12 NB723_0.out (by simp))
       have n2_ := Aside0.mk (KeepBut.blk hk (g' := gb724) (o := .cells #[.int .i64 a1, u725001] 29 (0, 0)) q11_13 NB724_0.out (by simp))
       have n3_ := Aside0.mk (KeepBut.trans q11_6 hk (.inl rfl)); have n4_ := Aside0.mk (hb); have n5_ := Aside0.mk (hi); clear HO_725001; clear BK723; clear BK724; clear HK; clear HB; clear HI0; have HO_725001 := n0_; have BK723 := n1_; have BK724 := n2_; have HK := n3_; have HB := n4_; have HI0 := n5_; clear n0_ n1_ n2_ n3_ n4_ n5_
       (try clear hb)
       (try clear hb2)
       (try clear hk)
       (try clear hi)
       refine hK.out _ _ ⟨(blk_cell BK724.out 0).trans rfl, (blk_cell BK724.out 1).trans rfl⟩ (fun hHeld => ?_)
       clear hK K
       refine norm_ (a' := ?_) ?_ ?_
       rotate_left
       ·
        show Act.put _ (some 44) _ = _
        exact s9_
       refine pl_ 12 45 (tb_ 17 8191) ?_
       refine on_ 13 46 (tb_ 17 16383) (fun K hK => ?_)
       refine value_ (w1 := ?_) (v := ?_) (by rfl) rfl ?_ ?_
       rotate_left 2
       ·
        go_simp
        constructor
        ·
         rfl
        ·
         rfl
       refine hK.out _ _ ⟨(blk_cell (blk_alloc BK724.out _) 0).trans rfl, (blk_cell (blk_alloc BK724.out _) 1).trans rfl⟩ (fun hHeld => ?_)
       clear hK K
       refine norm_ (a' := ?_) ?_ ?_
       rotate_left
       ·
        show Act.put _ (some 46) _ = _
        exact s9_
       refine on_ 14 47 (tb_ 17 32767) (fun K hK => ?_)
       refine Kd.R_append_step (Kd.int .i64) w.heap.size (by rfl) (.tmp 34) (.tmp 46) 27 3 (.int .i64 0) 8 rfl Tryz.underlying27 info3 rfl (by decide) (by omega) u725001 x725001_1 (Go.bits .or .i64 t737 t740) [.int .i64 (Go.bits .or .i64 t737 t740)] (fun _ => True) (fun _ => False) rfl rfl ?aP (fun _ hk => hk.elim) ?aF ?aO (Below.refl _ _) ?aS ?aL ?_
       (case aP => exact rfl)
       (case aF => exact (fun _ _ => trivial))
       (case aO => exact q11_14)
       (case aS => exact (keep_size (w := w) (g := g) (row := none) q11_6))
       (case aL => have := LMc31.out; omega)
       intro v744 w36 ho hb hg hat
       rw [← Ny743.out] at ho
       have n0_ := Aside0.mk (blk_grown (g := gb723) (o := .cells #[.int .i64 0, .slice none 0 0] 29 (0, 0)) q11_12 hg (Kd.R_ne HO_725001.out BK723.out (by decide)))
       have n1_ := Aside0.mk (blk_grown (g := gb724) (o := .cells #[.int .i64 a1, u725001] 29 (0, 0)) q11_13 hg (Kd.R_ne HO_725001.out BK724.out (by decide)))
       have n2_ := Aside0.mk (IsS152.grown q11_3 hg (IsS152.own_ne HI0.out HO_725001.out (by decide)))
       have n3_ := Aside0.mk (below_weaken q11_4 HL.out hb); have n4_ := Aside0.mk (KeepBut.trans q11_6 (KeepBut.of_grown hg g) (Kd.R_base2 HO_725001.out)); have n5_ := Aside0.mk (ho); clear BK723; clear BK724; clear HI0; clear HB; clear HK; clear HO_725001; have BK723 := n0_; have BK724 := n1_; have HI0 := n2_; have HB := n3_; have HK := n4_; have HO745 := n5_; clear n0_ n1_ n2_ n3_ n4_ n5_; clear ho hb hg hat; obtain ⟨Ao37, co37, eo37⟩ := Kd.R_slice HO745.out
       (first | subst eo37 | (injection eo37 with f1_ f2_ f3_; have f4_ := f1_.symm; have f5_ := f3_.symm; clear f1_ f2_ f3_; subst f4_; subst f5_))
       refine hK.out _ _ ⟨(blk_cell BK724.out 0).trans rfl, (blk_cell BK724.out 1).trans rfl⟩ (fun hHeld => ?_)
       clear hK K
       refine norm_ (a' := ?_) ?_ ?_
       rotate_left
       ·
        show Act.put _ (some 47) _ = _
        exact s9_
       refine pl_ 15 48 (tb_ 17 65535) ?_
       refine last_ (i := 16) (N := none) (tb_ 17 131071) rfl rfl (one_of HT_.out (by kernel_rfl)) (by decide) (fun K hK => ?_)
       have hs38 : w36.cell? ⟨gb724, 1, none⟩ = some (u725001) := (blk_cell BK724.out 1).trans rfl; have hfs38 := blk_frozen BK724.out 1; have hns38_0 := NB723_724.out; have hms38_0 := NB724_723.out
       refine skip_ (w1 := ?_) (by rfl) rfl ?_ ?_
       rotate_left
       ·
        go_simp
        rfl
       refine hK.out _ _ ?_
       clear hK K
       refine done_ (done_of HT_.out (by kernel_rfl)) ?_
       try go_wp2
       go_roundg k1
       case measure => have := HK1.out; omega
       case rel => exact ⟨(wrap64 (x9_1 + 1)), (t741), (t742), (y743), (.slice Ao37 y743.length co37), s3_, H', ⟨by have := HK1.out; omega⟩, ⟨(by (with_reducible repeat (first | apply Kd.R_alloc | apply Kd.R_drewN | apply Kd.R_drew)); exact Kd.R_mono (Kd.R_far (p := ⟨gb724, 1, none⟩) (Kd.R_types HO745.out BK724.out (by decide)) (fun _ hk => hk.2) (.slice Ao37 y743.length co37)) (fun _ hk => trivial))⟩, ⟨q11_2⟩, ⟨q11_1⟩, ⟨q11_3⟩, ⟨q11_6⟩, ⟨q11_4⟩⟩
      ·
       rw [if_neg c31] at H
       exact absurd H (by simp)
     ·
      rw [if_neg c26] at H
      exact absurd H (by simp)
   ·
    rw [if_neg c11] at H; have c11b0 : decide (x9_1 < t725) = false := decide_eq_false c11; clear c11
    simp only [Option.some.injEq, Prod.mk.injEq] at H
    obtain ⟨rfl, rfl, rfl, rfl⟩ := H; have hnb39 := NB724_723.out; have hnc39 := NB723_724.out; have hnb40 := NB724_0.out; have hnc40 := NB0_724.out; have hcz41_0 : wr.cell? ⟨gb724, 0, none⟩ = some (.int .i64 a1) := (blk_cell BK724.out 0).trans rfl; have hcz41_1 : wr.cell? ⟨gb724, 1, none⟩ = some (u725001) := (blk_cell BK724.out 1).trans rfl; have hfz41_0 := blk_frozen BK724.out 0; have hfz41_1 := blk_frozen BK724.out 1; have hnb42 := NB723_0.out; have hnc42 := NB0_723.out; have hcz43_0 : wr.cell? ⟨gb723, 0, none⟩ = some (.int .i64 0) := (blk_cell BK723.out 0).trans rfl; have hcz43_1 : wr.cell? ⟨gb723, 1, none⟩ = some (.slice none 0 0) := (blk_cell BK723.out 1).trans rfl; have hfz43_0 := blk_frozen BK723.out 0; have hfz43_1 := blk_frozen BK723.out 1; obtain ⟨Ao44, co44, eo44⟩ := Kd.R_slice HO_725001.out; subst eo44
    go_wp2
    refine bodyPost_ret (results_cell_row rfl _ _ gb723 29 #[.int .i64 a1, .slice Ao44 x725001_1.length co44] (0, 0) _ rfl (by (with_reducible repeat (first | refine blk_drewN ?_ _ | refine blk_drew ?_ | refine blk_alloc ?_ _)); refine blk_put (cs := #[.int .i64 a1, .slice none 0 0]) ?_ 1 _ rfl; (with_reducible repeat (first | refine blk_drewN ?_ _ | refine blk_drew ?_ | refine blk_alloc ?_ _)); refine blk_put (cs := #[.int .i64 0, .slice none 0 0]) ?_ 0 _ rfl; (with_reducible repeat (first | refine blk_drewN ?_ _ | refine blk_drew ?_ | refine blk_alloc ?_ _)); exact BK723.out) Tryz.underlying29 rfl (by kernel_rfl)) rfl ?_
    exact ⟨_, (by first | rfl | (simp [errW_none, errW_some] <;> rfl) | (simp [*, errW_none, errW_some] <;> rfl)), (by (with_reducible repeat (first | apply Kd.R_alloc | apply Kd.R_drewN | apply Kd.R_drew)); exact Kd.R_mono (Kd.R_far (p := ⟨gb723, 1, none⟩) (Kd.R_far (p := ⟨gb723, 0, none⟩) (Kd.R_types HO_725001.out BK723.out (by decide)) (fun _ hk => hk.2) (.int .i64 a1)) (fun _ hk => hk.2) (.slice Ao44 x725001_1.length co44)) (fun _ hk => trivial)), q11_3, q11_4, q11_6⟩
theorem q11_16 {P : Prop} (h : P := by repeat (first | (with_reducible first | exact HI0.out | apply IsS152.alloc | apply IsS152.drewN | apply IsS152.drew | apply IsS152.set_1 | apply IsS152.set_2 | refine IsS152.far ?_ NB0_746.out _) | exact HI0.out)) : P := h
theorem q11_17 {P : Prop} (h : P := by repeat (first | (with_reducible first | exact HB.out | apply below_alloc | apply pw_below_drewN | apply below_drew1 | refine below_set ?_ (IsS152.ge HI0.out) | refine below_set ?_ GE746.out) | exact HB.out)) : P := h
theorem q11_18 {P : Prop} (h : P := by repeat (first | (with_reducible first | exact HK.out | apply KeepBut.set_ | apply keep_drewN | apply keep_drew | apply keep_alloc | refine keep_far ?_ GW746.out _) | exact HK.out)) : P := h
theorem q11_22 {P : Prop} (h : P := by (with_reducible repeat (first | refine blk_drewN ?_ _ | refine blk_drew ?_ | refine blk_alloc ?_ _)); exact BK746.out) : P := h
theorem q11_23 {P : Prop} (h : P := by (with_reducible repeat (first | apply Kd.R_alloc | apply Kd.R_drewN | apply Kd.R_drew)); exact HO749.out) : P := h
def spec_l3Draw.f (k : Nat) (s0_0 : List Int) (s0_1 : Int) (s0_2 : Int) : Option (Int × List Int × Int × Int) := (spec_l1PickInt.f s0_0 s0_1 s0_2 (([0, 1, 2, 3, 3, 4, 4, 5, 5] : List Int))).bind fun bt750 => ((spec_l3Make.f k s0_0 bt750.2.1 bt750.2.2 bt750.1 6).bind fun bt753 => (some (bt753.1, bt753.2.1, bt753.2.2.1, bt753.2.2.2)))
theorem spec_l3Draw.calls (k : Nat) (g : Nat) (s0_0 : List Int) (s0_1 : Int) (s0_2 : Int) (r1 : Int) (r2 : List Int) (r3 : Int) (r4 : Int) (w0 w : World) (hI : IsS152 w0 w g s0_0 s0_1 s0_2) (hB : Below w0.heap.size w0 w) (h : spec_l3Draw.f k s0_0 s0_1 s0_2 = some (r1, r2, r3, r4)) :
  Calls Tryz.prog 205 #[.pointer (some ⟨g, 0, none⟩)] w fun e w' => ∃ v1_ : Value, e = .returned (.agg #[.int .i64 r1, v1_]) ∧ Kd.R (Kd.int .i64) 3 w' w.heap.size (fun _ => True) v1_ r2 ∧ IsS152 w0 w' g s0_0 r3 r4 ∧ Below w0.heap.size w0 w' ∧ KeepBut w w' g none := by
 have hu29 := Tryz.underlying29; have HI0 := Aside0.mk hI; have HK := Aside0.mk (KeepBut.refl w g none); have HL := Aside0.mk hB.size; clear hI; have HW0 := Aside0.mk hB.size; have HB := Aside0.mk hB; clear hB; have H := h; clear h; unfold spec_l3Draw.f at H; obtain ⟨y747, hy_⟩ : ∃ y_ : List Int, y_ = (([0, 1, 2, 3, 3, 4, 4, 5, 5] : List Int)) := ⟨_, rfl⟩
 replace H : ((spec_l1PickInt.f s0_0 s0_1 s0_2 y747).bind fun bt750 => ((spec_l3Make.f k s0_0 bt750.2.1 bt750.2.2 bt750.1 6).bind fun bt753 => (some (bt753.1, bt753.2.1, bt753.2.2.1, bt753.2.2.2)))) = some (r1, r2, r3, r4) := rH_
 have Ny747 := Aside0.mk hy_; clear hy_; obtain ⟨⟨t750, t751, t752⟩, A2, H⟩ := bnd11_ H; dsimp only at H; obtain ⟨⟨t753, t754, t757, t758⟩, A3, H⟩ := bnd11_ H; dsimp only at H
 simp only [Option.some.injEq, Prod.mk.injEq] at H
 obtain ⟨rfl, rfl, rfl, rfl⟩ := H
 go_enter Tryz.func205, Tryz.ntmps205
 go_wp2_with (first | ((with_reducible refine gw_ rfl ?_); first | (refine be_ 2 #[.int .i64 0, .slice none 0 0] 29 ?_; intro gb746 hg w4 hbox hb; have n_ := ac_ (IsS152.below s7_ hb) <| ac_ (KeepBut.trans s8_ (KeepBut.of_below hb g none) (.inl rfl)) <| ac_ (below_step (by repeat (first | (with_reducible first | exact HB.out | apply below_alloc | apply pw_below_drewN | apply below_drew1 | refine below_set ?_ (IsS152.ge HI0.out)) | exact HB.out)) hb) <| ac_ (hbox) <| ac_ ((by rw [hg]; exact (keep_size (w := w) (g := g) (row := none) s8_) : w.heap.size ≤ gb746)) <| ac_ ((Nat.le_trans HW0.out (by rw [hg]; exact (keep_size (w := w) (g := g) (row := none) s8_) : w.heap.size ≤ gb746) : w0.heap.size ≤ gb746)) <| ac_ ((nl_ hg (IsS152.lt (show IsS152 w0 _ g s0_0 s0_1 s0_2 from s7_)))) <| Aside0.mk ((ng_ hg (IsS152.lt (show IsS152 w0 _ g s0_0 s0_1 s0_2 from s7_)))); clear HI0 HK HB; obtain ⟨HI0, HK, HB, BK746, GW746, GE746, NB0_746, NB746_0⟩ := n_; clear hb hbox hg) | (refine gL_ 147 6 Tryz.func147 #[.pointer (some ⟨g, 0, none⟩), .slice Ao7 y747.length co7] ?_; (with_reducible refine (spec_l1PickInt.calls g s0_0 s0_1 s0_2 _ _ y747 t750 t751 t752 w0 _ ?side1 ?side2 ?side3 ?side4 ?side5 A2.out).mono ?_); (case side1 => exact q11_16); (case side2 => exact q11_17); (case side3 => repeat (first | exact (Kd.R_reads' HO749.out).2.2 | (with_reducible refine Kd.C_alloc ?_ _) | (with_reducible refine Kd.C_drewN ?_ _) | (with_reducible refine Kd.C_drew ?_))); (case side4 => exact (Kd.R_reads' HO749.out).2.1); (case side5 => exact far_slice (IsS152.own_ne HI0.out HO749.out (by decide))); rintro e w8 ⟨rfl, hi, hb, hk⟩; refine ⟨_, rfl, ?_⟩; have n_ := ac_ (KeepBut.blk hk (g' := gb746) (o := .cells #[.int .i64 0, .slice none 0 0] 29 (0, 0)) q11_22 NB746_0.out (by simp)) <| ac_ (Kd.R_mono (Kd.R_keep (IsS152.apart (show IsS152 w0 _ g s0_0 s0_1 s0_2 from q11_16) q11_23 (by decide)) hk (fun _ h => h.2)) (fun _ h => h.1)) <| ac_ (KeepBut.trans q11_18 hk (.inl rfl)) <| ac_ (hb) <| Aside0.mk (hi); clear BK746 HO749 HK HB HI0; obtain ⟨BK746, HO749, HK, HB, HI0⟩ := n_; (try clear hb hk hi)) | (refine gL_ 245 9 Tryz.func245 #[.pointer (some ⟨g, 0, none⟩), .int .i64 t750, .int .i64 6] ?_; (with_reducible refine (spec_l3Make.calls k g s0_0 t751 t752 t750 6 t753 t754 t757 t758 w0 _ ?side1 ?side2 A3.out).mono ?_); (case side1 => exact q11_16); (case side2 => exact q11_17); rintro e w9 ⟨v755, rfl, ho0, hi, hb, hk⟩; refine ⟨_, rfl, ?_⟩; have n_ := ac_ (KeepBut.blk hk (g' := gb746) (o := .cells #[.int .i64 0, .slice none 0 0] 29 (0, 0)) q11_22 NB746_0.out (by simp)) <| ac_ (Kd.R_mono (Kd.R_told (Kd.R_oldK (IsS152.apart (show IsS152 w0 _ g s0_0 t751 t752 from q11_16) q11_23 (by decide)) hk) (Kd.R_base ho0)) (fun _ h_ => h_.1)) <| ac_ (Kd.R_lower (Kd.R_new' ho0 (Kd.R_lt q11_23)) (keep_size (w := w) (g := g) (row := none) q11_18)) <| ac_ (KeepBut.trans q11_18 hk (.inl rfl)) <| ac_ (hb) <| Aside0.mk (hi); clear BK746 HO749 HK HB HI0; obtain ⟨BK746, HO749, HO756, HK, HB, HI0⟩ := n_; (try clear hb hk hi ho0); have hnb10 := NB746_0.out; have hnc10 := NB0_746.out; have hcz11_0 : w9.cell? ⟨gb746, 0, none⟩ = some (.int .i64 0) := (blk_cell BK746.out 0).trans rfl; have hcz11_1 : w9.cell? ⟨gb746, 1, none⟩ = some (.slice none 0 0) := (blk_cell BK746.out 1).trans rfl; have hfz11_0 := blk_frozen BK746.out 0; have hfz11_1 := blk_frozen BK746.out 1; obtain ⟨Ao12, co12, eo12⟩ := Kd.R_slice HO756.out; subst eo12)) | ((with_reducible refine gate_dst (N := 5) rfl ?_); refine Kd.R_lit (Kd.int .i64) _ 3 ?hg (N := 5) ?hd (xs := ([0, 1, 2, 3, 3, 4, 4, 5, 5] : List Int)) (inner := [.int .i64 0, .int .i64 1, .int .i64 2, .int .i64 3, .int .i64 3, .int .i64 4, .int .i64 4, .int .i64 5, .int .i64 5]) (ok := fun _ => True) (okp := fun _ => True) ?hr ?hp (fun _ hk => hk) trivial (Below.refl _ _) (Nat.le_refl _) (by simp) ?_; (case hd => rfl); (case hg => rfl); (case hr => first | (go_simp; done) | (go_simp; rfl)); (case hp => exact (Reps.one (show Kd.M (Kd.int .i64) _ _ _ 0 [.int .i64 0] from rfl) (Reps.one (show Kd.M (Kd.int .i64) _ _ _ 1 [.int .i64 1] from rfl) (Reps.one (show Kd.M (Kd.int .i64) _ _ _ 2 [.int .i64 2] from rfl) (Reps.one (show Kd.M (Kd.int .i64) _ _ _ 3 [.int .i64 3] from rfl) (Reps.one (show Kd.M (Kd.int .i64) _ _ _ 3 [.int .i64 3] from rfl) (Reps.one (show Kd.M (Kd.int .i64) _ _ _ 4 [.int .i64 4] from rfl) (Reps.one (show Kd.M (Kd.int .i64) _ _ _ 4 [.int .i64 4] from rfl) (Reps.one (show Kd.M (Kd.int .i64) _ _ _ 5 [.int .i64 5] from rfl) (Reps.one (show Kd.M (Kd.int .i64) _ _ _ 5 [.int .i64 5] from rfl) (Reps.none _ _))))))))))); intro v748 w5 ho6 hb hg_ hnew_; clear hg_ hnew_; (first | rw [← Ny747.out] at ho6 | (simp only [Int.reduceToNat] at ho6; rw [← Ny747.out] at ho6)); have n_ := ac_ (Kd.R_lower ho6 (keep_size (w := w) (g := g) (row := none) q11_18)) <| ac_ (IsS152.below q11_16 hb) <| ac_ (blk_below (g := gb746) (o := .cells #[.int .i64 0, .slice none 0 0] 29 (0, 0)) q11_22 hb) <| ac_ (KeepBut.trans q11_18 (KeepBut.of_below hb g none) (.inl rfl)) <| Aside0.mk (below_step q11_17 hb); clear HI0 BK746 HK HB; obtain ⟨HO749, HI0, BK746, HK, HB⟩ := n_; clear hb ho6; obtain ⟨Ao7, co7, eo7⟩ := Kd.R_slice HO749.out; subst eo7))
 refine bodyPost_ret (results_cell_row rfl _ _ gb746 29 #[.int .i64 t753, .slice Ao12 t754.length co12] (0, 0) _ rfl (by (with_reducible repeat (first | refine blk_drewN ?_ _ | refine blk_drew ?_ | refine blk_alloc ?_ _)); refine blk_put (cs := #[.int .i64 t753, .slice none 0 0]) ?_ 1 _ rfl; (with_reducible repeat (first | refine blk_drewN ?_ _ | refine blk_drew ?_ | refine blk_alloc ?_ _)); refine blk_put (cs := #[.int .i64 0, .slice none 0 0]) ?_ 0 _ rfl; (with_reducible repeat (first | refine blk_drewN ?_ _ | refine blk_drew ?_ | refine blk_alloc ?_ _)); exact BK746.out) Tryz.underlying29 rfl (by kernel_rfl)) rfl ?_
 exact ⟨_, (by first | rfl | (simp [errW_none, errW_some] <;> rfl) | (simp [*, errW_none, errW_some] <;> rfl)), (by (with_reducible repeat (first | apply Kd.R_alloc | apply Kd.R_drewN | apply Kd.R_drew)); exact Kd.R_mono (Kd.R_far (p := ⟨gb746, 1, none⟩) (Kd.R_far (p := ⟨gb746, 0, none⟩) (Kd.R_types HO756.out BK746.out (by decide)) (fun _ hk => hk.2) (.int .i64 t753)) (fun _ hk => hk.2) (.slice Ao12 t754.length co12)) (fun _ hk => trivial)), q11_16, q11_17, q11_18⟩
end Go.Proofs.YtafnamchckehmaaGreatDoor.Pr
