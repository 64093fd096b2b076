/- Functions of the program as plain functions, proofs that their calls answer so, and plain laws: what the law needs. No condition beyond what each statement says. -/
import Derived.Test.YtafnamchckehmaaGreatDoorZFnInference3
namespace Go.Proofs.YtafnamchckehmaaGreatDoor.Pr
open Go.RowKit Go.Proofs.YtafnamchckehmaaGreatDoorW.PrintWords Go.Proofs.YtafnamchckehmaaGreatDoorW.PrintLast Go.Proofs.YtafnamchckehmaaGreatDoorW.PrintMore
attribute [local go_sem] max2_int min2_int max_two min_two max_three min_three max_four min_four
set_option linter.unusedVariables false
set_option linter.unusedSimpArgs false
theorem bnd8_ {α β : Type} {o : Option α} {f : α → Option β} {r : β} (h : o.bind f = some r) : ∃ a, Aside0 (o = some a) ∧ f a = some r := by
 obtain ⟨a, h1, h2⟩ := Option.bind_eq_some_iff.mp h
 exact ⟨a, ⟨h1⟩, h2⟩
theorem q8_5 {P : Prop} (h : P := by (with_reducible repeat (first | apply Kd.R_alloc | apply Kd.R_drewN | apply Kd.R_drew)); exact HO138.out) : P := h
theorem q8_6 {P : Prop} (h : P := by (with_reducible repeat (first | apply Kd.R_alloc | apply Kd.R_drewN | apply Kd.R_drew)); exact HO158.out) : P := h
mutual
def spec_SortLectic.l0 : Nat → List Int → List Int → Int → Option (List Int)
 | 0, _, _, _ => none
 | k + 1, x0, x3, x4 => if x4 < (x0.length : Int) then (if 0 ≤ x4 then ((spec_l2In.f k x3 (rd x0 x4)).bind fun t125 => (if t125 = true then (spec_SortLectic.l0 k x0 x3 (wrap64 (x4 + 1))) else (spec_SortLectic.l1 k x0 x3 x4 0))) else (none)) else (some x3)
def spec_SortLectic.l1 : Nat → List Int → List Int → Int → Int → Option (List Int)
 | 0, _, _, _, _ => none
 | k + 1, x0, x3, x4, x5 => if x5 < (x3.length : Int) then (if 0 ≤ x5 then (if 0 ≤ x4 then (if x4 < (x0.length : Int) then ((spec_BeforeSet.f (rd x3 x5) (rd x0 x4)).bind fun t128 => (if t128 = true then (spec_SortLectic.l1 k x0 x3 x4 (wrap64 (x5 + 1))) else ((some (([] : List Int) : List Int)).bind fun y129 => (if x5 ≤ (x3.length : Int) then ((some (x3.drop (x5 : Int).toNat : List Int)).bind fun y132 => (if y129.length + y132.length < 17592186044416 then ((some (y129 ++ y132 : List Int)).bind fun y136 => ((some (x3.take (x5 : Int).toNat : List Int)).bind fun y139 => (if y139.length < 17592186044416 then ((some (y139 ++ [rd x0 x4] : List Int)).bind fun y143 => (if y143.length + y136.length < 17592186044416 then (spec_SortLectic.l0 k x0 (y143 ++ y136) (wrap64 (x4 + 1))) else (none))) else (none)))) else (none))) else (none))))) else (none)) else (none)) else (none)) else ((some (([] : List Int) : List Int)).bind fun y149 => (if 0 ≤ x5 then (if x5 ≤ (x3.length : Int) then ((some (x3.drop (x5 : Int).toNat : List Int)).bind fun y152 => (if y149.length + y152.length < 17592186044416 then ((some (y149 ++ y152 : List Int)).bind fun y156 => ((some (x3.take (x5 : Int).toNat : List Int)).bind fun y159 => (if 0 ≤ x4 then (if x4 < (x0.length : Int) then (if y159.length < 17592186044416 then ((some (y159 ++ [rd x0 x4] : List Int)).bind fun y163 => (if y163.length + y156.length < 17592186044416 then (spec_SortLectic.l0 k x0 (y163 ++ y156) (wrap64 (x4 + 1))) else (none))) else (none)) else (none)) else (none)))) else (none))) else (none)) else (none)))
end
def spec_SortLectic.f (k : Nat) (l0 : List Int) : Option (List Int) := (some (([] : List Int) : List Int)).bind fun y120 => ((spec_l2Sets.f k l0).bind fun t123 => (if t123 = true then (spec_SortLectic.l0 k l0 y120 0) else (some y120)))
def spec_SortLectic.T9 : Bool × List (List Nat × List Nat) := (true, [([], []), ([], []), ([1], [1]), ([0, 2], [0, 2]), ([3], [3]), ([4], [4]), ([4], [4]), ([5, 6, 4], [4, 5, 6]), ([7, 4], [4, 7]), ([4], [4]), ([4], [4]), ([9, 10, 4], [4, 9, 10]), ([11, 4], [4, 11]), ([8, 12, 4, 4], [4, 8, 12]), ([4, 13], [4, 13])])
def spec_SortLectic.B9 : List Nat := [0, 0, 2, 7, 15, 31, 31, 127, 255, 31, 31, 1567, 3615, 8191, 16383]
theorem spec_SortLectic.tab9 : rtab .any (opsOf Tryz.f139 9) = spec_SortLectic.T9 := s10_
theorem spec_SortLectic.bits9 : waitsOk spec_SortLectic.T9.2 spec_SortLectic.B9 = true := s10_
def spec_SortLectic.T12 : Bool × List (List Nat × List Nat) := (true, [([], []), ([], []), ([0, 1], [0, 1]), ([], []), ([], []), ([3, 4], [3, 4]), ([5], [5]), ([6], [6]), ([2, 7], [2, 7]), ([], []), ([8, 9, 8], [8, 9]), ([10, 10, 0, 1, 2, 3, 4, 5, 6, 7, 8, 9, 10], [0, 10])])
def spec_SortLectic.B12 : List Nat := [0, 0, 3, 0, 0, 24, 56, 120, 255, 0, 1023, 2047]
theorem spec_SortLectic.tab12 : rtab .any (opsOf Tryz.f139 12) = spec_SortLectic.T12 := s10_
theorem spec_SortLectic.bits12 : waitsOk spec_SortLectic.T12.2 spec_SortLectic.B12 = true := s10_
set_option maxHeartbeats 40000000 in
set_option maxRecDepth 100000 in
theorem spec_SortLectic.calls (k : Nat) (A0 : Option Addr) (c0 : Nat) (l0 : List Int) (r : List Int) (w : World) (hr0 : Kd.C (Kd.int .i64) w A0 l0.length l0) (hc0 : l0.length ≤ c0) (h : spec_SortLectic.f k l0 = some r) :
  Calls Tryz.prog 139 #[.slice A0 l0.length c0] w fun e w' => ∃ v0_ : Value, e = .returned (v0_) ∧ Kd.R (Kd.int .i64) 3 w' w.heap.size (fun _ => True) v0_ r ∧ Below w.heap.size w w' := by
 have HR0 := Aside0.mk hr0; have HC0 := Aside0.mk hc0; clear hr0 hc0; have HB := Aside0.mk (Below.refl w.heap.size w); have H := h; clear h; unfold spec_SortLectic.f at H; obtain ⟨y120, hy_⟩ : ∃ y_ : List Int, y_ = (([] : List Int)) := ⟨_, rfl⟩
 replace H : ((spec_l2Sets.f k l0).bind fun t123 => (if t123 = true then (spec_SortLectic.l0 k l0 y120 0) else (some y120))) = some r := rH_
 have Ny120 := Aside0.mk hy_; clear hy_; obtain ⟨t123, A2, H⟩ := bnd8_ H
 by_cases c3 : t123 = true
 ·
  subst c3; rw [if_pos rfl] at H; have H' := Aside0.mk H; clear H
  go_enter Tryz.func139, Tryz.ntmps139
  go_wp2_with ((with_reducible refine gw_ rfl ?_); first | (refine rl_ (Kd.int .i64) 3 7 ?_; intro v121 w4 ho5 hb hg_ hnew_; clear hg_ hnew_; (first | rw [← Ny120.out] at ho5 | (simp only [Int.reduceToNat] at ho5; rw [← Ny120.out] at ho5)); have n_ := ac_ (Kd.R_lower ho5 (below_size s1_)) <| Aside0.mk (below_step s1_ hb); clear HB; obtain ⟨HO122, HB⟩ := n_; clear hb ho5) | (refine gL_ 216 9 Tryz.func216 #[.slice A0 l0.length c0] ?_; (with_reducible refine (spec_l2Sets.calls k _ _ l0 true _ ?side1 ?side2 A2.out).mono ?_); (case side1 => exact s5_); (case side2 => exact HC0.out); rintro e w' ⟨rfl, ⟨nd, rfl⟩⟩; refine ⟨_, rfl, ?_⟩))
  go_loopg [3, 4] k (fun kq v3 v4 w' => ∃ (x3_1 : List Int) (x4_1 : Int), v4 = .int .i64 x4_1 ∧ Aside0 (spec_SortLectic.l0 kq l0 x3_1 x4_1 = some r) ∧ Aside0 (kq ≤ k) ∧ Aside0 (Kd.R (Kd.int .i64) 3 w' w.heap.size (fun _ => True) v3 x3_1) ∧ Aside0 (Below w.heap.size w w'))
  case atStart => exact ⟨(y120), (0), s2_, H', ⟨Nat.le_refl _⟩, ⟨(by (with_reducible repeat (first | apply Kd.R_alloc | apply Kd.R_drewN | apply Kd.R_drew)); exact HO122.out)⟩, ⟨s1_⟩⟩
  case round =>
   clear H'
   try clear c1
   try clear c2
   try clear p2
   try clear c3
   obtain ⟨x3_1, x4_1, rfl, HA, HK1, HO_3, HB⟩ := hrel
   cases gk with
   | zero => exact absurd HA.out (by simp [spec_SortLectic.l0])
   | succ k1 =>
    have H := HA.out; clear HA
    simp only [spec_SortLectic.l0] at H
    by_cases c6 : x4_1 < (l0.length : Int)
    ·
     rw [if_pos c6] at H; have c6b0 : decide (x4_1 < (l0.length : Int)) = true := decide_eq_true c6; clear c6
     by_cases c7 : 0 ≤ x4_1
     ·
      rw [if_pos c7] at H; have c7b0 : decide (0 ≤ x4_1) = true := decide_eq_true c7; clear c7; obtain ⟨t125, A8, H⟩ := bnd8_ H
      by_cases c9 : t125 = true
      ·
       subst c9; rw [if_pos rfl] at H; have H' := Aside0.mk H; clear H; have p124 : 0 ≤ (x4_1 : Int) := of_decide_eq_true s3_; have q124 : x4_1 < (l0.length : Int) := of_decide_eq_true s3_; obtain ⟨ad124, e124, hx124_0⟩ := Kd.at_int HR0.out x4_1 p124 q124
       cases e124
       replace hx124_0 := (HB.out.cell (World.block_lt_of_cell? w _ hx124_0)).trans hx124_0; replace p124 := eq_true p124; replace q124 := eq_true q124; obtain ⟨Ao10, co10, eo10⟩ := Kd.R_slice HO_3.out; subst eo10
       go_wp2_with ((with_reducible refine gw_ rfl ?_); (refine gL_ 133 23 Tryz.func133 #[.slice Ao10 x3_1.length co10, .int .i64 (rd l0 x4_1)] ?_; (with_reducible refine (spec_l2In.calls k1 _ _ x3_1 (rd l0 x4_1) true _ ?side1 ?side2 A8.out).mono ?_); (case side1 => exact s16_); (case side2 => exact (Kd.R_reads' HO_3.out).2.1); rintro e w' ⟨rfl, ⟨nd, rfl⟩⟩; refine ⟨_, rfl, ?_⟩))
       go_roundg k1
       case measure => have := HK1.out; omega
       case rel => exact ⟨(x3_1), (wrap64 (x4_1 + 1)), s2_, H', ⟨by have := HK1.out; omega⟩, ⟨s12_⟩, ⟨s1_⟩⟩
      ·
       replace c9 := Bool.eq_false_iff.mpr c9; subst c9
       rw [if_neg (show ¬ (false = true) by decide)] at H
       have H' := Aside0.mk H; clear H; have p124 : 0 ≤ (x4_1 : Int) := of_decide_eq_true s3_; have q124 : x4_1 < (l0.length : Int) := of_decide_eq_true s3_; obtain ⟨ad124, e124, hx124_0⟩ := Kd.at_int HR0.out x4_1 p124 q124
       cases e124
       replace hx124_0 := (HB.out.cell (World.block_lt_of_cell? w _ hx124_0)).trans hx124_0; replace p124 := eq_true p124; replace q124 := eq_true q124; obtain ⟨Ao11, co11, eo11⟩ := Kd.R_slice HO_3.out; subst eo11
       go_wp2_with ((with_reducible refine gw_ rfl ?_); (refine gL_ 133 23 Tryz.func133 #[.slice Ao11 x3_1.length co11, .int .i64 (rd l0 x4_1)] ?_; (with_reducible refine (spec_l2In.calls k1 _ _ x3_1 (rd l0 x4_1) false _ ?side1 ?side2 A8.out).mono ?_); (case side1 => exact s16_); (case side2 => exact (Kd.R_reads' HO_3.out).2.1); rintro e w' ⟨rfl, ⟨nd, rfl⟩⟩; refine ⟨_, rfl, ?_⟩))
       go_loopg [5] k1 (fun kq v5 w' => ∃ (x5_2 : Int), v5 = .int .i64 x5_2 ∧ Aside0 (spec_SortLectic.l1 kq l0 x3_1 x4_1 x5_2 = some r) ∧ Aside0 (kq ≤ k1) ∧ Aside0 (Kd.R (Kd.int .i64) 3 w' w.heap.size (fun _ => True) (.slice Ao11 x3_1.length co11) x3_1) ∧ Aside0 (Below w.heap.size w w'))
       case atStart => exact ⟨(0), s2_, H', ⟨Nat.le_refl _⟩, ⟨s12_⟩, ⟨s1_⟩⟩
       case round =>
        clear H'
        try clear c1
        try clear p1
        try clear q1
        try clear hx1
        try clear c2
        try clear p2
        try clear c3
        try clear c6
        try clear c6b0
        try clear p6
        try clear c7
        try clear c7b0
        try clear c9
        try clear hx124_0
        try clear p124
        try clear p2
        try clear q124
        obtain ⟨x5_2, rfl, HA, HK2, HO_3, HB⟩ := hrel
        cases gk with
        | zero => exact absurd HA.out (by simp [spec_SortLectic.l1])
        | succ k2 =>
         have H := HA.out; clear HA
         simp only [spec_SortLectic.l1] at H
         by_cases c12 : x5_2 < (x3_1.length : Int)
         ·
          rw [if_pos c12] at H; have c12b0 : decide (x5_2 < (x3_1.length : Int)) = true := decide_eq_true c12; clear c12
          by_cases c13 : 0 ≤ x5_2
          ·
           rw [if_pos c13] at H; have c13b0 : decide (0 ≤ x5_2) = true := decide_eq_true c13; clear c13
           by_cases c14 : 0 ≤ x4_1
           ·
            rw [if_pos c14] at H; have c14b0 : decide (0 ≤ x4_1) = true := decide_eq_true c14; clear c14
            by_cases c15 : x4_1 < (l0.length : Int)
            ·
             rw [if_pos c15] at H; have c15b0 : decide (x4_1 < (l0.length : Int)) = true := decide_eq_true c15; clear c15; obtain ⟨t128, A16, H⟩ := bnd8_ H
             by_cases c17 : t128 = true
             ·
              subst c17; rw [if_pos rfl] at H; have H' := Aside0.mk H; clear H
              try go_wp2
              have n0_ := Aside0.mk (Kd.R_drew HO_3.out); have n1_ := Aside0.mk (below_drew1 HB.out); clear HO_3; clear HB; have HO_3 := n0_; have HB := n1_; clear n0_ n1_; have p126 : 0 ≤ (x5_2 : Int) := of_decide_eq_true s3_; have q126 : x5_2 < (x3_1.length : Int) := of_decide_eq_true s3_; obtain ⟨ad126, e126, hx126_0⟩ := Kd.at_int (Kd.R_reads' HO_3.out).2.2 x5_2 p126 q126
              cases e126
              replace p126 := eq_true p126; replace q126 := eq_true q126; have p127 : 0 ≤ (x4_1 : Int) := of_decide_eq_true s3_; have q127 : x4_1 < (l0.length : Int) := of_decide_eq_true s3_; obtain ⟨ad127, e127, hx127_0⟩ := Kd.at_int HR0.out x4_1 p127 q127; have hw127_0 := hx127_0
              obtain rfl : ad124 = ad127 := (by injection e127)
              replace hx127_0 := (HB.out.cell (World.block_lt_of_cell? w _ hx127_0)).trans hx127_0; replace p127 := eq_true p127; replace q127 := eq_true q127
              refine start_ (n := 15) (S := fun w' => w'.cell? (ad126.add (x5_2).toNat) = some (.int .i64 (rd x3_1 x5_2)) ∧ w'.cell? (ad124.add (x4_1).toNat) = some (.int .i64 (rd l0 x4_1))) (ds := []) (tb_ 15 0) s10_ rfl rfl ⟨hx126_0, ((HB.out.cell (World.block_lt_of_cell? w _ hw127_0)).trans hw127_0)⟩ (fun hHeld => ?_); refine with_tabW spec_SortLectic.tab9 spec_SortLectic.bits9 (fun HT_ HW_ => ?_)
              generalize wr.drew = w18 at HO_3 HB hx126_0 hx127_0 hHeld ⊢
              refine pl_ 0 24 (tb_ 15 1) ?_; refine pl_ 1 25 (tb_ 15 3) ?_; refine pl_ 2 26 (tb_ 15 7) ?_; refine pl_ 3 27 (tb_ 15 15) ?_; refine pl_ 4 28 (tb_ 15 31) ?_; refine pl_ 5 29 (tb_ 15 63) ?_; refine pl_ 6 30 (tb_ 15 127) ?_; refine pl_ 7 31 (tb_ 15 255) ?_; refine pl_ 9 33 (tb_ 15 767) ?_; refine pl_ 10 34 (tb_ 15 1791) ?_; refine pl_ 11 35 (tb_ 15 3839) ?_; refine tk_ 8 32 (tb_ 15 4095) hHeld ?_; refine tk_ 12 36 (tb_ 15 8191) hHeld ?_
              refine on_ 13 37 (tb_ 15 16383) (fun K hK => ?_)
              refine goes_ Tryz.func134 s10_ rfl #[.int .i64 (rd x3_1 x5_2), .int .i64 (rd l0 x4_1)] (by rfl) rfl rfl s0_ ?_
              with_reducible refine (spec_BeforeSet.calls (rd x3_1 x5_2) (rd l0 x4_1) true _ A16.out).mono ?_
              rintro e w' ⟨rfl, ⟨nd, rfl⟩⟩
              refine ⟨_, rfl, ?_⟩
              refine hK.out _ _ ⟨hHeld.1, ((HB.out.cell (World.block_lt_of_cell? w _ hw127_0)).trans hw127_0)⟩ (fun hHeld => ?_)
              clear hK K
              refine norm_ (a' := ?_) ?_ ?_
              rotate_left
              ·
               show Act.put _ (some 37) _ = _
               exact s6_
              refine pl_ 14 38 (tb_ 15 32767) ?_
              refine done_ (done_of HT_.out s10_) ?_
              try go_wp2
              go_roundg k2
              case measure => have := HK1.out; have := HK2.out; omega
              case rel => exact ⟨(wrap64 (x5_2 + 1)), s2_, H', ⟨by have := HK1.out; have := HK2.out; omega⟩, ⟨s12_⟩, ⟨s1_⟩⟩
             ·
              replace c17 := Bool.eq_false_iff.mpr c17; subst c17
              rw [if_neg (show ¬ (false = true) by decide)] at H
              obtain ⟨y129, hy_⟩ : ∃ y_ : List Int, y_ = (([] : List Int)) := ⟨_, rfl⟩
              replace H : (if x5_2 ≤ (x3_1.length : Int) then ((some (x3_1.drop (x5_2 : Int).toNat : List Int)).bind fun y132 => (if y129.length + y132.length < 17592186044416 then ((some (y129 ++ y132 : List Int)).bind fun y136 => ((some (x3_1.take (x5_2 : Int).toNat : List Int)).bind fun y139 => (if y139.length < 17592186044416 then ((some (y139 ++ [rd l0 x4_1] : List Int)).bind fun y143 => (if y143.length + y136.length < 17592186044416 then (spec_SortLectic.l0 k2 l0 (y143 ++ y136) (wrap64 (x4_1 + 1))) else (none))) else (none)))) else (none))) else (none)) = some r := rH_
              have Ny129 := Aside0.mk hy_; clear hy_; have c19b0 := eq_true (of_decide_eq_true s3_ : 0 ≤ x5_2)
              by_cases c20 : x5_2 ≤ (x3_1.length : Int)
              ·
               rw [if_pos c20] at H; have c20b0 := eq_true c20; have c20b1 : decide (x5_2 ≤ (x3_1.length : Int)) = true := decide_eq_true c20; clear c20; obtain ⟨y132, hy_⟩ : ∃ y_ : List Int, y_ = (x3_1.drop (x5_2 : Int).toNat) := ⟨_, rfl⟩
               replace H : (if y129.length + y132.length < 17592186044416 then ((some (y129 ++ y132 : List Int)).bind fun y136 => ((some (x3_1.take (x5_2 : Int).toNat : List Int)).bind fun y139 => (if y139.length < 17592186044416 then ((some (y139 ++ [rd l0 x4_1] : List Int)).bind fun y143 => (if y143.length + y136.length < 17592186044416 then (spec_SortLectic.l0 k2 l0 (y143 ++ y136) (wrap64 (x4_1 + 1))) else (none))) else (none)))) else (none)) = some r := rH_
               have Ny132 := Aside0.mk hy_; clear hy_
               by_cases c21 : y129.length + y132.length < 17592186044416
               ·
                rw [if_pos c21] at H; have LMc21 := Aside0.mk c21; clear c21; obtain ⟨y136, hy_⟩ : ∃ y_ : List Int, y_ = (y129 ++ y132) := ⟨_, rfl⟩
                replace H : ((some (x3_1.take (x5_2 : Int).toNat : List Int)).bind fun y139 => (if y139.length < 17592186044416 then ((some (y139 ++ [rd l0 x4_1] : List Int)).bind fun y143 => (if y143.length + y136.length < 17592186044416 then (spec_SortLectic.l0 k2 l0 (y143 ++ y136) (wrap64 (x4_1 + 1))) else (none))) else (none))) = some r := rH_
                have Ny136 := Aside0.mk hy_; clear hy_; have c22b0 := eq_true (of_decide_eq_true s3_ : x5_2 ≤ (x3_1.length : Int)); obtain ⟨y139, hy_⟩ : ∃ y_ : List Int, y_ = (x3_1.take (x5_2 : Int).toNat) := ⟨_, rfl⟩
                replace H : (if y139.length < 17592186044416 then ((some (y139 ++ [rd l0 x4_1] : List Int)).bind fun y143 => (if y143.length + y136.length < 17592186044416 then (spec_SortLectic.l0 k2 l0 (y143 ++ y136) (wrap64 (x4_1 + 1))) else (none))) else (none)) = some r := rH_
                have Ny139 := Aside0.mk hy_; clear hy_
                by_cases c23 : y139.length < 17592186044416
                ·
                 rw [if_pos c23] at H; have LMc23 := Aside0.mk c23; clear c23; obtain ⟨y143, hy_⟩ : ∃ y_ : List Int, y_ = (y139 ++ [rd l0 x4_1]) := ⟨_, rfl⟩
                 replace H : (if y143.length + y136.length < 17592186044416 then (spec_SortLectic.l0 k2 l0 (y143 ++ y136) (wrap64 (x4_1 + 1))) else (none)) = some r := rH_
                 have Ny143 := Aside0.mk hy_; clear hy_
                 by_cases c24 : y143.length + y136.length < 17592186044416
                 ·
                  rw [if_pos c24] at H; have LMc24 := Aside0.mk c24; clear c24; obtain ⟨y146, hy_⟩ : ∃ y_ : List Int, y_ = (y143 ++ y136) := ⟨_, rfl⟩
                  replace H : (spec_SortLectic.l0 k2 l0 y146 (wrap64 (x4_1 + 1))) = some r := rH_
                  have Ny146 := Aside0.mk hy_; clear hy_; have H' := Aside0.mk H; clear H
                  try go_wp2
                  have n0_ := Aside0.mk (Kd.R_drew HO_3.out); have n1_ := Aside0.mk (below_drew1 HB.out); clear HO_3; clear HB; have HO_3 := n0_; have HB := n1_; clear n0_ n1_; have p126 : 0 ≤ (x5_2 : Int) := of_decide_eq_true s3_; have q126 : x5_2 < (x3_1.length : Int) := of_decide_eq_true s3_; obtain ⟨ad126, e126, hx126_0⟩ := Kd.at_int (Kd.R_reads' HO_3.out).2.2 x5_2 p126 q126
                  cases e126
                  replace p126 := eq_true p126; replace q126 := eq_true q126; have p127 : 0 ≤ (x4_1 : Int) := of_decide_eq_true s3_; have q127 : x4_1 < (l0.length : Int) := of_decide_eq_true s3_; obtain ⟨ad127, e127, hx127_0⟩ := Kd.at_int HR0.out x4_1 p127 q127; have hw127_0 := hx127_0
                  obtain rfl : ad124 = ad127 := (by injection e127)
                  replace hx127_0 := (HB.out.cell (World.block_lt_of_cell? w _ hx127_0)).trans hx127_0; replace p127 := eq_true p127; replace q127 := eq_true q127
                  refine start_ (n := 15) (S := fun w' => w'.cell? (ad126.add (x5_2).toNat) = some (.int .i64 (rd x3_1 x5_2)) ∧ w'.cell? (ad124.add (x4_1).toNat) = some (.int .i64 (rd l0 x4_1))) (ds := []) (tb_ 15 0) s10_ rfl rfl ⟨hx126_0, ((HB.out.cell (World.block_lt_of_cell? w _ hw127_0)).trans hw127_0)⟩ (fun hHeld => ?_); refine with_tabW spec_SortLectic.tab9 spec_SortLectic.bits9 (fun HT_ HW_ => ?_)
                  generalize wr.drew = w25 at HO_3 HB hx126_0 hx127_0 hHeld ⊢
                  refine pl_ 0 24 (tb_ 15 1) ?_; refine pl_ 1 25 (tb_ 15 3) ?_; refine pl_ 2 26 (tb_ 15 7) ?_; refine pl_ 3 27 (tb_ 15 15) ?_; refine pl_ 4 28 (tb_ 15 31) ?_; refine pl_ 5 29 (tb_ 15 63) ?_; refine pl_ 6 30 (tb_ 15 127) ?_; refine pl_ 7 31 (tb_ 15 255) ?_; refine pl_ 9 33 (tb_ 15 767) ?_; refine pl_ 10 34 (tb_ 15 1791) ?_; refine pl_ 11 35 (tb_ 15 3839) ?_; refine tk_ 8 32 (tb_ 15 4095) hHeld ?_; refine tk_ 12 36 (tb_ 15 8191) hHeld ?_
                  refine on_ 13 37 (tb_ 15 16383) (fun K hK => ?_)
                  refine goes_ Tryz.func134 s10_ rfl #[.int .i64 (rd x3_1 x5_2), .int .i64 (rd l0 x4_1)] (by rfl) rfl rfl s0_ ?_
                  with_reducible refine (spec_BeforeSet.calls (rd x3_1 x5_2) (rd l0 x4_1) false _ A16.out).mono ?_
                  rintro e w' ⟨rfl, ⟨nd, rfl⟩⟩
                  refine ⟨_, rfl, ?_⟩
                  refine hK.out _ _ ⟨hHeld.1, ((HB.out.cell (World.block_lt_of_cell? w _ hw127_0)).trans hw127_0)⟩ (fun hHeld => ?_)
                  clear hK K
                  refine norm_ (a' := ?_) ?_ ?_
                  rotate_left
                  ·
                   show Act.put _ (some 37) _ = _
                   exact s6_
                  refine pl_ 14 38 (tb_ 15 32767) ?_
                  refine done_ (done_of HT_.out s10_) ?_
                  try go_wp2_with (first | ((with_reducible refine gw_ rfl ?_); (refine rl_ (Kd.int .i64) 3 41 ?_; intro v130 w26 ho27 hb hg_ hnew_; clear hg_ hnew_; (first | rw [← Ny129.out] at ho27 | (simp only [Int.reduceToNat] at ho27; rw [← Ny129.out] at ho27)); have n_ := ac_ (Kd.R_elder' s12_ (Kd.R_base ho27) hb) <| ac_ (Kd.R_lower (Kd.R_new' ho27 (Kd.R_lt s12_)) (below_size s1_)) <| Aside0.mk (below_step s1_ hb); clear HO_3 HB; obtain ⟨HO_3, HO131, HB⟩ := n_; clear hb ho27; have q28 : (x5_2 : Int) ≤ ((x3_1.length : Int) : Int) := of_decide_eq_true s3_; obtain ⟨i028, hi028, _, hsz28, _⟩ := info_parts info3; have hroom28 : x3_1.length ≤ co11 := (Kd.R_reads' HO_3.out).2.1; have hC28 : Kd.C (Kd.int .i64) _ (some ad126) x3_1.length x3_1 := (Kd.R_reads' HO_3.out).2.2; have q028 : (0 : Int) ≤ (x5_2 : Int) := of_decide_eq_true s3_; have hcut28 := cut_from (P := Tryz.prog) 27 3 .i64 Tryz.underlying27 hi028 1 hsz28 (some ad126) x3_1.length co11 x5_2 q028 q28; have hr28 := Kd.C_drop (m := (x5_2 : Int).toNat) (c := co11) hC28 (by omega) hroom28; obtain ⟨A28, hA28⟩ : ∃ A1, A1 = (if co11 = (x5_2 : Int).toNat then (some ad126) else ((some ad126) : Option Addr).map (·.add ((x5_2 : Int).toNat * 1))) := ⟨_, rfl⟩; obtain ⟨c28, hc28⟩ : ∃ c1, c1 = co11 - (x5_2 : Int).toNat := ⟨_, rfl⟩; have hy28 : y132.length = x3_1.length - (x5_2 : Int).toNat := (by rw [Ny132.out, List.length_drop] <;> omega); rw [show (x3_1).drop (x5_2 : Int).toNat = y132 from Ny132.out.symm] at hr28; replace hr28 : Kd.C (Kd.int .i64) _ A28 y132.length y132 := (by rw [hA28]; exact hr28); rw [← hy28, ← hA28, ← hc28] at hcut28; have HR135 := Aside0.mk hr28; have HC135 := Aside0.mk (show y132.length ≤ c28 from by rw [hy28, hc28]; exact Nat.sub_le_sub_right hroom28 _); clear hr28 hC28 hroom28 hi028 hsz28 hc28; have KY28 := Aside0.mk hy28; have KA28 := Aside0.mk hA28; clear hy28 hA28; have KL28 := Aside0.mk (show (x5_2 : Int).toNat ≤ x3_1.length from by omega); replace q28 := eq_true q28)) | ((with_reducible refine gate_builtin (b := .append) (xs := #[.tmp 41, .tmp 44]) rfl ?_); at_builtin; refine Kd.R_append_rows (Kd.int .i64) (w0 := w) w.heap.size rfl (.tmp 41) (.tmp 44) 27 3 (.int .i64 0) 8 rfl Tryz.underlying27 info3 rfl (by decide) (by omega) v130 y129 y132 _ _ _ (fun k_ => some k_ ≠ (.slice (some ad126) x3_1.length co11 : Value).ownBlock) (fun _ => False) rfl rfl ?aO ?aR (fun _ _ h => h) (fun _ h => h.elim) ?aF ?aB ?aS ?aL ?_; (case aR => repeat (first | exact (by repeat (first | (with_reducible exact HR135.out) | (with_reducible refine Kd.C_alloc ?_ _) | (with_reducible refine Kd.C_drewN ?_ _) | (with_reducible refine Kd.C_drew ?_) | exact HR135.out)) | (with_reducible refine Kd.C_alloc ?_ _) | (with_reducible refine Kd.C_drewN ?_ _) | (with_reducible refine Kd.C_drew ?_))); (case aB => exact s1_); (case aF => exact (fun k_ hk => Kd.fresh' (Kd.R_lt s12_) k_ hk)); (case aO => exact (by (with_reducible repeat (first | apply Kd.R_alloc | apply Kd.R_drewN | apply Kd.R_drew)); exact Kd.R_mono HO131.out (fun _ hk => hk.2))); (case aS => exact (below_size s1_)); (case aL => have := LMc21.out; omega); intro v137 w29 ho hb hg hat; rw [← Ny136.out] at ho; have n_ := ac_ (Kd.R_after (ok := (fun _ => True)) s12_ hg hat) <| ac_ (hb) <| ac_ ((show Kd.C (Kd.int .i64) w29 A28 y132.length y132 from by rw [Ny132.out, KA28.out]; exact Kd.C_drop (m := (x5_2 : Int).toNat) (c := co11) ((Kd.R_reads' (Kd.R_after (ok := (fun _ => True)) s12_ hg hat)).2.2) KL28.out ((Kd.R_reads' (Kd.R_after (ok := (fun _ => True)) s12_ hg hat)).2.1))) <| Aside0.mk (ho); clear HO_3 HB HR135 HO131; obtain ⟨HO_3, HB, HR135, HO138⟩ := n_; clear ho hb hg hat))
                  have n0_ := Aside0.mk (Kd.R_drew HO_3.out); have n1_ := Aside0.mk (Kd.R_drew HO138.out); have n2_ := Aside0.mk (Kd.C_drew HR135.out); have n3_ := Aside0.mk (below_drew1 HB.out); clear HO_3; clear HO138; clear HR135; clear HB; have HO_3 := n0_; have HO138 := n1_; have HR135 := n2_; have HB := n3_; clear n0_ n1_ n2_ n3_; have q31 : (x5_2 : Int) ≤ ((x3_1.length : Int) : Int) := of_decide_eq_true s3_; obtain ⟨i031, hi031, _, hsz31, _⟩ := info_parts info3; have hcut31 := cut_to (P := Tryz.prog) 27 3 .i64 Tryz.underlying27 hi031 (some ad126) x3_1.length co11 x5_2 (of_decide_eq_true s3_) q31 (Kd.R_reads' HO_3.out).2.1
                  have hr31 := Kd.R_take (m := (x5_2 : Int).toNat) HO_3.out (by omega)
                  have hy31 : y139.length = (x5_2 : Int).toNat := (by rw [Ny139.out, List.length_take]; omega)
                  rw [← Ny139.out] at hr31; rw [← hy31] at hr31 hcut31; clear hy31 hi031 hsz31 HO_3; have HO141 := Aside0.mk hr31; clear hr31; replace q31 := eq_true q31; have p142 : 0 ≤ (x4_1 : Int) := of_decide_eq_true s3_; have q142 : x4_1 < (l0.length : Int) := of_decide_eq_true s3_; obtain ⟨ad142, e142, hx142_0⟩ := Kd.at_int HR0.out x4_1 p142 q142; have hw142_0 := hx142_0
                  obtain rfl : ad124 = ad142 := (by injection e142)
                  replace hx142_0 := (HB.out.cell (World.block_lt_of_cell? w _ hx142_0)).trans hx142_0; replace p142 := eq_true p142; replace q142 := eq_true q142
                  refine start_ (n := 12) (S := fun w' => w'.cell? (ad124.add (x4_1).toNat) = some (.int .i64 (rd l0 x4_1))) (ds := []) (tb_ 12 0) s10_ rfl rfl (((HB.out.cell (World.block_lt_of_cell? w _ hw142_0)).trans hw142_0)) (fun hHeld => ?_); refine with_tabW spec_SortLectic.tab12 spec_SortLectic.bits12 (fun HT_ HW_ => ?_)
                  generalize w29.drew = w30 at HO_3 HO138 HR135 HB HO141 hx142_0 hHeld ⊢
                  refine pl_ 0 46 (tb_ 12 1) ?_; refine pl_ 1 47 (tb_ 12 3) ?_; refine pl_ 2 48 (tb_ 12 7) ?_; refine pl_ 3 49 (tb_ 12 15) ?_; refine pl_ 4 50 (tb_ 12 31) ?_; refine pl_ 5 51 (tb_ 12 63) ?_; refine pl_ 9 55 (tb_ 12 575) ?_; refine tk_ 6 52 (tb_ 12 639) hHeld ?_
                  refine on_ 7 53 (tb_ 12 767) (fun K hK => ?_)
                  refine value_ (w1 := ?_) (v := ?_) (by rfl) rfl ?_ ?_
                  rotate_left 2
                  ·
                   go_simp
                   constructor
                   ·
                    rfl
                   ·
                    rfl
                  refine hK.out _ _ ((World.cell?_alloc_lt _ _ _ (World.block_lt_of_cell? _ _ (((HB.out.cell (World.block_lt_of_cell? w _ hw142_0)).trans hw142_0)))).trans (((HB.out.cell (World.block_lt_of_cell? w _ hw142_0)).trans hw142_0))) (fun hHeld => ?_)
                  clear hK K
                  refine norm_ (a' := ?_) ?_ ?_
                  rotate_left
                  ·
                   show Act.put _ (some 53) _ = _
                   exact s6_
                  refine on_ 8 54 (tb_ 12 1023) (fun K hK => ?_)
                  refine Kd.R_append_step (Kd.int .i64) (w0 := w) w.heap.size (by rfl) (.tmp 48) (.tmp 53) 27 3 (.int .i64 0) 8 rfl Tryz.underlying27 info3 rfl (by decide) (by omega) (.slice (some ad126) y139.length co11) y139 (rd l0 x4_1) [.int .i64 (rd l0 x4_1)] (fun k_ => some k_ ≠ (v137 : Value).ownBlock) (fun _ => False) rfl rfl ?aP (fun _ hk => hk.elim) ?aF ?aO ?aB ?aS ?aL ?_
                  (case aP => exact rfl)
                  (case aB => exact s1_)
                  (case aF => exact (fun k_ hk => Kd.fresh' (Kd.R_lt q8_5) k_ hk))
                  (case aO => exact (by (with_reducible repeat (first | apply Kd.R_alloc | apply Kd.R_drewN | apply Kd.R_drew)); exact Kd.R_mono HO141.out (fun _ hk => hk.2)))
                  (case aS => exact (below_size s1_))
                  (case aL => have := LMc23.out; omega)
                  intro v144 w32 ho hb hg hat
                  rw [← Ny143.out] at ho
                  have n0_ := Aside0.mk (Kd.R_after (ok := (fun _ => True)) (by (with_reducible repeat (first | apply Kd.R_alloc | apply Kd.R_drewN | apply Kd.R_drew)); exact Kd.R_mono HO138.out (fun _ hk => ⟨trivial, by first | exact hk | exact own_any hk⟩)) hg hat)
                  have n1_ := Aside0.mk (hb); have n2_ := Aside0.mk (ho); clear HO138; clear HB; clear HO141; have HO138 := n0_; have HB := n1_; have HO145 := n2_; clear n0_ n1_ n2_; clear ho hb hg hat; obtain ⟨Ao34, co34, eo34⟩ := Kd.R_slice HO138.out
                  (first | subst eo34 | (injection eo34 with f1_ f2_ f3_; have f4_ := f1_.symm; have f5_ := f3_.symm; clear f1_ f2_ f3_; subst f4_; subst f5_))
                  refine hK.out _ _ (((HB.out.cell (World.block_lt_of_cell? w _ hw142_0)).trans hw142_0)) (fun hHeld => ?_)
                  clear hK K
                  refine norm_ (a' := ?_) ?_ ?_
                  rotate_left
                  ·
                   show Act.put _ (some 54) _ = _
                   exact s6_
                  refine on_ 10 56 (tb_ 12 2047) (fun K hK => ?_)
                  refine Kd.R_append_rows_step (Kd.int .i64) (w0 := w) w.heap.size (by rfl) (.tmp 54) (.tmp 55) 27 3 (.int .i64 0) 8 rfl Tryz.underlying27 info3 rfl (by decide) (by omega) v144 y143 y136 _ _ _ (fun k_ => some k_ ≠ (.slice Ao34 y136.length co34 : Value).ownBlock) (fun _ => False) rfl rfl ?aO ?aR (fun _ _ h => h) (fun _ h => h.elim) ?aF ?aB ?aS ?aL ?_
                  (case aR => repeat (first | exact (Kd.R_reads' HO138.out).2.2 | (with_reducible refine Kd.C_alloc ?_ _) | (with_reducible refine Kd.C_drewN ?_ _) | (with_reducible refine Kd.C_drew ?_)))
                  (case aB => exact s1_)
                  (case aF => exact (fun k_ hk => Kd.fresh' (Kd.R_lt q8_5) k_ hk))
                  (case aO => exact (by (with_reducible repeat (first | apply Kd.R_alloc | apply Kd.R_drewN | apply Kd.R_drew)); exact HO145.out))
                  (case aS => exact (below_size s1_))
                  (case aL => have := LMc24.out; omega)
                  intro v147 w33 ho hb hg hat
                  rw [← Ny146.out] at ho
                  have n0_ := Aside0.mk (Kd.R_after (ok := (fun _ => True)) q8_5 hg hat)
                  have n1_ := Aside0.mk (hb); have n2_ := Aside0.mk (ho); clear HO138; clear HB; clear HO145; have HO138 := n0_; have HB := n1_; have HO148 := n2_; clear n0_ n1_ n2_; clear ho hb hg hat
                  refine hK.out _ _ (((HB.out.cell (World.block_lt_of_cell? w _ hw142_0)).trans hw142_0)) (fun hHeld => ?_)
                  clear hK K
                  refine norm_ (a' := ?_) ?_ ?_
                  rotate_left
                  ·
                   show Act.put _ (some 56) _ = _
                   exact s6_
                  refine pl_ 11 3 (tb_ 12 4095) ?_
                  refine done_ (done_of HT_.out s10_) ?_
                  try go_wp2
                  go_roundg k2
                  case measure => have := HK1.out; have := HK2.out; omega
                  case rel => exact ⟨(y146), (wrap64 (x4_1 + 1)), s2_, H', ⟨by have := HK1.out; have := HK2.out; omega⟩, ⟨(by (with_reducible repeat (first | apply Kd.R_alloc | apply Kd.R_drewN | apply Kd.R_drew)); exact Kd.R_mono HO148.out (fun _ hk => trivial))⟩, ⟨s1_⟩⟩
                 ·
                  rw [if_neg c24] at H
                  exact absurd H (by simp)
                ·
                 rw [if_neg c23] at H
                 exact absurd H (by simp)
               ·
                rw [if_neg c21] at H
                exact absurd H (by simp)
              ·
               rw [if_neg c20] at H
               exact absurd H (by simp)
            ·
             rw [if_neg c15] at H
             exact absurd H (by simp)
           ·
            rw [if_neg c14] at H
            exact absurd H (by simp)
          ·
           rw [if_neg c13] at H
           exact absurd H (by simp)
         ·
          rw [if_neg c12] at H; have c12b0 : decide (x5_2 < (x3_1.length : Int)) = false := decide_eq_false c12; clear c12; obtain ⟨y149, hy_⟩ : ∃ y_ : List Int, y_ = (([] : List Int)) := ⟨_, rfl⟩
          replace H : (if 0 ≤ x5_2 then (if x5_2 ≤ (x3_1.length : Int) then ((some (x3_1.drop (x5_2 : Int).toNat : List Int)).bind fun y152 => (if y149.length + y152.length < 17592186044416 then ((some (y149 ++ y152 : List Int)).bind fun y156 => ((some (x3_1.take (x5_2 : Int).toNat : List Int)).bind fun y159 => (if 0 ≤ x4_1 then (if x4_1 < (l0.length : Int) then (if y159.length < 17592186044416 then ((some (y159 ++ [rd l0 x4_1] : List Int)).bind fun y163 => (if y163.length + y156.length < 17592186044416 then (spec_SortLectic.l0 k2 l0 (y163 ++ y156) (wrap64 (x4_1 + 1))) else (none))) else (none)) else (none)) else (none)))) else (none))) else (none)) else (none)) = some r := rH_
          have Ny149 := Aside0.mk hy_; clear hy_
          by_cases c35 : 0 ≤ x5_2
          ·
           rw [if_pos c35] at H; have c35b0 := eq_true c35; have c35b1 : decide (0 ≤ x5_2) = true := decide_eq_true c35; clear c35
           by_cases c36 : x5_2 ≤ (x3_1.length : Int)
           ·
            rw [if_pos c36] at H; have c36b0 := eq_true c36; have c36b1 : decide (x5_2 ≤ (x3_1.length : Int)) = true := decide_eq_true c36; clear c36; obtain ⟨y152, hy_⟩ : ∃ y_ : List Int, y_ = (x3_1.drop (x5_2 : Int).toNat) := ⟨_, rfl⟩
            replace H : (if y149.length + y152.length < 17592186044416 then ((some (y149 ++ y152 : List Int)).bind fun y156 => ((some (x3_1.take (x5_2 : Int).toNat : List Int)).bind fun y159 => (if 0 ≤ x4_1 then (if x4_1 < (l0.length : Int) then (if y159.length < 17592186044416 then ((some (y159 ++ [rd l0 x4_1] : List Int)).bind fun y163 => (if y163.length + y156.length < 17592186044416 then (spec_SortLectic.l0 k2 l0 (y163 ++ y156) (wrap64 (x4_1 + 1))) else (none))) else (none)) else (none)) else (none)))) else (none)) = some r := rH_
            have Ny152 := Aside0.mk hy_; clear hy_
            by_cases c37 : y149.length + y152.length < 17592186044416
            ·
             rw [if_pos c37] at H; have LMc37 := Aside0.mk c37; clear c37; obtain ⟨y156, hy_⟩ : ∃ y_ : List Int, y_ = (y149 ++ y152) := ⟨_, rfl⟩
             replace H : ((some (x3_1.take (x5_2 : Int).toNat : List Int)).bind fun y159 => (if 0 ≤ x4_1 then (if x4_1 < (l0.length : Int) then (if y159.length < 17592186044416 then ((some (y159 ++ [rd l0 x4_1] : List Int)).bind fun y163 => (if y163.length + y156.length < 17592186044416 then (spec_SortLectic.l0 k2 l0 (y163 ++ y156) (wrap64 (x4_1 + 1))) else (none))) else (none)) else (none)) else (none))) = some r := rH_
             have Ny156 := Aside0.mk hy_; clear hy_; have c38b0 := eq_true (of_decide_eq_true s3_ : x5_2 ≤ (x3_1.length : Int)); obtain ⟨y159, hy_⟩ : ∃ y_ : List Int, y_ = (x3_1.take (x5_2 : Int).toNat) := ⟨_, rfl⟩
             replace H : (if 0 ≤ x4_1 then (if x4_1 < (l0.length : Int) then (if y159.length < 17592186044416 then ((some (y159 ++ [rd l0 x4_1] : List Int)).bind fun y163 => (if y163.length + y156.length < 17592186044416 then (spec_SortLectic.l0 k2 l0 (y163 ++ y156) (wrap64 (x4_1 + 1))) else (none))) else (none)) else (none)) else (none)) = some r := rH_
             have Ny159 := Aside0.mk hy_; clear hy_
             by_cases c39 : 0 ≤ x4_1
             ·
              rw [if_pos c39] at H; have c39b0 : decide (0 ≤ x4_1) = true := decide_eq_true c39; clear c39
              by_cases c40 : x4_1 < (l0.length : Int)
              ·
               rw [if_pos c40] at H; have c40b0 : decide (x4_1 < (l0.length : Int)) = true := decide_eq_true c40; clear c40
               by_cases c41 : y159.length < 17592186044416
               ·
                rw [if_pos c41] at H; have LMc41 := Aside0.mk c41; clear c41; obtain ⟨y163, hy_⟩ : ∃ y_ : List Int, y_ = (y159 ++ [rd l0 x4_1]) := ⟨_, rfl⟩
                replace H : (if y163.length + y156.length < 17592186044416 then (spec_SortLectic.l0 k2 l0 (y163 ++ y156) (wrap64 (x4_1 + 1))) else (none)) = some r := rH_
                have Ny163 := Aside0.mk hy_; clear hy_
                by_cases c42 : y163.length + y156.length < 17592186044416
                ·
                 rw [if_pos c42] at H; have LMc42 := Aside0.mk c42; clear c42; obtain ⟨y166, hy_⟩ : ∃ y_ : List Int, y_ = (y163 ++ y156) := ⟨_, rfl⟩
                 replace H : (spec_SortLectic.l0 k2 l0 y166 (wrap64 (x4_1 + 1))) = some r := rH_
                 have Ny166 := Aside0.mk hy_; clear hy_; have H' := Aside0.mk H; clear H
                 try go_wp2
                 have n0_ := Aside0.mk (Kd.R_drew HO_3.out); have n1_ := Aside0.mk (below_drew1 HB.out); clear HO_3; clear HB; have HO_3 := n0_; have HB := n1_; clear n0_ n1_
                 refine start_ (n := 15) (S := fun w' => True) (ds := []) (tb_ 15 0) s10_ rfl rfl trivial (fun hHeld => ?_); refine with_tabW spec_SortLectic.tab9 spec_SortLectic.bits9 (fun HT_ HW_ => ?_)
                 generalize wr.drew = w43 at HO_3 HB hHeld ⊢
                 refine pl_ 0 24 (tb_ 15 1) ?_; refine pl_ 1 25 (tb_ 15 3) ?_; refine pl_ 2 26 (tb_ 15 7) ?_; refine pl_ 3 27 (tb_ 15 15) ?_; refine pl_ 4 28 (tb_ 15 31) ?_; refine pr_ 5 29 (tb_ 15 63) ?_; refine pr_ 6 30 (tb_ 15 127) ?_; refine pr_ 7 31 (tb_ 15 255) ?_; refine pr_ 8 32 (tb_ 15 511) ?_; refine pr_ 9 33 (tb_ 15 1023) ?_; refine pr_ 10 34 (tb_ 15 2047) ?_; refine pr_ 11 35 (tb_ 15 4095) ?_; refine pr_ 12 36 (tb_ 15 8191) ?_; refine pr_ 13 37 (tb_ 15 16383) ?_; refine pl_ 14 38 (tb_ 15 32767) ?_
                 refine done_ (done_of HT_.out s10_) ?_
                 try go_wp2_with (first | ((with_reducible refine gw_ rfl ?_); (refine rl_ (Kd.int .i64) 3 41 ?_; intro v150 w44 ho45 hb hg_ hnew_; clear hg_ hnew_; (first | rw [← Ny149.out] at ho45 | (simp only [Int.reduceToNat] at ho45; rw [← Ny149.out] at ho45)); have n_ := ac_ (Kd.R_elder' s12_ (Kd.R_base ho45) hb) <| ac_ (Kd.R_lower (Kd.R_new' ho45 (Kd.R_lt s12_)) (below_size s1_)) <| Aside0.mk (below_step s1_ hb); clear HO_3 HB; obtain ⟨HO_3, HO151, HB⟩ := n_; clear hb ho45; have q46 : (x5_2 : Int) ≤ ((x3_1.length : Int) : Int) := of_decide_eq_true s3_; obtain ⟨i046, hi046, _, hsz46, _⟩ := info_parts info3; have hroom46 : x3_1.length ≤ co11 := (Kd.R_reads' HO_3.out).2.1; have hC46 : Kd.C (Kd.int .i64) _ Ao11 x3_1.length x3_1 := (Kd.R_reads' HO_3.out).2.2; have q046 : (0 : Int) ≤ (x5_2 : Int) := of_decide_eq_true s3_; have hcut46 := cut_from (P := Tryz.prog) 27 3 .i64 Tryz.underlying27 hi046 1 hsz46 Ao11 x3_1.length co11 x5_2 q046 q46; have hr46 := Kd.C_drop (m := (x5_2 : Int).toNat) (c := co11) hC46 (by omega) hroom46; obtain ⟨A46, hA46⟩ : ∃ A1, A1 = (if co11 = (x5_2 : Int).toNat then Ao11 else (Ao11 : Option Addr).map (·.add ((x5_2 : Int).toNat * 1))) := ⟨_, rfl⟩; obtain ⟨c46, hc46⟩ : ∃ c1, c1 = co11 - (x5_2 : Int).toNat := ⟨_, rfl⟩; have hy46 : y152.length = x3_1.length - (x5_2 : Int).toNat := (by rw [Ny152.out, List.length_drop] <;> omega); rw [show (x3_1).drop (x5_2 : Int).toNat = y152 from Ny152.out.symm] at hr46; replace hr46 : Kd.C (Kd.int .i64) _ A46 y152.length y152 := (by rw [hA46]; exact hr46); rw [← hy46, ← hA46, ← hc46] at hcut46; have HR155 := Aside0.mk hr46; have HC155 := Aside0.mk (show y152.length ≤ c46 from by rw [hy46, hc46]; exact Nat.sub_le_sub_right hroom46 _); clear hr46 hC46 hroom46 hi046 hsz46 hc46; have KY46 := Aside0.mk hy46; have KA46 := Aside0.mk hA46; clear hy46 hA46; have KL46 := Aside0.mk (show (x5_2 : Int).toNat ≤ x3_1.length from by omega); replace q46 := eq_true q46)) | ((with_reducible refine gate_builtin (b := .append) (xs := #[.tmp 41, .tmp 44]) rfl ?_); at_builtin; refine Kd.R_append_rows (Kd.int .i64) (w0 := w) w.heap.size rfl (.tmp 41) (.tmp 44) 27 3 (.int .i64 0) 8 rfl Tryz.underlying27 info3 rfl (by decide) (by omega) v150 y149 y152 _ _ _ (fun k_ => some k_ ≠ (.slice Ao11 x3_1.length co11 : Value).ownBlock) (fun _ => False) rfl rfl ?aO ?aR (fun _ _ h => h) (fun _ h => h.elim) ?aF ?aB ?aS ?aL ?_; (case aR => repeat (first | exact (by repeat (first | (with_reducible exact HR155.out) | (with_reducible refine Kd.C_alloc ?_ _) | (with_reducible refine Kd.C_drewN ?_ _) | (with_reducible refine Kd.C_drew ?_) | exact HR155.out)) | (with_reducible refine Kd.C_alloc ?_ _) | (with_reducible refine Kd.C_drewN ?_ _) | (with_reducible refine Kd.C_drew ?_))); (case aB => exact s1_); (case aF => exact (fun k_ hk => Kd.fresh' (Kd.R_lt s12_) k_ hk)); (case aO => exact (by (with_reducible repeat (first | apply Kd.R_alloc | apply Kd.R_drewN | apply Kd.R_drew)); exact Kd.R_mono HO151.out (fun _ hk => hk.2))); (case aS => exact (below_size s1_)); (case aL => have := LMc37.out; omega); intro v157 w47 ho hb hg hat; rw [← Ny156.out] at ho; have n_ := ac_ (Kd.R_after (ok := (fun _ => True)) s12_ hg hat) <| ac_ (hb) <| ac_ ((show Kd.C (Kd.int .i64) w47 A46 y152.length y152 from by rw [Ny152.out, KA46.out]; exact Kd.C_drop (m := (x5_2 : Int).toNat) (c := co11) ((Kd.R_reads' (Kd.R_after (ok := (fun _ => True)) s12_ hg hat)).2.2) KL46.out ((Kd.R_reads' (Kd.R_after (ok := (fun _ => True)) s12_ hg hat)).2.1))) <| Aside0.mk (ho); clear HO_3 HB HR155 HO151; obtain ⟨HO_3, HB, HR155, HO158⟩ := n_; clear ho hb hg hat))
                 have n0_ := Aside0.mk (Kd.R_drew HO_3.out); have n1_ := Aside0.mk (Kd.R_drew HO158.out); have n2_ := Aside0.mk (Kd.C_drew HR155.out); have n3_ := Aside0.mk (below_drew1 HB.out); clear HO_3; clear HO158; clear HR155; clear HB; have HO_3 := n0_; have HO158 := n1_; have HR155 := n2_; have HB := n3_; clear n0_ n1_ n2_ n3_; have q49 : (x5_2 : Int) ≤ ((x3_1.length : Int) : Int) := of_decide_eq_true s3_; obtain ⟨i049, hi049, _, hsz49, _⟩ := info_parts info3; have hcut49 := cut_to (P := Tryz.prog) 27 3 .i64 Tryz.underlying27 hi049 Ao11 x3_1.length co11 x5_2 (of_decide_eq_true s3_) q49 (Kd.R_reads' HO_3.out).2.1
                 have hr49 := Kd.R_take (m := (x5_2 : Int).toNat) HO_3.out (by omega)
                 have hy49 : y159.length = (x5_2 : Int).toNat := (by rw [Ny159.out, List.length_take]; omega)
                 rw [← Ny159.out] at hr49; rw [← hy49] at hr49 hcut49; clear hy49 hi049 hsz49 HO_3; have HO161 := Aside0.mk hr49; clear hr49; replace q49 := eq_true q49; have p162 : 0 ≤ (x4_1 : Int) := of_decide_eq_true s3_; have q162 : x4_1 < (l0.length : Int) := of_decide_eq_true s3_; obtain ⟨ad162, e162, hx162_0⟩ := Kd.at_int HR0.out x4_1 p162 q162; have hw162_0 := hx162_0
                 obtain rfl : ad124 = ad162 := (by injection e162)
                 replace hx162_0 := (HB.out.cell (World.block_lt_of_cell? w _ hx162_0)).trans hx162_0; replace p162 := eq_true p162; replace q162 := eq_true q162
                 refine start_ (n := 12) (S := fun w' => w'.cell? (ad124.add (x4_1).toNat) = some (.int .i64 (rd l0 x4_1))) (ds := []) (tb_ 12 0) s10_ rfl rfl (((HB.out.cell (World.block_lt_of_cell? w _ hw162_0)).trans hw162_0)) (fun hHeld => ?_); refine with_tabW spec_SortLectic.tab12 spec_SortLectic.bits12 (fun HT_ HW_ => ?_)
                 generalize w47.drew = w48 at HO_3 HO158 HR155 HB HO161 hx162_0 hHeld ⊢
                 refine pl_ 0 46 (tb_ 12 1) ?_; refine pl_ 1 47 (tb_ 12 3) ?_; refine pl_ 2 48 (tb_ 12 7) ?_; refine pl_ 3 49 (tb_ 12 15) ?_; refine pl_ 4 50 (tb_ 12 31) ?_; refine pl_ 5 51 (tb_ 12 63) ?_; refine pl_ 9 55 (tb_ 12 575) ?_; refine tk_ 6 52 (tb_ 12 639) hHeld ?_
                 refine on_ 7 53 (tb_ 12 767) (fun K hK => ?_)
                 refine value_ (w1 := ?_) (v := ?_) (by rfl) rfl ?_ ?_
                 rotate_left 2
                 ·
                  go_simp
                  constructor
                  ·
                   rfl
                  ·
                   rfl
                 refine hK.out _ _ ((World.cell?_alloc_lt _ _ _ (World.block_lt_of_cell? _ _ (((HB.out.cell (World.block_lt_of_cell? w _ hw162_0)).trans hw162_0)))).trans (((HB.out.cell (World.block_lt_of_cell? w _ hw162_0)).trans hw162_0))) (fun hHeld => ?_)
                 clear hK K
                 refine norm_ (a' := ?_) ?_ ?_
                 rotate_left
                 ·
                  show Act.put _ (some 53) _ = _
                  exact s6_
                 refine on_ 8 54 (tb_ 12 1023) (fun K hK => ?_)
                 refine Kd.R_append_step (Kd.int .i64) (w0 := w) w.heap.size (by rfl) (.tmp 48) (.tmp 53) 27 3 (.int .i64 0) 8 rfl Tryz.underlying27 info3 rfl (by decide) (by omega) (.slice Ao11 y159.length co11) y159 (rd l0 x4_1) [.int .i64 (rd l0 x4_1)] (fun k_ => some k_ ≠ (v157 : Value).ownBlock) (fun _ => False) rfl rfl ?aP (fun _ hk => hk.elim) ?aF ?aO ?aB ?aS ?aL ?_
                 (case aP => exact rfl)
                 (case aB => exact s1_)
                 (case aF => exact (fun k_ hk => Kd.fresh' (Kd.R_lt q8_6) k_ hk))
                 (case aO => exact (by (with_reducible repeat (first | apply Kd.R_alloc | apply Kd.R_drewN | apply Kd.R_drew)); exact Kd.R_mono HO161.out (fun _ hk => hk.2)))
                 (case aS => exact (below_size s1_))
                 (case aL => have := LMc41.out; omega)
                 intro v164 w50 ho hb hg hat
                 rw [← Ny163.out] at ho
                 have n0_ := Aside0.mk (Kd.R_after (ok := (fun _ => True)) (by (with_reducible repeat (first | apply Kd.R_alloc | apply Kd.R_drewN | apply Kd.R_drew)); exact Kd.R_mono HO158.out (fun _ hk => ⟨trivial, by first | exact hk | exact own_any hk⟩)) hg hat)
                 have n1_ := Aside0.mk (hb); have n2_ := Aside0.mk (ho); clear HO158; clear HB; clear HO161; have HO158 := n0_; have HB := n1_; have HO165 := n2_; clear n0_ n1_ n2_; clear ho hb hg hat; obtain ⟨Ao52, co52, eo52⟩ := Kd.R_slice HO158.out
                 (first | subst eo52 | (injection eo52 with f1_ f2_ f3_; have f4_ := f1_.symm; have f5_ := f3_.symm; clear f1_ f2_ f3_; subst f4_; subst f5_))
                 refine hK.out _ _ (((HB.out.cell (World.block_lt_of_cell? w _ hw162_0)).trans hw162_0)) (fun hHeld => ?_)
                 clear hK K
                 refine norm_ (a' := ?_) ?_ ?_
                 rotate_left
                 ·
                  show Act.put _ (some 54) _ = _
                  exact s6_
                 refine on_ 10 56 (tb_ 12 2047) (fun K hK => ?_)
                 refine Kd.R_append_rows_step (Kd.int .i64) (w0 := w) w.heap.size (by rfl) (.tmp 54) (.tmp 55) 27 3 (.int .i64 0) 8 rfl Tryz.underlying27 info3 rfl (by decide) (by omega) v164 y163 y156 _ _ _ (fun k_ => some k_ ≠ (.slice Ao52 y156.length co52 : Value).ownBlock) (fun _ => False) rfl rfl ?aO ?aR (fun _ _ h => h) (fun _ h => h.elim) ?aF ?aB ?aS ?aL ?_
                 (case aR => repeat (first | exact (Kd.R_reads' HO158.out).2.2 | (with_reducible refine Kd.C_alloc ?_ _) | (with_reducible refine Kd.C_drewN ?_ _) | (with_reducible refine Kd.C_drew ?_)))
                 (case aB => exact s1_)
                 (case aF => exact (fun k_ hk => Kd.fresh' (Kd.R_lt q8_6) k_ hk))
                 (case aO => exact (by (with_reducible repeat (first | apply Kd.R_alloc | apply Kd.R_drewN | apply Kd.R_drew)); exact HO165.out))
                 (case aS => exact (below_size s1_))
                 (case aL => have := LMc42.out; omega)
                 intro v167 w51 ho hb hg hat
                 rw [← Ny166.out] at ho
                 have n0_ := Aside0.mk (Kd.R_after (ok := (fun _ => True)) q8_6 hg hat)
                 have n1_ := Aside0.mk (hb); have n2_ := Aside0.mk (ho); clear HO158; clear HB; clear HO165; have HO158 := n0_; have HB := n1_; have HO168 := n2_; clear n0_ n1_ n2_; clear ho hb hg hat
                 refine hK.out _ _ (((HB.out.cell (World.block_lt_of_cell? w _ hw162_0)).trans hw162_0)) (fun hHeld => ?_)
                 clear hK K
                 refine norm_ (a' := ?_) ?_ ?_
                 rotate_left
                 ·
                  show Act.put _ (some 56) _ = _
                  exact s6_
                 refine pl_ 11 3 (tb_ 12 4095) ?_
                 refine done_ (done_of HT_.out s10_) ?_
                 try go_wp2
                 go_roundg k2
                 case measure => have := HK1.out; have := HK2.out; omega
                 case rel => exact ⟨(y166), (wrap64 (x4_1 + 1)), s2_, H', ⟨by have := HK1.out; have := HK2.out; omega⟩, ⟨(by (with_reducible repeat (first | apply Kd.R_alloc | apply Kd.R_drewN | apply Kd.R_drew)); exact Kd.R_mono HO168.out (fun _ hk => trivial))⟩, ⟨s1_⟩⟩
                ·
                 rw [if_neg c42] at H
                 exact absurd H (by simp)
               ·
                rw [if_neg c41] at H
                exact absurd H (by simp)
              ·
               rw [if_neg c40] at H
               exact absurd H (by simp)
             ·
              rw [if_neg c39] at H
              exact absurd H (by simp)
            ·
             rw [if_neg c37] at H
             exact absurd H (by simp)
           ·
            rw [if_neg c36] at H
            exact absurd H (by simp)
          ·
           rw [if_neg c35] at H
           exact absurd H (by simp)
     ·
      rw [if_neg c7] at H
      exact absurd H (by simp)
    ·
     rw [if_neg c6] at H; have c6b0 : decide (x4_1 < (l0.length : Int)) = false := decide_eq_false c6; clear c6; obtain rfl := Option.some.inj H
     go_wp2
     go_ret
     exact ⟨_, (by first | rfl | (simp [errW_none, errW_some] <;> rfl) | (simp [*, errW_none, errW_some] <;> rfl)), s12_, s1_⟩
 ·
  replace c3 := Bool.eq_false_iff.mpr c3; subst c3
  rw [if_neg (show ¬ (false = true) by decide)] at H
  obtain rfl := Option.some.inj H
  go_enter Tryz.func139, Tryz.ntmps139
  go_wp2_with ((with_reducible refine gw_ rfl ?_); first | (refine rl_ (Kd.int .i64) 3 7 ?_; intro v121 w53 ho54 hb hg_ hnew_; clear hg_ hnew_; (first | rw [← Ny120.out] at ho54 | (simp only [Int.reduceToNat] at ho54; rw [← Ny120.out] at ho54)); have n_ := ac_ (Kd.R_lower ho54 (below_size s1_)) <| Aside0.mk (below_step s1_ hb); clear HB; obtain ⟨HO122, HB⟩ := n_; clear hb ho54) | (refine gL_ 216 9 Tryz.func216 #[.slice A0 l0.length c0] ?_; (with_reducible refine (spec_l2Sets.calls k _ _ l0 false _ ?side1 ?side2 A2.out).mono ?_); (case side1 => exact s5_); (case side2 => exact HC0.out); rintro e w' ⟨rfl, ⟨nd, rfl⟩⟩; refine ⟨_, rfl, ?_⟩))
  go_ret
  exact ⟨_, (by first | rfl | (simp [errW_none, errW_some] <;> rfl) | (simp [*, errW_none, errW_some] <;> rfl)), (by (with_reducible repeat (first | apply Kd.R_alloc | apply Kd.R_drewN | apply Kd.R_drew)); exact HO122.out), s1_⟩
theorem bnd14_ {α β : Type} {o : Option α} {f : α → Option β} {r : β} (h : o.bind f = some r) : ∃ a, Aside0 (o = some a) ∧ f a = some r := by
 obtain ⟨a, h1, h2⟩ := Option.bind_eq_some_iff.mp h
 exact ⟨a, ⟨h1⟩, h2⟩
theorem q14_1 {P : Prop} (h : P := by repeat (first | exact (Kd.C_below HR1.out (by repeat (first | (with_reducible first | exact HB.out | apply below_alloc | apply pw_below_drewN | apply below_drew1) | exact HB.out))) | (with_reducible refine Kd.C_alloc ?_ _) | (with_reducible refine Kd.C_drewN ?_ _) | (with_reducible refine Kd.C_drew ?_))) : P := h
theorem q14_5 {P : Prop} (h : P := by (with_reducible repeat (first | apply Kd.R_alloc | apply Kd.R_drewN | apply Kd.R_drew)); exact HO171.out) : P := h
theorem q14_7 {P : Prop} (h : P := by (with_reducible repeat (first | apply Kd.R_alloc | apply Kd.R_drewN | apply Kd.R_drew)); exact HO_7.out) : P := h
mutual
def spec_ShortRules.l0 : Nat → Int → List (S48) → List (S48) → List Int → Int → Option ((List (S48)) × Bool)
 | 0, _, _, _, _, _ => none
 | k + 1, x0, x1, x6, x7, x8 => (spec_FullSet.f x0).bind fun t176 => (if x8 ≤ t176 then ((spec_l9Closed.f k x1 x8).bind fun t177 => (if t177 = x8 then (spec_ShortRules.l0 k x0 x1 x6 x7 (wrap64 (x8 + 1))) else (spec_ShortRules.l1 k x0 x1 x6 x7 x8 true 0))) else ((spec_SortLectic.f k x7).bind fun t185 => (spec_ShortRules.l2 k x1 x6 t185 0)))
def spec_ShortRules.l1 : Nat → Int → List (S48) → List (S48) → List Int → Int → Bool → Int → Option ((List (S48)) × Bool)
 | 0, _, _, _, _, _, _, _ => none
 | k + 1, x0, x1, x6, x7, x8, x9, x10 => if x10 < (x7.length : Int) then (if 0 ≤ x10 then ((spec_l9Closed.f k x1 (rd x7 x10)).bind fun t179 => (if x9 = true then (if (Go.bits .and .i64 (rd x7 x10) x8) = (rd x7 x10) then (spec_ShortRules.l1 k x0 x1 x6 x7 x8 ((Go.bits .and .i64 t179 x8) == t179) (wrap64 (x10 + 1))) else (spec_ShortRules.l1 k x0 x1 x6 x7 x8 true (wrap64 (x10 + 1)))) else (spec_ShortRules.l1 k x0 x1 x6 x7 x8 false (wrap64 (x10 + 1))))) else (none)) else (if x9 = true then (if x7.length < 17592186044416 then (spec_ShortRules.l0 k x0 x1 x6 (x7 ++ [x8]) (wrap64 (x8 + 1))) else (none)) else (spec_ShortRules.l0 k x0 x1 x6 x7 (wrap64 (x8 + 1))))
def spec_ShortRules.l2 : Nat → List (S48) → List (S48) → List Int → Int → Option ((List (S48)) × Bool)
 | 0, _, _, _, _ => none
 | k + 1, x1, x6, x7, x12 => if x12 < (x7.length : Int) then (if 0 ≤ x12 then ((spec_l9Closed.f k x1 (rd x7 x12)).bind fun t190 => (if x6.length < 8796093022208 then (spec_ShortRules.l2 k x1 (x6 ++ [(⟨rd x7 x12, t190⟩ : S48)]) x7 (wrap64 (x12 + 1))) else (none))) else (none)) else (some (x6, true))
end
def spec_ShortRules.f (k : Nat) (a0 : Int) (l1 : List (S48)) : Option ((List (S48)) × Bool) := (some (([] : List (S48)) : List (S48))).bind fun y169 => ((spec_AreRules.f k a0 l1).bind fun t172 => (if t172 = true then (spec_ShortRules.l0 k a0 l1 y169 (([] : List Int)) 0) else (some (y169, false))))
def spec_ShortRules.T14 : Bool × List (List Nat × List Nat) := (true, [([], []), ([0], [0]), ([1], [1]), ([1], [1]), ([2, 3, 1], [1, 2, 3]), ([4, 1], [1, 4]), ([1], [1]), ([5, 6, 1], [1, 5, 6]), ([1], [1]), ([1], [1]), ([8, 9, 1], [1, 8, 9]), ([10, 1], [1, 10]), ([7, 11, 1], [1, 7, 11]), ([12, 1, 1], [1, 12]), ([13], [13]), ([13], [13]), ([14, 15, 13], [13, 14, 15]), ([13], [13]), ([16, 17, 13], [13, 16, 17]), ([13, 18, 1], [1, 13, 18]), ([1, 19], [1, 19]), ([20, 13, 0, 1, 2, 3, 4, 5, 6, 7, 8, 9, 10, 11, 12, 13, 14, 15, 16, 17, 18, 19, 20], [0, 20])])
def spec_ShortRules.B14 : List Nat := [0, 1, 3, 3, 15, 31, 3, 127, 3, 3, 771, 1795, 4095, 8191, 16383, 16383, 65535, 16383, 262143, 524287, 1048575, 2097151]
theorem spec_ShortRules.tab14 : rtab .any (opsOf Tryz.f26 14) = spec_ShortRules.T14 := s10_
theorem spec_ShortRules.bits14 : waitsOk spec_ShortRules.T14.2 spec_ShortRules.B14 = true := s10_
def spec_ShortRules.T21 : Bool × List (List Nat × List Nat) := (true, [([], []), ([], []), ([], []), ([1, 2], [1, 2]), ([3], [3]), ([], []), ([], []), ([], []), ([6, 7], [6, 7]), ([8], [8]), ([5, 9], [5, 9]), ([4, 10], [4, 10]), ([11], [11]), ([0, 12, 10], [0, 12]), ([13, 13, 0, 1, 2, 3, 4, 5, 6, 7, 8, 9, 10, 11, 12, 13], [0, 13])])
def spec_ShortRules.B21 : List Nat := [0, 0, 0, 6, 14, 0, 0, 0, 192, 448, 992, 2046, 4094, 8191, 16383]
theorem spec_ShortRules.tab21 : rtab .any (opsOf Tryz.f26 21) = spec_ShortRules.T21 := s10_
theorem spec_ShortRules.bits21 : waitsOk spec_ShortRules.T21.2 spec_ShortRules.B21 = true := s10_
set_option maxHeartbeats 40000000 in
set_option maxRecDepth 100000 in
theorem spec_ShortRules.calls (k : Nat) (a0 : Int) (A1 : Option Addr) (c1 : Nat) (l1 : List (S48)) (r1 : List (S48)) (r2 : Bool) (w : World) (hr1 : Kd.C k48 w A1 l1.length l1) (hc1 : l1.length ≤ c1) (h : spec_ShortRules.f k a0 l1 = some (r1, r2)) :
  Calls Tryz.prog 26 #[.int .i64 a0, .slice A1 l1.length c1] w fun e w' => ∃ v0_ : Value, e = .returned (.tuple #[v0_, .bool r2]) ∧ Kd.R k48 48 w' w.heap.size (fun _ => True) v0_ r1 ∧ Below w.heap.size w w' := by
 have hu48 := Tryz.underlying48; have HR1 := Aside0.mk hr1; have HC1 := Aside0.mk hc1; clear hr1 hc1; have HB := Aside0.mk (Below.refl w.heap.size w); have H := h; clear h; unfold spec_ShortRules.f at H; obtain ⟨y169, hy_⟩ : ∃ y_ : List (S48), y_ = (([] : List (S48))) := ⟨_, rfl⟩
 replace H : ((spec_AreRules.f k a0 l1).bind fun t172 => (if t172 = true then (spec_ShortRules.l0 k a0 l1 y169 (([] : List Int)) 0) else (some (y169, false)))) = some (r1, r2) := rH_
 have Ny169 := Aside0.mk hy_; clear hy_; obtain ⟨t172, A3, H⟩ := bnd14_ H
 by_cases c4 : t172 = true
 ·
  subst c4; rw [if_pos rfl] at H; obtain ⟨y173, hy_⟩ : ∃ y_ : List Int, y_ = (([] : List Int)) := ⟨_, rfl⟩
  replace H : (spec_ShortRules.l0 k a0 l1 y169 y173 0) = some (r1, r2) := rH_
  have Ny173 := Aside0.mk hy_; clear hy_; have H' := Aside0.mk H; clear H
  go_enter Tryz.func26, Tryz.ntmps26
  go_wp2_with ((with_reducible refine gw_ rfl ?_); first | (refine rl_ k48 48 13 ?_; intro v170 w5 ho6 hb hg_ hnew_; clear hg_ hnew_; (first | rw [← Ny169.out] at ho6 | (simp only [Int.reduceToNat] at ho6; rw [← Ny169.out] at ho6)); have n_ := ac_ (Kd.R_lower ho6 (below_size s1_)) <| Aside0.mk (below_step s1_ hb); clear HB; obtain ⟨HO171, HB⟩ := n_; clear hb ho6) | (refine gL_ 82 16 Tryz.func82 #[.int .i64 a0, .slice A1 l1.length c1] ?_; (with_reducible refine (spec_AreRules.calls k a0 _ _ l1 true _ ?side1 ?side2 A3.out).mono ?_); (case side1 => exact s14_); (case side2 => exact HC1.out); rintro e w7 ⟨rfl, hb⟩; refine ⟨_, rfl, ?_⟩; have n_ := ac_ (Kd.R_below q14_5 hb) <| Aside0.mk (below_step s1_ hb); clear HO171 HB; obtain ⟨HO171, HB⟩ := n_; (try clear hb)) | (refine rl_ (Kd.int .i64) 3 19 ?_; intro v174 w8 ho9 hb hg_ hnew_; clear hg_ hnew_; (first | rw [← Ny173.out] at ho9 | (simp only [Int.reduceToNat] at ho9; rw [← Ny173.out] at ho9)); have n_ := ac_ (Kd.R_below q14_5 hb) <| ac_ (Kd.R_lower ho9 (below_size s1_)) <| Aside0.mk (below_step s1_ hb); clear HO171 HB; obtain ⟨HO171, HO175, HB⟩ := n_; clear hb ho9))
  go_loopg [7, 8] k (fun kq v7 v8 w' => ∃ (x7_1 : List Int) (x8_1 : Int), v8 = .int .i64 x8_1 ∧ Aside0 (spec_ShortRules.l0 kq a0 l1 y169 x7_1 x8_1 = some (r1, r2)) ∧ Aside0 (kq ≤ k) ∧ Aside0 (Kd.R k48 48 w' w.heap.size (fun _ => True) v170 y169) ∧ Aside0 (Kd.R (Kd.int .i64) 3 w' w.heap.size (fun _ => True) v7 x7_1) ∧ Aside0 (Below w.heap.size w w'))
  case atStart => exact ⟨(y173), (0), s2_, H', ⟨Nat.le_refl _⟩, ⟨q14_5⟩, ⟨(by (with_reducible repeat (first | apply Kd.R_alloc | apply Kd.R_drewN | apply Kd.R_drew)); exact HO175.out)⟩, ⟨s1_⟩⟩
  case round =>
   clear H'
   try clear c1
   try clear c2
   try clear p2
   try clear c4
   try clear c8
   obtain ⟨x7_1, x8_1, rfl, HA, HK1, HO_6, HO_7, HB⟩ := hrel
   cases gk with
   | zero => exact absurd HA.out (by simp [spec_ShortRules.l0])
   | succ k1 =>
    have H := HA.out; clear HA
    simp only [spec_ShortRules.l0] at H
    obtain ⟨t176, A10, H⟩ := bnd14_ H
    by_cases c11 : x8_1 ≤ t176
    ·
     rw [if_pos c11] at H; have c11b0 : decide (x8_1 ≤ t176) = true := decide_eq_true c11; clear c11; obtain ⟨t177, A12, H⟩ := bnd14_ H
     by_cases c13 : t177 = x8_1
     ·
      rw [if_pos c13] at H; have c13b0 : (t177 == x8_1) = true := beq_iff_eq.mpr c13; have c13b1 : (t177 != x8_1) = false := bne_eq_false_iff_eq.mpr c13; clear c13; have H' := Aside0.mk H; clear H
      go_wp2_with ((with_reducible refine gw_ rfl ?_); first | (refine gL_ 62 22 Tryz.func62 #[.int .i64 a0] ?_; (with_reducible refine (spec_FullSet.calls a0 t176 _ A10.out).mono ?_); rintro e w' ⟨rfl, ⟨nd, rfl⟩⟩; refine ⟨_, rfl, ?_⟩) | (refine gL_ 138 28 Tryz.func138 #[.slice A1 l1.length c1, .int .i64 x8_1] ?_; (with_reducible refine (spec_l9Closed.calls k1 _ _ l1 x8_1 t177 _ ?side1 ?side2 A12.out).mono ?_); (case side1 => exact q14_1); (case side2 => exact HC1.out); rintro e w' ⟨rfl, ⟨nd, rfl⟩⟩; refine ⟨_, rfl, ?_⟩))
      go_roundg k1
      case measure => have := HK1.out; omega
      case rel => exact ⟨(x7_1), (wrap64 (x8_1 + 1)), s2_, H', ⟨by have := HK1.out; omega⟩, ⟨s15_⟩, ⟨q14_7⟩, ⟨s1_⟩⟩
     ·
      rw [if_neg c13] at H; have c13b0 : (t177 == x8_1) = false := beq_eq_false_iff_ne.mpr c13; have c13b1 : (t177 != x8_1) = true := bne_iff_ne.mpr c13; have H' := Aside0.mk H; clear H
      go_wp2_with ((with_reducible refine gw_ rfl ?_); first | (refine gL_ 62 22 Tryz.func62 #[.int .i64 a0] ?_; (with_reducible refine (spec_FullSet.calls a0 t176 _ A10.out).mono ?_); rintro e w' ⟨rfl, ⟨nd, rfl⟩⟩; refine ⟨_, rfl, ?_⟩) | (refine gL_ 138 28 Tryz.func138 #[.slice A1 l1.length c1, .int .i64 x8_1] ?_; (with_reducible refine (spec_l9Closed.calls k1 _ _ l1 x8_1 t177 _ ?side1 ?side2 A12.out).mono ?_); (case side1 => exact q14_1); (case side2 => exact HC1.out); rintro e w' ⟨rfl, ⟨nd, rfl⟩⟩; refine ⟨_, rfl, ?_⟩))
      go_loopg [9, 10] k1 (fun kq v9 v10 w' => ∃ (x9_2 : Bool) (x10_2 : Int), v9 = .bool x9_2 ∧ v10 = .int .i64 x10_2 ∧ Aside0 (spec_ShortRules.l1 kq a0 l1 y169 x7_1 x8_1 x9_2 x10_2 = some (r1, r2)) ∧ Aside0 (kq ≤ k1) ∧ Aside0 (Kd.R k48 48 w' w.heap.size (fun _ => True) v170 y169) ∧ Aside0 (Kd.R (Kd.int .i64) 3 w' w.heap.size (fun _ => True) u7 x7_1) ∧ Aside0 (Below w.heap.size w w'))
      case atStart => exact ⟨(true), (0), s2_, s2_, H', ⟨Nat.le_refl _⟩, ⟨s15_⟩, ⟨q14_7⟩, ⟨s1_⟩⟩
      case round =>
       clear H'
       try clear c1
       try clear c2
       try clear p2
       try clear c4
       try clear c6
       try clear p6
       try clear c8
       try clear c11
       try clear c11b0
       try clear c13
       try clear c13b0
       try clear c13b1
       try clear p2
       obtain ⟨x9_2, x10_2, rfl, rfl, HA, HK2, HO_6, HO_7, HB⟩ := hrel
       cases gk with
       | zero => exact absurd HA.out (by simp [spec_ShortRules.l1])
       | succ k2 =>
        have H := HA.out; clear HA
        simp only [spec_ShortRules.l1] at H
        by_cases c14 : x10_2 < (x7_1.length : Int)
        ·
         rw [if_pos c14] at H; have c14b0 : decide (x10_2 < (x7_1.length : Int)) = true := decide_eq_true c14; clear c14
         by_cases c15 : 0 ≤ x10_2
         ·
          rw [if_pos c15] at H; have c15b0 : decide (0 ≤ x10_2) = true := decide_eq_true c15; clear c15; obtain ⟨t179, A16, H⟩ := bnd14_ H
          by_cases c17 : x9_2 = true
          ·
           subst c17; rw [if_pos rfl] at H
           by_cases c18 : (Go.bits .and .i64 (rd x7_1 x10_2) x8_1) = (rd x7_1 x10_2)
           ·
            rw [if_pos c18] at H; have c18b0 : ((Go.bits .and .i64 (rd x7_1 x10_2) x8_1) == (rd x7_1 x10_2)) = true := beq_iff_eq.mpr c18; have c18b1 : ((Go.bits .and .i64 (rd x7_1 x10_2) x8_1) != (rd x7_1 x10_2)) = false := bne_eq_false_iff_eq.mpr c18; clear c18; have H' := Aside0.mk H; clear H; obtain ⟨Ao19, co19, eo19⟩ := Kd.R_slice HO_7.out; subst eo19; have p178 : 0 ≤ (x10_2 : Int) := of_decide_eq_true s3_; have q178 : x10_2 < (x7_1.length : Int) := of_decide_eq_true s3_; obtain ⟨ad178, e178, hx178_0⟩ := Kd.at_int (Kd.R_reads' HO_7.out).2.2 x10_2 p178 q178
            cases e178
            replace p178 := eq_true p178; replace q178 := eq_true q178
            try go_wp2_with ((with_reducible refine gw_ rfl ?_); (refine gL_ 138 42 Tryz.func138 #[.slice A1 l1.length c1, .int .i64 (rd x7_1 x10_2)] ?_; (with_reducible refine (spec_l9Closed.calls k2 _ _ l1 (rd x7_1 x10_2) t179 _ ?side1 ?side2 A16.out).mono ?_); (case side1 => exact s14_); (case side2 => exact HC1.out); rintro e w' ⟨rfl, ⟨nd, rfl⟩⟩; refine ⟨_, rfl, ?_⟩))
            (try (rw [drewN_self wr]; generalize hq_ : World.drewN wr _ = wr; have n0_ : Aside0 (Kd.R k48 48 wr w.heap.size (fun _ => True) v170 y169) := ⟨by rw [← hq_]; exact s15_⟩; have n1_ : Aside0 (Kd.R (Kd.int .i64) 3 wr w.heap.size (fun _ => True) (.slice (some ad178) x7_1.length co19) x7_1) := ⟨by rw [← hq_]; exact q14_7⟩; have n2_ : Aside0 (Below w.heap.size w wr) := ⟨by rw [← hq_]; exact s1_⟩; clear HO_6 HO_7 HB hq_; have HO_6 := n0_; have HO_7 := n1_; have HB := n2_; clear n0_ n1_ n2_))
            have n0_ := Aside0.mk (Kd.R_drew HO_6.out); have n1_ := Aside0.mk (Kd.R_drew HO_7.out); have n2_ := Aside0.mk (below_drew1 HB.out); clear HO_6; clear HO_7; clear HB; have HO_6 := n0_; have HO_7 := n1_; have HB := n2_; clear n0_ n1_ n2_; have p180 : 0 ≤ (x10_2 : Int) := of_decide_eq_true s3_; have q180 : x10_2 < (x7_1.length : Int) := of_decide_eq_true s3_; obtain ⟨ad180, e180, hx180_0⟩ := Kd.at_int (Kd.R_reads' HO_7.out).2.2 x10_2 p180 q180
            obtain rfl : ad178 = ad180 := (by injection e180)
            replace p180 := eq_true p180; replace q180 := eq_true q180; have p181 : 0 ≤ (x10_2 : Int) := of_decide_eq_true s3_; have q181 : x10_2 < (x7_1.length : Int) := of_decide_eq_true s3_; obtain ⟨ad181, e181, hx181_0⟩ := Kd.at_int (Kd.R_reads' HO_7.out).2.2 x10_2 p181 q181
            obtain rfl : ad178 = ad181 := (by injection e181)
            replace p181 := eq_true p181; replace q181 := eq_true q181
            refine start_ (n := 22) (S := fun w' => w'.cell? (ad178.add (x10_2).toNat) = some (.int .i64 (rd x7_1 x10_2)) ∧ w'.cell? (ad178.add (x10_2).toNat) = some (.int .i64 (rd x7_1 x10_2))) (ds := []) (tb_ 22 0) s10_ rfl rfl ⟨hx180_0, hx181_0⟩ (fun hHeld => ?_); refine with_tabW spec_ShortRules.tab14 spec_ShortRules.bits14 (fun HT_ HW_ => ?_)
            generalize wr.drew = w20 at HO_6 HO_7 HB hx180_0 hx181_0 hHeld ⊢
            refine pl_ 0 43 (tb_ 22 1) ?_; refine pl_ 1 44 (tb_ 22 3) ?_; refine pl_ 2 45 (tb_ 22 7) ?_; refine pl_ 3 46 (tb_ 22 15) ?_; refine pl_ 4 47 (tb_ 22 31) ?_; refine pl_ 6 49 (tb_ 22 95) ?_; refine pl_ 8 51 (tb_ 22 351) ?_; refine pl_ 9 52 (tb_ 22 863) ?_; refine pl_ 10 53 (tb_ 22 1887) ?_; refine tk_ 5 48 (tb_ 22 1919) hHeld ?_; refine pl_ 7 50 (tb_ 22 2047) ?_; refine tk_ 11 54 (tb_ 22 4095) hHeld ?_; refine pl_ 12 55 (tb_ 22 8191) ?_; refine pl_ 13 56 (tb_ 22 16383) ?_; refine pl_ 14 57 (tb_ 22 32767) ?_; refine pl_ 15 58 (tb_ 22 65535) ?_; refine pl_ 16 59 (tb_ 22 131071) ?_; refine pl_ 17 60 (tb_ 22 262143) ?_; refine pl_ 18 61 (tb_ 22 524287) ?_; refine pl_ 19 62 (tb_ 22 1048575) ?_; refine pl_ 20 63 (tb_ 22 2097151) ?_; refine pl_ 21 9 (tb_ 22 4194303) ?_
            refine done_ (done_of HT_.out s10_) ?_
            try go_wp2
            go_roundg k2
            case measure => have := HK1.out; have := HK2.out; omega
            case rel => exact ⟨(((Go.bits .and .i64 t179 x8_1) == t179)), (wrap64 (x10_2 + 1)), s2_, s2_, H', ⟨by have := HK1.out; have := HK2.out; omega⟩, ⟨s15_⟩, ⟨q14_7⟩, ⟨s1_⟩⟩
           ·
            rw [if_neg c18] at H; have c18b0 : ((Go.bits .and .i64 (rd x7_1 x10_2) x8_1) == (rd x7_1 x10_2)) = false := beq_eq_false_iff_ne.mpr c18; have c18b1 : ((Go.bits .and .i64 (rd x7_1 x10_2) x8_1) != (rd x7_1 x10_2)) = true := bne_iff_ne.mpr c18; have H' := Aside0.mk H; clear H; obtain ⟨Ao21, co21, eo21⟩ := Kd.R_slice HO_7.out; subst eo21; have p178 : 0 ≤ (x10_2 : Int) := of_decide_eq_true s3_; have q178 : x10_2 < (x7_1.length : Int) := of_decide_eq_true s3_; obtain ⟨ad178, e178, hx178_0⟩ := Kd.at_int (Kd.R_reads' HO_7.out).2.2 x10_2 p178 q178
            cases e178
            replace p178 := eq_true p178; replace q178 := eq_true q178
            try go_wp2_with ((with_reducible refine gw_ rfl ?_); (refine gL_ 138 42 Tryz.func138 #[.slice A1 l1.length c1, .int .i64 (rd x7_1 x10_2)] ?_; (with_reducible refine (spec_l9Closed.calls k2 _ _ l1 (rd x7_1 x10_2) t179 _ ?side1 ?side2 A16.out).mono ?_); (case side1 => exact s14_); (case side2 => exact HC1.out); rintro e w' ⟨rfl, ⟨nd, rfl⟩⟩; refine ⟨_, rfl, ?_⟩))
            (try (rw [drewN_self wr]; generalize hq_ : World.drewN wr _ = wr; have n0_ : Aside0 (Kd.R k48 48 wr w.heap.size (fun _ => True) v170 y169) := ⟨by rw [← hq_]; exact s15_⟩; have n1_ : Aside0 (Kd.R (Kd.int .i64) 3 wr w.heap.size (fun _ => True) (.slice (some ad178) x7_1.length co21) x7_1) := ⟨by rw [← hq_]; exact q14_7⟩; have n2_ : Aside0 (Below w.heap.size w wr) := ⟨by rw [← hq_]; exact s1_⟩; clear HO_6 HO_7 HB hq_; have HO_6 := n0_; have HO_7 := n1_; have HB := n2_; clear n0_ n1_ n2_))
            have n0_ := Aside0.mk (Kd.R_drew HO_6.out); have n1_ := Aside0.mk (Kd.R_drew HO_7.out); have n2_ := Aside0.mk (below_drew1 HB.out); clear HO_6; clear HO_7; clear HB; have HO_6 := n0_; have HO_7 := n1_; have HB := n2_; clear n0_ n1_ n2_; have p180 : 0 ≤ (x10_2 : Int) := of_decide_eq_true s3_; have q180 : x10_2 < (x7_1.length : Int) := of_decide_eq_true s3_; obtain ⟨ad180, e180, hx180_0⟩ := Kd.at_int (Kd.R_reads' HO_7.out).2.2 x10_2 p180 q180
            obtain rfl : ad178 = ad180 := (by injection e180)
            replace p180 := eq_true p180; replace q180 := eq_true q180; have p181 : 0 ≤ (x10_2 : Int) := of_decide_eq_true s3_; have q181 : x10_2 < (x7_1.length : Int) := of_decide_eq_true s3_; obtain ⟨ad181, e181, hx181_0⟩ := Kd.at_int (Kd.R_reads' HO_7.out).2.2 x10_2 p181 q181
            obtain rfl : ad178 = ad181 := (by injection e181)
            replace p181 := eq_true p181; replace q181 := eq_true q181
            refine start_ (n := 22) (S := fun w' => w'.cell? (ad178.add (x10_2).toNat) = some (.int .i64 (rd x7_1 x10_2)) ∧ w'.cell? (ad178.add (x10_2).toNat) = some (.int .i64 (rd x7_1 x10_2))) (ds := []) (tb_ 22 0) s10_ rfl rfl ⟨hx180_0, hx181_0⟩ (fun hHeld => ?_); refine with_tabW spec_ShortRules.tab14 spec_ShortRules.bits14 (fun HT_ HW_ => ?_)
            generalize wr.drew = w22 at HO_6 HO_7 HB hx180_0 hx181_0 hHeld ⊢
            refine pl_ 0 43 (tb_ 22 1) ?_; refine pl_ 1 44 (tb_ 22 3) ?_; refine pl_ 2 45 (tb_ 22 7) ?_; refine pl_ 3 46 (tb_ 22 15) ?_; refine pl_ 4 47 (tb_ 22 31) ?_; refine pl_ 6 49 (tb_ 22 95) ?_; refine pl_ 8 51 (tb_ 22 351) ?_; refine pl_ 9 52 (tb_ 22 863) ?_; refine pl_ 10 53 (tb_ 22 1887) ?_; refine tk_ 5 48 (tb_ 22 1919) hHeld ?_; refine pl_ 7 50 (tb_ 22 2047) ?_; refine tk_ 11 54 (tb_ 22 4095) hHeld ?_; refine pl_ 12 55 (tb_ 22 8191) ?_; refine pl_ 13 56 (tb_ 22 16383) ?_; refine pr_ 14 57 (tb_ 22 32767) ?_; refine pr_ 15 58 (tb_ 22 65535) ?_; refine pr_ 16 59 (tb_ 22 131071) ?_; refine pr_ 17 60 (tb_ 22 262143) ?_; refine pr_ 18 61 (tb_ 22 524287) ?_; refine pl_ 19 62 (tb_ 22 1048575) ?_; refine pl_ 20 63 (tb_ 22 2097151) ?_; refine pl_ 21 9 (tb_ 22 4194303) ?_
            refine done_ (done_of HT_.out s10_) ?_
            try go_wp2
            go_roundg k2
            case measure => have := HK1.out; have := HK2.out; omega
            case rel => exact ⟨(true), (wrap64 (x10_2 + 1)), s2_, s2_, H', ⟨by have := HK1.out; have := HK2.out; omega⟩, ⟨s15_⟩, ⟨q14_7⟩, ⟨s1_⟩⟩
          ·
           replace c17 := Bool.eq_false_iff.mpr c17; subst c17
           rw [if_neg (show ¬ (false = true) by decide)] at H
           have H' := Aside0.mk H; clear H; obtain ⟨Ao23, co23, eo23⟩ := Kd.R_slice HO_7.out; subst eo23; have p178 : 0 ≤ (x10_2 : Int) := of_decide_eq_true s3_; have q178 : x10_2 < (x7_1.length : Int) := of_decide_eq_true s3_; obtain ⟨ad178, e178, hx178_0⟩ := Kd.at_int (Kd.R_reads' HO_7.out).2.2 x10_2 p178 q178
           cases e178
           replace p178 := eq_true p178; replace q178 := eq_true q178
           try go_wp2_with ((with_reducible refine gw_ rfl ?_); (refine gL_ 138 42 Tryz.func138 #[.slice A1 l1.length c1, .int .i64 (rd x7_1 x10_2)] ?_; (with_reducible refine (spec_l9Closed.calls k2 _ _ l1 (rd x7_1 x10_2) t179 _ ?side1 ?side2 A16.out).mono ?_); (case side1 => exact s14_); (case side2 => exact HC1.out); rintro e w' ⟨rfl, ⟨nd, rfl⟩⟩; refine ⟨_, rfl, ?_⟩))
           (try (rw [drewN_self wr]; generalize hq_ : World.drewN wr _ = wr; have n0_ : Aside0 (Kd.R k48 48 wr w.heap.size (fun _ => True) v170 y169) := ⟨by rw [← hq_]; exact s15_⟩; have n1_ : Aside0 (Kd.R (Kd.int .i64) 3 wr w.heap.size (fun _ => True) (.slice (some ad178) x7_1.length co23) x7_1) := ⟨by rw [← hq_]; exact q14_7⟩; have n2_ : Aside0 (Below w.heap.size w wr) := ⟨by rw [← hq_]; exact s1_⟩; clear HO_6 HO_7 HB hq_; have HO_6 := n0_; have HO_7 := n1_; have HB := n2_; clear n0_ n1_ n2_))
           have n0_ := Aside0.mk (Kd.R_drew HO_6.out); have n1_ := Aside0.mk (Kd.R_drew HO_7.out); have n2_ := Aside0.mk (below_drew1 HB.out); clear HO_6; clear HO_7; clear HB; have HO_6 := n0_; have HO_7 := n1_; have HB := n2_; clear n0_ n1_ n2_
           refine start_ (n := 22) (S := fun w' => True) (ds := []) (tb_ 22 0) s10_ rfl rfl trivial (fun hHeld => ?_); refine with_tabW spec_ShortRules.tab14 spec_ShortRules.bits14 (fun HT_ HW_ => ?_)
           generalize wr.drew = w24 at HO_6 HO_7 HB hHeld ⊢
           refine pl_ 0 43 (tb_ 22 1) ?_; refine pl_ 1 44 (tb_ 22 3) ?_; refine pr_ 2 45 (tb_ 22 7) ?_; refine pr_ 3 46 (tb_ 22 15) ?_; refine pr_ 4 47 (tb_ 22 31) ?_; refine pr_ 5 48 (tb_ 22 63) ?_; refine pr_ 6 49 (tb_ 22 127) ?_; refine pr_ 7 50 (tb_ 22 255) ?_; refine pr_ 8 51 (tb_ 22 511) ?_; refine pr_ 9 52 (tb_ 22 1023) ?_; refine pr_ 10 53 (tb_ 22 2047) ?_; refine pr_ 11 54 (tb_ 22 4095) ?_; refine pr_ 12 55 (tb_ 22 8191) ?_; refine pr_ 13 56 (tb_ 22 16383) ?_; refine pr_ 14 57 (tb_ 22 32767) ?_; refine pr_ 15 58 (tb_ 22 65535) ?_; refine pr_ 16 59 (tb_ 22 131071) ?_; refine pr_ 17 60 (tb_ 22 262143) ?_; refine pr_ 18 61 (tb_ 22 524287) ?_; refine pr_ 19 62 (tb_ 22 1048575) ?_; refine pl_ 20 63 (tb_ 22 2097151) ?_; refine pl_ 21 9 (tb_ 22 4194303) ?_
           refine done_ (done_of HT_.out s10_) ?_
           try go_wp2
           go_roundg k2
           case measure => have := HK1.out; have := HK2.out; omega
           case rel => exact ⟨(false), (wrap64 (x10_2 + 1)), s2_, s2_, H', ⟨by have := HK1.out; have := HK2.out; omega⟩, ⟨s15_⟩, ⟨q14_7⟩, ⟨s1_⟩⟩
         ·
          rw [if_neg c15] at H
          exact absurd H (by simp)
        ·
         rw [if_neg c14] at H; have c14b0 : decide (x10_2 < (x7_1.length : Int)) = false := decide_eq_false c14; clear c14
         by_cases c25 : x9_2 = true
         ·
          subst c25; rw [if_pos rfl] at H
          by_cases c26 : x7_1.length < 17592186044416
          ·
           rw [if_pos c26] at H; have LMc26 := Aside0.mk c26; clear c26; obtain ⟨y182, hy_⟩ : ∃ y_ : List Int, y_ = (x7_1 ++ [x8_1]) := ⟨_, rfl⟩
           replace H : (spec_ShortRules.l0 k2 a0 l1 y169 y182 (wrap64 (x8_1 + 1))) = some (r1, r2) := rH_
           have Ny182 := Aside0.mk hy_; clear hy_; have H' := Aside0.mk H; clear H; obtain ⟨Ao27, co27, eo27⟩ := Kd.R_slice HO_7.out; subst eo27
           go_wp2_with (first | ((with_reducible refine gate_builtin (b := .append) (xs := #[.tmp 65, .tmp 67]) rfl ?_); at_builtin; refine Kd.R_append (Kd.int .i64) (w0 := w) w.heap.size rfl (.tmp 65) (.tmp 67) 27 3 (.int .i64 0) 8 rfl Tryz.underlying27 info3 rfl (by decide) (by omega) (.slice Ao27 x7_1.length co27) x7_1 x8_1 [.int .i64 x8_1] (fun _ => True) (fun _ => False) rfl rfl ?aP (fun _ hk => hk.elim) ?aF ?aO ?aB ?aS ?aL ?_; (case aP => exact rfl); (case aB => exact s1_); (case aF => exact (fun _ _ => trivial)); (case aO => exact q14_7); (case aS => exact (below_size s1_)); (case aL => have := LMc26.out; omega); intro v183 w28 ho hb hg hat; rw [← Ny182.out] at ho; have n_ := ac_ (Kd.R_over' s15_ (Kd.R_typed q14_7) (by decide) hg) <| ac_ (hb) <| Aside0.mk (ho); clear HO_6 HB HO_7; obtain ⟨HO_6, HB, HO184⟩ := n_; clear ho hb hg hat))
           go_roundg k2
           case measure => have := HK1.out; have := HK2.out; omega
           case rel => exact ⟨(y182), (wrap64 (x8_1 + 1)), s2_, H', ⟨by have := HK1.out; have := HK2.out; omega⟩, ⟨s15_⟩, ⟨(by (with_reducible repeat (first | apply Kd.R_alloc | apply Kd.R_drewN | apply Kd.R_drew)); exact HO184.out)⟩, ⟨s1_⟩⟩
          ·
           rw [if_neg c26] at H
           exact absurd H (by simp)
         ·
          replace c25 := Bool.eq_false_iff.mpr c25; subst c25
          rw [if_neg (show ¬ (false = true) by decide)] at H
          have H' := Aside0.mk H; clear H; obtain ⟨Ao29, co29, eo29⟩ := Kd.R_slice HO_7.out; subst eo29
          go_wp2
          go_roundg k2
          case measure => have := HK1.out; have := HK2.out; omega
          case rel => exact ⟨(x7_1), (wrap64 (x8_1 + 1)), s2_, H', ⟨by have := HK1.out; have := HK2.out; omega⟩, ⟨s15_⟩, ⟨q14_7⟩, ⟨s1_⟩⟩
    ·
     rw [if_neg c11] at H; have c11b0 : decide (x8_1 ≤ t176) = false := decide_eq_false c11; clear c11; obtain ⟨t185, A30, H⟩ := bnd14_ H; have H' := Aside0.mk H; clear H
     go_wp2_with ((with_reducible refine gw_ rfl ?_); first | (refine gL_ 62 22 Tryz.func62 #[.int .i64 a0] ?_; (with_reducible refine (spec_FullSet.calls a0 t176 _ A10.out).mono ?_); rintro e w' ⟨rfl, ⟨nd, rfl⟩⟩; refine ⟨_, rfl, ?_⟩; obtain ⟨Ao31, co31, eo31⟩ := Kd.R_slice HO_7.out; subst eo31) | (refine gL_ 139 70 Tryz.func139 #[.slice Ao31 x7_1.length co31] ?_; (with_reducible refine (spec_SortLectic.calls k1 _ _ x7_1 t185 _ ?side1 ?side2 A30.out).mono ?_); (case side1 => repeat (first | exact (Kd.R_reads' HO_7.out).2.2 | (with_reducible refine Kd.C_alloc ?_ _) | (with_reducible refine Kd.C_drewN ?_ _) | (with_reducible refine Kd.C_drew ?_))); (case side2 => exact (Kd.R_reads' HO_7.out).2.1); rintro e w32 ⟨v186, rfl, ho0, hb⟩; refine ⟨_, rfl, ?_⟩; have n_ := ac_ (Kd.R_below s15_ hb) <| ac_ (Kd.R_elder' q14_7 (Kd.R_base ho0) hb) <| ac_ (Kd.R_lower (Kd.R_new' ho0 (Kd.R_lt q14_7)) (below_size s1_)) <| Aside0.mk (below_step s1_ hb); clear HO_6 HO_7 HB; obtain ⟨HO_6, HO_7, HO187, HB⟩ := n_; (try clear hb ho0)))
     go_loopg [6, 12] k1 (fun kq v6 v12 w' => ∃ (x6_2 : List (S48)) (x12_2 : Int), v12 = .int .i64 x12_2 ∧ Aside0 (spec_ShortRules.l2 kq l1 x6_2 t185 x12_2 = some (r1, r2)) ∧ Aside0 (kq ≤ k1) ∧ Aside0 (Kd.R k48 48 w' w.heap.size (fun _ => True) v6 x6_2) ∧ Aside0 (Kd.R (Kd.int .i64) 3 w' w.heap.size (fun _ => True) v186 t185) ∧ Aside0 (Below w.heap.size w w'))
     case atStart => exact ⟨(y169), (0), s2_, H', ⟨Nat.le_refl _⟩, ⟨s15_⟩, ⟨(by (with_reducible repeat (first | apply Kd.R_alloc | apply Kd.R_drewN | apply Kd.R_drew)); exact Kd.R_mono HO187.out (fun _ hk => trivial))⟩, ⟨s1_⟩⟩
     case round =>
      clear H'
      try clear c1
      try clear p1
      try clear q1
      try clear hx1
      try clear c2
      try clear p2
      try clear c6
      try clear p6
      try clear c11
      try clear c11b0
      try clear c13
      try clear c14
      try clear c14b0
      try clear c15
      try clear c17
      try clear p17
      try clear q17
      try clear hx17
      try clear c18
      try clear c18b0
      try clear c18b1
      try clear p18
      try clear q18
      try clear hx18
      try clear c25
      try clear c26
      try clear hx178_0
      try clear hx180_0
      try clear hx181_0
      try clear p178
      try clear p180
      try clear p181
      try clear q178
      try clear q180
      try clear q181
      obtain ⟨x6_2, x12_2, rfl, HA, HK2, HO_6, HO_7, HB⟩ := hrel
      cases gk with
      | zero => exact absurd HA.out (by simp [spec_ShortRules.l2])
      | succ k2 =>
       have H := HA.out; clear HA
       simp only [spec_ShortRules.l2] at H
       by_cases c33 : x12_2 < (t185.length : Int)
       ·
        rw [if_pos c33] at H; have c33b0 : decide (x12_2 < (t185.length : Int)) = true := decide_eq_true c33; clear c33
        by_cases c34 : 0 ≤ x12_2
        ·
         rw [if_pos c34] at H; have c34b0 : decide (0 ≤ x12_2) = true := decide_eq_true c34; clear c34; obtain ⟨t190, A35, H⟩ := bnd14_ H
         by_cases c36 : x6_2.length < 8796093022208
         ·
          rw [if_pos c36] at H; have LMc36 := Aside0.mk c36; clear c36; obtain ⟨y191, hy_⟩ : ∃ y_ : List (S48), y_ = (x6_2 ++ [(⟨rd t185 x12_2, t190⟩ : S48)]) := ⟨_, rfl⟩
          replace H : (spec_ShortRules.l2 k2 l1 y191 t185 (wrap64 (x12_2 + 1))) = some (r1, r2) := rH_
          have Ny191 := Aside0.mk hy_; clear hy_; have H' := Aside0.mk H; clear H; obtain ⟨Ao37, co37, eo37⟩ := Kd.R_slice HO_7.out; subst eo37
          try go_wp2
          have n0_ := Aside0.mk (Kd.R_drew HO_6.out); have n1_ := Aside0.mk (Kd.R_drew HO_7.out); have n2_ := Aside0.mk (below_drew1 HB.out); clear HO_6; clear HO_7; clear HB; have HO_6 := n0_; have HO_7 := n1_; have HB := n2_; clear n0_ n1_ n2_; have p188 : 0 ≤ (x12_2 : Int) := of_decide_eq_true s3_; have q188 : x12_2 < (t185.length : Int) := of_decide_eq_true s3_; obtain ⟨ad188, e188, hx188_0⟩ := Kd.at_int (Kd.R_reads' HO_7.out).2.2 x12_2 p188 q188
          cases e188
          replace p188 := eq_true p188; replace q188 := eq_true q188; have p189 : 0 ≤ (x12_2 : Int) := of_decide_eq_true s3_; have q189 : x12_2 < (t185.length : Int) := of_decide_eq_true s3_; obtain ⟨ad189, e189, hx189_0⟩ := Kd.at_int (Kd.R_reads' HO_7.out).2.2 x12_2 p189 q189
          obtain rfl : ad188 = ad189 := (by injection e189)
          replace p189 := eq_true p189; replace q189 := eq_true q189
          refine start_ (n := 15) (S := fun w' => w'.cell? (ad188.add (x12_2).toNat) = some (.int .i64 (rd t185 x12_2)) ∧ w'.cell? (ad188.add (x12_2).toNat) = some (.int .i64 (rd t185 x12_2))) (ds := [12, 13]) (tb_ 15 0) s10_ rfl rfl ⟨hx188_0, hx189_0⟩ (fun hHeld => ?_); refine with_tabW spec_ShortRules.tab21 spec_ShortRules.bits21 (fun HT_ HW_ => ?_)
          generalize wr.drew = w38 at HO_6 HO_7 HB hx188_0 hx189_0 hHeld ⊢
          refine pl_ 0 77 (tb_ 15 1) ?_; refine pl_ 1 78 (tb_ 15 3) ?_; refine pl_ 2 79 (tb_ 15 7) ?_; refine pl_ 3 80 (tb_ 15 15) ?_; refine pl_ 5 82 (tb_ 15 47) ?_; refine pl_ 6 83 (tb_ 15 111) ?_; refine pl_ 7 84 (tb_ 15 239) ?_; refine pl_ 8 85 (tb_ 15 495) ?_; refine tk_ 4 81 (tb_ 15 511) hHeld ?_; refine tk_ 9 86 (tb_ 15 1023) hHeld ?_
          refine on_ 10 87 (tb_ 15 2047) (fun K hK => ?_)
          refine goes_ Tryz.func138 s10_ rfl #[.slice _ l1.length c1, .int .i64 (rd t185 x12_2)] (by rfl) rfl rfl s0_ ?_
          with_reducible refine (spec_l9Closed.calls k2 _ _ l1 (rd t185 x12_2) t190 _ ?side1 ?side2 A35.out).mono ?_
          (case side1 => exact s14_)
          (case side2 => exact HC1.out)
          rintro e w' ⟨rfl, ⟨nd, rfl⟩⟩
          refine ⟨_, rfl, ?_⟩
          refine hK.out _ _ ⟨hHeld.1, hHeld.2⟩ (fun hHeld => ?_)
          clear hK K
          refine norm_ (a' := ?_) ?_ ?_
          rotate_left
          ·
           show Act.put _ (some 87) _ = _
           simp only [Act.put, List.setIfInBounds_toArray, List.set_cons_zero, List.set_cons_succ, i64_w, i32_w]
           rfl
          refine pl_ 11 88 (tb_ 15 4095) ?_
          refine last_ (i := 12) (N := some 89) (tb_ 15 8191) rfl rfl (one_of HT_.out s10_) (by decide) (fun K hK => ?_)
          refine value_ (w1 := ?_) (v := ?_) (by rfl) rfl ?_ ?_
          rotate_left 2
          ·
           go_simp
           constructor
           ·
            rfl
           ·
            rfl
          refine hK.out _ _ ?_
          clear hK K
          refine norm_ (a' := ?_) ?_ ?_
          rotate_left
          ·
           show Act.put _ (some 89) _ = _
           simp only [Act.put, List.setIfInBounds_toArray, List.set_cons_zero, List.set_cons_succ, i64_w, i32_w]
           rfl
          refine last_ (i := 13) (N := some 90) (tb_ 15 16383) rfl rfl (one_of HT_.out s10_) (by decide) (fun K hK => ?_)
          refine Kd.R_append_step k48 (w0 := w) w.heap.size (by rfl) (.tmp 77) (.tmp 89) 24 48 (.agg #[(.int .i64 0), (.int .i64 0)]) 16 rfl Tryz.underlying24 info48 rfl (by decide) (by omega) u6 x6_2 (⟨rd t185 x12_2, t190⟩ : S48) [.int .i64 (rd t185 x12_2), .int .i64 t190] (fun _ => True) (fun _ => False) rfl rfl ?aP (fun _ hk => hk.elim) ?aF ?aO ?aB ?aS ?aL ?_
          (case aP => exact k48_mkM _ _ _ (⟨rd t185 x12_2, t190⟩ : S48))
          (case aB => exact s1_)
          (case aF => exact (fun _ _ => trivial))
          (case aO => exact s15_)
          (case aS => exact (below_size s1_))
          (case aL => have := LMc36.out; omega)
          intro v192 w39 ho hb hg hat
          rw [← Ny191.out] at ho
          have n0_ := Aside0.mk (Kd.R_over' q14_7 (Kd.R_typed s15_) (by decide) hg)
          have n1_ := Aside0.mk (hb); have n2_ := Aside0.mk (ho); clear HO_7; clear HB; clear HO_6; have HO_7 := n0_; have HB := n1_; have HO193 := n2_; clear n0_ n1_ n2_; clear ho hb hg hat
          refine hK.out _ _ ?_
          clear hK K
          refine norm_ (a' := ?_) ?_ ?_
          rotate_left
          ·
           show Act.put _ (some 90) _ = _
           simp only [Act.put, List.setIfInBounds_toArray, List.set_cons_zero, List.set_cons_succ, i64_w, i32_w]
           rfl
          refine pl_ 14 6 (tb_ 15 32767) ?_
          refine done_ (done_of HT_.out s10_) ?_
          try go_wp2
          go_roundg k2
          case measure => have := HK1.out; have := HK2.out; omega
          case rel => exact ⟨(y191), (wrap64 (x12_2 + 1)), s2_, H', ⟨by have := HK1.out; have := HK2.out; omega⟩, ⟨(by (with_reducible repeat (first | apply Kd.R_alloc | apply Kd.R_drewN | apply Kd.R_drew)); exact HO193.out)⟩, ⟨q14_7⟩, ⟨s1_⟩⟩
         ·
          rw [if_neg c36] at H
          exact absurd H (by simp)
        ·
         rw [if_neg c34] at H
         exact absurd H (by simp)
       ·
        rw [if_neg c33] at H; have c33b0 : decide (x12_2 < (t185.length : Int)) = false := decide_eq_false c33; clear c33
        simp only [Option.some.injEq, Prod.mk.injEq] at H
        obtain ⟨rfl, rfl⟩ := H; obtain ⟨Ao40, co40, eo40⟩ := Kd.R_slice HO_7.out; subst eo40
        go_wp2
        go_ret2
        exact ⟨_, (by first | rfl | (simp [errW_none, errW_some] <;> rfl) | (simp [*, errW_none, errW_some] <;> rfl)), s15_, s1_⟩
 ·
  replace c4 := Bool.eq_false_iff.mpr c4; subst c4
  rw [if_neg (show ¬ (false = true) by decide)] at H
  simp only [Option.some.injEq, Prod.mk.injEq] at H
  obtain ⟨rfl, rfl⟩ := H
  go_enter Tryz.func26, Tryz.ntmps26
  go_wp2_with ((with_reducible refine gw_ rfl ?_); first | (refine rl_ k48 48 13 ?_; intro v170 w41 ho42 hb hg_ hnew_; clear hg_ hnew_; (first | rw [← Ny169.out] at ho42 | (simp only [Int.reduceToNat] at ho42; rw [← Ny169.out] at ho42)); have n_ := ac_ (Kd.R_lower ho42 (below_size s1_)) <| Aside0.mk (below_step s1_ hb); clear HB; obtain ⟨HO171, HB⟩ := n_; clear hb ho42) | (refine gL_ 82 16 Tryz.func82 #[.int .i64 a0, .slice A1 l1.length c1] ?_; (with_reducible refine (spec_AreRules.calls k a0 _ _ l1 false _ ?side1 ?side2 A3.out).mono ?_); (case side1 => exact s14_); (case side2 => exact HC1.out); rintro e w43 ⟨rfl, hb⟩; refine ⟨_, rfl, ?_⟩; have n_ := ac_ (Kd.R_below q14_5 hb) <| Aside0.mk (below_step s1_ hb); clear HO171 HB; obtain ⟨HO171, HB⟩ := n_; (try clear hb)))
  go_ret2
  exact ⟨_, (by first | rfl | (simp [errW_none, errW_some] <;> rfl) | (simp [*, errW_none, errW_some] <;> rfl)), q14_5, s1_⟩
end Go.Proofs.YtafnamchckehmaaGreatDoor.Pr
