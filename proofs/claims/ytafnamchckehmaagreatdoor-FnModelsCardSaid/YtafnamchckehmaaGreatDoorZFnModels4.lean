/- What the law needs of the program's functions as plain functions, of the proofs that their calls answer so, and of plain laws: gathered by a program of this place (pack.py) out of its printed texts. No condition beyond what each statement says. -/
import Derived.Test.YtafnamchckehmaaGreatDoorZFnModels2
import Derived.Test.YtafnamchckehmaaGreatDoorZFnModels3
namespace Go.Proofs.YtafnamchckehmaaGreatDoor.Pr
open Go.RowKit Go.Proofs.YtafnamchckehmaaGreatDoorW.PrintWords Go.Proofs.YtafnamchckehmaaGreatDoorW.PrintLast Go.Proofs.YtafnamchckehmaaGreatDoorW.PrintMore
attribute [local go_sem] max2_int min2_int max_two min_two max_three min_three max_four min_four
set_option linter.unusedVariables false
set_option linter.unusedSimpArgs false
theorem bnd7_ {α β : Type} {o : Option α} {f : α → Option β} {r : β} (h : o.bind f = some r) : ∃ a, Aside0 (o = some a) ∧ f a = some r := by
 obtain ⟨a, h1, h2⟩ := Option.bind_eq_some_iff.mp h
 exact ⟨a, ⟨h1⟩, h2⟩
theorem q7_2 {P : Prop} (h : P := by repeat (first | exact (Kd.R_reads' HO_3.out).2.2 | (with_reducible refine Kd.C_alloc ?_ _) | (with_reducible refine Kd.C_drewN ?_ _) | (with_reducible refine Kd.C_drew ?_))) : P := h
theorem q7_5 {P : Prop} (h : P := by (with_reducible repeat (first | apply Kd.R_alloc | apply Kd.R_drewN | apply Kd.R_drew)); exact HO319.out) : P := h
theorem q7_6 {P : Prop} (h : P := by (with_reducible repeat (first | apply Kd.R_alloc | apply Kd.R_drewN | apply Kd.R_drew)); exact HO339.out) : P := h
mutual
def spec_SortLectic.l0 : Nat → List Int → List Int → Int → Option (List Int)
 | 0, _, _, _ => none
 | k + 1, x0, x3, x4 => if x4 < (x0.length : Int) then (if 0 ≤ x4 then ((spec_l2In.f k x3 (rd x0 x4)).bind fun t306 => (if t306 = true then (spec_SortLectic.l0 k x0 x3 (wrap64 (x4 + 1))) else (spec_SortLectic.l1 k x0 x3 x4 0))) else (none)) else (some x3)
def spec_SortLectic.l1 : Nat → List Int → List Int → Int → Int → Option (List Int)
 | 0, _, _, _, _ => none
 | k + 1, x0, x3, x4, x5 => if x5 < (x3.length : Int) then (if 0 ≤ x5 then (if 0 ≤ x4 then (if x4 < (x0.length : Int) then ((spec_BeforeSet.f (rd x3 x5) (rd x0 x4)).bind fun t309 => (if t309 = true then (spec_SortLectic.l1 k x0 x3 x4 (wrap64 (x5 + 1))) else ((some (([] : List Int) : List Int)).bind fun y310 => (if x5 ≤ (x3.length : Int) then ((some (x3.drop (x5 : Int).toNat : List Int)).bind fun y313 => (if y310.length + y313.length < 17592186044416 then ((some (y310 ++ y313 : List Int)).bind fun y317 => ((some (x3.take (x5 : Int).toNat : List Int)).bind fun y320 => (if y320.length < 17592186044416 then ((some (y320 ++ [rd x0 x4] : List Int)).bind fun y324 => (if y324.length + y317.length < 17592186044416 then (spec_SortLectic.l0 k x0 (y324 ++ y317) (wrap64 (x4 + 1))) else (none))) else (none)))) else (none))) else (none))))) else (none)) else (none)) else (none)) else ((some (([] : List Int) : List Int)).bind fun y330 => (if 0 ≤ x5 then (if x5 ≤ (x3.length : Int) then ((some (x3.drop (x5 : Int).toNat : List Int)).bind fun y333 => (if y330.length + y333.length < 17592186044416 then ((some (y330 ++ y333 : List Int)).bind fun y337 => ((some (x3.take (x5 : Int).toNat : List Int)).bind fun y340 => (if 0 ≤ x4 then (if x4 < (x0.length : Int) then (if y340.length < 17592186044416 then ((some (y340 ++ [rd x0 x4] : List Int)).bind fun y344 => (if y344.length + y337.length < 17592186044416 then (spec_SortLectic.l0 k x0 (y344 ++ y337) (wrap64 (x4 + 1))) else (none))) else (none)) else (none)) else (none)))) else (none))) else (none)) else (none)))
end
def spec_SortLectic.f (k : Nat) (l0 : List Int) : Option (List Int) := (some (([] : List Int) : List Int)).bind fun y301 => ((spec_l2Sets.f k l0).bind fun t304 => (if t304 = true then (spec_SortLectic.l0 k l0 y301 0) else (some y301)))
def spec_SortLectic.T9 : Bool × List (List Nat × List Nat) := (true, [([], []), ([], []), ([1], [1]), ([0, 2], [0, 2]), ([3], [3]), ([4], [4]), ([4], [4]), ([5, 6, 4], [4, 5, 6]), ([7, 4], [4, 7]), ([4], [4]), ([4], [4]), ([9, 10, 4], [4, 9, 10]), ([11, 4], [4, 11]), ([8, 12, 4, 4], [4, 8, 12]), ([4, 13], [4, 13])])
def spec_SortLectic.B9 : List Nat := [0, 0, 2, 7, 15, 31, 31, 127, 255, 31, 31, 1567, 3615, 8191, 16383]
theorem spec_SortLectic.tab9 : rtab .any (opsOf Tryz.f139 9) = spec_SortLectic.T9 := s12_
theorem spec_SortLectic.bits9 : waitsOk spec_SortLectic.T9.2 spec_SortLectic.B9 = true := s12_
def spec_SortLectic.T12 : Bool × List (List Nat × List Nat) := (true, [([], []), ([], []), ([0, 1], [0, 1]), ([], []), ([], []), ([3, 4], [3, 4]), ([5], [5]), ([6], [6]), ([2, 7], [2, 7]), ([], []), ([8, 9, 8], [8, 9]), ([10, 10, 0, 1, 2, 3, 4, 5, 6, 7, 8, 9, 10], [0, 10])])
def spec_SortLectic.B12 : List Nat := [0, 0, 3, 0, 0, 24, 56, 120, 255, 0, 1023, 2047]
theorem spec_SortLectic.tab12 : rtab .any (opsOf Tryz.f139 12) = spec_SortLectic.T12 := s12_
theorem spec_SortLectic.bits12 : waitsOk spec_SortLectic.T12.2 spec_SortLectic.B12 = true := s12_
set_option maxHeartbeats 40000000 in
set_option maxRecDepth 100000 in
theorem spec_SortLectic.calls (k : Nat) (A0 : Option Addr) (c0 : Nat) (l0 : List Int) (r : List Int) (w : World) (hr0 : Kd.C (Kd.int .i64) w A0 l0.length l0) (hc0 : l0.length ≤ c0) (h : spec_SortLectic.f k l0 = some r) :
  Calls Tryz.prog 139 #[.slice A0 l0.length c0] w fun e w' => ∃ v0_ : Value, e = .returned (v0_) ∧ Kd.R (Kd.int .i64) 3 w' w.heap.size (fun _ => True) v0_ r ∧ Below w.heap.size w w' := by
 have HR0 := Aside0.mk hr0; have HC0 := Aside0.mk hc0; clear hr0 hc0; have HB := Aside0.mk (Below.refl w.heap.size w); have H := h; clear h; unfold spec_SortLectic.f at H; obtain ⟨y301, hy301⟩ : ∃ y_ : List Int, y_ = (([] : List Int)) := ⟨_, rfl⟩
 replace H : ((spec_l2Sets.f k l0).bind fun t304 => (if t304 = true then (spec_SortLectic.l0 k l0 y301 0) else (some y301))) = some r := by first | (rw [hy301]; with_reducible exact H) | (have H2_ := (Option.bind_some _ _).symm.trans H; rw [hy301]; with_reducible exact H2_) | (have H2_ := (Option.bind_some _ _).symm.trans H; with_reducible exact H2_) | with_reducible exact H | (rw [hy301]; exact H) | exact H
 have Ny301 := Aside0.mk hy301; clear hy301; obtain ⟨t304, A2, H⟩ := bnd7_ H
 by_cases c3 : t304 = true
 ·
  subst c3; rw [if_pos rfl] at H; have H' := Aside0.mk H; clear H
  go_enter Tryz.func139, Tryz.ntmps139
  go_wp2_with (first | ((with_reducible refine gate_dst (N := 7) rfl ?_); refine Kd.R_lit (Kd.int .i64) _ 3 ?hg (N := 7) ?hd (xs := ([] : List Int)) (inner := []) (ok := fun _ => True) (okp := fun _ => True) ?hr ?hp (fun _ hk => hk) trivial (Below.refl _ _) (Nat.le_refl _) (by simp) ?_; (case hd => rfl); (case hg => rfl); (case hr => first | (go_simp; done) | (go_simp; rfl)); (case hp => exact (Reps.none _ _)); intro v302 w4 ho5 hb hg_ hnew_; clear hg_ hnew_; (first | rw [← Ny301.out] at ho5 | (simp only [Int.reduceToNat] at ho5; rw [← Ny301.out] at ho5)); have n_ := ac_ (Kd.R_lower ho5 (below_size s1_)) <| Aside0.mk (below_step s1_ hb); clear HB; obtain ⟨HO303, HB⟩ := n_; clear hb ho5) | (refine gL_ 216 9 Tryz.func216 #[.slice A0 l0.length c0] ?_; (with_reducible refine (spec_l2Sets.calls k _ _ l0 true _ ?side1 ?side2 A2.out).mono ?_); (case side1 => exact s19_); (case side2 => exact HC0.out); rintro e w' ⟨rfl, ⟨nd, rfl⟩⟩; refine ⟨_, rfl, ?_⟩))
  go_loopg [3, 4] k (fun kq v3 v4 w' => ∃ (x3_1 : List Int) (x4_1 : Int), v4 = .int .i64 x4_1 ∧ Aside0 (spec_SortLectic.l0 kq l0 x3_1 x4_1 = some r) ∧ Aside0 (kq ≤ k) ∧ Aside0 (Kd.R (Kd.int .i64) 3 w' w.heap.size (fun _ => True) v3 x3_1) ∧ Aside0 (Below w.heap.size w w'))
  case atStart => exact ⟨(y301), (0), s2_, H', ⟨Nat.le_refl _⟩, ⟨(by (with_reducible repeat (first | apply Kd.R_alloc | apply Kd.R_drewN | apply Kd.R_drew)); exact HO303.out)⟩, ⟨s1_⟩⟩
  case round =>
   clear H'
   try clear c1
   try clear c2
   try clear p2
   try clear c3
   obtain ⟨x3_1, x4_1, rfl, HA, HK1, HO_3, HB⟩ := hrel
   cases gk with
   | zero => exact absurd HA.out (by simp [spec_SortLectic.l0])
   | succ k1 =>
    have H := HA.out; clear HA
    simp only [spec_SortLectic.l0] at H
    by_cases c6 : x4_1 < (l0.length : Int)
    ·
     rw [if_pos c6] at H; have c6b0 : decide (x4_1 < (l0.length : Int)) = true := decide_eq_true c6; clear c6
     by_cases c7 : 0 ≤ x4_1
     ·
      rw [if_pos c7] at H; have c7b0 : decide (0 ≤ x4_1) = true := decide_eq_true c7; clear c7; obtain ⟨t306, A8, H⟩ := bnd7_ H
      by_cases c9 : t306 = true
      ·
       subst c9; rw [if_pos rfl] at H; have H' := Aside0.mk H; clear H; have p305 : 0 ≤ (x4_1 : Int) := of_decide_eq_true s3_; have q305 : x4_1 < (l0.length : Int) := of_decide_eq_true s3_; obtain ⟨ad305, e305, hx305_0⟩ := Kd.at_int HR0.out x4_1 p305 q305
       cases e305
       replace hx305_0 := (HB.out.cell (World.block_lt_of_cell? w _ hx305_0)).trans hx305_0; replace p305 := eq_true p305; replace q305 := eq_true q305; obtain ⟨Ao10, co10, eo10⟩ := Kd.R_slice HO_3.out; subst eo10
       go_wp2_with (first | (refine gL_ 133 23 Tryz.func133 #[.slice Ao10 x3_1.length co10, .int .i64 (rd l0 x4_1)] ?_; (with_reducible refine (spec_l2In.calls k1 _ _ x3_1 (rd l0 x4_1) true _ ?side1 ?side2 A8.out).mono ?_); (case side1 => exact q7_2); (case side2 => exact (Kd.R_reads' HO_3.out).2.1); rintro e w' ⟨rfl, ⟨nd, rfl⟩⟩; refine ⟨_, rfl, ?_⟩))
       go_roundg k1
       case measure => have := HK1.out; omega
       case rel => exact ⟨(x3_1), (wrap64 (x4_1 + 1)), s2_, H', ⟨by have := HK1.out; omega⟩, ⟨s9_⟩, ⟨s1_⟩⟩
      ·
       replace c9 := Bool.eq_false_iff.mpr c9; subst c9
       rw [if_neg (show ¬ (false = true) by decide)] at H
       have H' := Aside0.mk H; clear H; have p305 : 0 ≤ (x4_1 : Int) := of_decide_eq_true s3_; have q305 : x4_1 < (l0.length : Int) := of_decide_eq_true s3_; obtain ⟨ad305, e305, hx305_0⟩ := Kd.at_int HR0.out x4_1 p305 q305
       cases e305
       replace hx305_0 := (HB.out.cell (World.block_lt_of_cell? w _ hx305_0)).trans hx305_0; replace p305 := eq_true p305; replace q305 := eq_true q305; obtain ⟨Ao11, co11, eo11⟩ := Kd.R_slice HO_3.out; subst eo11
       go_wp2_with (first | (refine gL_ 133 23 Tryz.func133 #[.slice Ao11 x3_1.length co11, .int .i64 (rd l0 x4_1)] ?_; (with_reducible refine (spec_l2In.calls k1 _ _ x3_1 (rd l0 x4_1) false _ ?side1 ?side2 A8.out).mono ?_); (case side1 => exact q7_2); (case side2 => exact (Kd.R_reads' HO_3.out).2.1); rintro e w' ⟨rfl, ⟨nd, rfl⟩⟩; refine ⟨_, rfl, ?_⟩))
       go_loopg [5] k1 (fun kq v5 w' => ∃ (x5_2 : Int), v5 = .int .i64 x5_2 ∧ Aside0 (spec_SortLectic.l1 kq l0 x3_1 x4_1 x5_2 = some r) ∧ Aside0 (kq ≤ k1) ∧ Aside0 (Kd.R (Kd.int .i64) 3 w' w.heap.size (fun _ => True) (.slice Ao11 x3_1.length co11) x3_1) ∧ Aside0 (Below w.heap.size w w'))
       case atStart => exact ⟨(0), s2_, H', ⟨Nat.le_refl _⟩, ⟨s9_⟩, ⟨s1_⟩⟩
       case round =>
        clear H'
        try clear c1
        try clear c2
        try clear p2
        try clear c3
        try clear p3
        try clear q3
        try clear hx3
        try clear c6
        try clear c6b0
        try clear p6
        try clear c7
        try clear c7b0
        try clear c9
        try clear hx305_0
        try clear p2
        try clear p305
        try clear q305
        obtain ⟨x5_2, rfl, HA, HK2, HO_3, HB⟩ := hrel
        cases gk with
        | zero => exact absurd HA.out (by simp [spec_SortLectic.l1])
        | succ k2 =>
         have H := HA.out; clear HA
         simp only [spec_SortLectic.l1] at H
         by_cases c12 : x5_2 < (x3_1.length : Int)
         ·
          rw [if_pos c12] at H; have c12b0 : decide (x5_2 < (x3_1.length : Int)) = true := decide_eq_true c12; clear c12
          by_cases c13 : 0 ≤ x5_2
          ·
           rw [if_pos c13] at H; have c13b0 : decide (0 ≤ x5_2) = true := decide_eq_true c13; clear c13
           by_cases c14 : 0 ≤ x4_1
           ·
            rw [if_pos c14] at H; have c14b0 : decide (0 ≤ x4_1) = true := decide_eq_true c14; clear c14
            by_cases c15 : x4_1 < (l0.length : Int)
            ·
             rw [if_pos c15] at H; have c15b0 : decide (x4_1 < (l0.length : Int)) = true := decide_eq_true c15; clear c15; obtain ⟨t309, A16, H⟩ := bnd7_ H
             by_cases c17 : t309 = true
             ·
              subst c17; rw [if_pos rfl] at H; have H' := Aside0.mk H; clear H
              try go_wp2
              have n0_ := Aside0.mk (Kd.R_drew HO_3.out); have n1_ := Aside0.mk (below_drew1 HB.out); clear HO_3; clear HB; have HO_3 := n0_; have HB := n1_; clear n0_ n1_; have p307 : 0 ≤ (x5_2 : Int) := of_decide_eq_true s3_; have q307 : x5_2 < (x3_1.length : Int) := of_decide_eq_true s3_; obtain ⟨ad307, e307, hx307_0⟩ := Kd.at_int (Kd.R_reads' HO_3.out).2.2 x5_2 p307 q307
              cases e307
              replace p307 := eq_true p307; replace q307 := eq_true q307; have p308 : 0 ≤ (x4_1 : Int) := of_decide_eq_true s3_; have q308 : x4_1 < (l0.length : Int) := of_decide_eq_true s3_; obtain ⟨ad308, e308, hx308_0⟩ := Kd.at_int HR0.out x4_1 p308 q308; have hw308_0 := hx308_0
              obtain rfl : ad305 = ad308 := (by injection e308)
              replace hx308_0 := (HB.out.cell (World.block_lt_of_cell? w _ hx308_0)).trans hx308_0; replace p308 := eq_true p308; replace q308 := eq_true q308
              refine start_ (n := 15) (S := fun w' => w'.cell? (ad307.add (x5_2).toNat) = some (.int .i64 (rd x3_1 x5_2)) ∧ w'.cell? (ad305.add (x4_1).toNat) = some (.int .i64 (rd l0 x4_1))) (ds := []) (tb_ 15 0) s12_ rfl rfl ⟨hx307_0, ((HB.out.cell (World.block_lt_of_cell? w _ hw308_0)).trans hw308_0)⟩ (fun hHeld => ?_); refine with_tabW spec_SortLectic.tab9 spec_SortLectic.bits9 (fun HT_ HW_ => ?_)
              generalize wr.drew = w18 at HO_3 HB hx307_0 hx308_0 hHeld ⊢
              refine pl_ 0 24 (tb_ 15 1) ?_; refine pl_ 1 25 (tb_ 15 3) ?_; refine pl_ 2 26 (tb_ 15 7) ?_; refine pl_ 3 27 (tb_ 15 15) ?_; refine pl_ 4 28 (tb_ 15 31) ?_; refine pl_ 5 29 (tb_ 15 63) ?_; refine pl_ 6 30 (tb_ 15 127) ?_; refine pl_ 7 31 (tb_ 15 255) ?_; refine pl_ 9 33 (tb_ 15 767) ?_; refine pl_ 10 34 (tb_ 15 1791) ?_; refine pl_ 11 35 (tb_ 15 3839) ?_; refine tk_ 8 32 (tb_ 15 4095) hHeld ?_; refine tk_ 12 36 (tb_ 15 8191) hHeld ?_
              refine on_ 13 37 (tb_ 15 16383) (fun K hK => ?_)
              refine goes_ Tryz.func134 s12_ rfl #[.int .i64 (rd x3_1 x5_2), .int .i64 (rd l0 x4_1)] (by rfl) rfl rfl s0_ ?_
              with_reducible refine (spec_BeforeSet.calls (rd x3_1 x5_2) (rd l0 x4_1) true _ A16.out).mono ?_
              rintro e w' ⟨rfl, ⟨nd, rfl⟩⟩
              refine ⟨_, rfl, ?_⟩
              refine hK.out _ _ ⟨hHeld.1, ((HB.out.cell (World.block_lt_of_cell? w _ hw308_0)).trans hw308_0)⟩ (fun hHeld => ?_)
              clear hK K
              refine norm_ (a' := ?_) ?_ ?_
              rotate_left
              ·
               show Act.put _ (some 37) _ = _
               exact s14_
              refine pl_ 14 38 (tb_ 15 32767) ?_
              refine done_ (done_of HT_.out s12_) ?_
              try go_wp2
              go_roundg k2
              case measure => have := HK1.out; have := HK2.out; omega
              case rel => exact ⟨(wrap64 (x5_2 + 1)), s2_, H', ⟨by have := HK1.out; have := HK2.out; omega⟩, ⟨s9_⟩, ⟨s1_⟩⟩
             ·
              replace c17 := Bool.eq_false_iff.mpr c17; subst c17
              rw [if_neg (show ¬ (false = true) by decide)] at H
              obtain ⟨y310, hy310⟩ : ∃ y_ : List Int, y_ = (([] : List Int)) := ⟨_, rfl⟩
              replace H : (if x5_2 ≤ (x3_1.length : Int) then ((some (x3_1.drop (x5_2 : Int).toNat : List Int)).bind fun y313 => (if y310.length + y313.length < 17592186044416 then ((some (y310 ++ y313 : List Int)).bind fun y317 => ((some (x3_1.take (x5_2 : Int).toNat : List Int)).bind fun y320 => (if y320.length < 17592186044416 then ((some (y320 ++ [rd l0 x4_1] : List Int)).bind fun y324 => (if y324.length + y317.length < 17592186044416 then (spec_SortLectic.l0 k2 l0 (y324 ++ y317) (wrap64 (x4_1 + 1))) else (none))) else (none)))) else (none))) else (none)) = some r := by first | (rw [hy310]; with_reducible exact H) | (have H2_ := (Option.bind_some _ _).symm.trans H; rw [hy310]; with_reducible exact H2_) | (have H2_ := (Option.bind_some _ _).symm.trans H; with_reducible exact H2_) | with_reducible exact H | (rw [hy310]; exact H) | exact H
              have Ny310 := Aside0.mk hy310; clear hy310; have c19b0 := eq_true (of_decide_eq_true s3_ : 0 ≤ x5_2)
              by_cases c20 : x5_2 ≤ (x3_1.length : Int)
              ·
               rw [if_pos c20] at H; have c20b0 := eq_true c20; have c20b1 : decide (x5_2 ≤ (x3_1.length : Int)) = true := decide_eq_true c20; clear c20; obtain ⟨y313, hy313⟩ : ∃ y_ : List Int, y_ = (x3_1.drop (x5_2 : Int).toNat) := ⟨_, rfl⟩
               replace H : (if y310.length + y313.length < 17592186044416 then ((some (y310 ++ y313 : List Int)).bind fun y317 => ((some (x3_1.take (x5_2 : Int).toNat : List Int)).bind fun y320 => (if y320.length < 17592186044416 then ((some (y320 ++ [rd l0 x4_1] : List Int)).bind fun y324 => (if y324.length + y317.length < 17592186044416 then (spec_SortLectic.l0 k2 l0 (y324 ++ y317) (wrap64 (x4_1 + 1))) else (none))) else (none)))) else (none)) = some r := by first | (rw [hy313]; with_reducible exact H) | (have H2_ := (Option.bind_some _ _).symm.trans H; rw [hy313]; with_reducible exact H2_) | (have H2_ := (Option.bind_some _ _).symm.trans H; with_reducible exact H2_) | with_reducible exact H | (rw [hy313]; exact H) | exact H
               have Ny313 := Aside0.mk hy313; clear hy313
               by_cases c21 : y310.length + y313.length < 17592186044416
               ·
                rw [if_pos c21] at H; have LMc21 := Aside0.mk c21; clear c21; obtain ⟨y317, hy317⟩ : ∃ y_ : List Int, y_ = (y310 ++ y313) := ⟨_, rfl⟩
                replace H : ((some (x3_1.take (x5_2 : Int).toNat : List Int)).bind fun y320 => (if y320.length < 17592186044416 then ((some (y320 ++ [rd l0 x4_1] : List Int)).bind fun y324 => (if y324.length + y317.length < 17592186044416 then (spec_SortLectic.l0 k2 l0 (y324 ++ y317) (wrap64 (x4_1 + 1))) else (none))) else (none))) = some r := by first | (rw [hy317]; with_reducible exact H) | (have H2_ := (Option.bind_some _ _).symm.trans H; rw [hy317]; with_reducible exact H2_) | (have H2_ := (Option.bind_some _ _).symm.trans H; with_reducible exact H2_) | with_reducible exact H | (rw [hy317]; exact H) | exact H
                have Ny317 := Aside0.mk hy317; clear hy317; have c22b0 := eq_true (of_decide_eq_true s3_ : x5_2 ≤ (x3_1.length : Int)); obtain ⟨y320, hy320⟩ : ∃ y_ : List Int, y_ = (x3_1.take (x5_2 : Int).toNat) := ⟨_, rfl⟩
                replace H : (if y320.length < 17592186044416 then ((some (y320 ++ [rd l0 x4_1] : List Int)).bind fun y324 => (if y324.length + y317.length < 17592186044416 then (spec_SortLectic.l0 k2 l0 (y324 ++ y317) (wrap64 (x4_1 + 1))) else (none))) else (none)) = some r := by first | (rw [hy320]; with_reducible exact H) | (have H2_ := (Option.bind_some _ _).symm.trans H; rw [hy320]; with_reducible exact H2_) | (have H2_ := (Option.bind_some _ _).symm.trans H; with_reducible exact H2_) | with_reducible exact H | (rw [hy320]; exact H) | exact H
                have Ny320 := Aside0.mk hy320; clear hy320
                by_cases c23 : y320.length < 17592186044416
                ·
                 rw [if_pos c23] at H; have LMc23 := Aside0.mk c23; clear c23; obtain ⟨y324, hy324⟩ : ∃ y_ : List Int, y_ = (y320 ++ [rd l0 x4_1]) := ⟨_, rfl⟩
                 replace H : (if y324.length + y317.length < 17592186044416 then (spec_SortLectic.l0 k2 l0 (y324 ++ y317) (wrap64 (x4_1 + 1))) else (none)) = some r := by first | (rw [hy324]; with_reducible exact H) | (have H2_ := (Option.bind_some _ _).symm.trans H; rw [hy324]; with_reducible exact H2_) | (have H2_ := (Option.bind_some _ _).symm.trans H; with_reducible exact H2_) | with_reducible exact H | (rw [hy324]; exact H) | exact H
                 have Ny324 := Aside0.mk hy324; clear hy324
                 by_cases c24 : y324.length + y317.length < 17592186044416
                 ·
                  rw [if_pos c24] at H; have LMc24 := Aside0.mk c24; clear c24; obtain ⟨y327, hy327⟩ : ∃ y_ : List Int, y_ = (y324 ++ y317) := ⟨_, rfl⟩
                  replace H : (spec_SortLectic.l0 k2 l0 y327 (wrap64 (x4_1 + 1))) = some r := by first | (rw [hy327]; with_reducible exact H) | (have H2_ := (Option.bind_some _ _).symm.trans H; rw [hy327]; with_reducible exact H2_) | (have H2_ := (Option.bind_some _ _).symm.trans H; with_reducible exact H2_) | with_reducible exact H | (rw [hy327]; exact H) | exact H
                  have Ny327 := Aside0.mk hy327; clear hy327; have H' := Aside0.mk H; clear H
                  try go_wp2
                  have n0_ := Aside0.mk (Kd.R_drew HO_3.out); have n1_ := Aside0.mk (below_drew1 HB.out); clear HO_3; clear HB; have HO_3 := n0_; have HB := n1_; clear n0_ n1_; have p307 : 0 ≤ (x5_2 : Int) := of_decide_eq_true s3_; have q307 : x5_2 < (x3_1.length : Int) := of_decide_eq_true s3_; obtain ⟨ad307, e307, hx307_0⟩ := Kd.at_int (Kd.R_reads' HO_3.out).2.2 x5_2 p307 q307
                  cases e307
                  replace p307 := eq_true p307; replace q307 := eq_true q307; have p308 : 0 ≤ (x4_1 : Int) := of_decide_eq_true s3_; have q308 : x4_1 < (l0.length : Int) := of_decide_eq_true s3_; obtain ⟨ad308, e308, hx308_0⟩ := Kd.at_int HR0.out x4_1 p308 q308; have hw308_0 := hx308_0
                  obtain rfl : ad305 = ad308 := (by injection e308)
                  replace hx308_0 := (HB.out.cell (World.block_lt_of_cell? w _ hx308_0)).trans hx308_0; replace p308 := eq_true p308; replace q308 := eq_true q308
                  refine start_ (n := 15) (S := fun w' => w'.cell? (ad307.add (x5_2).toNat) = some (.int .i64 (rd x3_1 x5_2)) ∧ w'.cell? (ad305.add (x4_1).toNat) = some (.int .i64 (rd l0 x4_1))) (ds := []) (tb_ 15 0) s12_ rfl rfl ⟨hx307_0, ((HB.out.cell (World.block_lt_of_cell? w _ hw308_0)).trans hw308_0)⟩ (fun hHeld => ?_); refine with_tabW spec_SortLectic.tab9 spec_SortLectic.bits9 (fun HT_ HW_ => ?_)
                  generalize wr.drew = w25 at HO_3 HB hx307_0 hx308_0 hHeld ⊢
                  refine pl_ 0 24 (tb_ 15 1) ?_; refine pl_ 1 25 (tb_ 15 3) ?_; refine pl_ 2 26 (tb_ 15 7) ?_; refine pl_ 3 27 (tb_ 15 15) ?_; refine pl_ 4 28 (tb_ 15 31) ?_; refine pl_ 5 29 (tb_ 15 63) ?_; refine pl_ 6 30 (tb_ 15 127) ?_; refine pl_ 7 31 (tb_ 15 255) ?_; refine pl_ 9 33 (tb_ 15 767) ?_; refine pl_ 10 34 (tb_ 15 1791) ?_; refine pl_ 11 35 (tb_ 15 3839) ?_; refine tk_ 8 32 (tb_ 15 4095) hHeld ?_; refine tk_ 12 36 (tb_ 15 8191) hHeld ?_
                  refine on_ 13 37 (tb_ 15 16383) (fun K hK => ?_)
                  refine goes_ Tryz.func134 s12_ rfl #[.int .i64 (rd x3_1 x5_2), .int .i64 (rd l0 x4_1)] (by rfl) rfl rfl s0_ ?_
                  with_reducible refine (spec_BeforeSet.calls (rd x3_1 x5_2) (rd l0 x4_1) false _ A16.out).mono ?_
                  rintro e w' ⟨rfl, ⟨nd, rfl⟩⟩
                  refine ⟨_, rfl, ?_⟩
                  refine hK.out _ _ ⟨hHeld.1, ((HB.out.cell (World.block_lt_of_cell? w _ hw308_0)).trans hw308_0)⟩ (fun hHeld => ?_)
                  clear hK K
                  refine norm_ (a' := ?_) ?_ ?_
                  rotate_left
                  ·
                   show Act.put _ (some 37) _ = _
                   exact s14_
                  refine pl_ 14 38 (tb_ 15 32767) ?_
                  refine done_ (done_of HT_.out s12_) ?_
                  try go_wp2_with (first | ((with_reducible refine gate_dst (N := 41) rfl ?_); refine Kd.R_lit (Kd.int .i64) _ 3 ?hg (N := 41) ?hd (xs := ([] : List Int)) (inner := []) (ok := fun _ => True) (okp := fun _ => True) ?hr ?hp (fun _ hk => hk) trivial (Below.refl _ _) (Nat.le_refl _) (by simp) ?_; (case hd => rfl); (case hg => rfl); (case hr => first | (go_simp; done) | (go_simp; rfl)); (case hp => exact (Reps.none _ _)); intro v311 w26 ho27 hb hg_ hnew_; clear hg_ hnew_; (first | rw [← Ny310.out] at ho27 | (simp only [Int.reduceToNat] at ho27; rw [← Ny310.out] at ho27)); have n_ := ac_ (Kd.R_elder' s9_ (Kd.R_base ho27) hb) <| ac_ (Kd.R_lower (Kd.R_new' ho27 (Kd.R_lt s9_)) (below_size s1_)) <| Aside0.mk (below_step s1_ hb); clear HO_3 HB; obtain ⟨HO_3, HO312, HB⟩ := n_; clear hb ho27; have q28 : (x5_2 : Int) ≤ ((x3_1.length : Int) : Int) := of_decide_eq_true s3_; obtain ⟨i028, hi028, _, hsz28, _⟩ := info_parts info3; have hroom28 : x3_1.length ≤ co11 := (Kd.R_reads' HO_3.out).2.1; have hC28 : Kd.C (Kd.int .i64) _ (some ad307) x3_1.length x3_1 := (Kd.R_reads' HO_3.out).2.2; have q028 : (0 : Int) ≤ (x5_2 : Int) := of_decide_eq_true s3_; have hcut28 := cut_from (P := Tryz.prog) 27 3 .i64 Tryz.underlying27 hi028 1 hsz28 (some ad307) x3_1.length co11 x5_2 q028 q28; have hr28 := Kd.C_drop (m := (x5_2 : Int).toNat) (c := co11) hC28 (by omega) hroom28; obtain ⟨A28, hA28⟩ : ∃ A1, A1 = (if co11 = (x5_2 : Int).toNat then (some ad307) else ((some ad307) : Option Addr).map (·.add ((x5_2 : Int).toNat * 1))) := ⟨_, rfl⟩; obtain ⟨c28, hc28⟩ : ∃ c1, c1 = co11 - (x5_2 : Int).toNat := ⟨_, rfl⟩; have hy28 : y313.length = x3_1.length - (x5_2 : Int).toNat := (by rw [Ny313.out, List.length_drop] <;> omega); rw [show (x3_1).drop (x5_2 : Int).toNat = y313 from Ny313.out.symm] at hr28; replace hr28 : Kd.C (Kd.int .i64) _ A28 y313.length y313 := (by rw [hA28]; exact hr28); rw [← hy28, ← hA28, ← hc28] at hcut28; have HR316 := Aside0.mk hr28; have HC316 := Aside0.mk (show y313.length ≤ c28 from by rw [hy28, hc28]; exact Nat.sub_le_sub_right hroom28 _); clear hr28 hC28 hroom28 hi028 hsz28 hc28; have KY28 := Aside0.mk hy28; have KA28 := Aside0.mk hA28; clear hy28 hA28; have KL28 := Aside0.mk (show (x5_2 : Int).toNat ≤ x3_1.length from by omega); replace q28 := eq_true q28) | ((with_reducible refine gate_builtin (b := .append) (xs := #[.tmp 41, .tmp 44]) rfl ?_); at_builtin; refine Kd.R_append_rows (Kd.int .i64) (w0 := w) w.heap.size rfl (.tmp 41) (.tmp 44) 27 3 (.int .i64 0) 8 rfl Tryz.underlying27 info3 rfl (by decide) (by omega) v311 y310 y313 _ _ _ (fun k_ => some k_ ≠ (.slice (some ad307) x3_1.length co11 : Value).ownBlock) (fun _ => False) rfl rfl ?aO ?aR (fun _ _ h => h) (fun _ h => h.elim) ?aF ?aB ?aS ?aL ?_; (case aR => repeat (first | exact (by repeat (first | (with_reducible exact HR316.out) | (with_reducible refine Kd.C_alloc ?_ _) | (with_reducible refine Kd.C_drewN ?_ _) | (with_reducible refine Kd.C_drew ?_) | exact HR316.out)) | (with_reducible refine Kd.C_alloc ?_ _) | (with_reducible refine Kd.C_drewN ?_ _) | (with_reducible refine Kd.C_drew ?_))); (case aB => exact s1_); (case aF => exact (fun k_ hk => Kd.fresh' (Kd.R_lt s9_) k_ hk)); (case aO => exact (by (with_reducible repeat (first | apply Kd.R_alloc | apply Kd.R_drewN | apply Kd.R_drew)); exact Kd.R_mono HO312.out (fun _ hk => hk.2))); (case aS => exact (below_size s1_)); (case aL => have := LMc21.out; omega); intro v318 w29 ho hb hg hat; rw [← Ny317.out] at ho; have n_ := ac_ (Kd.R_after (ok := (fun _ => True)) s9_ hg hat) <| ac_ (hb) <| ac_ ((show Kd.C (Kd.int .i64) w29 A28 y313.length y313 from by rw [Ny313.out, KA28.out]; exact Kd.C_drop (m := (x5_2 : Int).toNat) (c := co11) ((Kd.R_reads' (Kd.R_after (ok := (fun _ => True)) s9_ hg hat)).2.2) KL28.out ((Kd.R_reads' (Kd.R_after (ok := (fun _ => True)) s9_ hg hat)).2.1))) <| Aside0.mk (ho); clear HO_3 HB HR316 HO312; obtain ⟨HO_3, HB, HR316, HO319⟩ := n_; clear ho hb hg hat))
                  have n0_ := Aside0.mk (Kd.R_drew HO_3.out); have n1_ := Aside0.mk (Kd.R_drew HO319.out); have n2_ := Aside0.mk (Kd.C_drew HR316.out); have n3_ := Aside0.mk (below_drew1 HB.out); clear HO_3; clear HO319; clear HR316; clear HB; have HO_3 := n0_; have HO319 := n1_; have HR316 := n2_; have HB := n3_; clear n0_ n1_ n2_ n3_; have q31 : (x5_2 : Int) ≤ ((x3_1.length : Int) : Int) := of_decide_eq_true s3_; obtain ⟨i031, hi031, _, hsz31, _⟩ := info_parts info3; have hcut31 := cut_to (P := Tryz.prog) 27 3 .i64 Tryz.underlying27 hi031 (some ad307) x3_1.length co11 x5_2 (of_decide_eq_true s3_) q31 (Kd.R_reads' HO_3.out).2.1
                  have hr31 := Kd.R_take (m := (x5_2 : Int).toNat) HO_3.out (by omega)
                  have hy31 : y320.length = (x5_2 : Int).toNat := (by rw [Ny320.out, List.length_take]; omega)
                  rw [← Ny320.out] at hr31; rw [← hy31] at hr31 hcut31; clear hy31 hi031 hsz31 HO_3; have HO322 := Aside0.mk hr31; clear hr31; replace q31 := eq_true q31; have p323 : 0 ≤ (x4_1 : Int) := of_decide_eq_true s3_; have q323 : x4_1 < (l0.length : Int) := of_decide_eq_true s3_; obtain ⟨ad323, e323, hx323_0⟩ := Kd.at_int HR0.out x4_1 p323 q323; have hw323_0 := hx323_0
                  obtain rfl : ad305 = ad323 := (by injection e323)
                  replace hx323_0 := (HB.out.cell (World.block_lt_of_cell? w _ hx323_0)).trans hx323_0; replace p323 := eq_true p323; replace q323 := eq_true q323
                  refine start_ (n := 12) (S := fun w' => w'.cell? (ad305.add (x4_1).toNat) = some (.int .i64 (rd l0 x4_1))) (ds := []) (tb_ 12 0) s12_ rfl rfl (((HB.out.cell (World.block_lt_of_cell? w _ hw323_0)).trans hw323_0)) (fun hHeld => ?_); refine with_tabW spec_SortLectic.tab12 spec_SortLectic.bits12 (fun HT_ HW_ => ?_)
                  generalize w29.drew = w30 at HO_3 HO319 HR316 HB HO322 hx323_0 hHeld ⊢
                  refine pl_ 0 46 (tb_ 12 1) ?_; refine pl_ 1 47 (tb_ 12 3) ?_; refine pl_ 2 48 (tb_ 12 7) ?_; refine pl_ 3 49 (tb_ 12 15) ?_; refine pl_ 4 50 (tb_ 12 31) ?_; refine pl_ 5 51 (tb_ 12 63) ?_; refine pl_ 9 55 (tb_ 12 575) ?_; refine tk_ 6 52 (tb_ 12 639) hHeld ?_
                  refine on_ 7 53 (tb_ 12 767) (fun K hK => ?_)
                  refine value_ (w1 := ?_) (v := ?_) (by rfl) rfl ?_ ?_
                  rotate_left 2
                  ·
                   go_simp
                   constructor
                   ·
                    rfl
                   ·
                    rfl
                  refine hK.out _ _ ((World.cell?_alloc_lt _ _ _ (World.block_lt_of_cell? _ _ (((HB.out.cell (World.block_lt_of_cell? w _ hw323_0)).trans hw323_0)))).trans (((HB.out.cell (World.block_lt_of_cell? w _ hw323_0)).trans hw323_0))) (fun hHeld => ?_)
                  clear hK K
                  refine norm_ (a' := ?_) ?_ ?_
                  rotate_left
                  ·
                   show Act.put _ (some 53) _ = _
                   exact s14_
                  refine on_ 8 54 (tb_ 12 1023) (fun K hK => ?_)
                  refine Kd.R_append_step (Kd.int .i64) (w0 := w) w.heap.size (by rfl) (.tmp 48) (.tmp 53) 27 3 (.int .i64 0) 8 rfl Tryz.underlying27 info3 rfl (by decide) (by omega) (.slice (some ad307) y320.length co11) y320 (rd l0 x4_1) [.int .i64 (rd l0 x4_1)] (fun k_ => some k_ ≠ (v318 : Value).ownBlock) (fun _ => False) rfl rfl ?aP (fun _ hk => hk.elim) ?aF ?aO ?aB ?aS ?aL ?_
                  (case aP => exact rfl)
                  (case aB => exact s1_)
                  (case aF => exact (fun k_ hk => Kd.fresh' (Kd.R_lt q7_5) k_ hk))
                  (case aO => exact (by (with_reducible repeat (first | apply Kd.R_alloc | apply Kd.R_drewN | apply Kd.R_drew)); exact Kd.R_mono HO322.out (fun _ hk => hk.2)))
                  (case aS => exact (below_size s1_))
                  (case aL => have := LMc23.out; omega)
                  intro v325 w32 ho hb hg hat
                  rw [← Ny324.out] at ho
                  have n0_ := Aside0.mk (Kd.R_after (ok := (fun _ => True)) (by (with_reducible repeat (first | apply Kd.R_alloc | apply Kd.R_drewN | apply Kd.R_drew)); exact Kd.R_mono HO319.out (fun _ hk => ⟨trivial, by first | exact hk | exact own_any hk⟩)) hg hat)
                  have n1_ := Aside0.mk (hb); have n2_ := Aside0.mk (ho); clear HO319; clear HB; clear HO322; have HO319 := n0_; have HB := n1_; have HO326 := n2_; clear n0_ n1_ n2_; clear ho hb hg hat; obtain ⟨Ao34, co34, eo34⟩ := Kd.R_slice HO319.out
                  (first | subst eo34 | (injection eo34 with f1_ f2_ f3_; have f4_ := f1_.symm; have f5_ := f3_.symm; clear f1_ f2_ f3_; subst f4_; subst f5_))
                  refine hK.out _ _ (((HB.out.cell (World.block_lt_of_cell? w _ hw323_0)).trans hw323_0)) (fun hHeld => ?_)
                  clear hK K
                  refine norm_ (a' := ?_) ?_ ?_
                  rotate_left
                  ·
                   show Act.put _ (some 54) _ = _
                   exact s14_
                  refine on_ 10 56 (tb_ 12 2047) (fun K hK => ?_)
                  refine Kd.R_append_rows_step (Kd.int .i64) (w0 := w) w.heap.size (by rfl) (.tmp 54) (.tmp 55) 27 3 (.int .i64 0) 8 rfl Tryz.underlying27 info3 rfl (by decide) (by omega) v325 y324 y317 _ _ _ (fun k_ => some k_ ≠ (.slice Ao34 y317.length co34 : Value).ownBlock) (fun _ => False) rfl rfl ?aO ?aR (fun _ _ h => h) (fun _ h => h.elim) ?aF ?aB ?aS ?aL ?_
                  (case aR => repeat (first | exact (Kd.R_reads' HO319.out).2.2 | (with_reducible refine Kd.C_alloc ?_ _) | (with_reducible refine Kd.C_drewN ?_ _) | (with_reducible refine Kd.C_drew ?_)))
                  (case aB => exact s1_)
                  (case aF => exact (fun k_ hk => Kd.fresh' (Kd.R_lt q7_5) k_ hk))
                  (case aO => exact (by (with_reducible repeat (first | apply Kd.R_alloc | apply Kd.R_drewN | apply Kd.R_drew)); exact HO326.out))
                  (case aS => exact (below_size s1_))
                  (case aL => have := LMc24.out; omega)
                  intro v328 w33 ho hb hg hat
                  rw [← Ny327.out] at ho
                  have n0_ := Aside0.mk (Kd.R_after (ok := (fun _ => True)) q7_5 hg hat)
                  have n1_ := Aside0.mk (hb); have n2_ := Aside0.mk (ho); clear HO319; clear HB; clear HO326; have HO319 := n0_; have HB := n1_; have HO329 := n2_; clear n0_ n1_ n2_; clear ho hb hg hat
                  refine hK.out _ _ (((HB.out.cell (World.block_lt_of_cell? w _ hw323_0)).trans hw323_0)) (fun hHeld => ?_)
                  clear hK K
                  refine norm_ (a' := ?_) ?_ ?_
                  rotate_left
                  ·
                   show Act.put _ (some 56) _ = _
                   exact s14_
                  refine pl_ 11 3 (tb_ 12 4095) ?_
                  refine done_ (done_of HT_.out s12_) ?_
                  try go_wp2
                  go_roundg k2
                  case measure => have := HK1.out; have := HK2.out; omega
                  case rel => exact ⟨(y327), (wrap64 (x4_1 + 1)), s2_, H', ⟨by have := HK1.out; have := HK2.out; omega⟩, ⟨(by (with_reducible repeat (first | apply Kd.R_alloc | apply Kd.R_drewN | apply Kd.R_drew)); exact Kd.R_mono HO329.out (fun _ hk => trivial))⟩, ⟨s1_⟩⟩
                 ·
                  rw [if_neg c24] at H
                  exact absurd H (by simp)
                ·
                 rw [if_neg c23] at H
                 exact absurd H (by simp)
               ·
                rw [if_neg c21] at H
                exact absurd H (by simp)
              ·
               rw [if_neg c20] at H
               exact absurd H (by simp)
            ·
             rw [if_neg c15] at H
             exact absurd H (by simp)
           ·
            rw [if_neg c14] at H
            exact absurd H (by simp)
          ·
           rw [if_neg c13] at H
           exact absurd H (by simp)
         ·
          rw [if_neg c12] at H; have c12b0 : decide (x5_2 < (x3_1.length : Int)) = false := decide_eq_false c12; clear c12; obtain ⟨y330, hy330⟩ : ∃ y_ : List Int, y_ = (([] : List Int)) := ⟨_, rfl⟩
          replace H : (if 0 ≤ x5_2 then (if x5_2 ≤ (x3_1.length : Int) then ((some (x3_1.drop (x5_2 : Int).toNat : List Int)).bind fun y333 => (if y330.length + y333.length < 17592186044416 then ((some (y330 ++ y333 : List Int)).bind fun y337 => ((some (x3_1.take (x5_2 : Int).toNat : List Int)).bind fun y340 => (if 0 ≤ x4_1 then (if x4_1 < (l0.length : Int) then (if y340.length < 17592186044416 then ((some (y340 ++ [rd l0 x4_1] : List Int)).bind fun y344 => (if y344.length + y337.length < 17592186044416 then (spec_SortLectic.l0 k2 l0 (y344 ++ y337) (wrap64 (x4_1 + 1))) else (none))) else (none)) else (none)) else (none)))) else (none))) else (none)) else (none)) = some r := by first | (rw [hy330]; with_reducible exact H) | (have H2_ := (Option.bind_some _ _).symm.trans H; rw [hy330]; with_reducible exact H2_) | (have H2_ := (Option.bind_some _ _).symm.trans H; with_reducible exact H2_) | with_reducible exact H | (rw [hy330]; exact H) | exact H
          have Ny330 := Aside0.mk hy330; clear hy330
          by_cases c35 : 0 ≤ x5_2
          ·
           rw [if_pos c35] at H; have c35b0 := eq_true c35; have c35b1 : decide (0 ≤ x5_2) = true := decide_eq_true c35; clear c35
           by_cases c36 : x5_2 ≤ (x3_1.length : Int)
           ·
            rw [if_pos c36] at H; have c36b0 := eq_true c36; have c36b1 : decide (x5_2 ≤ (x3_1.length : Int)) = true := decide_eq_true c36; clear c36; obtain ⟨y333, hy333⟩ : ∃ y_ : List Int, y_ = (x3_1.drop (x5_2 : Int).toNat) := ⟨_, rfl⟩
            replace H : (if y330.length + y333.length < 17592186044416 then ((some (y330 ++ y333 : List Int)).bind fun y337 => ((some (x3_1.take (x5_2 : Int).toNat : List Int)).bind fun y340 => (if 0 ≤ x4_1 then (if x4_1 < (l0.length : Int) then (if y340.length < 17592186044416 then ((some (y340 ++ [rd l0 x4_1] : List Int)).bind fun y344 => (if y344.length + y337.length < 17592186044416 then (spec_SortLectic.l0 k2 l0 (y344 ++ y337) (wrap64 (x4_1 + 1))) else (none))) else (none)) else (none)) else (none)))) else (none)) = some r := by first | (rw [hy333]; with_reducible exact H) | (have H2_ := (Option.bind_some _ _).symm.trans H; rw [hy333]; with_reducible exact H2_) | (have H2_ := (Option.bind_some _ _).symm.trans H; with_reducible exact H2_) | with_reducible exact H | (rw [hy333]; exact H) | exact H
            have Ny333 := Aside0.mk hy333; clear hy333
            by_cases c37 : y330.length + y333.length < 17592186044416
            ·
             rw [if_pos c37] at H; have LMc37 := Aside0.mk c37; clear c37; obtain ⟨y337, hy337⟩ : ∃ y_ : List Int, y_ = (y330 ++ y333) := ⟨_, rfl⟩
             replace H : ((some (x3_1.take (x5_2 : Int).toNat : List Int)).bind fun y340 => (if 0 ≤ x4_1 then (if x4_1 < (l0.length : Int) then (if y340.length < 17592186044416 then ((some (y340 ++ [rd l0 x4_1] : List Int)).bind fun y344 => (if y344.length + y337.length < 17592186044416 then (spec_SortLectic.l0 k2 l0 (y344 ++ y337) (wrap64 (x4_1 + 1))) else (none))) else (none)) else (none)) else (none))) = some r := by first | (rw [hy337]; with_reducible exact H) | (have H2_ := (Option.bind_some _ _).symm.trans H; rw [hy337]; with_reducible exact H2_) | (have H2_ := (Option.bind_some _ _).symm.trans H; with_reducible exact H2_) | with_reducible exact H | (rw [hy337]; exact H) | exact H
             have Ny337 := Aside0.mk hy337; clear hy337; have c38b0 := eq_true (of_decide_eq_true s3_ : x5_2 ≤ (x3_1.length : Int)); obtain ⟨y340, hy340⟩ : ∃ y_ : List Int, y_ = (x3_1.take (x5_2 : Int).toNat) := ⟨_, rfl⟩
             replace H : (if 0 ≤ x4_1 then (if x4_1 < (l0.length : Int) then (if y340.length < 17592186044416 then ((some (y340 ++ [rd l0 x4_1] : List Int)).bind fun y344 => (if y344.length + y337.length < 17592186044416 then (spec_SortLectic.l0 k2 l0 (y344 ++ y337) (wrap64 (x4_1 + 1))) else (none))) else (none)) else (none)) else (none)) = some r := by first | (rw [hy340]; with_reducible exact H) | (have H2_ := (Option.bind_some _ _).symm.trans H; rw [hy340]; with_reducible exact H2_) | (have H2_ := (Option.bind_some _ _).symm.trans H; with_reducible exact H2_) | with_reducible exact H | (rw [hy340]; exact H) | exact H
             have Ny340 := Aside0.mk hy340; clear hy340
             by_cases c39 : 0 ≤ x4_1
             ·
              rw [if_pos c39] at H; have c39b0 : decide (0 ≤ x4_1) = true := decide_eq_true c39; clear c39
              by_cases c40 : x4_1 < (l0.length : Int)
              ·
               rw [if_pos c40] at H; have c40b0 : decide (x4_1 < (l0.length : Int)) = true := decide_eq_true c40; clear c40
               by_cases c41 : y340.length < 17592186044416
               ·
                rw [if_pos c41] at H; have LMc41 := Aside0.mk c41; clear c41; obtain ⟨y344, hy344⟩ : ∃ y_ : List Int, y_ = (y340 ++ [rd l0 x4_1]) := ⟨_, rfl⟩
                replace H : (if y344.length + y337.length < 17592186044416 then (spec_SortLectic.l0 k2 l0 (y344 ++ y337) (wrap64 (x4_1 + 1))) else (none)) = some r := by first | (rw [hy344]; with_reducible exact H) | (have H2_ := (Option.bind_some _ _).symm.trans H; rw [hy344]; with_reducible exact H2_) | (have H2_ := (Option.bind_some _ _).symm.trans H; with_reducible exact H2_) | with_reducible exact H | (rw [hy344]; exact H) | exact H
                have Ny344 := Aside0.mk hy344; clear hy344
                by_cases c42 : y344.length + y337.length < 17592186044416
                ·
                 rw [if_pos c42] at H; have LMc42 := Aside0.mk c42; clear c42; obtain ⟨y347, hy347⟩ : ∃ y_ : List Int, y_ = (y344 ++ y337) := ⟨_, rfl⟩
                 replace H : (spec_SortLectic.l0 k2 l0 y347 (wrap64 (x4_1 + 1))) = some r := by first | (rw [hy347]; with_reducible exact H) | (have H2_ := (Option.bind_some _ _).symm.trans H; rw [hy347]; with_reducible exact H2_) | (have H2_ := (Option.bind_some _ _).symm.trans H; with_reducible exact H2_) | with_reducible exact H | (rw [hy347]; exact H) | exact H
                 have Ny347 := Aside0.mk hy347; clear hy347; have H' := Aside0.mk H; clear H
                 try go_wp2
                 have n0_ := Aside0.mk (Kd.R_drew HO_3.out); have n1_ := Aside0.mk (below_drew1 HB.out); clear HO_3; clear HB; have HO_3 := n0_; have HB := n1_; clear n0_ n1_
                 refine start_ (n := 15) (S := fun w' => True) (ds := []) (tb_ 15 0) s12_ rfl rfl trivial (fun hHeld => ?_); refine with_tabW spec_SortLectic.tab9 spec_SortLectic.bits9 (fun HT_ HW_ => ?_)
                 generalize wr.drew = w43 at HO_3 HB hHeld ⊢
                 refine pl_ 0 24 (tb_ 15 1) ?_; refine pl_ 1 25 (tb_ 15 3) ?_; refine pl_ 2 26 (tb_ 15 7) ?_; refine pl_ 3 27 (tb_ 15 15) ?_; refine pl_ 4 28 (tb_ 15 31) ?_; refine pr_ 5 29 (tb_ 15 63) ?_; refine pr_ 6 30 (tb_ 15 127) ?_; refine pr_ 7 31 (tb_ 15 255) ?_; refine pr_ 8 32 (tb_ 15 511) ?_; refine pr_ 9 33 (tb_ 15 1023) ?_; refine pr_ 10 34 (tb_ 15 2047) ?_; refine pr_ 11 35 (tb_ 15 4095) ?_; refine pr_ 12 36 (tb_ 15 8191) ?_; refine pr_ 13 37 (tb_ 15 16383) ?_; refine pl_ 14 38 (tb_ 15 32767) ?_
                 refine done_ (done_of HT_.out s12_) ?_
                 try go_wp2_with (first | ((with_reducible refine gate_dst (N := 41) rfl ?_); refine Kd.R_lit (Kd.int .i64) _ 3 ?hg (N := 41) ?hd (xs := ([] : List Int)) (inner := []) (ok := fun _ => True) (okp := fun _ => True) ?hr ?hp (fun _ hk => hk) trivial (Below.refl _ _) (Nat.le_refl _) (by simp) ?_; (case hd => rfl); (case hg => rfl); (case hr => first | (go_simp; done) | (go_simp; rfl)); (case hp => exact (Reps.none _ _)); intro v331 w44 ho45 hb hg_ hnew_; clear hg_ hnew_; (first | rw [← Ny330.out] at ho45 | (simp only [Int.reduceToNat] at ho45; rw [← Ny330.out] at ho45)); have n_ := ac_ (Kd.R_elder' s9_ (Kd.R_base ho45) hb) <| ac_ (Kd.R_lower (Kd.R_new' ho45 (Kd.R_lt s9_)) (below_size s1_)) <| Aside0.mk (below_step s1_ hb); clear HO_3 HB; obtain ⟨HO_3, HO332, HB⟩ := n_; clear hb ho45; have q46 : (x5_2 : Int) ≤ ((x3_1.length : Int) : Int) := of_decide_eq_true s3_; obtain ⟨i046, hi046, _, hsz46, _⟩ := info_parts info3; have hroom46 : x3_1.length ≤ co11 := (Kd.R_reads' HO_3.out).2.1; have hC46 : Kd.C (Kd.int .i64) _ Ao11 x3_1.length x3_1 := (Kd.R_reads' HO_3.out).2.2; have q046 : (0 : Int) ≤ (x5_2 : Int) := of_decide_eq_true s3_; have hcut46 := cut_from (P := Tryz.prog) 27 3 .i64 Tryz.underlying27 hi046 1 hsz46 Ao11 x3_1.length co11 x5_2 q046 q46; have hr46 := Kd.C_drop (m := (x5_2 : Int).toNat) (c := co11) hC46 (by omega) hroom46; obtain ⟨A46, hA46⟩ : ∃ A1, A1 = (if co11 = (x5_2 : Int).toNat then Ao11 else (Ao11 : Option Addr).map (·.add ((x5_2 : Int).toNat * 1))) := ⟨_, rfl⟩; obtain ⟨c46, hc46⟩ : ∃ c1, c1 = co11 - (x5_2 : Int).toNat := ⟨_, rfl⟩; have hy46 : y333.length = x3_1.length - (x5_2 : Int).toNat := (by rw [Ny333.out, List.length_drop] <;> omega); rw [show (x3_1).drop (x5_2 : Int).toNat = y333 from Ny333.out.symm] at hr46; replace hr46 : Kd.C (Kd.int .i64) _ A46 y333.length y333 := (by rw [hA46]; exact hr46); rw [← hy46, ← hA46, ← hc46] at hcut46; have HR336 := Aside0.mk hr46; have HC336 := Aside0.mk (show y333.length ≤ c46 from by rw [hy46, hc46]; exact Nat.sub_le_sub_right hroom46 _); clear hr46 hC46 hroom46 hi046 hsz46 hc46; have KY46 := Aside0.mk hy46; have KA46 := Aside0.mk hA46; clear hy46 hA46; have KL46 := Aside0.mk (show (x5_2 : Int).toNat ≤ x3_1.length from by omega); replace q46 := eq_true q46) | ((with_reducible refine gate_builtin (b := .append) (xs := #[.tmp 41, .tmp 44]) rfl ?_); at_builtin; refine Kd.R_append_rows (Kd.int .i64) (w0 := w) w.heap.size rfl (.tmp 41) (.tmp 44) 27 3 (.int .i64 0) 8 rfl Tryz.underlying27 info3 rfl (by decide) (by omega) v331 y330 y333 _ _ _ (fun k_ => some k_ ≠ (.slice Ao11 x3_1.length co11 : Value).ownBlock) (fun _ => False) rfl rfl ?aO ?aR (fun _ _ h => h) (fun _ h => h.elim) ?aF ?aB ?aS ?aL ?_; (case aR => repeat (first | exact (by repeat (first | (with_reducible exact HR336.out) | (with_reducible refine Kd.C_alloc ?_ _) | (with_reducible refine Kd.C_drewN ?_ _) | (with_reducible refine Kd.C_drew ?_) | exact HR336.out)) | (with_reducible refine Kd.C_alloc ?_ _) | (with_reducible refine Kd.C_drewN ?_ _) | (with_reducible refine Kd.C_drew ?_))); (case aB => exact s1_); (case aF => exact (fun k_ hk => Kd.fresh' (Kd.R_lt s9_) k_ hk)); (case aO => exact (by (with_reducible repeat (first | apply Kd.R_alloc | apply Kd.R_drewN | apply Kd.R_drew)); exact Kd.R_mono HO332.out (fun _ hk => hk.2))); (case aS => exact (below_size s1_)); (case aL => have := LMc37.out; omega); intro v338 w47 ho hb hg hat; rw [← Ny337.out] at ho; have n_ := ac_ (Kd.R_after (ok := (fun _ => True)) s9_ hg hat) <| ac_ (hb) <| ac_ ((show Kd.C (Kd.int .i64) w47 A46 y333.length y333 from by rw [Ny333.out, KA46.out]; exact Kd.C_drop (m := (x5_2 : Int).toNat) (c := co11) ((Kd.R_reads' (Kd.R_after (ok := (fun _ => True)) s9_ hg hat)).2.2) KL46.out ((Kd.R_reads' (Kd.R_after (ok := (fun _ => True)) s9_ hg hat)).2.1))) <| Aside0.mk (ho); clear HO_3 HB HR336 HO332; obtain ⟨HO_3, HB, HR336, HO339⟩ := n_; clear ho hb hg hat))
                 have n0_ := Aside0.mk (Kd.R_drew HO_3.out); have n1_ := Aside0.mk (Kd.R_drew HO339.out); have n2_ := Aside0.mk (Kd.C_drew HR336.out); have n3_ := Aside0.mk (below_drew1 HB.out); clear HO_3; clear HO339; clear HR336; clear HB; have HO_3 := n0_; have HO339 := n1_; have HR336 := n2_; have HB := n3_; clear n0_ n1_ n2_ n3_; have q49 : (x5_2 : Int) ≤ ((x3_1.length : Int) : Int) := of_decide_eq_true s3_; obtain ⟨i049, hi049, _, hsz49, _⟩ := info_parts info3; have hcut49 := cut_to (P := Tryz.prog) 27 3 .i64 Tryz.underlying27 hi049 Ao11 x3_1.length co11 x5_2 (of_decide_eq_true s3_) q49 (Kd.R_reads' HO_3.out).2.1
                 have hr49 := Kd.R_take (m := (x5_2 : Int).toNat) HO_3.out (by omega)
                 have hy49 : y340.length = (x5_2 : Int).toNat := (by rw [Ny340.out, List.length_take]; omega)
                 rw [← Ny340.out] at hr49; rw [← hy49] at hr49 hcut49; clear hy49 hi049 hsz49 HO_3; have HO342 := Aside0.mk hr49; clear hr49; replace q49 := eq_true q49; have p343 : 0 ≤ (x4_1 : Int) := of_decide_eq_true s3_; have q343 : x4_1 < (l0.length : Int) := of_decide_eq_true s3_; obtain ⟨ad343, e343, hx343_0⟩ := Kd.at_int HR0.out x4_1 p343 q343; have hw343_0 := hx343_0
                 obtain rfl : ad305 = ad343 := (by injection e343)
                 replace hx343_0 := (HB.out.cell (World.block_lt_of_cell? w _ hx343_0)).trans hx343_0; replace p343 := eq_true p343; replace q343 := eq_true q343
                 refine start_ (n := 12) (S := fun w' => w'.cell? (ad305.add (x4_1).toNat) = some (.int .i64 (rd l0 x4_1))) (ds := []) (tb_ 12 0) s12_ rfl rfl (((HB.out.cell (World.block_lt_of_cell? w _ hw343_0)).trans hw343_0)) (fun hHeld => ?_); refine with_tabW spec_SortLectic.tab12 spec_SortLectic.bits12 (fun HT_ HW_ => ?_)
                 generalize w47.drew = w48 at HO_3 HO339 HR336 HB HO342 hx343_0 hHeld ⊢
                 refine pl_ 0 46 (tb_ 12 1) ?_; refine pl_ 1 47 (tb_ 12 3) ?_; refine pl_ 2 48 (tb_ 12 7) ?_; refine pl_ 3 49 (tb_ 12 15) ?_; refine pl_ 4 50 (tb_ 12 31) ?_; refine pl_ 5 51 (tb_ 12 63) ?_; refine pl_ 9 55 (tb_ 12 575) ?_; refine tk_ 6 52 (tb_ 12 639) hHeld ?_
                 refine on_ 7 53 (tb_ 12 767) (fun K hK => ?_)
                 refine value_ (w1 := ?_) (v := ?_) (by rfl) rfl ?_ ?_
                 rotate_left 2
                 ·
                  go_simp
                  constructor
                  ·
                   rfl
                  ·
                   rfl
                 refine hK.out _ _ ((World.cell?_alloc_lt _ _ _ (World.block_lt_of_cell? _ _ (((HB.out.cell (World.block_lt_of_cell? w _ hw343_0)).trans hw343_0)))).trans (((HB.out.cell (World.block_lt_of_cell? w _ hw343_0)).trans hw343_0))) (fun hHeld => ?_)
                 clear hK K
                 refine norm_ (a' := ?_) ?_ ?_
                 rotate_left
                 ·
                  show Act.put _ (some 53) _ = _
                  exact s14_
                 refine on_ 8 54 (tb_ 12 1023) (fun K hK => ?_)
                 refine Kd.R_append_step (Kd.int .i64) (w0 := w) w.heap.size (by rfl) (.tmp 48) (.tmp 53) 27 3 (.int .i64 0) 8 rfl Tryz.underlying27 info3 rfl (by decide) (by omega) (.slice Ao11 y340.length co11) y340 (rd l0 x4_1) [.int .i64 (rd l0 x4_1)] (fun k_ => some k_ ≠ (v338 : Value).ownBlock) (fun _ => False) rfl rfl ?aP (fun _ hk => hk.elim) ?aF ?aO ?aB ?aS ?aL ?_
                 (case aP => exact rfl)
                 (case aB => exact s1_)
                 (case aF => exact (fun k_ hk => Kd.fresh' (Kd.R_lt q7_6) k_ hk))
                 (case aO => exact (by (with_reducible repeat (first | apply Kd.R_alloc | apply Kd.R_drewN | apply Kd.R_drew)); exact Kd.R_mono HO342.out (fun _ hk => hk.2)))
                 (case aS => exact (below_size s1_))
                 (case aL => have := LMc41.out; omega)
                 intro v345 w50 ho hb hg hat
                 rw [← Ny344.out] at ho
                 have n0_ := Aside0.mk (Kd.R_after (ok := (fun _ => True)) (by (with_reducible repeat (first | apply Kd.R_alloc | apply Kd.R_drewN | apply Kd.R_drew)); exact Kd.R_mono HO339.out (fun _ hk => ⟨trivial, by first | exact hk | exact own_any hk⟩)) hg hat)
                 have n1_ := Aside0.mk (hb); have n2_ := Aside0.mk (ho); clear HO339; clear HB; clear HO342; have HO339 := n0_; have HB := n1_; have HO346 := n2_; clear n0_ n1_ n2_; clear ho hb hg hat; obtain ⟨Ao52, co52, eo52⟩ := Kd.R_slice HO339.out
                 (first | subst eo52 | (injection eo52 with f1_ f2_ f3_; have f4_ := f1_.symm; have f5_ := f3_.symm; clear f1_ f2_ f3_; subst f4_; subst f5_))
                 refine hK.out _ _ (((HB.out.cell (World.block_lt_of_cell? w _ hw343_0)).trans hw343_0)) (fun hHeld => ?_)
                 clear hK K
                 refine norm_ (a' := ?_) ?_ ?_
                 rotate_left
                 ·
                  show Act.put _ (some 54) _ = _
                  exact s14_
                 refine on_ 10 56 (tb_ 12 2047) (fun K hK => ?_)
                 refine Kd.R_append_rows_step (Kd.int .i64) (w0 := w) w.heap.size (by rfl) (.tmp 54) (.tmp 55) 27 3 (.int .i64 0) 8 rfl Tryz.underlying27 info3 rfl (by decide) (by omega) v345 y344 y337 _ _ _ (fun k_ => some k_ ≠ (.slice Ao52 y337.length co52 : Value).ownBlock) (fun _ => False) rfl rfl ?aO ?aR (fun _ _ h => h) (fun _ h => h.elim) ?aF ?aB ?aS ?aL ?_
                 (case aR => repeat (first | exact (Kd.R_reads' HO339.out).2.2 | (with_reducible refine Kd.C_alloc ?_ _) | (with_reducible refine Kd.C_drewN ?_ _) | (with_reducible refine Kd.C_drew ?_)))
                 (case aB => exact s1_)
                 (case aF => exact (fun k_ hk => Kd.fresh' (Kd.R_lt q7_6) k_ hk))
                 (case aO => exact (by (with_reducible repeat (first | apply Kd.R_alloc | apply Kd.R_drewN | apply Kd.R_drew)); exact HO346.out))
                 (case aS => exact (below_size s1_))
                 (case aL => have := LMc42.out; omega)
                 intro v348 w51 ho hb hg hat
                 rw [← Ny347.out] at ho
                 have n0_ := Aside0.mk (Kd.R_after (ok := (fun _ => True)) q7_6 hg hat)
                 have n1_ := Aside0.mk (hb); have n2_ := Aside0.mk (ho); clear HO339; clear HB; clear HO346; have HO339 := n0_; have HB := n1_; have HO349 := n2_; clear n0_ n1_ n2_; clear ho hb hg hat
                 refine hK.out _ _ (((HB.out.cell (World.block_lt_of_cell? w _ hw343_0)).trans hw343_0)) (fun hHeld => ?_)
                 clear hK K
                 refine norm_ (a' := ?_) ?_ ?_
                 rotate_left
                 ·
                  show Act.put _ (some 56) _ = _
                  exact s14_
                 refine pl_ 11 3 (tb_ 12 4095) ?_
                 refine done_ (done_of HT_.out s12_) ?_
                 try go_wp2
                 go_roundg k2
                 case measure => have := HK1.out; have := HK2.out; omega
                 case rel => exact ⟨(y347), (wrap64 (x4_1 + 1)), s2_, H', ⟨by have := HK1.out; have := HK2.out; omega⟩, ⟨(by (with_reducible repeat (first | apply Kd.R_alloc | apply Kd.R_drewN | apply Kd.R_drew)); exact Kd.R_mono HO349.out (fun _ hk => trivial))⟩, ⟨s1_⟩⟩
                ·
                 rw [if_neg c42] at H
                 exact absurd H (by simp)
               ·
                rw [if_neg c41] at H
                exact absurd H (by simp)
              ·
               rw [if_neg c40] at H
               exact absurd H (by simp)
             ·
              rw [if_neg c39] at H
              exact absurd H (by simp)
            ·
             rw [if_neg c37] at H
             exact absurd H (by simp)
           ·
            rw [if_neg c36] at H
            exact absurd H (by simp)
          ·
           rw [if_neg c35] at H
           exact absurd H (by simp)
     ·
      rw [if_neg c7] at H
      exact absurd H (by simp)
    ·
     rw [if_neg c6] at H; have c6b0 : decide (x4_1 < (l0.length : Int)) = false := decide_eq_false c6; clear c6; obtain rfl := Option.some.inj H
     go_wp2
     go_ret
     exact ⟨_, (by first | rfl | (simp [errW_none, errW_some] <;> rfl) | (simp [*, errW_none, errW_some] <;> rfl)), s9_, s1_⟩
 ·
  replace c3 := Bool.eq_false_iff.mpr c3; subst c3
  rw [if_neg (show ¬ (false = true) by decide)] at H
  obtain rfl := Option.some.inj H
  go_enter Tryz.func139, Tryz.ntmps139
  go_wp2_with (first | ((with_reducible refine gate_dst (N := 7) rfl ?_); refine Kd.R_lit (Kd.int .i64) _ 3 ?hg (N := 7) ?hd (xs := ([] : List Int)) (inner := []) (ok := fun _ => True) (okp := fun _ => True) ?hr ?hp (fun _ hk => hk) trivial (Below.refl _ _) (Nat.le_refl _) (by simp) ?_; (case hd => rfl); (case hg => rfl); (case hr => first | (go_simp; done) | (go_simp; rfl)); (case hp => exact (Reps.none _ _)); intro v302 w53 ho54 hb hg_ hnew_; clear hg_ hnew_; (first | rw [← Ny301.out] at ho54 | (simp only [Int.reduceToNat] at ho54; rw [← Ny301.out] at ho54)); have n_ := ac_ (Kd.R_lower ho54 (below_size s1_)) <| Aside0.mk (below_step s1_ hb); clear HB; obtain ⟨HO303, HB⟩ := n_; clear hb ho54) | (refine gL_ 216 9 Tryz.func216 #[.slice A0 l0.length c0] ?_; (with_reducible refine (spec_l2Sets.calls k _ _ l0 false _ ?side1 ?side2 A2.out).mono ?_); (case side1 => exact s19_); (case side2 => exact HC0.out); rintro e w' ⟨rfl, ⟨nd, rfl⟩⟩; refine ⟨_, rfl, ?_⟩))
  go_ret
  exact ⟨_, (by first | rfl | (simp [errW_none, errW_some] <;> rfl) | (simp [*, errW_none, errW_some] <;> rfl)), (by (with_reducible repeat (first | apply Kd.R_alloc | apply Kd.R_drewN | apply Kd.R_drew)); exact HO303.out), s1_⟩
end Go.Proofs.YtafnamchckehmaaGreatDoor.Pr
namespace Go.Proofs.YtafnamchckehmaaGreatDoor.Pr
open Go.RowKit Go.Proofs.YtafnamchckehmaaGreatDoorW.PrintWords Go.Proofs.YtafnamchckehmaaGreatDoorW.PrintLast Go.Proofs.YtafnamchckehmaaGreatDoorW.PrintMore
attribute [local go_sem] max2_int min2_int max_two min_two max_three min_three max_four min_four
set_option linter.unusedVariables false
set_option linter.unusedSimpArgs false
theorem bnd11_ {α β : Type} {o : Option α} {f : α → Option β} {r : β} (h : o.bind f = some r) : ∃ a, Aside0 (o = some a) ∧ f a = some r := by
 obtain ⟨a, h1, h2⟩ := Option.bind_eq_some_iff.mp h
 exact ⟨a, ⟨h1⟩, h2⟩
theorem q11_5 {P : Prop} (h : P := by (with_reducible repeat (first | apply Kd.R_alloc | apply Kd.R_drewN | apply Kd.R_drew)); exact HO597.out) : P := h
mutual
def spec_ShortRules.l0 : Nat → Int → List (S48) → List (S48) → List Int → Int → Option ((List (S48)) × Bool)
 | 0, _, _, _, _, _ => none
 | k + 1, x0, x1, x6, x7, x8 => (spec_FullSet.f x0).bind fun t602 => (if x8 ≤ t602 then ((spec_l9Closed.f k x1 x8).bind fun t603 => (if t603 = x8 then (spec_ShortRules.l0 k x0 x1 x6 x7 (wrap64 (x8 + 1))) else (spec_ShortRules.l1 k x0 x1 x6 x7 x8 true 0))) else ((spec_SortLectic.f k x7).bind fun t611 => (spec_ShortRules.l2 k x1 x6 t611 0)))
def spec_ShortRules.l1 : Nat → Int → List (S48) → List (S48) → List Int → Int → Bool → Int → Option ((List (S48)) × Bool)
 | 0, _, _, _, _, _, _, _ => none
 | k + 1, x0, x1, x6, x7, x8, x9, x10 => if x10 < (x7.length : Int) then (if 0 ≤ x10 then ((spec_l9Closed.f k x1 (rd x7 x10)).bind fun t605 => (if x9 = true then (if (Go.bits .and .i64 (rd x7 x10) x8) = (rd x7 x10) then (spec_ShortRules.l1 k x0 x1 x6 x7 x8 ((Go.bits .and .i64 t605 x8) == t605) (wrap64 (x10 + 1))) else (spec_ShortRules.l1 k x0 x1 x6 x7 x8 true (wrap64 (x10 + 1)))) else (spec_ShortRules.l1 k x0 x1 x6 x7 x8 false (wrap64 (x10 + 1))))) else (none)) else (if x9 = true then (if x7.length < 17592186044416 then (spec_ShortRules.l0 k x0 x1 x6 (x7 ++ [x8]) (wrap64 (x8 + 1))) else (none)) else (spec_ShortRules.l0 k x0 x1 x6 x7 (wrap64 (x8 + 1))))
def spec_ShortRules.l2 : Nat → List (S48) → List (S48) → List Int → Int → Option ((List (S48)) × Bool)
 | 0, _, _, _, _ => none
 | k + 1, x1, x6, x7, x12 => if x12 < (x7.length : Int) then (if 0 ≤ x12 then ((spec_l9Closed.f k x1 (rd x7 x12)).bind fun t616 => (if x6.length < 8796093022208 then (spec_ShortRules.l2 k x1 (x6 ++ [(⟨rd x7 x12, t616⟩ : S48)]) x7 (wrap64 (x12 + 1))) else (none))) else (none)) else (some (x6, true))
end
def spec_ShortRules.f (k : Nat) (a0 : Int) (l1 : List (S48)) : Option ((List (S48)) × Bool) := (some (([] : List (S48)) : List (S48))).bind fun y595 => ((spec_AreRules.f k a0 l1).bind fun t598 => (if t598 = true then (spec_ShortRules.l0 k a0 l1 y595 (([] : List Int)) 0) else (some (y595, false))))
def spec_ShortRules.T14 : Bool × List (List Nat × List Nat) := (true, [([], []), ([0], [0]), ([1], [1]), ([1], [1]), ([2, 3, 1], [1, 2, 3]), ([4, 1], [1, 4]), ([1], [1]), ([5, 6, 1], [1, 5, 6]), ([1], [1]), ([1], [1]), ([8, 9, 1], [1, 8, 9]), ([10, 1], [1, 10]), ([7, 11, 1], [1, 7, 11]), ([12, 1, 1], [1, 12]), ([13], [13]), ([13], [13]), ([14, 15, 13], [13, 14, 15]), ([13], [13]), ([16, 17, 13], [13, 16, 17]), ([13, 18, 1], [1, 13, 18]), ([1, 19], [1, 19]), ([20, 13, 0, 1, 2, 3, 4, 5, 6, 7, 8, 9, 10, 11, 12, 13, 14, 15, 16, 17, 18, 19, 20], [0, 20])])
def spec_ShortRules.B14 : List Nat := [0, 1, 3, 3, 15, 31, 3, 127, 3, 3, 771, 1795, 4095, 8191, 16383, 16383, 65535, 16383, 262143, 524287, 1048575, 2097151]
theorem spec_ShortRules.tab14 : rtab .any (opsOf Tryz.f26 14) = spec_ShortRules.T14 := s12_
theorem spec_ShortRules.bits14 : waitsOk spec_ShortRules.T14.2 spec_ShortRules.B14 = true := s12_
def spec_ShortRules.T21 : Bool × List (List Nat × List Nat) := (true, [([], []), ([], []), ([], []), ([1, 2], [1, 2]), ([3], [3]), ([], []), ([], []), ([], []), ([6, 7], [6, 7]), ([8], [8]), ([5, 9], [5, 9]), ([4, 10], [4, 10]), ([11], [11]), ([0, 12, 10], [0, 12]), ([13, 13, 0, 1, 2, 3, 4, 5, 6, 7, 8, 9, 10, 11, 12, 13], [0, 13])])
def spec_ShortRules.B21 : List Nat := [0, 0, 0, 6, 14, 0, 0, 0, 192, 448, 992, 2046, 4094, 8191, 16383]
theorem spec_ShortRules.tab21 : rtab .any (opsOf Tryz.f26 21) = spec_ShortRules.T21 := s12_
theorem spec_ShortRules.bits21 : waitsOk spec_ShortRules.T21.2 spec_ShortRules.B21 = true := s12_
set_option maxHeartbeats 40000000 in
set_option maxRecDepth 100000 in
theorem spec_ShortRules.calls (k : Nat) (a0 : Int) (A1 : Option Addr) (c1 : Nat) (l1 : List (S48)) (r1 : List (S48)) (r2 : Bool) (w : World) (hr1 : Kd.C k48 w A1 l1.length l1) (hc1 : l1.length ≤ c1) (h : spec_ShortRules.f k a0 l1 = some (r1, r2)) :
  Calls Tryz.prog 26 #[.int .i64 a0, .slice A1 l1.length c1] w fun e w' => ∃ v0_ : Value, e = .returned (.tuple #[v0_, .bool r2]) ∧ Kd.R k48 48 w' w.heap.size (fun _ => True) v0_ r1 ∧ Below w.heap.size w w' := by
 have hu48 := Tryz.underlying48; have HR1 := Aside0.mk hr1; have HC1 := Aside0.mk hc1; clear hr1 hc1; have HB := Aside0.mk (Below.refl w.heap.size w); have H := h; clear h; unfold spec_ShortRules.f at H; obtain ⟨y595, hy595⟩ : ∃ y_ : List (S48), y_ = (([] : List (S48))) := ⟨_, rfl⟩
 replace H : ((spec_AreRules.f k a0 l1).bind fun t598 => (if t598 = true then (spec_ShortRules.l0 k a0 l1 y595 (([] : List Int)) 0) else (some (y595, false)))) = some (r1, r2) := by first | (rw [hy595]; with_reducible exact H) | (have H2_ := (Option.bind_some _ _).symm.trans H; rw [hy595]; with_reducible exact H2_) | (have H2_ := (Option.bind_some _ _).symm.trans H; with_reducible exact H2_) | with_reducible exact H | (rw [hy595]; exact H) | exact H
 have Ny595 := Aside0.mk hy595; clear hy595; obtain ⟨t598, A3, H⟩ := bnd11_ H
 by_cases c4 : t598 = true
 ·
  subst c4; rw [if_pos rfl] at H; obtain ⟨y599, hy599⟩ : ∃ y_ : List Int, y_ = (([] : List Int)) := ⟨_, rfl⟩
  replace H : (spec_ShortRules.l0 k a0 l1 y595 y599 0) = some (r1, r2) := by first | (rw [hy599]; with_reducible exact H) | (have H2_ := (Option.bind_some _ _).symm.trans H; rw [hy599]; with_reducible exact H2_) | (have H2_ := (Option.bind_some _ _).symm.trans H; with_reducible exact H2_) | with_reducible exact H | (rw [hy599]; exact H) | exact H
  have Ny599 := Aside0.mk hy599; clear hy599; have H' := Aside0.mk H; clear H
  go_enter Tryz.func26, Tryz.ntmps26
  go_wp2_with (first | ((with_reducible refine gate_dst (N := 13) rfl ?_); refine Kd.R_lit k48 _ 48 ?hg (N := 13) ?hd (xs := ([] : List (S48))) (inner := []) (ok := fun _ => True) (okp := fun _ => True) ?hr ?hp (fun _ hk => hk) trivial (Below.refl _ _) (Nat.le_refl _) (by simp) ?_; (case hd => rfl); (case hg => rfl); (case hr => first | (go_simp; done) | (go_simp; rfl)); (case hp => exact (Reps.none _ _)); intro v596 w5 ho6 hb hg_ hnew_; clear hg_ hnew_; (first | rw [← Ny595.out] at ho6 | (simp only [Int.reduceToNat] at ho6; rw [← Ny595.out] at ho6)); have n_ := ac_ (Kd.R_lower ho6 (below_size s1_)) <| Aside0.mk (below_step s1_ hb); clear HB; obtain ⟨HO597, HB⟩ := n_; clear hb ho6) | (refine gL_ 82 16 Tryz.func82 #[.int .i64 a0, .slice A1 l1.length c1] ?_; (with_reducible refine (spec_AreRules.calls k a0 _ _ l1 true _ ?side1 ?side2 A3.out).mono ?_); (case side1 => exact s13_); (case side2 => exact HC1.out); rintro e w7 ⟨rfl, hb⟩; refine ⟨_, rfl, ?_⟩; have n_ := ac_ (Kd.R_below q11_5 hb) <| Aside0.mk (below_step s1_ hb); clear HO597 HB; obtain ⟨HO597, HB⟩ := n_; (try clear hb)) | ((with_reducible refine gate_dst (N := 19) rfl ?_); refine Kd.R_lit (Kd.int .i64) _ 3 ?hg (N := 19) ?hd (xs := ([] : List Int)) (inner := []) (ok := fun _ => True) (okp := fun _ => True) ?hr ?hp (fun _ hk => hk) trivial (Below.refl _ _) (Nat.le_refl _) (by simp) ?_; (case hd => rfl); (case hg => rfl); (case hr => first | (go_simp; done) | (go_simp; rfl)); (case hp => exact (Reps.none _ _)); intro v600 w8 ho9 hb hg_ hnew_; clear hg_ hnew_; (first | rw [← Ny599.out] at ho9 | (simp only [Int.reduceToNat] at ho9; rw [← Ny599.out] at ho9)); have n_ := ac_ (Kd.R_below q11_5 hb) <| ac_ (Kd.R_lower ho9 (below_size s1_)) <| Aside0.mk (below_step s1_ hb); clear HO597 HB; obtain ⟨HO597, HO601, HB⟩ := n_; clear hb ho9))
  go_loopg [7, 8] k (fun kq v7 v8 w' => ∃ (x7_1 : List Int) (x8_1 : Int), v8 = .int .i64 x8_1 ∧ Aside0 (spec_ShortRules.l0 kq a0 l1 y595 x7_1 x8_1 = some (r1, r2)) ∧ Aside0 (kq ≤ k) ∧ Aside0 (Kd.R k48 48 w' w.heap.size (fun _ => True) v596 y595) ∧ Aside0 (Kd.R (Kd.int .i64) 3 w' w.heap.size (fun _ => True) v7 x7_1) ∧ Aside0 (Below w.heap.size w w'))
  case atStart => exact ⟨(y599), (0), s2_, H', ⟨Nat.le_refl _⟩, ⟨q11_5⟩, ⟨(by (with_reducible repeat (first | apply Kd.R_alloc | apply Kd.R_drewN | apply Kd.R_drew)); exact HO601.out)⟩, ⟨s1_⟩⟩
  case round =>
   clear H'
   try clear c1
   try clear c2
   try clear p2
   try clear c4
   try clear c8
   obtain ⟨x7_1, x8_1, rfl, HA, HK1, HO_6, HO_7, HB⟩ := hrel
   cases gk with
   | zero => exact absurd HA.out (by simp [spec_ShortRules.l0])
   | succ k1 =>
    have H := HA.out; clear HA
    simp only [spec_ShortRules.l0] at H
    obtain ⟨t602, A10, H⟩ := bnd11_ H
    by_cases c11 : x8_1 ≤ t602
    ·
     rw [if_pos c11] at H; have c11b0 : decide (x8_1 ≤ t602) = true := decide_eq_true c11; clear c11; obtain ⟨t603, A12, H⟩ := bnd11_ H
     by_cases c13 : t603 = x8_1
     ·
      rw [if_pos c13] at H; have c13b0 : (t603 == x8_1) = true := beq_iff_eq.mpr c13; have c13b1 : (t603 != x8_1) = false := bne_eq_false_iff_eq.mpr c13; clear c13; have H' := Aside0.mk H; clear H
      go_wp2_with (first | (refine gL_ 62 22 Tryz.func62 #[.int .i64 a0] ?_; (with_reducible refine (spec_FullSet.calls a0 t602 _ A10.out).mono ?_); rintro e w' ⟨rfl, ⟨nd, rfl⟩⟩; refine ⟨_, rfl, ?_⟩) | (refine gL_ 138 28 Tryz.func138 #[.slice A1 l1.length c1, .int .i64 x8_1] ?_; (with_reducible refine (spec_l9Closed.calls k1 _ _ l1 x8_1 t603 _ ?side1 ?side2 A12.out).mono ?_); (case side1 => exact s16_); (case side2 => exact HC1.out); rintro e w' ⟨rfl, ⟨nd, rfl⟩⟩; refine ⟨_, rfl, ?_⟩))
      go_roundg k1
      case measure => have := HK1.out; omega
      case rel => exact ⟨(x7_1), (wrap64 (x8_1 + 1)), s2_, H', ⟨by have := HK1.out; omega⟩, ⟨s17_⟩, ⟨s20_⟩, ⟨s1_⟩⟩
     ·
      rw [if_neg c13] at H; have c13b0 : (t603 == x8_1) = false := beq_eq_false_iff_ne.mpr c13; have c13b1 : (t603 != x8_1) = true := bne_iff_ne.mpr c13; have H' := Aside0.mk H; clear H
      go_wp2_with (first | (refine gL_ 62 22 Tryz.func62 #[.int .i64 a0] ?_; (with_reducible refine (spec_FullSet.calls a0 t602 _ A10.out).mono ?_); rintro e w' ⟨rfl, ⟨nd, rfl⟩⟩; refine ⟨_, rfl, ?_⟩) | (refine gL_ 138 28 Tryz.func138 #[.slice A1 l1.length c1, .int .i64 x8_1] ?_; (with_reducible refine (spec_l9Closed.calls k1 _ _ l1 x8_1 t603 _ ?side1 ?side2 A12.out).mono ?_); (case side1 => exact s16_); (case side2 => exact HC1.out); rintro e w' ⟨rfl, ⟨nd, rfl⟩⟩; refine ⟨_, rfl, ?_⟩))
      go_loopg [9, 10] k1 (fun kq v9 v10 w' => ∃ (x9_2 : Bool) (x10_2 : Int), v9 = .bool x9_2 ∧ v10 = .int .i64 x10_2 ∧ Aside0 (spec_ShortRules.l1 kq a0 l1 y595 x7_1 x8_1 x9_2 x10_2 = some (r1, r2)) ∧ Aside0 (kq ≤ k1) ∧ Aside0 (Kd.R k48 48 w' w.heap.size (fun _ => True) v596 y595) ∧ Aside0 (Kd.R (Kd.int .i64) 3 w' w.heap.size (fun _ => True) u7 x7_1) ∧ Aside0 (Below w.heap.size w w'))
      case atStart => exact ⟨(true), (0), s2_, s2_, H', ⟨Nat.le_refl _⟩, ⟨s17_⟩, ⟨s20_⟩, ⟨s1_⟩⟩
      case round =>
       clear H'
       try clear c1
       try clear c2
       try clear p2
       try clear c4
       try clear c6
       try clear p6
       try clear c8
       try clear c11
       try clear c11b0
       try clear c13
       try clear c13b0
       try clear c13b1
       try clear p2
       obtain ⟨x9_2, x10_2, rfl, rfl, HA, HK2, HO_6, HO_7, HB⟩ := hrel
       cases gk with
       | zero => exact absurd HA.out (by simp [spec_ShortRules.l1])
       | succ k2 =>
        have H := HA.out; clear HA
        simp only [spec_ShortRules.l1] at H
        by_cases c14 : x10_2 < (x7_1.length : Int)
        ·
         rw [if_pos c14] at H; have c14b0 : decide (x10_2 < (x7_1.length : Int)) = true := decide_eq_true c14; clear c14
         by_cases c15 : 0 ≤ x10_2
         ·
          rw [if_pos c15] at H; have c15b0 : decide (0 ≤ x10_2) = true := decide_eq_true c15; clear c15; obtain ⟨t605, A16, H⟩ := bnd11_ H
          by_cases c17 : x9_2 = true
          ·
           subst c17; rw [if_pos rfl] at H
           by_cases c18 : (Go.bits .and .i64 (rd x7_1 x10_2) x8_1) = (rd x7_1 x10_2)
           ·
            rw [if_pos c18] at H; have c18b0 : ((Go.bits .and .i64 (rd x7_1 x10_2) x8_1) == (rd x7_1 x10_2)) = true := beq_iff_eq.mpr c18; have c18b1 : ((Go.bits .and .i64 (rd x7_1 x10_2) x8_1) != (rd x7_1 x10_2)) = false := bne_eq_false_iff_eq.mpr c18; clear c18; have H' := Aside0.mk H; clear H; obtain ⟨Ao19, co19, eo19⟩ := Kd.R_slice HO_7.out; subst eo19; have p604 : 0 ≤ (x10_2 : Int) := of_decide_eq_true s3_; have q604 : x10_2 < (x7_1.length : Int) := of_decide_eq_true s3_; obtain ⟨ad604, e604, hx604_0⟩ := Kd.at_int (Kd.R_reads' HO_7.out).2.2 x10_2 p604 q604
            cases e604
            replace p604 := eq_true p604; replace q604 := eq_true q604
            try go_wp2_with (first | (refine gL_ 138 42 Tryz.func138 #[.slice A1 l1.length c1, .int .i64 (rd x7_1 x10_2)] ?_; (with_reducible refine (spec_l9Closed.calls k2 _ _ l1 (rd x7_1 x10_2) t605 _ ?side1 ?side2 A16.out).mono ?_); (case side1 => exact s13_); (case side2 => exact HC1.out); rintro e w' ⟨rfl, ⟨nd, rfl⟩⟩; refine ⟨_, rfl, ?_⟩))
            (try (rw [drewN_self wr]; generalize hq_ : World.drewN wr _ = wr; have n0_ : Aside0 (Kd.R k48 48 wr w.heap.size (fun _ => True) v596 y595) := ⟨by rw [← hq_]; exact s17_⟩; have n1_ : Aside0 (Kd.R (Kd.int .i64) 3 wr w.heap.size (fun _ => True) (.slice (some ad604) x7_1.length co19) x7_1) := ⟨by rw [← hq_]; exact s20_⟩; have n2_ : Aside0 (Below w.heap.size w wr) := ⟨by rw [← hq_]; exact s1_⟩; clear HO_6 HO_7 HB hq_; have HO_6 := n0_; have HO_7 := n1_; have HB := n2_; clear n0_ n1_ n2_))
            have n0_ := Aside0.mk (Kd.R_drew HO_6.out); have n1_ := Aside0.mk (Kd.R_drew HO_7.out); have n2_ := Aside0.mk (below_drew1 HB.out); clear HO_6; clear HO_7; clear HB; have HO_6 := n0_; have HO_7 := n1_; have HB := n2_; clear n0_ n1_ n2_; have p606 : 0 ≤ (x10_2 : Int) := of_decide_eq_true s3_; have q606 : x10_2 < (x7_1.length : Int) := of_decide_eq_true s3_; obtain ⟨ad606, e606, hx606_0⟩ := Kd.at_int (Kd.R_reads' HO_7.out).2.2 x10_2 p606 q606
            obtain rfl : ad604 = ad606 := (by injection e606)
            replace p606 := eq_true p606; replace q606 := eq_true q606; have p607 : 0 ≤ (x10_2 : Int) := of_decide_eq_true s3_; have q607 : x10_2 < (x7_1.length : Int) := of_decide_eq_true s3_; obtain ⟨ad607, e607, hx607_0⟩ := Kd.at_int (Kd.R_reads' HO_7.out).2.2 x10_2 p607 q607
            obtain rfl : ad604 = ad607 := (by injection e607)
            replace p607 := eq_true p607; replace q607 := eq_true q607
            refine start_ (n := 22) (S := fun w' => w'.cell? (ad604.add (x10_2).toNat) = some (.int .i64 (rd x7_1 x10_2)) ∧ w'.cell? (ad604.add (x10_2).toNat) = some (.int .i64 (rd x7_1 x10_2))) (ds := []) (tb_ 22 0) s12_ rfl rfl ⟨hx606_0, hx607_0⟩ (fun hHeld => ?_); refine with_tabW spec_ShortRules.tab14 spec_ShortRules.bits14 (fun HT_ HW_ => ?_)
            generalize wr.drew = w20 at HO_6 HO_7 HB hx606_0 hx607_0 hHeld ⊢
            refine pl_ 0 43 (tb_ 22 1) ?_; refine pl_ 1 44 (tb_ 22 3) ?_; refine pl_ 2 45 (tb_ 22 7) ?_; refine pl_ 3 46 (tb_ 22 15) ?_; refine pl_ 4 47 (tb_ 22 31) ?_; refine pl_ 6 49 (tb_ 22 95) ?_; refine pl_ 8 51 (tb_ 22 351) ?_; refine pl_ 9 52 (tb_ 22 863) ?_; refine pl_ 10 53 (tb_ 22 1887) ?_; refine tk_ 5 48 (tb_ 22 1919) hHeld ?_; refine pl_ 7 50 (tb_ 22 2047) ?_; refine tk_ 11 54 (tb_ 22 4095) hHeld ?_; refine pl_ 12 55 (tb_ 22 8191) ?_; refine pl_ 13 56 (tb_ 22 16383) ?_; refine pl_ 14 57 (tb_ 22 32767) ?_; refine pl_ 15 58 (tb_ 22 65535) ?_; refine pl_ 16 59 (tb_ 22 131071) ?_; refine pl_ 17 60 (tb_ 22 262143) ?_; refine pl_ 18 61 (tb_ 22 524287) ?_; refine pl_ 19 62 (tb_ 22 1048575) ?_; refine pl_ 20 63 (tb_ 22 2097151) ?_; refine pl_ 21 9 (tb_ 22 4194303) ?_
            refine done_ (done_of HT_.out s12_) ?_
            try go_wp2
            go_roundg k2
            case measure => have := HK1.out; have := HK2.out; omega
            case rel => exact ⟨(((Go.bits .and .i64 t605 x8_1) == t605)), (wrap64 (x10_2 + 1)), s2_, s2_, H', ⟨by have := HK1.out; have := HK2.out; omega⟩, ⟨s17_⟩, ⟨s20_⟩, ⟨s1_⟩⟩
           ·
            rw [if_neg c18] at H; have c18b0 : ((Go.bits .and .i64 (rd x7_1 x10_2) x8_1) == (rd x7_1 x10_2)) = false := beq_eq_false_iff_ne.mpr c18; have c18b1 : ((Go.bits .and .i64 (rd x7_1 x10_2) x8_1) != (rd x7_1 x10_2)) = true := bne_iff_ne.mpr c18; have H' := Aside0.mk H; clear H; obtain ⟨Ao21, co21, eo21⟩ := Kd.R_slice HO_7.out; subst eo21; have p604 : 0 ≤ (x10_2 : Int) := of_decide_eq_true s3_; have q604 : x10_2 < (x7_1.length : Int) := of_decide_eq_true s3_; obtain ⟨ad604, e604, hx604_0⟩ := Kd.at_int (Kd.R_reads' HO_7.out).2.2 x10_2 p604 q604
            cases e604
            replace p604 := eq_true p604; replace q604 := eq_true q604
            try go_wp2_with (first | (refine gL_ 138 42 Tryz.func138 #[.slice A1 l1.length c1, .int .i64 (rd x7_1 x10_2)] ?_; (with_reducible refine (spec_l9Closed.calls k2 _ _ l1 (rd x7_1 x10_2) t605 _ ?side1 ?side2 A16.out).mono ?_); (case side1 => exact s13_); (case side2 => exact HC1.out); rintro e w' ⟨rfl, ⟨nd, rfl⟩⟩; refine ⟨_, rfl, ?_⟩))
            (try (rw [drewN_self wr]; generalize hq_ : World.drewN wr _ = wr; have n0_ : Aside0 (Kd.R k48 48 wr w.heap.size (fun _ => True) v596 y595) := ⟨by rw [← hq_]; exact s17_⟩; have n1_ : Aside0 (Kd.R (Kd.int .i64) 3 wr w.heap.size (fun _ => True) (.slice (some ad604) x7_1.length co21) x7_1) := ⟨by rw [← hq_]; exact s20_⟩; have n2_ : Aside0 (Below w.heap.size w wr) := ⟨by rw [← hq_]; exact s1_⟩; clear HO_6 HO_7 HB hq_; have HO_6 := n0_; have HO_7 := n1_; have HB := n2_; clear n0_ n1_ n2_))
            have n0_ := Aside0.mk (Kd.R_drew HO_6.out); have n1_ := Aside0.mk (Kd.R_drew HO_7.out); have n2_ := Aside0.mk (below_drew1 HB.out); clear HO_6; clear HO_7; clear HB; have HO_6 := n0_; have HO_7 := n1_; have HB := n2_; clear n0_ n1_ n2_; have p606 : 0 ≤ (x10_2 : Int) := of_decide_eq_true s3_; have q606 : x10_2 < (x7_1.length : Int) := of_decide_eq_true s3_; obtain ⟨ad606, e606, hx606_0⟩ := Kd.at_int (Kd.R_reads' HO_7.out).2.2 x10_2 p606 q606
            obtain rfl : ad604 = ad606 := (by injection e606)
            replace p606 := eq_true p606; replace q606 := eq_true q606; have p607 : 0 ≤ (x10_2 : Int) := of_decide_eq_true s3_; have q607 : x10_2 < (x7_1.length : Int) := of_decide_eq_true s3_; obtain ⟨ad607, e607, hx607_0⟩ := Kd.at_int (Kd.R_reads' HO_7.out).2.2 x10_2 p607 q607
            obtain rfl : ad604 = ad607 := (by injection e607)
            replace p607 := eq_true p607; replace q607 := eq_true q607
            refine start_ (n := 22) (S := fun w' => w'.cell? (ad604.add (x10_2).toNat) = some (.int .i64 (rd x7_1 x10_2)) ∧ w'.cell? (ad604.add (x10_2).toNat) = some (.int .i64 (rd x7_1 x10_2))) (ds := []) (tb_ 22 0) s12_ rfl rfl ⟨hx606_0, hx607_0⟩ (fun hHeld => ?_); refine with_tabW spec_ShortRules.tab14 spec_ShortRules.bits14 (fun HT_ HW_ => ?_)
            generalize wr.drew = w22 at HO_6 HO_7 HB hx606_0 hx607_0 hHeld ⊢
            refine pl_ 0 43 (tb_ 22 1) ?_; refine pl_ 1 44 (tb_ 22 3) ?_; refine pl_ 2 45 (tb_ 22 7) ?_; refine pl_ 3 46 (tb_ 22 15) ?_; refine pl_ 4 47 (tb_ 22 31) ?_; refine pl_ 6 49 (tb_ 22 95) ?_; refine pl_ 8 51 (tb_ 22 351) ?_; refine pl_ 9 52 (tb_ 22 863) ?_; refine pl_ 10 53 (tb_ 22 1887) ?_; refine tk_ 5 48 (tb_ 22 1919) hHeld ?_; refine pl_ 7 50 (tb_ 22 2047) ?_; refine tk_ 11 54 (tb_ 22 4095) hHeld ?_; refine pl_ 12 55 (tb_ 22 8191) ?_; refine pl_ 13 56 (tb_ 22 16383) ?_; refine pr_ 14 57 (tb_ 22 32767) ?_; refine pr_ 15 58 (tb_ 22 65535) ?_; refine pr_ 16 59 (tb_ 22 131071) ?_; refine pr_ 17 60 (tb_ 22 262143) ?_; refine pr_ 18 61 (tb_ 22 524287) ?_; refine pl_ 19 62 (tb_ 22 1048575) ?_; refine pl_ 20 63 (tb_ 22 2097151) ?_; refine pl_ 21 9 (tb_ 22 4194303) ?_
            refine done_ (done_of HT_.out s12_) ?_
            try go_wp2
            go_roundg k2
            case measure => have := HK1.out; have := HK2.out; omega
            case rel => exact ⟨(true), (wrap64 (x10_2 + 1)), s2_, s2_, H', ⟨by have := HK1.out; have := HK2.out; omega⟩, ⟨s17_⟩, ⟨s20_⟩, ⟨s1_⟩⟩
          ·
           replace c17 := Bool.eq_false_iff.mpr c17; subst c17
           rw [if_neg (show ¬ (false = true) by decide)] at H
           have H' := Aside0.mk H; clear H; obtain ⟨Ao23, co23, eo23⟩ := Kd.R_slice HO_7.out; subst eo23; have p604 : 0 ≤ (x10_2 : Int) := of_decide_eq_true s3_; have q604 : x10_2 < (x7_1.length : Int) := of_decide_eq_true s3_; obtain ⟨ad604, e604, hx604_0⟩ := Kd.at_int (Kd.R_reads' HO_7.out).2.2 x10_2 p604 q604
           cases e604
           replace p604 := eq_true p604; replace q604 := eq_true q604
           try go_wp2_with (first | (refine gL_ 138 42 Tryz.func138 #[.slice A1 l1.length c1, .int .i64 (rd x7_1 x10_2)] ?_; (with_reducible refine (spec_l9Closed.calls k2 _ _ l1 (rd x7_1 x10_2) t605 _ ?side1 ?side2 A16.out).mono ?_); (case side1 => exact s13_); (case side2 => exact HC1.out); rintro e w' ⟨rfl, ⟨nd, rfl⟩⟩; refine ⟨_, rfl, ?_⟩))
           (try (rw [drewN_self wr]; generalize hq_ : World.drewN wr _ = wr; have n0_ : Aside0 (Kd.R k48 48 wr w.heap.size (fun _ => True) v596 y595) := ⟨by rw [← hq_]; exact s17_⟩; have n1_ : Aside0 (Kd.R (Kd.int .i64) 3 wr w.heap.size (fun _ => True) (.slice (some ad604) x7_1.length co23) x7_1) := ⟨by rw [← hq_]; exact s20_⟩; have n2_ : Aside0 (Below w.heap.size w wr) := ⟨by rw [← hq_]; exact s1_⟩; clear HO_6 HO_7 HB hq_; have HO_6 := n0_; have HO_7 := n1_; have HB := n2_; clear n0_ n1_ n2_))
           have n0_ := Aside0.mk (Kd.R_drew HO_6.out); have n1_ := Aside0.mk (Kd.R_drew HO_7.out); have n2_ := Aside0.mk (below_drew1 HB.out); clear HO_6; clear HO_7; clear HB; have HO_6 := n0_; have HO_7 := n1_; have HB := n2_; clear n0_ n1_ n2_
           refine start_ (n := 22) (S := fun w' => True) (ds := []) (tb_ 22 0) s12_ rfl rfl trivial (fun hHeld => ?_); refine with_tabW spec_ShortRules.tab14 spec_ShortRules.bits14 (fun HT_ HW_ => ?_)
           generalize wr.drew = w24 at HO_6 HO_7 HB hHeld ⊢
           refine pl_ 0 43 (tb_ 22 1) ?_; refine pl_ 1 44 (tb_ 22 3) ?_; refine pr_ 2 45 (tb_ 22 7) ?_; refine pr_ 3 46 (tb_ 22 15) ?_; refine pr_ 4 47 (tb_ 22 31) ?_; refine pr_ 5 48 (tb_ 22 63) ?_; refine pr_ 6 49 (tb_ 22 127) ?_; refine pr_ 7 50 (tb_ 22 255) ?_; refine pr_ 8 51 (tb_ 22 511) ?_; refine pr_ 9 52 (tb_ 22 1023) ?_; refine pr_ 10 53 (tb_ 22 2047) ?_; refine pr_ 11 54 (tb_ 22 4095) ?_; refine pr_ 12 55 (tb_ 22 8191) ?_; refine pr_ 13 56 (tb_ 22 16383) ?_; refine pr_ 14 57 (tb_ 22 32767) ?_; refine pr_ 15 58 (tb_ 22 65535) ?_; refine pr_ 16 59 (tb_ 22 131071) ?_; refine pr_ 17 60 (tb_ 22 262143) ?_; refine pr_ 18 61 (tb_ 22 524287) ?_; refine pr_ 19 62 (tb_ 22 1048575) ?_; refine pl_ 20 63 (tb_ 22 2097151) ?_; refine pl_ 21 9 (tb_ 22 4194303) ?_
           refine done_ (done_of HT_.out s12_) ?_
           try go_wp2
           go_roundg k2
           case measure => have := HK1.out; have := HK2.out; omega
           case rel => exact ⟨(false), (wrap64 (x10_2 + 1)), s2_, s2_, H', ⟨by have := HK1.out; have := HK2.out; omega⟩, ⟨s17_⟩, ⟨s20_⟩, ⟨s1_⟩⟩
         ·
          rw [if_neg c15] at H
          exact absurd H (by simp)
        ·
         rw [if_neg c14] at H; have c14b0 : decide (x10_2 < (x7_1.length : Int)) = false := decide_eq_false c14; clear c14
         by_cases c25 : x9_2 = true
         ·
          subst c25; rw [if_pos rfl] at H
          by_cases c26 : x7_1.length < 17592186044416
          ·
           rw [if_pos c26] at H; have LMc26 := Aside0.mk c26; clear c26; obtain ⟨y608, hy608⟩ : ∃ y_ : List Int, y_ = (x7_1 ++ [x8_1]) := ⟨_, rfl⟩
           replace H : (spec_ShortRules.l0 k2 a0 l1 y595 y608 (wrap64 (x8_1 + 1))) = some (r1, r2) := by first | (rw [hy608]; with_reducible exact H) | (have H2_ := (Option.bind_some _ _).symm.trans H; rw [hy608]; with_reducible exact H2_) | (have H2_ := (Option.bind_some _ _).symm.trans H; with_reducible exact H2_) | with_reducible exact H | (rw [hy608]; exact H) | exact H
           have Ny608 := Aside0.mk hy608; clear hy608; have H' := Aside0.mk H; clear H; obtain ⟨Ao27, co27, eo27⟩ := Kd.R_slice HO_7.out; subst eo27
           go_wp2_with (first | ((with_reducible refine gate_builtin (b := .append) (xs := #[.tmp 65, .tmp 67]) rfl ?_); at_builtin; refine Kd.R_append (Kd.int .i64) (w0 := w) w.heap.size rfl (.tmp 65) (.tmp 67) 27 3 (.int .i64 0) 8 rfl Tryz.underlying27 info3 rfl (by decide) (by omega) (.slice Ao27 x7_1.length co27) x7_1 x8_1 [.int .i64 x8_1] (fun _ => True) (fun _ => False) rfl rfl ?aP (fun _ hk => hk.elim) ?aF ?aO ?aB ?aS ?aL ?_; (case aP => exact rfl); (case aB => exact s1_); (case aF => exact (fun _ _ => trivial)); (case aO => exact s20_); (case aS => exact (below_size s1_)); (case aL => have := LMc26.out; omega); intro v609 w28 ho hb hg hat; rw [← Ny608.out] at ho; have n_ := ac_ (Kd.R_over' s17_ (Kd.R_typed s20_) (by decide) hg) <| ac_ (hb) <| Aside0.mk (ho); clear HO_6 HB HO_7; obtain ⟨HO_6, HB, HO610⟩ := n_; clear ho hb hg hat))
           go_roundg k2
           case measure => have := HK1.out; have := HK2.out; omega
           case rel => exact ⟨(y608), (wrap64 (x8_1 + 1)), s2_, H', ⟨by have := HK1.out; have := HK2.out; omega⟩, ⟨s17_⟩, ⟨(by (with_reducible repeat (first | apply Kd.R_alloc | apply Kd.R_drewN | apply Kd.R_drew)); exact HO610.out)⟩, ⟨s1_⟩⟩
          ·
           rw [if_neg c26] at H
           exact absurd H (by simp)
         ·
          replace c25 := Bool.eq_false_iff.mpr c25; subst c25
          rw [if_neg (show ¬ (false = true) by decide)] at H
          have H' := Aside0.mk H; clear H; obtain ⟨Ao29, co29, eo29⟩ := Kd.R_slice HO_7.out; subst eo29
          go_wp2
          go_roundg k2
          case measure => have := HK1.out; have := HK2.out; omega
          case rel => exact ⟨(x7_1), (wrap64 (x8_1 + 1)), s2_, H', ⟨by have := HK1.out; have := HK2.out; omega⟩, ⟨s17_⟩, ⟨s20_⟩, ⟨s1_⟩⟩
    ·
     rw [if_neg c11] at H; have c11b0 : decide (x8_1 ≤ t602) = false := decide_eq_false c11; clear c11; obtain ⟨t611, A30, H⟩ := bnd11_ H; have H' := Aside0.mk H; clear H
     go_wp2_with (first | (refine gL_ 62 22 Tryz.func62 #[.int .i64 a0] ?_; (with_reducible refine (spec_FullSet.calls a0 t602 _ A10.out).mono ?_); rintro e w' ⟨rfl, ⟨nd, rfl⟩⟩; refine ⟨_, rfl, ?_⟩; obtain ⟨Ao31, co31, eo31⟩ := Kd.R_slice HO_7.out; subst eo31) | (refine gL_ 139 70 Tryz.func139 #[.slice Ao31 x7_1.length co31] ?_; (with_reducible refine (spec_SortLectic.calls k1 _ _ x7_1 t611 _ ?side1 ?side2 A30.out).mono ?_); (case side1 => repeat (first | exact (Kd.R_reads' HO_7.out).2.2 | (with_reducible refine Kd.C_alloc ?_ _) | (with_reducible refine Kd.C_drewN ?_ _) | (with_reducible refine Kd.C_drew ?_))); (case side2 => exact (Kd.R_reads' HO_7.out).2.1); rintro e w32 ⟨v612, rfl, ho0, hb⟩; refine ⟨_, rfl, ?_⟩; have n_ := ac_ (Kd.R_below s17_ hb) <| ac_ (Kd.R_elder' s20_ (Kd.R_base ho0) hb) <| ac_ (Kd.R_lower (Kd.R_new' ho0 (Kd.R_lt s20_)) (below_size s1_)) <| Aside0.mk (below_step s1_ hb); clear HO_6 HO_7 HB; obtain ⟨HO_6, HO_7, HO613, HB⟩ := n_; (try clear hb ho0)))
     go_loopg [6, 12] k1 (fun kq v6 v12 w' => ∃ (x6_2 : List (S48)) (x12_2 : Int), v12 = .int .i64 x12_2 ∧ Aside0 (spec_ShortRules.l2 kq l1 x6_2 t611 x12_2 = some (r1, r2)) ∧ Aside0 (kq ≤ k1) ∧ Aside0 (Kd.R k48 48 w' w.heap.size (fun _ => True) v6 x6_2) ∧ Aside0 (Kd.R (Kd.int .i64) 3 w' w.heap.size (fun _ => True) v612 t611) ∧ Aside0 (Below w.heap.size w w'))
     case atStart => exact ⟨(y595), (0), s2_, H', ⟨Nat.le_refl _⟩, ⟨s17_⟩, ⟨(by (with_reducible repeat (first | apply Kd.R_alloc | apply Kd.R_drewN | apply Kd.R_drew)); exact Kd.R_mono HO613.out (fun _ hk => trivial))⟩, ⟨s1_⟩⟩
     case round =>
      clear H'
      try clear c1
      try clear c2
      try clear p2
      try clear c6
      try clear p6
      try clear q6
      try clear hx6
      try clear c11
      try clear c11b0
      try clear c13
      try clear c14
      try clear c14b0
      try clear c15
      try clear c17
      try clear c18
      try clear c18b0
      try clear c18b1
      try clear c25
      try clear c26
      try clear hx604_0
      try clear hx606_0
      try clear hx607_0
      try clear p604
      try clear p606
      try clear p607
      try clear q604
      try clear q606
      try clear q607
      obtain ⟨x6_2, x12_2, rfl, HA, HK2, HO_6, HO_7, HB⟩ := hrel
      cases gk with
      | zero => exact absurd HA.out (by simp [spec_ShortRules.l2])
      | succ k2 =>
       have H := HA.out; clear HA
       simp only [spec_ShortRules.l2] at H
       by_cases c33 : x12_2 < (t611.length : Int)
       ·
        rw [if_pos c33] at H; have c33b0 : decide (x12_2 < (t611.length : Int)) = true := decide_eq_true c33; clear c33
        by_cases c34 : 0 ≤ x12_2
        ·
         rw [if_pos c34] at H; have c34b0 : decide (0 ≤ x12_2) = true := decide_eq_true c34; clear c34; obtain ⟨t616, A35, H⟩ := bnd11_ H
         by_cases c36 : x6_2.length < 8796093022208
         ·
          rw [if_pos c36] at H; have LMc36 := Aside0.mk c36; clear c36; obtain ⟨y617, hy617⟩ : ∃ y_ : List (S48), y_ = (x6_2 ++ [(⟨rd t611 x12_2, t616⟩ : S48)]) := ⟨_, rfl⟩
          replace H : (spec_ShortRules.l2 k2 l1 y617 t611 (wrap64 (x12_2 + 1))) = some (r1, r2) := by first | (rw [hy617]; with_reducible exact H) | (have H2_ := (Option.bind_some _ _).symm.trans H; rw [hy617]; with_reducible exact H2_) | (have H2_ := (Option.bind_some _ _).symm.trans H; with_reducible exact H2_) | with_reducible exact H | (rw [hy617]; exact H) | exact H
          have Ny617 := Aside0.mk hy617; clear hy617; have H' := Aside0.mk H; clear H; obtain ⟨Ao37, co37, eo37⟩ := Kd.R_slice HO_7.out; subst eo37
          try go_wp2
          have n0_ := Aside0.mk (Kd.R_drew HO_6.out); have n1_ := Aside0.mk (Kd.R_drew HO_7.out); have n2_ := Aside0.mk (below_drew1 HB.out); clear HO_6; clear HO_7; clear HB; have HO_6 := n0_; have HO_7 := n1_; have HB := n2_; clear n0_ n1_ n2_; have p614 : 0 ≤ (x12_2 : Int) := of_decide_eq_true s3_; have q614 : x12_2 < (t611.length : Int) := of_decide_eq_true s3_; obtain ⟨ad614, e614, hx614_0⟩ := Kd.at_int (Kd.R_reads' HO_7.out).2.2 x12_2 p614 q614
          cases e614
          replace p614 := eq_true p614; replace q614 := eq_true q614; have p615 : 0 ≤ (x12_2 : Int) := of_decide_eq_true s3_; have q615 : x12_2 < (t611.length : Int) := of_decide_eq_true s3_; obtain ⟨ad615, e615, hx615_0⟩ := Kd.at_int (Kd.R_reads' HO_7.out).2.2 x12_2 p615 q615
          obtain rfl : ad614 = ad615 := (by injection e615)
          replace p615 := eq_true p615; replace q615 := eq_true q615
          refine start_ (n := 15) (S := fun w' => w'.cell? (ad614.add (x12_2).toNat) = some (.int .i64 (rd t611 x12_2)) ∧ w'.cell? (ad614.add (x12_2).toNat) = some (.int .i64 (rd t611 x12_2))) (ds := [12, 13]) (tb_ 15 0) s12_ rfl rfl ⟨hx614_0, hx615_0⟩ (fun hHeld => ?_); refine with_tabW spec_ShortRules.tab21 spec_ShortRules.bits21 (fun HT_ HW_ => ?_)
          generalize wr.drew = w38 at HO_6 HO_7 HB hx614_0 hx615_0 hHeld ⊢
          refine pl_ 0 77 (tb_ 15 1) ?_; refine pl_ 1 78 (tb_ 15 3) ?_; refine pl_ 2 79 (tb_ 15 7) ?_; refine pl_ 3 80 (tb_ 15 15) ?_; refine pl_ 5 82 (tb_ 15 47) ?_; refine pl_ 6 83 (tb_ 15 111) ?_; refine pl_ 7 84 (tb_ 15 239) ?_; refine pl_ 8 85 (tb_ 15 495) ?_; refine tk_ 4 81 (tb_ 15 511) hHeld ?_; refine tk_ 9 86 (tb_ 15 1023) hHeld ?_
          refine on_ 10 87 (tb_ 15 2047) (fun K hK => ?_)
          refine goes_ Tryz.func138 s12_ rfl #[.slice _ l1.length c1, .int .i64 (rd t611 x12_2)] (by rfl) rfl rfl s0_ ?_
          with_reducible refine (spec_l9Closed.calls k2 _ _ l1 (rd t611 x12_2) t616 _ ?side1 ?side2 A35.out).mono ?_
          (case side1 => exact s13_)
          (case side2 => exact HC1.out)
          rintro e w' ⟨rfl, ⟨nd, rfl⟩⟩
          refine ⟨_, rfl, ?_⟩
          refine hK.out _ _ ⟨hHeld.1, hHeld.2⟩ (fun hHeld => ?_)
          clear hK K
          refine norm_ (a' := ?_) ?_ ?_
          rotate_left
          ·
           show Act.put _ (some 87) _ = _
           simp only [Act.put, List.setIfInBounds_toArray, List.set_cons_zero, List.set_cons_succ, i64_w, i32_w]
           rfl
          refine pl_ 11 88 (tb_ 15 4095) ?_
          refine last_ (i := 12) (N := some 89) (tb_ 15 8191) rfl rfl (one_of HT_.out s12_) (by decide) (fun K hK => ?_)
          refine value_ (w1 := ?_) (v := ?_) (by rfl) rfl ?_ ?_
          rotate_left 2
          ·
           go_simp
           constructor
           ·
            rfl
           ·
            rfl
          refine hK.out _ _ ?_
          clear hK K
          refine norm_ (a' := ?_) ?_ ?_
          rotate_left
          ·
           show Act.put _ (some 89) _ = _
           simp only [Act.put, List.setIfInBounds_toArray, List.set_cons_zero, List.set_cons_succ, i64_w, i32_w]
           rfl
          refine last_ (i := 13) (N := some 90) (tb_ 15 16383) rfl rfl (one_of HT_.out s12_) (by decide) (fun K hK => ?_)
          refine Kd.R_append_step k48 (w0 := w) w.heap.size (by rfl) (.tmp 77) (.tmp 89) 24 48 (.agg #[(.int .i64 0), (.int .i64 0)]) 16 rfl Tryz.underlying24 info48 rfl (by decide) (by omega) u6 x6_2 (⟨rd t611 x12_2, t616⟩ : S48) [.int .i64 (rd t611 x12_2), .int .i64 t616] (fun _ => True) (fun _ => False) rfl rfl ?aP (fun _ hk => hk.elim) ?aF ?aO ?aB ?aS ?aL ?_
          (case aP => exact k48_mkM _ _ _ (⟨rd t611 x12_2, t616⟩ : S48))
          (case aB => exact s1_)
          (case aF => exact (fun _ _ => trivial))
          (case aO => exact s17_)
          (case aS => exact (below_size s1_))
          (case aL => have := LMc36.out; omega)
          intro v618 w39 ho hb hg hat
          rw [← Ny617.out] at ho
          have n0_ := Aside0.mk (Kd.R_over' s20_ (Kd.R_typed s17_) (by decide) hg)
          have n1_ := Aside0.mk (hb); have n2_ := Aside0.mk (ho); clear HO_7; clear HB; clear HO_6; have HO_7 := n0_; have HB := n1_; have HO619 := n2_; clear n0_ n1_ n2_; clear ho hb hg hat
          refine hK.out _ _ ?_
          clear hK K
          refine norm_ (a' := ?_) ?_ ?_
          rotate_left
          ·
           show Act.put _ (some 90) _ = _
           simp only [Act.put, List.setIfInBounds_toArray, List.set_cons_zero, List.set_cons_succ, i64_w, i32_w]
           rfl
          refine pl_ 14 6 (tb_ 15 32767) ?_
          refine done_ (done_of HT_.out s12_) ?_
          try go_wp2
          go_roundg k2
          case measure => have := HK1.out; have := HK2.out; omega
          case rel => exact ⟨(y617), (wrap64 (x12_2 + 1)), s2_, H', ⟨by have := HK1.out; have := HK2.out; omega⟩, ⟨(by (with_reducible repeat (first | apply Kd.R_alloc | apply Kd.R_drewN | apply Kd.R_drew)); exact HO619.out)⟩, ⟨s20_⟩, ⟨s1_⟩⟩
         ·
          rw [if_neg c36] at H
          exact absurd H (by simp)
        ·
         rw [if_neg c34] at H
         exact absurd H (by simp)
       ·
        rw [if_neg c33] at H; have c33b0 : decide (x12_2 < (t611.length : Int)) = false := decide_eq_false c33; clear c33
        simp only [Option.some.injEq, Prod.mk.injEq] at H
        obtain ⟨rfl, rfl⟩ := H; obtain ⟨Ao40, co40, eo40⟩ := Kd.R_slice HO_7.out; subst eo40
        go_wp2
        go_ret2
        exact ⟨_, (by first | rfl | (simp [errW_none, errW_some] <;> rfl) | (simp [*, errW_none, errW_some] <;> rfl)), s17_, s1_⟩
 ·
  replace c4 := Bool.eq_false_iff.mpr c4; subst c4
  rw [if_neg (show ¬ (false = true) by decide)] at H
  simp only [Option.some.injEq, Prod.mk.injEq] at H
  obtain ⟨rfl, rfl⟩ := H
  go_enter Tryz.func26, Tryz.ntmps26
  go_wp2_with (first | ((with_reducible refine gate_dst (N := 13) rfl ?_); refine Kd.R_lit k48 _ 48 ?hg (N := 13) ?hd (xs := ([] : List (S48))) (inner := []) (ok := fun _ => True) (okp := fun _ => True) ?hr ?hp (fun _ hk => hk) trivial (Below.refl _ _) (Nat.le_refl _) (by simp) ?_; (case hd => rfl); (case hg => rfl); (case hr => first | (go_simp; done) | (go_simp; rfl)); (case hp => exact (Reps.none _ _)); intro v596 w41 ho42 hb hg_ hnew_; clear hg_ hnew_; (first | rw [← Ny595.out] at ho42 | (simp only [Int.reduceToNat] at ho42; rw [← Ny595.out] at ho42)); have n_ := ac_ (Kd.R_lower ho42 (below_size s1_)) <| Aside0.mk (below_step s1_ hb); clear HB; obtain ⟨HO597, HB⟩ := n_; clear hb ho42) | (refine gL_ 82 16 Tryz.func82 #[.int .i64 a0, .slice A1 l1.length c1] ?_; (with_reducible refine (spec_AreRules.calls k a0 _ _ l1 false _ ?side1 ?side2 A3.out).mono ?_); (case side1 => exact s13_); (case side2 => exact HC1.out); rintro e w43 ⟨rfl, hb⟩; refine ⟨_, rfl, ?_⟩; have n_ := ac_ (Kd.R_below q11_5 hb) <| Aside0.mk (below_step s1_ hb); clear HO597 HB; obtain ⟨HO597, HB⟩ := n_; (try clear hb)))
  go_ret2
  exact ⟨_, (by first | rfl | (simp [errW_none, errW_some] <;> rfl) | (simp [*, errW_none, errW_some] <;> rfl)), q11_5, s1_⟩
end Go.Proofs.YtafnamchckehmaaGreatDoor.Pr
