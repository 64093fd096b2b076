/- What the law needs of the program's functions as plain functions, of the proofs that their calls answer so, and of plain laws: gathered by a program of this place (pack.py) out of its printed texts. No condition beyond what each statement says. -/
import Derived.Test.YtafnamchckehmaaGreatDoorZFnDirect2
import Derived.Test.YtafnamchckehmaaGreatDoorZFnDirect3
namespace Go.Proofs.YtafnamchckehmaaGreatDoor.Pr
open Go.RowKit Go.Proofs.YtafnamchckehmaaGreatDoorW.PrintWords Go.Proofs.YtafnamchckehmaaGreatDoorW.PrintLast Go.Proofs.YtafnamchckehmaaGreatDoorW.PrintMore
attribute [local go_sem] max2_int min2_int max_two min_two max_three min_three max_four min_four
set_option linter.unusedVariables false
set_option linter.unusedSimpArgs false
theorem bnd3_ {α β : Type} {o : Option α} {f : α → Option β} {r : β} (h : o.bind f = some r) : ∃ a, Aside0 (o = some a) ∧ f a = some r := by
 obtain ⟨a, h1, h2⟩ := Option.bind_eq_some_iff.mp h
 exact ⟨a, ⟨h1⟩, h2⟩
theorem q3_2 {P : Prop} (h : P := by repeat (first | exact (Kd.R_reads' HO_3.out).2.2 | (with_reducible refine Kd.C_alloc ?_ _) | (with_reducible refine Kd.C_drewN ?_ _) | (with_reducible refine Kd.C_drew ?_))) : P := h
theorem q3_5 {P : Prop} (h : P := by (with_reducible repeat (first | apply Kd.R_alloc | apply Kd.R_drewN | apply Kd.R_drew)); exact HO144.out) : P := h
theorem q3_6 {P : Prop} (h : P := by (with_reducible repeat (first | apply Kd.R_alloc | apply Kd.R_drewN | apply Kd.R_drew)); exact HO164.out) : P := h
mutual
def spec_SortLectic.l0 : Nat → List Int → List Int → Int → Option (List Int)
 | 0, _, _, _ => none
 | k + 1, x0, x3, x4 => if x4 < (x0.length : Int) then (if 0 ≤ x4 then ((spec_l2In.f k x3 (rd x0 x4)).bind fun t131 => (if t131 = true then (spec_SortLectic.l0 k x0 x3 (wrap64 (x4 + 1))) else (spec_SortLectic.l1 k x0 x3 x4 0))) else (none)) else (some x3)
def spec_SortLectic.l1 : Nat → List Int → List Int → Int → Int → Option (List Int)
 | 0, _, _, _, _ => none
 | k + 1, x0, x3, x4, x5 => if x5 < (x3.length : Int) then (if 0 ≤ x5 then (if 0 ≤ x4 then (if x4 < (x0.length : Int) then ((spec_BeforeSet.f (rd x3 x5) (rd x0 x4)).bind fun t134 => (if t134 = true then (spec_SortLectic.l1 k x0 x3 x4 (wrap64 (x5 + 1))) else ((some (([] : List Int) : List Int)).bind fun y135 => (if x5 ≤ (x3.length : Int) then ((some (x3.drop (x5 : Int).toNat : List Int)).bind fun y138 => (if y135.length + y138.length < 17592186044416 then ((some (y135 ++ y138 : List Int)).bind fun y142 => ((some (x3.take (x5 : Int).toNat : List Int)).bind fun y145 => (if y145.length < 17592186044416 then ((some (y145 ++ [rd x0 x4] : List Int)).bind fun y149 => (if y149.length + y142.length < 17592186044416 then (spec_SortLectic.l0 k x0 (y149 ++ y142) (wrap64 (x4 + 1))) else (none))) else (none)))) else (none))) else (none))))) else (none)) else (none)) else (none)) else ((some (([] : List Int) : List Int)).bind fun y155 => (if 0 ≤ x5 then (if x5 ≤ (x3.length : Int) then ((some (x3.drop (x5 : Int).toNat : List Int)).bind fun y158 => (if y155.length + y158.length < 17592186044416 then ((some (y155 ++ y158 : List Int)).bind fun y162 => ((some (x3.take (x5 : Int).toNat : List Int)).bind fun y165 => (if 0 ≤ x4 then (if x4 < (x0.length : Int) then (if y165.length < 17592186044416 then ((some (y165 ++ [rd x0 x4] : List Int)).bind fun y169 => (if y169.length + y162.length < 17592186044416 then (spec_SortLectic.l0 k x0 (y169 ++ y162) (wrap64 (x4 + 1))) else (none))) else (none)) else (none)) else (none)))) else (none))) else (none)) else (none)))
end
def spec_SortLectic.f (k : Nat) (l0 : List Int) : Option (List Int) := (some (([] : List Int) : List Int)).bind fun y126 => ((spec_l2Sets.f k l0).bind fun t129 => (if t129 = true then (spec_SortLectic.l0 k l0 y126 0) else (some y126)))
def spec_SortLectic.T9 : Bool × List (List Nat × List Nat) := (true, [([], []), ([], []), ([1], [1]), ([0, 2], [0, 2]), ([3], [3]), ([4], [4]), ([4], [4]), ([5, 6, 4], [4, 5, 6]), ([7, 4], [4, 7]), ([4], [4]), ([4], [4]), ([9, 10, 4], [4, 9, 10]), ([11, 4], [4, 11]), ([8, 12, 4, 4], [4, 8, 12]), ([4, 13], [4, 13])])
def spec_SortLectic.B9 : List Nat := [0, 0, 2, 7, 15, 31, 31, 127, 255, 31, 31, 1567, 3615, 8191, 16383]
theorem spec_SortLectic.tab9 : rtab .any (opsOf Tryz.f139 9) = spec_SortLectic.T9 := s12_
theorem spec_SortLectic.bits9 : waitsOk spec_SortLectic.T9.2 spec_SortLectic.B9 = true := s12_
def spec_SortLectic.T12 : Bool × List (List Nat × List Nat) := (true, [([], []), ([], []), ([0, 1], [0, 1]), ([], []), ([], []), ([3, 4], [3, 4]), ([5], [5]), ([6], [6]), ([2, 7], [2, 7]), ([], []), ([8, 9, 8], [8, 9]), ([10, 10, 0, 1, 2, 3, 4, 5, 6, 7, 8, 9, 10], [0, 10])])
def spec_SortLectic.B12 : List Nat := [0, 0, 3, 0, 0, 24, 56, 120, 255, 0, 1023, 2047]
theorem spec_SortLectic.tab12 : rtab .any (opsOf Tryz.f139 12) = spec_SortLectic.T12 := s12_
theorem spec_SortLectic.bits12 : waitsOk spec_SortLectic.T12.2 spec_SortLectic.B12 = true := s12_
set_option maxHeartbeats 8000000 in
set_option maxRecDepth 100000 in
theorem spec_SortLectic.calls (k : Nat) (A0 : Option Addr) (c0 : Nat) (l0 : List Int) (r : List Int) (w : World) (hr0 : Kd.C (Kd.int .i64) w A0 l0.length l0) (hc0 : l0.length ≤ c0) (h : spec_SortLectic.f k l0 = some r) :
  Calls Tryz.prog 139 #[.slice A0 l0.length c0] w fun e w' => ∃ v0_ : Value, e = .returned (v0_) ∧ Kd.R (Kd.int .i64) 3 w' w.heap.size (fun _ => True) v0_ r ∧ Below w.heap.size w w' := by
 have HR0 := Aside0.mk hr0; have HC0 := Aside0.mk hc0; clear hr0 hc0; have HB := Aside0.mk (Below.refl w.heap.size w); have H := h; clear h; unfold spec_SortLectic.f at H; obtain ⟨y126, hy126⟩ : ∃ y_ : List Int, y_ = (([] : List Int)) := ⟨_, rfl⟩
 replace H : ((spec_l2Sets.f k l0).bind fun t129 => (if t129 = true then (spec_SortLectic.l0 k l0 y126 0) else (some y126))) = some r := by first | (rw [hy126]; with_reducible exact H) | (have H2_ := (Option.bind_some _ _).symm.trans H; rw [hy126]; with_reducible exact H2_) | (have H2_ := (Option.bind_some _ _).symm.trans H; with_reducible exact H2_) | with_reducible exact H | (rw [hy126]; exact H) | exact H
 have Ny126 := Aside0.mk hy126; clear hy126; obtain ⟨t129, A2, H⟩ := bnd3_ H
 by_cases c3 : t129 = true
 ·
  subst c3; rw [if_pos rfl] at H; have H' := Aside0.mk H; clear H
  go_enter Tryz.func139, Tryz.ntmps139
  go_wp2_with (first | ((with_reducible refine gate_dst (N := 7) rfl ?_); refine Kd.R_lit (Kd.int .i64) _ 3 ?hg (N := 7) ?hd (xs := ([] : List Int)) (inner := []) (ok := fun _ => True) (okp := fun _ => True) ?hr ?hp (fun _ hk => hk) trivial (Below.refl _ _) (Nat.le_refl _) (by simp) ?_; (case hd => rfl); (case hg => rfl); (case hr => first | (go_simp; done) | (go_simp; rfl)); (case hp => exact (Reps.none _ _)); intro v127 w4 ho5 hb hg_ hnew_; clear hg_ hnew_; (first | rw [← Ny126.out] at ho5 | (simp only [Int.reduceToNat] at ho5; rw [← Ny126.out] at ho5)); have n_ := ac_ (Kd.R_lower ho5 (below_size s1_)) <| Aside0.mk (below_step s1_ hb); clear HB; obtain ⟨HO128, HB⟩ := n_; clear hb ho5) | (refine gL_ 216 9 Tryz.func216 #[.slice A0 l0.length c0] ?_; (with_reducible refine (spec_l2Sets.calls k _ _ l0 true _ ?side1 ?side2 A2.out).mono ?_); (case side1 => exact s13_); (case side2 => exact HC0.out); rintro e w' ⟨rfl, ⟨nd, rfl⟩⟩; refine ⟨_, rfl, ?_⟩))
  go_loopg [3, 4] k (fun kq v3 v4 w' => ∃ (x3_1 : List Int) (x4_1 : Int), v4 = .int .i64 x4_1 ∧ Aside0 (spec_SortLectic.l0 kq l0 x3_1 x4_1 = some r) ∧ Aside0 (kq ≤ k) ∧ Aside0 (Kd.R (Kd.int .i64) 3 w' w.heap.size (fun _ => True) v3 x3_1) ∧ Aside0 (Below w.heap.size w w'))
  case atStart => exact ⟨(y126), (0), s2_, H', ⟨Nat.le_refl _⟩, ⟨(by (with_reducible repeat (first | apply Kd.R_alloc | apply Kd.R_drewN | apply Kd.R_drew)); exact HO128.out)⟩, ⟨s1_⟩⟩
  case round =>
   clear H'
   try clear c1
   try clear c2
   try clear p2
   try clear c3
   obtain ⟨x3_1, x4_1, rfl, HA, HK1, HO_3, HB⟩ := hrel
   cases gk with
   | zero => exact absurd HA.out (by simp [spec_SortLectic.l0])
   | succ k1 =>
    have H := HA.out; clear HA
    simp only [spec_SortLectic.l0] at H
    by_cases c6 : x4_1 < (l0.length : Int)
    ·
     rw [if_pos c6] at H; have c6b0 : decide (x4_1 < (l0.length : Int)) = true := decide_eq_true c6; clear c6
     by_cases c7 : 0 ≤ x4_1
     ·
      rw [if_pos c7] at H; have c7b0 : decide (0 ≤ x4_1) = true := decide_eq_true c7; clear c7; obtain ⟨t131, A8, H⟩ := bnd3_ H
      by_cases c9 : t131 = true
      ·
       subst c9; rw [if_pos rfl] at H; have H' := Aside0.mk H; clear H; have p130 : 0 ≤ (x4_1 : Int) := of_decide_eq_true s3_; have q130 : x4_1 < (l0.length : Int) := of_decide_eq_true s3_; obtain ⟨ad130, e130, hx130_0⟩ := Kd.at_int HR0.out x4_1 p130 q130
       cases e130
       replace hx130_0 := (HB.out.cell (World.block_lt_of_cell? w _ hx130_0)).trans hx130_0; replace p130 := eq_true p130; replace q130 := eq_true q130; obtain ⟨Ao10, co10, eo10⟩ := Kd.R_slice HO_3.out; subst eo10
       go_wp2_with (first | (refine gL_ 133 23 Tryz.func133 #[.slice Ao10 x3_1.length co10, .int .i64 (rd l0 x4_1)] ?_; (with_reducible refine (spec_l2In.calls k1 _ _ x3_1 (rd l0 x4_1) true _ ?side1 ?side2 A8.out).mono ?_); (case side1 => exact q3_2); (case side2 => exact (Kd.R_reads' HO_3.out).2.1); rintro e w' ⟨rfl, ⟨nd, rfl⟩⟩; refine ⟨_, rfl, ?_⟩))
       go_roundg k1
       case measure => have := HK1.out; omega
       case rel => exact ⟨(x3_1), (wrap64 (x4_1 + 1)), s2_, H', ⟨by have := HK1.out; omega⟩, ⟨s9_⟩, ⟨s1_⟩⟩
      ·
       replace c9 := Bool.eq_false_iff.mpr c9; subst c9
       rw [if_neg (show ¬ (false = true) by decide)] at H
       have H' := Aside0.mk H; clear H; have p130 : 0 ≤ (x4_1 : Int) := of_decide_eq_true s3_; have q130 : x4_1 < (l0.length : Int) := of_decide_eq_true s3_; obtain ⟨ad130, e130, hx130_0⟩ := Kd.at_int HR0.out x4_1 p130 q130
       cases e130
       replace hx130_0 := (HB.out.cell (World.block_lt_of_cell? w _ hx130_0)).trans hx130_0; replace p130 := eq_true p130; replace q130 := eq_true q130; obtain ⟨Ao11, co11, eo11⟩ := Kd.R_slice HO_3.out; subst eo11
       go_wp2_with (first | (refine gL_ 133 23 Tryz.func133 #[.slice Ao11 x3_1.length co11, .int .i64 (rd l0 x4_1)] ?_; (with_reducible refine (spec_l2In.calls k1 _ _ x3_1 (rd l0 x4_1) false _ ?side1 ?side2 A8.out).mono ?_); (case side1 => exact q3_2); (case side2 => exact (Kd.R_reads' HO_3.out).2.1); rintro e w' ⟨rfl, ⟨nd, rfl⟩⟩; refine ⟨_, rfl, ?_⟩))
       go_loopg [5] k1 (fun kq v5 w' => ∃ (x5_2 : Int), v5 = .int .i64 x5_2 ∧ Aside0 (spec_SortLectic.l1 kq l0 x3_1 x4_1 x5_2 = some r) ∧ Aside0 (kq ≤ k1) ∧ Aside0 (Kd.R (Kd.int .i64) 3 w' w.heap.size (fun _ => True) (.slice Ao11 x3_1.length co11) x3_1) ∧ Aside0 (Below w.heap.size w w'))
       case atStart => exact ⟨(0), s2_, H', ⟨Nat.le_refl _⟩, ⟨s9_⟩, ⟨s1_⟩⟩
       case round =>
        clear H'
        try clear c1
        try clear p1
        try clear q1
        try clear hx1
        try clear c2
        try clear p2
        try clear c3
        try clear c6
        try clear c6b0
        try clear p6
        try clear c7
        try clear c7b0
        try clear c9
        try clear hx130_0
        try clear p130
        try clear p2
        try clear q130
        obtain ⟨x5_2, rfl, HA, HK2, HO_3, HB⟩ := hrel
        cases gk with
        | zero => exact absurd HA.out (by simp [spec_SortLectic.l1])
        | succ k2 =>
         have H := HA.out; clear HA
         simp only [spec_SortLectic.l1] at H
         by_cases c12 : x5_2 < (x3_1.length : Int)
         ·
          rw [if_pos c12] at H; have c12b0 : decide (x5_2 < (x3_1.length : Int)) = true := decide_eq_true c12; clear c12
          by_cases c13 : 0 ≤ x5_2
          ·
           rw [if_pos c13] at H; have c13b0 : decide (0 ≤ x5_2) = true := decide_eq_true c13; clear c13
           by_cases c14 : 0 ≤ x4_1
           ·
            rw [if_pos c14] at H; have c14b0 : decide (0 ≤ x4_1) = true := decide_eq_true c14; clear c14
            by_cases c15 : x4_1 < (l0.length : Int)
            ·
             rw [if_pos c15] at H; have c15b0 : decide (x4_1 < (l0.length : Int)) = true := decide_eq_true c15; clear c15; obtain ⟨t134, A16, H⟩ := bnd3_ H
             by_cases c17 : t134 = true
             ·
              subst c17; rw [if_pos rfl] at H; have H' := Aside0.mk H; clear H
              try go_wp2
              have n0_ := Aside0.mk (Kd.R_drew HO_3.out); have n1_ := Aside0.mk (below_drew1 HB.out); clear HO_3; clear HB; have HO_3 := n0_; have HB := n1_; clear n0_ n1_; have p132 : 0 ≤ (x5_2 : Int) := of_decide_eq_true s3_; have q132 : x5_2 < (x3_1.length : Int) := of_decide_eq_true s3_; obtain ⟨ad132, e132, hx132_0⟩ := Kd.at_int (Kd.R_reads' HO_3.out).2.2 x5_2 p132 q132
              cases e132
              replace p132 := eq_true p132; replace q132 := eq_true q132; have p133 : 0 ≤ (x4_1 : Int) := of_decide_eq_true s3_; have q133 : x4_1 < (l0.length : Int) := of_decide_eq_true s3_; obtain ⟨ad133, e133, hx133_0⟩ := Kd.at_int HR0.out x4_1 p133 q133; have hw133_0 := hx133_0
              obtain rfl : ad130 = ad133 := (by injection e133)
              replace hx133_0 := (HB.out.cell (World.block_lt_of_cell? w _ hx133_0)).trans hx133_0; replace p133 := eq_true p133; replace q133 := eq_true q133
              refine start_ (n := 15) (S := fun w' => w'.cell? (ad132.add (x5_2).toNat) = some (.int .i64 (rd x3_1 x5_2)) ∧ w'.cell? (ad130.add (x4_1).toNat) = some (.int .i64 (rd l0 x4_1))) (ds := []) (tb_ 15 0) s12_ rfl rfl ⟨hx132_0, ((HB.out.cell (World.block_lt_of_cell? w _ hw133_0)).trans hw133_0)⟩ (fun hHeld => ?_); refine with_tabW spec_SortLectic.tab9 spec_SortLectic.bits9 (fun HT_ HW_ => ?_)
              generalize wr.drew = w18 at HO_3 HB hx132_0 hx133_0 hHeld ⊢
              refine pl_ 0 24 (tb_ 15 1) ?_; refine pl_ 1 25 (tb_ 15 3) ?_; refine pl_ 2 26 (tb_ 15 7) ?_; refine pl_ 3 27 (tb_ 15 15) ?_; refine pl_ 4 28 (tb_ 15 31) ?_; refine pl_ 5 29 (tb_ 15 63) ?_; refine pl_ 6 30 (tb_ 15 127) ?_; refine pl_ 7 31 (tb_ 15 255) ?_; refine pl_ 9 33 (tb_ 15 767) ?_; refine pl_ 10 34 (tb_ 15 1791) ?_; refine pl_ 11 35 (tb_ 15 3839) ?_
              refine take_ (i := 8) (N := some 32) (v := ?_) (a' := ?_) (tb_ 15 4095) rfl rfl (take_ofW HT_.out HW_.out s12_) (fun _ _ _ h => h) (Or.inl ⟨by rfl, ?_⟩) hHeld ?_ ?_
              rotate_left
              ·
               rintro w' ⟨s0, s1⟩
               go_simp; with_reducible rfl
              rotate_left
              ·
               exact s10_
              refine take_ (i := 12) (N := some 36) (v := ?_) (a' := ?_) (tb_ 15 8191) rfl rfl (take_ofW HT_.out HW_.out s12_) (fun _ _ _ h => h) (Or.inl ⟨by rfl, ?_⟩) hHeld ?_ ?_
              rotate_left
              ·
               rintro w' ⟨s0, s1⟩
               go_simp; with_reducible rfl
              rotate_left
              ·
               exact s10_
              refine one_ (i := 13) (N := some 37) (tb_ 15 16383) rfl rfl (one_of HT_.out s12_) (by decide) (fun K hK => ?_)
              refine goes_ Tryz.func134 s12_ rfl #[.int .i64 (rd x3_1 x5_2), .int .i64 (rd l0 x4_1)] (by rfl) rfl rfl s0_ ?_
              with_reducible refine (spec_BeforeSet.calls (rd x3_1 x5_2) (rd l0 x4_1) true _ A16.out).mono ?_
              rintro e w' ⟨rfl, ⟨nd, rfl⟩⟩
              refine ⟨_, rfl, ?_⟩
              refine hK.out _ _ ⟨hHeld.1, ((HB.out.cell (World.block_lt_of_cell? w _ hw133_0)).trans hw133_0)⟩ (fun hHeld => ?_)
              clear hK K
              refine norm_ (a' := ?_) ?_ ?_
              rotate_left
              ·
               show Act.put _ (some 37) _ = _
               exact s10_
              refine pl_ 14 38 (tb_ 15 32767) ?_
              refine done_ (done_of HT_.out s12_) ?_
              try go_wp2
              go_roundg k2
              case measure => have := HK1.out; have := HK2.out; omega
              case rel => exact ⟨(wrap64 (x5_2 + 1)), s2_, H', ⟨by have := HK1.out; have := HK2.out; omega⟩, ⟨s9_⟩, ⟨s1_⟩⟩
             ·
              replace c17 := Bool.eq_false_iff.mpr c17; subst c17
              rw [if_neg (show ¬ (false = true) by decide)] at H
              obtain ⟨y135, hy135⟩ : ∃ y_ : List Int, y_ = (([] : List Int)) := ⟨_, rfl⟩
              replace H : (if x5_2 ≤ (x3_1.length : Int) then ((some (x3_1.drop (x5_2 : Int).toNat : List Int)).bind fun y138 => (if y135.length + y138.length < 17592186044416 then ((some (y135 ++ y138 : List Int)).bind fun y142 => ((some (x3_1.take (x5_2 : Int).toNat : List Int)).bind fun y145 => (if y145.length < 17592186044416 then ((some (y145 ++ [rd l0 x4_1] : List Int)).bind fun y149 => (if y149.length + y142.length < 17592186044416 then (spec_SortLectic.l0 k2 l0 (y149 ++ y142) (wrap64 (x4_1 + 1))) else (none))) else (none)))) else (none))) else (none)) = some r := by first | (rw [hy135]; with_reducible exact H) | (have H2_ := (Option.bind_some _ _).symm.trans H; rw [hy135]; with_reducible exact H2_) | (have H2_ := (Option.bind_some _ _).symm.trans H; with_reducible exact H2_) | with_reducible exact H | (rw [hy135]; exact H) | exact H
              have Ny135 := Aside0.mk hy135; clear hy135; have c19b0 := eq_true (of_decide_eq_true s3_ : 0 ≤ x5_2)
              by_cases c20 : x5_2 ≤ (x3_1.length : Int)
              ·
               rw [if_pos c20] at H; have c20b0 := eq_true c20; have c20b1 : decide (x5_2 ≤ (x3_1.length : Int)) = true := decide_eq_true c20; clear c20; obtain ⟨y138, hy138⟩ : ∃ y_ : List Int, y_ = (x3_1.drop (x5_2 : Int).toNat) := ⟨_, rfl⟩
               replace H : (if y135.length + y138.length < 17592186044416 then ((some (y135 ++ y138 : List Int)).bind fun y142 => ((some (x3_1.take (x5_2 : Int).toNat : List Int)).bind fun y145 => (if y145.length < 17592186044416 then ((some (y145 ++ [rd l0 x4_1] : List Int)).bind fun y149 => (if y149.length + y142.length < 17592186044416 then (spec_SortLectic.l0 k2 l0 (y149 ++ y142) (wrap64 (x4_1 + 1))) else (none))) else (none)))) else (none)) = some r := by first | (rw [hy138]; with_reducible exact H) | (have H2_ := (Option.bind_some _ _).symm.trans H; rw [hy138]; with_reducible exact H2_) | (have H2_ := (Option.bind_some _ _).symm.trans H; with_reducible exact H2_) | with_reducible exact H | (rw [hy138]; exact H) | exact H
               have Ny138 := Aside0.mk hy138; clear hy138
               by_cases c21 : y135.length + y138.length < 17592186044416
               ·
                rw [if_pos c21] at H; have LMc21 := Aside0.mk c21; clear c21; obtain ⟨y142, hy142⟩ : ∃ y_ : List Int, y_ = (y135 ++ y138) := ⟨_, rfl⟩
                replace H : ((some (x3_1.take (x5_2 : Int).toNat : List Int)).bind fun y145 => (if y145.length < 17592186044416 then ((some (y145 ++ [rd l0 x4_1] : List Int)).bind fun y149 => (if y149.length + y142.length < 17592186044416 then (spec_SortLectic.l0 k2 l0 (y149 ++ y142) (wrap64 (x4_1 + 1))) else (none))) else (none))) = some r := by first | (rw [hy142]; with_reducible exact H) | (have H2_ := (Option.bind_some _ _).symm.trans H; rw [hy142]; with_reducible exact H2_) | (have H2_ := (Option.bind_some _ _).symm.trans H; with_reducible exact H2_) | with_reducible exact H | (rw [hy142]; exact H) | exact H
                have Ny142 := Aside0.mk hy142; clear hy142; have c22b0 := eq_true (of_decide_eq_true s3_ : x5_2 ≤ (x3_1.length : Int)); obtain ⟨y145, hy145⟩ : ∃ y_ : List Int, y_ = (x3_1.take (x5_2 : Int).toNat) := ⟨_, rfl⟩
                replace H : (if y145.length < 17592186044416 then ((some (y145 ++ [rd l0 x4_1] : List Int)).bind fun y149 => (if y149.length + y142.length < 17592186044416 then (spec_SortLectic.l0 k2 l0 (y149 ++ y142) (wrap64 (x4_1 + 1))) else (none))) else (none)) = some r := by first | (rw [hy145]; with_reducible exact H) | (have H2_ := (Option.bind_some _ _).symm.trans H; rw [hy145]; with_reducible exact H2_) | (have H2_ := (Option.bind_some _ _).symm.trans H; with_reducible exact H2_) | with_reducible exact H | (rw [hy145]; exact H) | exact H
                have Ny145 := Aside0.mk hy145; clear hy145
                by_cases c23 : y145.length < 17592186044416
                ·
                 rw [if_pos c23] at H; have LMc23 := Aside0.mk c23; clear c23; obtain ⟨y149, hy149⟩ : ∃ y_ : List Int, y_ = (y145 ++ [rd l0 x4_1]) := ⟨_, rfl⟩
                 replace H : (if y149.length + y142.length < 17592186044416 then (spec_SortLectic.l0 k2 l0 (y149 ++ y142) (wrap64 (x4_1 + 1))) else (none)) = some r := by first | (rw [hy149]; with_reducible exact H) | (have H2_ := (Option.bind_some _ _).symm.trans H; rw [hy149]; with_reducible exact H2_) | (have H2_ := (Option.bind_some _ _).symm.trans H; with_reducible exact H2_) | with_reducible exact H | (rw [hy149]; exact H) | exact H
                 have Ny149 := Aside0.mk hy149; clear hy149
                 by_cases c24 : y149.length + y142.length < 17592186044416
                 ·
                  rw [if_pos c24] at H; have LMc24 := Aside0.mk c24; clear c24; obtain ⟨y152, hy152⟩ : ∃ y_ : List Int, y_ = (y149 ++ y142) := ⟨_, rfl⟩
                  replace H : (spec_SortLectic.l0 k2 l0 y152 (wrap64 (x4_1 + 1))) = some r := by first | (rw [hy152]; with_reducible exact H) | (have H2_ := (Option.bind_some _ _).symm.trans H; rw [hy152]; with_reducible exact H2_) | (have H2_ := (Option.bind_some _ _).symm.trans H; with_reducible exact H2_) | with_reducible exact H | (rw [hy152]; exact H) | exact H
                  have Ny152 := Aside0.mk hy152; clear hy152; have H' := Aside0.mk H; clear H
                  try go_wp2
                  have n0_ := Aside0.mk (Kd.R_drew HO_3.out); have n1_ := Aside0.mk (below_drew1 HB.out); clear HO_3; clear HB; have HO_3 := n0_; have HB := n1_; clear n0_ n1_; have p132 : 0 ≤ (x5_2 : Int) := of_decide_eq_true s3_; have q132 : x5_2 < (x3_1.length : Int) := of_decide_eq_true s3_; obtain ⟨ad132, e132, hx132_0⟩ := Kd.at_int (Kd.R_reads' HO_3.out).2.2 x5_2 p132 q132
                  cases e132
                  replace p132 := eq_true p132; replace q132 := eq_true q132; have p133 : 0 ≤ (x4_1 : Int) := of_decide_eq_true s3_; have q133 : x4_1 < (l0.length : Int) := of_decide_eq_true s3_; obtain ⟨ad133, e133, hx133_0⟩ := Kd.at_int HR0.out x4_1 p133 q133; have hw133_0 := hx133_0
                  obtain rfl : ad130 = ad133 := (by injection e133)
                  replace hx133_0 := (HB.out.cell (World.block_lt_of_cell? w _ hx133_0)).trans hx133_0; replace p133 := eq_true p133; replace q133 := eq_true q133
                  refine start_ (n := 15) (S := fun w' => w'.cell? (ad132.add (x5_2).toNat) = some (.int .i64 (rd x3_1 x5_2)) ∧ w'.cell? (ad130.add (x4_1).toNat) = some (.int .i64 (rd l0 x4_1))) (ds := []) (tb_ 15 0) s12_ rfl rfl ⟨hx132_0, ((HB.out.cell (World.block_lt_of_cell? w _ hw133_0)).trans hw133_0)⟩ (fun hHeld => ?_); refine with_tabW spec_SortLectic.tab9 spec_SortLectic.bits9 (fun HT_ HW_ => ?_)
                  generalize wr.drew = w25 at HO_3 HB hx132_0 hx133_0 hHeld ⊢
                  refine pl_ 0 24 (tb_ 15 1) ?_; refine pl_ 1 25 (tb_ 15 3) ?_; refine pl_ 2 26 (tb_ 15 7) ?_; refine pl_ 3 27 (tb_ 15 15) ?_; refine pl_ 4 28 (tb_ 15 31) ?_; refine pl_ 5 29 (tb_ 15 63) ?_; refine pl_ 6 30 (tb_ 15 127) ?_; refine pl_ 7 31 (tb_ 15 255) ?_; refine pl_ 9 33 (tb_ 15 767) ?_; refine pl_ 10 34 (tb_ 15 1791) ?_; refine pl_ 11 35 (tb_ 15 3839) ?_
                  refine take_ (i := 8) (N := some 32) (v := ?_) (a' := ?_) (tb_ 15 4095) rfl rfl (take_ofW HT_.out HW_.out s12_) (fun _ _ _ h => h) (Or.inl ⟨by rfl, ?_⟩) hHeld ?_ ?_
                  rotate_left
                  ·
                   rintro w' ⟨s0, s1⟩
                   go_simp; with_reducible rfl
                  rotate_left
                  ·
                   exact s10_
                  refine take_ (i := 12) (N := some 36) (v := ?_) (a' := ?_) (tb_ 15 8191) rfl rfl (take_ofW HT_.out HW_.out s12_) (fun _ _ _ h => h) (Or.inl ⟨by rfl, ?_⟩) hHeld ?_ ?_
                  rotate_left
                  ·
                   rintro w' ⟨s0, s1⟩
                   go_simp; with_reducible rfl
                  rotate_left
                  ·
                   exact s10_
                  refine one_ (i := 13) (N := some 37) (tb_ 15 16383) rfl rfl (one_of HT_.out s12_) (by decide) (fun K hK => ?_)
                  refine goes_ Tryz.func134 s12_ rfl #[.int .i64 (rd x3_1 x5_2), .int .i64 (rd l0 x4_1)] (by rfl) rfl rfl s0_ ?_
                  with_reducible refine (spec_BeforeSet.calls (rd x3_1 x5_2) (rd l0 x4_1) false _ A16.out).mono ?_
                  rintro e w' ⟨rfl, ⟨nd, rfl⟩⟩
                  refine ⟨_, rfl, ?_⟩
                  refine hK.out _ _ ⟨hHeld.1, ((HB.out.cell (World.block_lt_of_cell? w _ hw133_0)).trans hw133_0)⟩ (fun hHeld => ?_)
                  clear hK K
                  refine norm_ (a' := ?_) ?_ ?_
                  rotate_left
                  ·
                   show Act.put _ (some 37) _ = _
                   exact s10_
                  refine pl_ 14 38 (tb_ 15 32767) ?_
                  refine done_ (done_of HT_.out s12_) ?_
                  try go_wp2_with (first | ((with_reducible refine gate_dst (N := 41) rfl ?_); refine Kd.R_lit (Kd.int .i64) _ 3 ?hg (N := 41) ?hd (xs := ([] : List Int)) (inner := []) (ok := fun _ => True) (okp := fun _ => True) ?hr ?hp (fun _ hk => hk) trivial (Below.refl _ _) (Nat.le_refl _) (by simp) ?_; (case hd => rfl); (case hg => rfl); (case hr => first | (go_simp; done) | (go_simp; rfl)); (case hp => exact (Reps.none _ _)); intro v136 w26 ho27 hb hg_ hnew_; clear hg_ hnew_; (first | rw [← Ny135.out] at ho27 | (simp only [Int.reduceToNat] at ho27; rw [← Ny135.out] at ho27)); have n_ := ac_ (Kd.R_elder' s9_ (Kd.R_base ho27) hb) <| ac_ (Kd.R_lower (Kd.R_new' ho27 (Kd.R_lt s9_)) (below_size s1_)) <| Aside0.mk (below_step s1_ hb); clear HO_3 HB; obtain ⟨HO_3, HO137, HB⟩ := n_; clear hb ho27; have q28 : (x5_2 : Int) ≤ ((x3_1.length : Int) : Int) := of_decide_eq_true s3_; obtain ⟨i028, hi028, _, hsz28, _⟩ := info_parts info3; have hroom28 : x3_1.length ≤ co11 := (Kd.R_reads' HO_3.out).2.1; have hC28 : Kd.C (Kd.int .i64) _ (some ad132) x3_1.length x3_1 := (Kd.R_reads' HO_3.out).2.2; have q028 : (0 : Int) ≤ (x5_2 : Int) := of_decide_eq_true s3_; have hcut28 := cut_from (P := Tryz.prog) 27 3 .i64 Tryz.underlying27 hi028 1 hsz28 (some ad132) x3_1.length co11 x5_2 q028 q28; have hr28 := Kd.C_drop (m := (x5_2 : Int).toNat) (c := co11) hC28 (by omega) hroom28; obtain ⟨A28, hA28⟩ : ∃ A1, A1 = (if co11 = (x5_2 : Int).toNat then (some ad132) else ((some ad132) : Option Addr).map (·.add ((x5_2 : Int).toNat * 1))) := ⟨_, rfl⟩; obtain ⟨c28, hc28⟩ : ∃ c1, c1 = co11 - (x5_2 : Int).toNat := ⟨_, rfl⟩; have hy28 : y138.length = x3_1.length - (x5_2 : Int).toNat := (by rw [Ny138.out, List.length_drop] <;> omega); rw [show (x3_1).drop (x5_2 : Int).toNat = y138 from Ny138.out.symm] at hr28; replace hr28 : Kd.C (Kd.int .i64) _ A28 y138.length y138 := (by rw [hA28]; exact hr28); rw [← hy28, ← hA28, ← hc28] at hcut28; have HR141 := Aside0.mk hr28; have HC141 := Aside0.mk (show y138.length ≤ c28 from by rw [hy28, hc28]; exact Nat.sub_le_sub_right hroom28 _); clear hr28 hC28 hroom28 hi028 hsz28 hc28; have KY28 := Aside0.mk hy28; have KA28 := Aside0.mk hA28; clear hy28 hA28; have KL28 := Aside0.mk (show (x5_2 : Int).toNat ≤ x3_1.length from by omega); replace q28 := eq_true q28) | ((with_reducible refine gate_builtin (b := .append) (xs := #[.tmp 41, .tmp 44]) rfl ?_); at_builtin; refine Kd.R_append_rows (Kd.int .i64) (w0 := w) w.heap.size rfl (.tmp 41) (.tmp 44) 27 3 (.int .i64 0) 8 rfl Tryz.underlying27 info3 rfl (by decide) (by omega) v136 y135 y138 _ _ _ (fun k_ => some k_ ≠ (.slice (some ad132) x3_1.length co11 : Value).ownBlock) (fun _ => False) rfl rfl ?aO ?aR (fun _ _ h => h) (fun _ h => h.elim) ?aF ?aB ?aS ?aL ?_; (case aR => repeat (first | exact (by repeat (first | (with_reducible exact HR141.out) | (with_reducible refine Kd.C_alloc ?_ _) | (with_reducible refine Kd.C_drewN ?_ _) | (with_reducible refine Kd.C_drew ?_) | exact HR141.out)) | (with_reducible refine Kd.C_alloc ?_ _) | (with_reducible refine Kd.C_drewN ?_ _) | (with_reducible refine Kd.C_drew ?_))); (case aB => exact s1_); (case aF => exact (fun k_ hk => Kd.fresh' (Kd.R_lt s9_) k_ hk)); (case aO => exact (by (with_reducible repeat (first | apply Kd.R_alloc | apply Kd.R_drewN | apply Kd.R_drew)); exact Kd.R_mono HO137.out (fun _ hk => hk.2))); (case aS => exact (below_size s1_)); (case aL => have := LMc21.out; omega); intro v143 w29 ho hb hg hat; rw [← Ny142.out] at ho; have n_ := ac_ (Kd.R_after (ok := (fun _ => True)) s9_ hg hat) <| ac_ (hb) <| ac_ ((show Kd.C (Kd.int .i64) w29 A28 y138.length y138 from by rw [Ny138.out, KA28.out]; exact Kd.C_drop (m := (x5_2 : Int).toNat) (c := co11) ((Kd.R_reads' (Kd.R_after (ok := (fun _ => True)) s9_ hg hat)).2.2) KL28.out ((Kd.R_reads' (Kd.R_after (ok := (fun _ => True)) s9_ hg hat)).2.1))) <| Aside0.mk (ho); clear HO_3 HB HR141 HO137; obtain ⟨HO_3, HB, HR141, HO144⟩ := n_; clear ho hb hg hat))
                  have n0_ := Aside0.mk (Kd.R_drew HO_3.out); have n1_ := Aside0.mk (Kd.R_drew HO144.out); have n2_ := Aside0.mk (Kd.C_drew HR141.out); have n3_ := Aside0.mk (below_drew1 HB.out); clear HO_3; clear HO144; clear HR141; clear HB; have HO_3 := n0_; have HO144 := n1_; have HR141 := n2_; have HB := n3_; clear n0_ n1_ n2_ n3_; have q31 : (x5_2 : Int) ≤ ((x3_1.length : Int) : Int) := of_decide_eq_true s3_; obtain ⟨i031, hi031, _, hsz31, _⟩ := info_parts info3; have hcut31 := cut_to (P := Tryz.prog) 27 3 .i64 Tryz.underlying27 hi031 (some ad132) x3_1.length co11 x5_2 (of_decide_eq_true s3_) q31 (Kd.R_reads' HO_3.out).2.1
                  have hr31 := Kd.R_take (m := (x5_2 : Int).toNat) HO_3.out (by omega)
                  have hy31 : y145.length = (x5_2 : Int).toNat := (by rw [Ny145.out, List.length_take]; omega)
                  rw [← Ny145.out] at hr31; rw [← hy31] at hr31 hcut31; clear hy31 hi031 hsz31 HO_3; have HO147 := Aside0.mk hr31; clear hr31; replace q31 := eq_true q31; have p148 : 0 ≤ (x4_1 : Int) := of_decide_eq_true s3_; have q148 : x4_1 < (l0.length : Int) := of_decide_eq_true s3_; obtain ⟨ad148, e148, hx148_0⟩ := Kd.at_int HR0.out x4_1 p148 q148; have hw148_0 := hx148_0
                  obtain rfl : ad130 = ad148 := (by injection e148)
                  replace hx148_0 := (HB.out.cell (World.block_lt_of_cell? w _ hx148_0)).trans hx148_0; replace p148 := eq_true p148; replace q148 := eq_true q148
                  refine start_ (n := 12) (S := fun w' => w'.cell? (ad130.add (x4_1).toNat) = some (.int .i64 (rd l0 x4_1))) (ds := []) (tb_ 12 0) s12_ rfl rfl (((HB.out.cell (World.block_lt_of_cell? w _ hw148_0)).trans hw148_0)) (fun hHeld => ?_); refine with_tabW spec_SortLectic.tab12 spec_SortLectic.bits12 (fun HT_ HW_ => ?_)
                  generalize w29.drew = w30 at HO_3 HO144 HR141 HB HO147 hx148_0 hHeld ⊢
                  refine pl_ 0 46 (tb_ 12 1) ?_; refine pl_ 1 47 (tb_ 12 3) ?_; refine pl_ 2 48 (tb_ 12 7) ?_; refine pl_ 3 49 (tb_ 12 15) ?_; refine pl_ 4 50 (tb_ 12 31) ?_; refine pl_ 5 51 (tb_ 12 63) ?_; refine pl_ 9 55 (tb_ 12 575) ?_
                  refine take_ (i := 6) (N := some 52) (v := ?_) (a' := ?_) (tb_ 12 639) rfl rfl (take_ofW HT_.out HW_.out s12_) (fun _ _ _ h => h) (Or.inl ⟨by rfl, ?_⟩) hHeld ?_ ?_
                  rotate_left
                  ·
                   intro w' s0
                   go_simp; with_reducible rfl
                  rotate_left
                  ·
                   exact s10_
                  refine one_ (i := 7) (N := some 53) (tb_ 12 767) rfl rfl (one_of HT_.out s12_) (by decide) (fun K hK => ?_)
                  refine value_ (w1 := ?_) (v := ?_) (by rfl) rfl ?_ ?_
                  rotate_left 2
                  ·
                   go_simp
                   constructor
                   ·
                    rfl
                   ·
                    rfl
                  refine hK.out _ _ ((World.cell?_alloc_lt _ _ _ (World.block_lt_of_cell? _ _ (((HB.out.cell (World.block_lt_of_cell? w _ hw148_0)).trans hw148_0)))).trans (((HB.out.cell (World.block_lt_of_cell? w _ hw148_0)).trans hw148_0))) (fun hHeld => ?_)
                  clear hK K
                  refine norm_ (a' := ?_) ?_ ?_
                  rotate_left
                  ·
                   show Act.put _ (some 53) _ = _
                   exact s10_
                  refine one_ (i := 8) (N := some 54) (tb_ 12 1023) rfl rfl (one_of HT_.out s12_) (by decide) (fun K hK => ?_)
                  refine Kd.R_append_step (Kd.int .i64) (w0 := w) w.heap.size (by rfl) (.tmp 48) (.tmp 53) 27 3 (.int .i64 0) 8 rfl Tryz.underlying27 info3 rfl (by decide) (by omega) (.slice (some ad132) y145.length co11) y145 (rd l0 x4_1) [.int .i64 (rd l0 x4_1)] (fun k_ => some k_ ≠ (v143 : Value).ownBlock) (fun _ => False) rfl rfl ?aP (fun _ hk => hk.elim) ?aF ?aO ?aB ?aS ?aL ?_
                  (case aP => exact rfl)
                  (case aB => exact s1_)
                  (case aF => exact (fun k_ hk => Kd.fresh' (Kd.R_lt q3_5) k_ hk))
                  (case aO => exact (by (with_reducible repeat (first | apply Kd.R_alloc | apply Kd.R_drewN | apply Kd.R_drew)); exact Kd.R_mono HO147.out (fun _ hk => hk.2)))
                  (case aS => exact (below_size s1_))
                  (case aL => have := LMc23.out; omega)
                  intro v150 w32 ho hb hg hat
                  rw [← Ny149.out] at ho
                  have n0_ := Aside0.mk (Kd.R_after (ok := (fun _ => True)) (by (with_reducible repeat (first | apply Kd.R_alloc | apply Kd.R_drewN | apply Kd.R_drew)); exact Kd.R_mono HO144.out (fun _ hk => ⟨trivial, by first | exact hk | exact own_any hk⟩)) hg hat)
                  have n1_ := Aside0.mk (hb); have n2_ := Aside0.mk (ho); clear HO144; clear HB; clear HO147; have HO144 := n0_; have HB := n1_; have HO151 := n2_; clear n0_ n1_ n2_; clear ho hb hg hat; obtain ⟨Ao34, co34, eo34⟩ := Kd.R_slice HO144.out
                  (first | subst eo34 | (injection eo34 with f1_ f2_ f3_; have f4_ := f1_.symm; have f5_ := f3_.symm; clear f1_ f2_ f3_; subst f4_; subst f5_))
                  refine hK.out _ _ (((HB.out.cell (World.block_lt_of_cell? w _ hw148_0)).trans hw148_0)) (fun hHeld => ?_)
                  clear hK K
                  refine norm_ (a' := ?_) ?_ ?_
                  rotate_left
                  ·
                   show Act.put _ (some 54) _ = _
                   exact s10_
                  refine one_ (i := 10) (N := some 56) (tb_ 12 2047) rfl rfl (one_of HT_.out s12_) (by decide) (fun K hK => ?_)
                  refine Kd.R_append_rows_step (Kd.int .i64) (w0 := w) w.heap.size (by rfl) (.tmp 54) (.tmp 55) 27 3 (.int .i64 0) 8 rfl Tryz.underlying27 info3 rfl (by decide) (by omega) v150 y149 y142 _ _ _ (fun k_ => some k_ ≠ (.slice Ao34 y142.length co34 : Value).ownBlock) (fun _ => False) rfl rfl ?aO ?aR (fun _ _ h => h) (fun _ h => h.elim) ?aF ?aB ?aS ?aL ?_
                  (case aR => repeat (first | exact (Kd.R_reads' HO144.out).2.2 | (with_reducible refine Kd.C_alloc ?_ _) | (with_reducible refine Kd.C_drewN ?_ _) | (with_reducible refine Kd.C_drew ?_)))
                  (case aB => exact s1_)
                  (case aF => exact (fun k_ hk => Kd.fresh' (Kd.R_lt q3_5) k_ hk))
                  (case aO => exact (by (with_reducible repeat (first | apply Kd.R_alloc | apply Kd.R_drewN | apply Kd.R_drew)); exact HO151.out))
                  (case aS => exact (below_size s1_))
                  (case aL => have := LMc24.out; omega)
                  intro v153 w33 ho hb hg hat
                  rw [← Ny152.out] at ho
                  have n0_ := Aside0.mk (Kd.R_after (ok := (fun _ => True)) q3_5 hg hat)
                  have n1_ := Aside0.mk (hb); have n2_ := Aside0.mk (ho); clear HO144; clear HB; clear HO151; have HO144 := n0_; have HB := n1_; have HO154 := n2_; clear n0_ n1_ n2_; clear ho hb hg hat
                  refine hK.out _ _ (((HB.out.cell (World.block_lt_of_cell? w _ hw148_0)).trans hw148_0)) (fun hHeld => ?_)
                  clear hK K
                  refine norm_ (a' := ?_) ?_ ?_
                  rotate_left
                  ·
                   show Act.put _ (some 56) _ = _
                   exact s10_
                  refine pl_ 11 3 (tb_ 12 4095) ?_
                  refine done_ (done_of HT_.out s12_) ?_
                  try go_wp2
                  go_roundg k2
                  case measure => have := HK1.out; have := HK2.out; omega
                  case rel => exact ⟨(y152), (wrap64 (x4_1 + 1)), s2_, H', ⟨by have := HK1.out; have := HK2.out; omega⟩, ⟨(by (with_reducible repeat (first | apply Kd.R_alloc | apply Kd.R_drewN | apply Kd.R_drew)); exact Kd.R_mono HO154.out (fun _ hk => trivial))⟩, ⟨s1_⟩⟩
                 ·
                  rw [if_neg c24] at H
                  exact absurd H (by simp)
                ·
                 rw [if_neg c23] at H
                 exact absurd H (by simp)
               ·
                rw [if_neg c21] at H
                exact absurd H (by simp)
              ·
               rw [if_neg c20] at H
               exact absurd H (by simp)
            ·
             rw [if_neg c15] at H
             exact absurd H (by simp)
           ·
            rw [if_neg c14] at H
            exact absurd H (by simp)
          ·
           rw [if_neg c13] at H
           exact absurd H (by simp)
         ·
          rw [if_neg c12] at H; have c12b0 : decide (x5_2 < (x3_1.length : Int)) = false := decide_eq_false c12; clear c12; obtain ⟨y155, hy155⟩ : ∃ y_ : List Int, y_ = (([] : List Int)) := ⟨_, rfl⟩
          replace H : (if 0 ≤ x5_2 then (if x5_2 ≤ (x3_1.length : Int) then ((some (x3_1.drop (x5_2 : Int).toNat : List Int)).bind fun y158 => (if y155.length + y158.length < 17592186044416 then ((some (y155 ++ y158 : List Int)).bind fun y162 => ((some (x3_1.take (x5_2 : Int).toNat : List Int)).bind fun y165 => (if 0 ≤ x4_1 then (if x4_1 < (l0.length : Int) then (if y165.length < 17592186044416 then ((some (y165 ++ [rd l0 x4_1] : List Int)).bind fun y169 => (if y169.length + y162.length < 17592186044416 then (spec_SortLectic.l0 k2 l0 (y169 ++ y162) (wrap64 (x4_1 + 1))) else (none))) else (none)) else (none)) else (none)))) else (none))) else (none)) else (none)) = some r := by first | (rw [hy155]; with_reducible exact H) | (have H2_ := (Option.bind_some _ _).symm.trans H; rw [hy155]; with_reducible exact H2_) | (have H2_ := (Option.bind_some _ _).symm.trans H; with_reducible exact H2_) | with_reducible exact H | (rw [hy155]; exact H) | exact H
          have Ny155 := Aside0.mk hy155; clear hy155
          by_cases c35 : 0 ≤ x5_2
          ·
           rw [if_pos c35] at H; have c35b0 := eq_true c35; have c35b1 : decide (0 ≤ x5_2) = true := decide_eq_true c35; clear c35
           by_cases c36 : x5_2 ≤ (x3_1.length : Int)
           ·
            rw [if_pos c36] at H; have c36b0 := eq_true c36; have c36b1 : decide (x5_2 ≤ (x3_1.length : Int)) = true := decide_eq_true c36; clear c36; obtain ⟨y158, hy158⟩ : ∃ y_ : List Int, y_ = (x3_1.drop (x5_2 : Int).toNat) := ⟨_, rfl⟩
            replace H : (if y155.length + y158.length < 17592186044416 then ((some (y155 ++ y158 : List Int)).bind fun y162 => ((some (x3_1.take (x5_2 : Int).toNat : List Int)).bind fun y165 => (if 0 ≤ x4_1 then (if x4_1 < (l0.length : Int) then (if y165.length < 17592186044416 then ((some (y165 ++ [rd l0 x4_1] : List Int)).bind fun y169 => (if y169.length + y162.length < 17592186044416 then (spec_SortLectic.l0 k2 l0 (y169 ++ y162) (wrap64 (x4_1 + 1))) else (none))) else (none)) else (none)) else (none)))) else (none)) = some r := by first | (rw [hy158]; with_reducible exact H) | (have H2_ := (Option.bind_some _ _).symm.trans H; rw [hy158]; with_reducible exact H2_) | (have H2_ := (Option.bind_some _ _).symm.trans H; with_reducible exact H2_) | with_reducible exact H | (rw [hy158]; exact H) | exact H
            have Ny158 := Aside0.mk hy158; clear hy158
            by_cases c37 : y155.length + y158.length < 17592186044416
            ·
             rw [if_pos c37] at H; have LMc37 := Aside0.mk c37; clear c37; obtain ⟨y162, hy162⟩ : ∃ y_ : List Int, y_ = (y155 ++ y158) := ⟨_, rfl⟩
             replace H : ((some (x3_1.take (x5_2 : Int).toNat : List Int)).bind fun y165 => (if 0 ≤ x4_1 then (if x4_1 < (l0.length : Int) then (if y165.length < 17592186044416 then ((some (y165 ++ [rd l0 x4_1] : List Int)).bind fun y169 => (if y169.length + y162.length < 17592186044416 then (spec_SortLectic.l0 k2 l0 (y169 ++ y162) (wrap64 (x4_1 + 1))) else (none))) else (none)) else (none)) else (none))) = some r := by first | (rw [hy162]; with_reducible exact H) | (have H2_ := (Option.bind_some _ _).symm.trans H; rw [hy162]; with_reducible exact H2_) | (have H2_ := (Option.bind_some _ _).symm.trans H; with_reducible exact H2_) | with_reducible exact H | (rw [hy162]; exact H) | exact H
             have Ny162 := Aside0.mk hy162; clear hy162; have c38b0 := eq_true (of_decide_eq_true s3_ : x5_2 ≤ (x3_1.length : Int)); obtain ⟨y165, hy165⟩ : ∃ y_ : List Int, y_ = (x3_1.take (x5_2 : Int).toNat) := ⟨_, rfl⟩
             replace H : (if 0 ≤ x4_1 then (if x4_1 < (l0.length : Int) then (if y165.length < 17592186044416 then ((some (y165 ++ [rd l0 x4_1] : List Int)).bind fun y169 => (if y169.length + y162.length < 17592186044416 then (spec_SortLectic.l0 k2 l0 (y169 ++ y162) (wrap64 (x4_1 + 1))) else (none))) else (none)) else (none)) else (none)) = some r := by first | (rw [hy165]; with_reducible exact H) | (have H2_ := (Option.bind_some _ _).symm.trans H; rw [hy165]; with_reducible exact H2_) | (have H2_ := (Option.bind_some _ _).symm.trans H; with_reducible exact H2_) | with_reducible exact H | (rw [hy165]; exact H) | exact H
             have Ny165 := Aside0.mk hy165; clear hy165
             by_cases c39 : 0 ≤ x4_1
             ·
              rw [if_pos c39] at H; have c39b0 : decide (0 ≤ x4_1) = true := decide_eq_true c39; clear c39
              by_cases c40 : x4_1 < (l0.length : Int)
              ·
               rw [if_pos c40] at H; have c40b0 : decide (x4_1 < (l0.length : Int)) = true := decide_eq_true c40; clear c40
               by_cases c41 : y165.length < 17592186044416
               ·
                rw [if_pos c41] at H; have LMc41 := Aside0.mk c41; clear c41; obtain ⟨y169, hy169⟩ : ∃ y_ : List Int, y_ = (y165 ++ [rd l0 x4_1]) := ⟨_, rfl⟩
                replace H : (if y169.length + y162.length < 17592186044416 then (spec_SortLectic.l0 k2 l0 (y169 ++ y162) (wrap64 (x4_1 + 1))) else (none)) = some r := by first | (rw [hy169]; with_reducible exact H) | (have H2_ := (Option.bind_some _ _).symm.trans H; rw [hy169]; with_reducible exact H2_) | (have H2_ := (Option.bind_some _ _).symm.trans H; with_reducible exact H2_) | with_reducible exact H | (rw [hy169]; exact H) | exact H
                have Ny169 := Aside0.mk hy169; clear hy169
                by_cases c42 : y169.length + y162.length < 17592186044416
                ·
                 rw [if_pos c42] at H; have LMc42 := Aside0.mk c42; clear c42; obtain ⟨y172, hy172⟩ : ∃ y_ : List Int, y_ = (y169 ++ y162) := ⟨_, rfl⟩
                 replace H : (spec_SortLectic.l0 k2 l0 y172 (wrap64 (x4_1 + 1))) = some r := by first | (rw [hy172]; with_reducible exact H) | (have H2_ := (Option.bind_some _ _).symm.trans H; rw [hy172]; with_reducible exact H2_) | (have H2_ := (Option.bind_some _ _).symm.trans H; with_reducible exact H2_) | with_reducible exact H | (rw [hy172]; exact H) | exact H
                 have Ny172 := Aside0.mk hy172; clear hy172; have H' := Aside0.mk H; clear H
                 try go_wp2
                 have n0_ := Aside0.mk (Kd.R_drew HO_3.out); have n1_ := Aside0.mk (below_drew1 HB.out); clear HO_3; clear HB; have HO_3 := n0_; have HB := n1_; clear n0_ n1_
                 refine start_ (n := 15) (S := fun w' => True) (ds := []) (tb_ 15 0) s12_ rfl rfl trivial (fun hHeld => ?_); refine with_tabW spec_SortLectic.tab9 spec_SortLectic.bits9 (fun HT_ HW_ => ?_)
                 generalize wr.drew = w43 at HO_3 HB hHeld ⊢
                 refine pl_ 0 24 (tb_ 15 1) ?_; refine pl_ 1 25 (tb_ 15 3) ?_; refine pl_ 2 26 (tb_ 15 7) ?_; refine pl_ 3 27 (tb_ 15 15) ?_; refine pl_ 4 28 (tb_ 15 31) ?_; refine pr_ 5 29 (tb_ 15 63) ?_; refine pr_ 6 30 (tb_ 15 127) ?_; refine pr_ 7 31 (tb_ 15 255) ?_; refine pr_ 8 32 (tb_ 15 511) ?_; refine pr_ 9 33 (tb_ 15 1023) ?_; refine pr_ 10 34 (tb_ 15 2047) ?_; refine pr_ 11 35 (tb_ 15 4095) ?_; refine pr_ 12 36 (tb_ 15 8191) ?_; refine pr_ 13 37 (tb_ 15 16383) ?_; refine pl_ 14 38 (tb_ 15 32767) ?_
                 refine done_ (done_of HT_.out s12_) ?_
                 try go_wp2_with (first | ((with_reducible refine gate_dst (N := 41) rfl ?_); refine Kd.R_lit (Kd.int .i64) _ 3 ?hg (N := 41) ?hd (xs := ([] : List Int)) (inner := []) (ok := fun _ => True) (okp := fun _ => True) ?hr ?hp (fun _ hk => hk) trivial (Below.refl _ _) (Nat.le_refl _) (by simp) ?_; (case hd => rfl); (case hg => rfl); (case hr => first | (go_simp; done) | (go_simp; rfl)); (case hp => exact (Reps.none _ _)); intro v156 w44 ho45 hb hg_ hnew_; clear hg_ hnew_; (first | rw [← Ny155.out] at ho45 | (simp only [Int.reduceToNat] at ho45; rw [← Ny155.out] at ho45)); have n_ := ac_ (Kd.R_elder' s9_ (Kd.R_base ho45) hb) <| ac_ (Kd.R_lower (Kd.R_new' ho45 (Kd.R_lt s9_)) (below_size s1_)) <| Aside0.mk (below_step s1_ hb); clear HO_3 HB; obtain ⟨HO_3, HO157, HB⟩ := n_; clear hb ho45; have q46 : (x5_2 : Int) ≤ ((x3_1.length : Int) : Int) := of_decide_eq_true s3_; obtain ⟨i046, hi046, _, hsz46, _⟩ := info_parts info3; have hroom46 : x3_1.length ≤ co11 := (Kd.R_reads' HO_3.out).2.1; have hC46 : Kd.C (Kd.int .i64) _ Ao11 x3_1.length x3_1 := (Kd.R_reads' HO_3.out).2.2; have q046 : (0 : Int) ≤ (x5_2 : Int) := of_decide_eq_true s3_; have hcut46 := cut_from (P := Tryz.prog) 27 3 .i64 Tryz.underlying27 hi046 1 hsz46 Ao11 x3_1.length co11 x5_2 q046 q46; have hr46 := Kd.C_drop (m := (x5_2 : Int).toNat) (c := co11) hC46 (by omega) hroom46; obtain ⟨A46, hA46⟩ : ∃ A1, A1 = (if co11 = (x5_2 : Int).toNat then Ao11 else (Ao11 : Option Addr).map (·.add ((x5_2 : Int).toNat * 1))) := ⟨_, rfl⟩; obtain ⟨c46, hc46⟩ : ∃ c1, c1 = co11 - (x5_2 : Int).toNat := ⟨_, rfl⟩; have hy46 : y158.length = x3_1.length - (x5_2 : Int).toNat := (by rw [Ny158.out, List.length_drop] <;> omega); rw [show (x3_1).drop (x5_2 : Int).toNat = y158 from Ny158.out.symm] at hr46; replace hr46 : Kd.C (Kd.int .i64) _ A46 y158.length y158 := (by rw [hA46]; exact hr46); rw [← hy46, ← hA46, ← hc46] at hcut46; have HR161 := Aside0.mk hr46; have HC161 := Aside0.mk (show y158.length ≤ c46 from by rw [hy46, hc46]; exact Nat.sub_le_sub_right hroom46 _); clear hr46 hC46 hroom46 hi046 hsz46 hc46; have KY46 := Aside0.mk hy46; have KA46 := Aside0.mk hA46; clear hy46 hA46; have KL46 := Aside0.mk (show (x5_2 : Int).toNat ≤ x3_1.length from by omega); replace q46 := eq_true q46) | ((with_reducible refine gate_builtin (b := .append) (xs := #[.tmp 41, .tmp 44]) rfl ?_); at_builtin; refine Kd.R_append_rows (Kd.int .i64) (w0 := w) w.heap.size rfl (.tmp 41) (.tmp 44) 27 3 (.int .i64 0) 8 rfl Tryz.underlying27 info3 rfl (by decide) (by omega) v156 y155 y158 _ _ _ (fun k_ => some k_ ≠ (.slice Ao11 x3_1.length co11 : Value).ownBlock) (fun _ => False) rfl rfl ?aO ?aR (fun _ _ h => h) (fun _ h => h.elim) ?aF ?aB ?aS ?aL ?_; (case aR => repeat (first | exact (by repeat (first | (with_reducible exact HR161.out) | (with_reducible refine Kd.C_alloc ?_ _) | (with_reducible refine Kd.C_drewN ?_ _) | (with_reducible refine Kd.C_drew ?_) | exact HR161.out)) | (with_reducible refine Kd.C_alloc ?_ _) | (with_reducible refine Kd.C_drewN ?_ _) | (with_reducible refine Kd.C_drew ?_))); (case aB => exact s1_); (case aF => exact (fun k_ hk => Kd.fresh' (Kd.R_lt s9_) k_ hk)); (case aO => exact (by (with_reducible repeat (first | apply Kd.R_alloc | apply Kd.R_drewN | apply Kd.R_drew)); exact Kd.R_mono HO157.out (fun _ hk => hk.2))); (case aS => exact (below_size s1_)); (case aL => have := LMc37.out; omega); intro v163 w47 ho hb hg hat; rw [← Ny162.out] at ho; have n_ := ac_ (Kd.R_after (ok := (fun _ => True)) s9_ hg hat) <| ac_ (hb) <| ac_ ((show Kd.C (Kd.int .i64) w47 A46 y158.length y158 from by rw [Ny158.out, KA46.out]; exact Kd.C_drop (m := (x5_2 : Int).toNat) (c := co11) ((Kd.R_reads' (Kd.R_after (ok := (fun _ => True)) s9_ hg hat)).2.2) KL46.out ((Kd.R_reads' (Kd.R_after (ok := (fun _ => True)) s9_ hg hat)).2.1))) <| Aside0.mk (ho); clear HO_3 HB HR161 HO157; obtain ⟨HO_3, HB, HR161, HO164⟩ := n_; clear ho hb hg hat))
                 have n0_ := Aside0.mk (Kd.R_drew HO_3.out); have n1_ := Aside0.mk (Kd.R_drew HO164.out); have n2_ := Aside0.mk (Kd.C_drew HR161.out); have n3_ := Aside0.mk (below_drew1 HB.out); clear HO_3; clear HO164; clear HR161; clear HB; have HO_3 := n0_; have HO164 := n1_; have HR161 := n2_; have HB := n3_; clear n0_ n1_ n2_ n3_; have q49 : (x5_2 : Int) ≤ ((x3_1.length : Int) : Int) := of_decide_eq_true s3_; obtain ⟨i049, hi049, _, hsz49, _⟩ := info_parts info3; have hcut49 := cut_to (P := Tryz.prog) 27 3 .i64 Tryz.underlying27 hi049 Ao11 x3_1.length co11 x5_2 (of_decide_eq_true s3_) q49 (Kd.R_reads' HO_3.out).2.1
                 have hr49 := Kd.R_take (m := (x5_2 : Int).toNat) HO_3.out (by omega)
                 have hy49 : y165.length = (x5_2 : Int).toNat := (by rw [Ny165.out, List.length_take]; omega)
                 rw [← Ny165.out] at hr49; rw [← hy49] at hr49 hcut49; clear hy49 hi049 hsz49 HO_3; have HO167 := Aside0.mk hr49; clear hr49; replace q49 := eq_true q49; have p168 : 0 ≤ (x4_1 : Int) := of_decide_eq_true s3_; have q168 : x4_1 < (l0.length : Int) := of_decide_eq_true s3_; obtain ⟨ad168, e168, hx168_0⟩ := Kd.at_int HR0.out x4_1 p168 q168; have hw168_0 := hx168_0
                 obtain rfl : ad130 = ad168 := (by injection e168)
                 replace hx168_0 := (HB.out.cell (World.block_lt_of_cell? w _ hx168_0)).trans hx168_0; replace p168 := eq_true p168; replace q168 := eq_true q168
                 refine start_ (n := 12) (S := fun w' => w'.cell? (ad130.add (x4_1).toNat) = some (.int .i64 (rd l0 x4_1))) (ds := []) (tb_ 12 0) s12_ rfl rfl (((HB.out.cell (World.block_lt_of_cell? w _ hw168_0)).trans hw168_0)) (fun hHeld => ?_); refine with_tabW spec_SortLectic.tab12 spec_SortLectic.bits12 (fun HT_ HW_ => ?_)
                 generalize w47.drew = w48 at HO_3 HO164 HR161 HB HO167 hx168_0 hHeld ⊢
                 refine pl_ 0 46 (tb_ 12 1) ?_; refine pl_ 1 47 (tb_ 12 3) ?_; refine pl_ 2 48 (tb_ 12 7) ?_; refine pl_ 3 49 (tb_ 12 15) ?_; refine pl_ 4 50 (tb_ 12 31) ?_; refine pl_ 5 51 (tb_ 12 63) ?_; refine pl_ 9 55 (tb_ 12 575) ?_
                 refine take_ (i := 6) (N := some 52) (v := ?_) (a' := ?_) (tb_ 12 639) rfl rfl (take_ofW HT_.out HW_.out s12_) (fun _ _ _ h => h) (Or.inl ⟨by rfl, ?_⟩) hHeld ?_ ?_
                 rotate_left
                 ·
                  intro w' s0
                  go_simp; with_reducible rfl
                 rotate_left
                 ·
                  exact s10_
                 refine one_ (i := 7) (N := some 53) (tb_ 12 767) rfl rfl (one_of HT_.out s12_) (by decide) (fun K hK => ?_)
                 refine value_ (w1 := ?_) (v := ?_) (by rfl) rfl ?_ ?_
                 rotate_left 2
                 ·
                  go_simp
                  constructor
                  ·
                   rfl
                  ·
                   rfl
                 refine hK.out _ _ ((World.cell?_alloc_lt _ _ _ (World.block_lt_of_cell? _ _ (((HB.out.cell (World.block_lt_of_cell? w _ hw168_0)).trans hw168_0)))).trans (((HB.out.cell (World.block_lt_of_cell? w _ hw168_0)).trans hw168_0))) (fun hHeld => ?_)
                 clear hK K
                 refine norm_ (a' := ?_) ?_ ?_
                 rotate_left
                 ·
                  show Act.put _ (some 53) _ = _
                  exact s10_
                 refine one_ (i := 8) (N := some 54) (tb_ 12 1023) rfl rfl (one_of HT_.out s12_) (by decide) (fun K hK => ?_)
                 refine Kd.R_append_step (Kd.int .i64) (w0 := w) w.heap.size (by rfl) (.tmp 48) (.tmp 53) 27 3 (.int .i64 0) 8 rfl Tryz.underlying27 info3 rfl (by decide) (by omega) (.slice Ao11 y165.length co11) y165 (rd l0 x4_1) [.int .i64 (rd l0 x4_1)] (fun k_ => some k_ ≠ (v163 : Value).ownBlock) (fun _ => False) rfl rfl ?aP (fun _ hk => hk.elim) ?aF ?aO ?aB ?aS ?aL ?_
                 (case aP => exact rfl)
                 (case aB => exact s1_)
                 (case aF => exact (fun k_ hk => Kd.fresh' (Kd.R_lt q3_6) k_ hk))
                 (case aO => exact (by (with_reducible repeat (first | apply Kd.R_alloc | apply Kd.R_drewN | apply Kd.R_drew)); exact Kd.R_mono HO167.out (fun _ hk => hk.2)))
                 (case aS => exact (below_size s1_))
                 (case aL => have := LMc41.out; omega)
                 intro v170 w50 ho hb hg hat
                 rw [← Ny169.out] at ho
                 have n0_ := Aside0.mk (Kd.R_after (ok := (fun _ => True)) (by (with_reducible repeat (first | apply Kd.R_alloc | apply Kd.R_drewN | apply Kd.R_drew)); exact Kd.R_mono HO164.out (fun _ hk => ⟨trivial, by first | exact hk | exact own_any hk⟩)) hg hat)
                 have n1_ := Aside0.mk (hb); have n2_ := Aside0.mk (ho); clear HO164; clear HB; clear HO167; have HO164 := n0_; have HB := n1_; have HO171 := n2_; clear n0_ n1_ n2_; clear ho hb hg hat; obtain ⟨Ao52, co52, eo52⟩ := Kd.R_slice HO164.out
                 (first | subst eo52 | (injection eo52 with f1_ f2_ f3_; have f4_ := f1_.symm; have f5_ := f3_.symm; clear f1_ f2_ f3_; subst f4_; subst f5_))
                 refine hK.out _ _ (((HB.out.cell (World.block_lt_of_cell? w _ hw168_0)).trans hw168_0)) (fun hHeld => ?_)
                 clear hK K
                 refine norm_ (a' := ?_) ?_ ?_
                 rotate_left
                 ·
                  show Act.put _ (some 54) _ = _
                  exact s10_
                 refine one_ (i := 10) (N := some 56) (tb_ 12 2047) rfl rfl (one_of HT_.out s12_) (by decide) (fun K hK => ?_)
                 refine Kd.R_append_rows_step (Kd.int .i64) (w0 := w) w.heap.size (by rfl) (.tmp 54) (.tmp 55) 27 3 (.int .i64 0) 8 rfl Tryz.underlying27 info3 rfl (by decide) (by omega) v170 y169 y162 _ _ _ (fun k_ => some k_ ≠ (.slice Ao52 y162.length co52 : Value).ownBlock) (fun _ => False) rfl rfl ?aO ?aR (fun _ _ h => h) (fun _ h => h.elim) ?aF ?aB ?aS ?aL ?_
                 (case aR => repeat (first | exact (Kd.R_reads' HO164.out).2.2 | (with_reducible refine Kd.C_alloc ?_ _) | (with_reducible refine Kd.C_drewN ?_ _) | (with_reducible refine Kd.C_drew ?_)))
                 (case aB => exact s1_)
                 (case aF => exact (fun k_ hk => Kd.fresh' (Kd.R_lt q3_6) k_ hk))
                 (case aO => exact (by (with_reducible repeat (first | apply Kd.R_alloc | apply Kd.R_drewN | apply Kd.R_drew)); exact HO171.out))
                 (case aS => exact (below_size s1_))
                 (case aL => have := LMc42.out; omega)
                 intro v173 w51 ho hb hg hat
                 rw [← Ny172.out] at ho
                 have n0_ := Aside0.mk (Kd.R_after (ok := (fun _ => True)) q3_6 hg hat)
                 have n1_ := Aside0.mk (hb); have n2_ := Aside0.mk (ho); clear HO164; clear HB; clear HO171; have HO164 := n0_; have HB := n1_; have HO174 := n2_; clear n0_ n1_ n2_; clear ho hb hg hat
                 refine hK.out _ _ (((HB.out.cell (World.block_lt_of_cell? w _ hw168_0)).trans hw168_0)) (fun hHeld => ?_)
                 clear hK K
                 refine norm_ (a' := ?_) ?_ ?_
                 rotate_left
                 ·
                  show Act.put _ (some 56) _ = _
                  exact s10_
                 refine pl_ 11 3 (tb_ 12 4095) ?_
                 refine done_ (done_of HT_.out s12_) ?_
                 try go_wp2
                 go_roundg k2
                 case measure => have := HK1.out; have := HK2.out; omega
                 case rel => exact ⟨(y172), (wrap64 (x4_1 + 1)), s2_, H', ⟨by have := HK1.out; have := HK2.out; omega⟩, ⟨(by (with_reducible repeat (first | apply Kd.R_alloc | apply Kd.R_drewN | apply Kd.R_drew)); exact Kd.R_mono HO174.out (fun _ hk => trivial))⟩, ⟨s1_⟩⟩
                ·
                 rw [if_neg c42] at H
                 exact absurd H (by simp)
               ·
                rw [if_neg c41] at H
                exact absurd H (by simp)
              ·
               rw [if_neg c40] at H
               exact absurd H (by simp)
             ·
              rw [if_neg c39] at H
              exact absurd H (by simp)
            ·
             rw [if_neg c37] at H
             exact absurd H (by simp)
           ·
            rw [if_neg c36] at H
            exact absurd H (by simp)
          ·
           rw [if_neg c35] at H
           exact absurd H (by simp)
     ·
      rw [if_neg c7] at H
      exact absurd H (by simp)
    ·
     rw [if_neg c6] at H; have c6b0 : decide (x4_1 < (l0.length : Int)) = false := decide_eq_false c6; clear c6; obtain rfl := Option.some.inj H
     go_wp2
     go_ret
     exact ⟨_, (by first | rfl | (simp [errW_none, errW_some] <;> rfl) | (simp [*, errW_none, errW_some] <;> rfl)), s9_, s1_⟩
 ·
  replace c3 := Bool.eq_false_iff.mpr c3; subst c3
  rw [if_neg (show ¬ (false = true) by decide)] at H
  obtain rfl := Option.some.inj H
  go_enter Tryz.func139, Tryz.ntmps139
  go_wp2_with (first | ((with_reducible refine gate_dst (N := 7) rfl ?_); refine Kd.R_lit (Kd.int .i64) _ 3 ?hg (N := 7) ?hd (xs := ([] : List Int)) (inner := []) (ok := fun _ => True) (okp := fun _ => True) ?hr ?hp (fun _ hk => hk) trivial (Below.refl _ _) (Nat.le_refl _) (by simp) ?_; (case hd => rfl); (case hg => rfl); (case hr => first | (go_simp; done) | (go_simp; rfl)); (case hp => exact (Reps.none _ _)); intro v127 w53 ho54 hb hg_ hnew_; clear hg_ hnew_; (first | rw [← Ny126.out] at ho54 | (simp only [Int.reduceToNat] at ho54; rw [← Ny126.out] at ho54)); have n_ := ac_ (Kd.R_lower ho54 (below_size s1_)) <| Aside0.mk (below_step s1_ hb); clear HB; obtain ⟨HO128, HB⟩ := n_; clear hb ho54) | (refine gL_ 216 9 Tryz.func216 #[.slice A0 l0.length c0] ?_; (with_reducible refine (spec_l2Sets.calls k _ _ l0 false _ ?side1 ?side2 A2.out).mono ?_); (case side1 => exact s13_); (case side2 => exact HC0.out); rintro e w' ⟨rfl, ⟨nd, rfl⟩⟩; refine ⟨_, rfl, ?_⟩))
  go_ret
  exact ⟨_, (by first | rfl | (simp [errW_none, errW_some] <;> rfl) | (simp [*, errW_none, errW_some] <;> rfl)), (by (with_reducible repeat (first | apply Kd.R_alloc | apply Kd.R_drewN | apply Kd.R_drew)); exact HO128.out), s1_⟩
end Go.Proofs.YtafnamchckehmaaGreatDoor.Pr
namespace Go.Proofs.YtafnamchckehmaaGreatDoor.Pr
open Go.RowKit Go.Proofs.YtafnamchckehmaaGreatDoorW.PrintWords Go.Proofs.YtafnamchckehmaaGreatDoorW.PrintLast Go.Proofs.YtafnamchckehmaaGreatDoorW.PrintMore
attribute [local go_sem] max2_int min2_int max_two min_two max_three min_three max_four min_four
set_option linter.unusedVariables false
set_option linter.unusedSimpArgs false
theorem bnd4_ {α β : Type} {o : Option α} {f : α → Option β} {r : β} (h : o.bind f = some r) : ∃ a, Aside0 (o = some a) ∧ f a = some r := by
 obtain ⟨a, h1, h2⟩ := Option.bind_eq_some_iff.mp h
 exact ⟨a, ⟨h1⟩, h2⟩
theorem q4_1 {P : Prop} (h : P := by repeat (first | exact (Kd.C_below HR0_1.out (by repeat (first | (with_reducible first | exact HB.out | apply below_alloc | apply pw_below_drewN | apply below_drew1 | refine below_set ?_ GE175.out) | exact HB.out))) | (with_reducible refine Kd.C_alloc ?_ _) | (with_reducible refine Kd.C_drewN ?_ _) | (with_reducible refine Kd.C_drew ?_))) : P := h
theorem q4_3 {P : Prop} (h : P := by repeat (first | (with_reducible first | exact HB.out | apply below_alloc | apply pw_below_drewN | apply below_drew1 | refine below_set ?_ GE175.out) | exact HB.out)) : P := h
theorem q4_6 {P : Prop} (h : P := by (with_reducible repeat (first | refine blk_drewN ?_ _ | refine blk_drew ?_ | refine blk_alloc ?_ _)); exact BK175.out) : P := h
mutual
def spec_l10Pseudo.l0 : Nat → List Int → Int → Int → List Int → Option (List Int)
 | 0, _, _, _, _ => none
 | k + 1, x3, x4, x176000, x176001 => (spec_FullSet.f x176000).bind fun t179 => (if x4 ≤ t179 then ((spec_l4Closure.f k x176000 x176001 x4).bind fun t183 => (if t183 = x4 then (spec_l10Pseudo.l0 k x3 (wrap64 (x4 + 1)) x176000 x176001) else (spec_l10Pseudo.l1 k x3 x4 true 0 x176000 x176001))) else ((spec_SortLectic.f k x3).bind fun t180 => (some t180)))
def spec_l10Pseudo.l1 : Nat → List Int → Int → Bool → Int → Int → List Int → Option (List Int)
 | 0, _, _, _, _, _, _ => none
 | k + 1, x3, x4, x5, x6, x176000, x176001 => if x6 < (x3.length : Int) then (if x5 = true then (if 0 ≤ x6 then (if (Go.bits .and .i64 (rd x3 x6) x4) = (rd x3 x6) then ((spec_l4Closure.f k x176000 x176001 (rd x3 x6)).bind fun t187 => ((spec_l4Closure.f k x176000 x176001 (rd x3 x6)).bind fun t189 => (spec_l10Pseudo.l1 k x3 x4 ((Go.bits .and .i64 t187 x4) == t189) (wrap64 (x6 + 1)) x176000 x176001))) else (spec_l10Pseudo.l1 k x3 x4 true (wrap64 (x6 + 1)) x176000 x176001)) else (none)) else (spec_l10Pseudo.l1 k x3 x4 false (wrap64 (x6 + 1)) x176000 x176001)) else (if x5 = true then (if x3.length < 17592186044416 then (spec_l10Pseudo.l0 k (x3 ++ [x4]) (wrap64 (x4 + 1)) x176000 x176001) else (none)) else (spec_l10Pseudo.l0 k x3 (wrap64 (x4 + 1)) x176000 x176001))
end
def spec_l10Pseudo.f (k : Nat) (a0_0 : Int) (l0_1 : List Int) : Option (List Int) := spec_l10Pseudo.l0 k (([] : List Int)) 0 a0_0 l0_1
def spec_l10Pseudo.T10 : Bool × List (List Nat × List Nat) := (true, [([], []), ([0], [0]), ([1], [1]), ([1], [1]), ([2, 3, 1], [1, 2, 3]), ([4, 1], [1, 4]), ([1], [1]), ([5, 6, 1], [1, 5, 6]), ([1], [1]), ([1], [1]), ([8, 9, 1], [1, 8, 9]), ([10, 1], [1, 10]), ([7, 11, 1], [1, 7, 11]), ([12, 1, 1], [1, 12]), ([13], [13]), ([13], [13]), ([13], [13]), ([15, 16, 13], [13, 15, 16]), ([17, 13], [13, 17]), ([14, 18, 13, 13], [13, 14, 18]), ([13], [13]), ([19, 20, 13], [13, 19, 20]), ([13], [13]), ([13], [13]), ([13], [13]), ([23, 24, 13], [13, 23, 24]), ([25, 13], [13, 25]), ([22, 26, 19, 13], [13, 22, 26]), ([21, 27, 13], [13, 21, 27]), ([13, 28, 1], [1, 13, 28]), ([1, 29], [1, 29]), ([30, 27, 0, 1, 2, 3, 4, 5, 6, 7, 8, 9, 10, 11, 12, 13, 14, 15, 16, 17, 18, 19, 20, 21, 22, 23, 24, 25, 26, 27, 28, 29, 30], [0, 30])])
def spec_l10Pseudo.B10 : List Nat := [0, 1, 3, 3, 15, 31, 3, 127, 3, 3, 771, 1795, 4095, 8191, 16383, 16383, 16383, 114687, 245759, 524287, 16383, 2097151, 16383, 16383, 16383, 25182207, 58736639, 131071999, 268435455, 536870911, 1073741823, 2147483647]
theorem spec_l10Pseudo.tab10 : rtab .any (opsOf Tryz.f169 10) = spec_l10Pseudo.T10 := s12_
theorem spec_l10Pseudo.bits10 : waitsOk spec_l10Pseudo.T10.2 spec_l10Pseudo.B10 = true := s12_
set_option maxHeartbeats 8000000 in
set_option maxRecDepth 100000 in
theorem spec_l10Pseudo.calls (k : Nat) (a0_0 : Int) (A0_1 : Option Addr) (c0_1 : Nat) (l0_1 : List Int) (r : List Int) (w : World) (hr0_1 : Kd.C (Kd.int .i64) w A0_1 l0_1.length l0_1) (hc0_1 : l0_1.length ≤ c0_1) (h : spec_l10Pseudo.f k a0_0 l0_1 = some r) :
  Calls Tryz.prog 169 #[.agg #[.int .i64 a0_0, .slice A0_1 l0_1.length c0_1]] w fun e w' => ∃ v0_ : Value, e = .returned (v0_) ∧ Kd.R (Kd.int .i64) 3 w' w.heap.size (fun _ => True) v0_ r ∧ Below w.heap.size w w' := by
 have hu29 := Tryz.underlying29; have HR0_1 := Aside0.mk hr0_1; have HC0_1 := Aside0.mk hc0_1; clear hr0_1 hc0_1; have HB := Aside0.mk (Below.refl w.heap.size w); have H := h; clear h; unfold spec_l10Pseudo.f at H; obtain ⟨y176, hy176⟩ : ∃ y_ : List Int, y_ = (([] : List Int)) := ⟨_, rfl⟩
 replace H : (spec_l10Pseudo.l0 k y176 0 a0_0 l0_1) = some r := by first | (rw [hy176]; with_reducible exact H) | (have H2_ := (Option.bind_some _ _).symm.trans H; rw [hy176]; with_reducible exact H2_) | (have H2_ := (Option.bind_some _ _).symm.trans H; with_reducible exact H2_) | with_reducible exact H | (rw [hy176]; exact H) | exact H
 have Ny176 := Aside0.mk hy176; clear hy176; have H' := Aside0.mk H; clear H
 go_enter Tryz.func169, Tryz.ntmps169
 go_wp2_with (first | ((with_reducible refine gate_dst (N := 1) rfl ?_); refine box_event ?hg (N := 1) ?hd (cs := #[.int .i64 a0_0, .slice A0_1 l0_1.length c0_1]) (t := 29) ?hr ?_; (case hd => rfl); (case hg => rfl); (case hr => first | (go_simp; done) | (go_simp; rfl)); intro gb175 hg w2 hbox hb; have n_ := ac_ (below_step s1_ hb) <| ac_ (hbox) <| ac_ ((by rw [hg]; exact (below_size s1_) : w.heap.size ≤ gb175)) <| Aside0.mk ((by rw [hg]; exact (below_size s1_) : w.heap.size ≤ gb175)); clear HB; obtain ⟨HB, BK175, GW175, GE175⟩ := n_; clear hb hbox hg) | ((with_reducible refine gate_dst (N := 7) rfl ?_); refine Kd.R_lit (Kd.int .i64) _ 3 ?hg (N := 7) ?hd (xs := ([] : List Int)) (inner := []) (ok := fun _ => True) (okp := fun _ => True) ?hr ?hp (fun _ hk => hk) trivial (Below.refl _ _) (Nat.le_refl _) (by simp) ?_; (case hd => rfl); (case hg => rfl); (case hr => first | (go_simp; done) | (go_simp; rfl)); (case hp => exact (Reps.none _ _)); intro v177 w3 ho4 hb hg_ hnew_; clear hg_ hnew_; (first | rw [← Ny176.out] at ho4 | (simp only [Int.reduceToNat] at ho4; rw [← Ny176.out] at ho4)); have n_ := ac_ (Kd.R_lower ho4 (below_size q4_3)) <| ac_ (blk_below (g := gb175) (o := .cells #[.int .i64 a0_0, .slice A0_1 l0_1.length c0_1] 29 (0, 0)) q4_6 hb) <| Aside0.mk (below_step q4_3 hb); clear BK175 HB; obtain ⟨HO178, BK175, HB⟩ := n_; clear hb ho4))
 go_loopg [3, 4] k (fun kq v3 v4 w' => ∃ (x3_1 : List Int) (x4_1 : Int), v4 = .int .i64 x4_1 ∧ Aside0 (spec_l10Pseudo.l0 kq x3_1 x4_1 a0_0 l0_1 = some r) ∧ Aside0 (kq ≤ k) ∧ Aside0 (Kd.R (Kd.int .i64) 3 w' w.heap.size (fun _ => True) v3 x3_1) ∧ Aside0 (w'.heap[gb175]? = some (.cells #[.int .i64 a0_0, (.slice A0_1 l0_1.length c0_1)] 29 (0, 0))) ∧ Aside0 (Below w.heap.size w w'))
 case atStart => exact ⟨(y176), (0), s2_, H', ⟨Nat.le_refl _⟩, ⟨(by (with_reducible repeat (first | apply Kd.R_alloc | apply Kd.R_drewN | apply Kd.R_drew)); exact HO178.out)⟩, ⟨q4_6⟩, ⟨q4_3⟩⟩
 case round =>
  clear H'
  try clear c1
  try clear p2
  obtain ⟨x3_1, x4_1, rfl, HA, HK1, HO_3, BK175, HB⟩ := hrel
  cases gk with
  | zero => exact absurd HA.out (by simp [spec_l10Pseudo.l0])
  | succ k1 =>
   have H := HA.out; clear HA
   simp only [spec_l10Pseudo.l0] at H
   obtain ⟨t179, A5, H⟩ := bnd4_ H
   by_cases c6 : x4_1 ≤ t179
   ·
    rw [if_pos c6] at H; have c6b0 : decide (x4_1 ≤ t179) = true := decide_eq_true c6; clear c6; obtain ⟨t183, A7, H⟩ := bnd4_ H
    by_cases c8 : t183 = x4_1
    ·
     rw [if_pos c8] at H; have c8b0 : (t183 == x4_1) = true := beq_iff_eq.mpr c8; have c8b1 : (t183 != x4_1) = false := bne_eq_false_iff_eq.mpr c8; clear c8; have H' := Aside0.mk H; clear H; have hcz9_0 : wr.cell? ⟨gb175, 0, none⟩ = some (.int .i64 a0_0) := (blk_cell BK175.out 0).trans rfl; have hcz9_1 : wr.cell? ⟨gb175, 1, none⟩ = some (.slice A0_1 l0_1.length c0_1) := (blk_cell BK175.out 1).trans rfl; have hfz9_0 := blk_frozen BK175.out 0; have hfz9_1 := blk_frozen BK175.out 1
     go_wp2_with (first | (refine gL_ 62 11 Tryz.func62 #[.int .i64 a0_0] ?_; (with_reducible refine (spec_FullSet.calls a0_0 t179 _ A5.out).mono ?_); rintro e w' ⟨rfl, ⟨nd, rfl⟩⟩; refine ⟨_, rfl, ?_⟩) | (refine gL_ 135 17 Tryz.func135 #[.agg #[.int .i64 a0_0, .slice A0_1 l0_1.length c0_1], .int .i64 x4_1] ?_; (with_reducible refine (spec_l4Closure.calls k1 a0_0 _ _ l0_1 x4_1 t183 _ ?side1 ?side2 A7.out).mono ?_); (case side1 => exact q4_1); (case side2 => exact HC0_1.out); rintro e w10 ⟨rfl, hb⟩; refine ⟨_, rfl, ?_⟩; have n_ := ac_ (Kd.R_below s9_ hb) <| ac_ (blk_below (g := gb175) (o := .cells #[.int .i64 a0_0, .slice A0_1 l0_1.length c0_1] 29 (0, 0)) q4_6 hb) <| Aside0.mk (below_step q4_3 hb); clear HO_3 BK175 HB; obtain ⟨HO_3, BK175, HB⟩ := n_; (try clear hb)))
     go_roundg k1
     case measure => have := HK1.out; omega
     case rel => exact ⟨(x3_1), (wrap64 (x4_1 + 1)), s2_, H', ⟨by have := HK1.out; omega⟩, ⟨s9_⟩, ⟨q4_6⟩, ⟨q4_3⟩⟩
    ·
     rw [if_neg c8] at H; have c8b0 : (t183 == x4_1) = false := beq_eq_false_iff_ne.mpr c8; have c8b1 : (t183 != x4_1) = true := bne_iff_ne.mpr c8; have H' := Aside0.mk H; clear H; have hcz11_0 : wr.cell? ⟨gb175, 0, none⟩ = some (.int .i64 a0_0) := (blk_cell BK175.out 0).trans rfl; have hcz11_1 : wr.cell? ⟨gb175, 1, none⟩ = some (.slice A0_1 l0_1.length c0_1) := (blk_cell BK175.out 1).trans rfl; have hfz11_0 := blk_frozen BK175.out 0; have hfz11_1 := blk_frozen BK175.out 1
     go_wp2_with (first | (refine gL_ 62 11 Tryz.func62 #[.int .i64 a0_0] ?_; (with_reducible refine (spec_FullSet.calls a0_0 t179 _ A5.out).mono ?_); rintro e w' ⟨rfl, ⟨nd, rfl⟩⟩; refine ⟨_, rfl, ?_⟩) | (refine gL_ 135 17 Tryz.func135 #[.agg #[.int .i64 a0_0, .slice A0_1 l0_1.length c0_1], .int .i64 x4_1] ?_; (with_reducible refine (spec_l4Closure.calls k1 a0_0 _ _ l0_1 x4_1 t183 _ ?side1 ?side2 A7.out).mono ?_); (case side1 => exact q4_1); (case side2 => exact HC0_1.out); rintro e w12 ⟨rfl, hb⟩; refine ⟨_, rfl, ?_⟩; have n_ := ac_ (Kd.R_below s9_ hb) <| ac_ (blk_below (g := gb175) (o := .cells #[.int .i64 a0_0, .slice A0_1 l0_1.length c0_1] 29 (0, 0)) q4_6 hb) <| Aside0.mk (below_step q4_3 hb); clear HO_3 BK175 HB; obtain ⟨HO_3, BK175, HB⟩ := n_; (try clear hb)))
     go_loopg [5, 6] k1 (fun kq v5 v6 w' => ∃ (x5_2 : Bool) (x6_2 : Int), v5 = .bool x5_2 ∧ v6 = .int .i64 x6_2 ∧ Aside0 (spec_l10Pseudo.l1 kq x3_1 x4_1 x5_2 x6_2 a0_0 l0_1 = some r) ∧ Aside0 (kq ≤ k1) ∧ Aside0 (Kd.R (Kd.int .i64) 3 w' w.heap.size (fun _ => True) u3 x3_1) ∧ Aside0 (w'.heap[gb175]? = some (.cells #[.int .i64 a0_0, (.slice A0_1 l0_1.length c0_1)] 29 (0, 0))) ∧ Aside0 (Below w.heap.size w w'))
     case atStart => exact ⟨(true), (0), s2_, s2_, H', ⟨Nat.le_refl _⟩, ⟨s9_⟩, ⟨q4_6⟩, ⟨q4_3⟩⟩
     case round =>
      clear H'
      try clear c1
      try clear p2
      try clear c6
      try clear c6b0
      try clear p6
      try clear c8
      try clear c8b0
      try clear c8b1
      try clear hcz11_0
      try clear hcz11_1
      try clear hcz9_0
      try clear hcz9_1
      try clear hfz11_0
      try clear hfz11_1
      try clear hfz9_0
      try clear hfz9_1
      try clear p2
      obtain ⟨x5_2, x6_2, rfl, rfl, HA, HK2, HO_3, BK175, HB⟩ := hrel
      cases gk with
      | zero => exact absurd HA.out (by simp [spec_l10Pseudo.l1])
      | succ k2 =>
       have H := HA.out; clear HA
       simp only [spec_l10Pseudo.l1] at H
       by_cases c13 : x6_2 < (x3_1.length : Int)
       ·
        rw [if_pos c13] at H; have c13b0 : decide (x6_2 < (x3_1.length : Int)) = true := decide_eq_true c13; clear c13
        by_cases c14 : x5_2 = true
        ·
         subst c14; rw [if_pos rfl] at H
         by_cases c15 : 0 ≤ x6_2
         ·
          rw [if_pos c15] at H; have c15b0 : decide (0 ≤ x6_2) = true := decide_eq_true c15; clear c15
          by_cases c16 : (Go.bits .and .i64 (rd x3_1 x6_2) x4_1) = (rd x3_1 x6_2)
          ·
           rw [if_pos c16] at H; have c16b0 : ((Go.bits .and .i64 (rd x3_1 x6_2) x4_1) == (rd x3_1 x6_2)) = true := beq_iff_eq.mpr c16; have c16b1 : ((Go.bits .and .i64 (rd x3_1 x6_2) x4_1) != (rd x3_1 x6_2)) = false := bne_eq_false_iff_eq.mpr c16; clear c16; obtain ⟨t187, A17, H⟩ := bnd4_ H; obtain ⟨t189, A18, H⟩ := bnd4_ H; have H' := Aside0.mk H; clear H; obtain ⟨Ao19, co19, eo19⟩ := Kd.R_slice HO_3.out; subst eo19
           try go_wp2
           have n0_ := Aside0.mk (Kd.R_drew HO_3.out); have n1_ := Aside0.mk (blk_drew BK175.out); have n2_ := Aside0.mk (below_drew1 HB.out); clear HO_3; clear BK175; clear HB; have HO_3 := n0_; have BK175 := n1_; have HB := n2_; clear n0_ n1_ n2_; have p184 : 0 ≤ (x6_2 : Int) := of_decide_eq_true s3_; have q184 : x6_2 < (x3_1.length : Int) := of_decide_eq_true s3_; obtain ⟨ad184, e184, hx184_0⟩ := Kd.at_int (Kd.R_reads' HO_3.out).2.2 x6_2 p184 q184
           cases e184
           replace p184 := eq_true p184; replace q184 := eq_true q184; have p185 : 0 ≤ (x6_2 : Int) := of_decide_eq_true s3_; have q185 : x6_2 < (x3_1.length : Int) := of_decide_eq_true s3_; obtain ⟨ad185, e185, hx185_0⟩ := Kd.at_int (Kd.R_reads' HO_3.out).2.2 x6_2 p185 q185
           obtain rfl : ad184 = ad185 := (by injection e185)
           replace p185 := eq_true p185; replace q185 := eq_true q185; have p186 : 0 ≤ (x6_2 : Int) := of_decide_eq_true s3_; have q186 : x6_2 < (x3_1.length : Int) := of_decide_eq_true s3_; obtain ⟨ad186, e186, hx186_0⟩ := Kd.at_int (Kd.R_reads' HO_3.out).2.2 x6_2 p186 q186
           obtain rfl : ad184 = ad186 := (by injection e186)
           replace p186 := eq_true p186; replace q186 := eq_true q186; have p188 : 0 ≤ (x6_2 : Int) := of_decide_eq_true s3_; have q188 : x6_2 < (x3_1.length : Int) := of_decide_eq_true s3_; obtain ⟨ad188, e188, hx188_0⟩ := Kd.at_int (Kd.R_reads' HO_3.out).2.2 x6_2 p188 q188
           obtain rfl : ad184 = ad188 := (by injection e188)
           replace p188 := eq_true p188; replace q188 := eq_true q188
           refine start_ (n := 32) (S := fun w' => w'.cell? ⟨gb175, 0, none⟩ = some (.int .i64 a0_0) ∧ w'.cell? ⟨gb175, 1, none⟩ = some (.slice A0_1 l0_1.length c0_1) ∧ w'.cell? (ad184.add (x6_2).toNat) = some (.int .i64 (rd x3_1 x6_2)) ∧ w'.cell? (ad184.add (x6_2).toNat) = some (.int .i64 (rd x3_1 x6_2)) ∧ w'.cell? (ad184.add (x6_2).toNat) = some (.int .i64 (rd x3_1 x6_2)) ∧ w'.cell? (ad184.add (x6_2).toNat) = some (.int .i64 (rd x3_1 x6_2))) (ds := []) (tb_ 32 0) s12_ rfl rfl ⟨(blk_cell BK175.out 0).trans rfl, (blk_cell BK175.out 1).trans rfl, hx184_0, hx185_0, hx186_0, hx188_0⟩ (fun hHeld => ?_); refine with_tabW spec_l10Pseudo.tab10 spec_l10Pseudo.bits10 (fun HT_ HW_ => ?_)
           generalize wr.drew = w20 at HO_3 BK175 HB hx184_0 hx185_0 hx186_0 hx188_0 hHeld ⊢
           refine pl_ 0 26 (tb_ 32 1) ?_; refine pl_ 1 27 (tb_ 32 3) ?_; refine pl_ 2 28 (tb_ 32 7) ?_; refine pl_ 3 29 (tb_ 32 15) ?_; refine pl_ 4 30 (tb_ 32 31) ?_; refine pl_ 6 32 (tb_ 32 95) ?_; refine pl_ 8 34 (tb_ 32 351) ?_; refine pl_ 9 35 (tb_ 32 863) ?_; refine pl_ 10 36 (tb_ 32 1887) ?_
           refine take_ (i := 5) (N := some 31) (v := ?_) (a' := ?_) (tb_ 32 1919) rfl rfl (take_ofW HT_.out HW_.out s12_) (fun _ _ _ h => h) (Or.inl ⟨by rfl, ?_⟩) hHeld ?_ ?_
           rotate_left
           ·
            rintro w' ⟨s0, s1, s2, s3, s4, s5⟩
            go_simp; with_reducible rfl
           rotate_left
           ·
            exact s10_
           refine pl_ 7 33 (tb_ 32 2047) ?_
           refine take_ (i := 11) (N := some 37) (v := ?_) (a' := ?_) (tb_ 32 4095) rfl rfl (take_ofW HT_.out HW_.out s12_) (fun _ _ _ h => h) (Or.inl ⟨by rfl, ?_⟩) hHeld ?_ ?_
           rotate_left
           ·
            rintro w' ⟨s0, s1, s2, s3, s4, s5⟩
            go_simp; with_reducible rfl
           rotate_left
           ·
            exact s10_
           refine pl_ 12 38 (tb_ 32 8191) ?_; refine pl_ 13 39 (tb_ 32 16383) ?_; refine pl_ 15 41 (tb_ 32 49151) ?_; refine pl_ 16 42 (tb_ 32 114687) ?_; refine pl_ 17 43 (tb_ 32 245759) ?_; refine pl_ 20 46 (tb_ 32 1294335) ?_; refine pl_ 23 49 (tb_ 32 9682943) ?_; refine pl_ 24 50 (tb_ 32 26460159) ?_; refine pl_ 25 51 (tb_ 32 60014591) ?_
           refine take_ (i := 14) (N := some 40) (v := ?_) (a' := ?_) (tb_ 32 60030975) rfl rfl (take_ofW HT_.out HW_.out s12_) (fun _ _ _ h => h) (Or.inl ⟨by rfl, ?_⟩) hHeld ?_ ?_
           rotate_left
           ·
            rintro w' ⟨s0, s1, s2, s3, s4, s5⟩
            go_simp; with_reducible rfl
           rotate_left
           ·
            exact s10_
           refine take_ (i := 18) (N := some 44) (v := ?_) (a' := ?_) (tb_ 32 60293119) rfl rfl (take_ofW HT_.out HW_.out s12_) (fun _ _ _ h => h) (Or.inl ⟨by rfl, ?_⟩) hHeld ?_ ?_
           rotate_left
           ·
            rintro w' ⟨s0, s1, s2, s3, s4, s5⟩
            go_simp; with_reducible rfl
           rotate_left
           ·
            exact s10_
           refine take_ (i := 22) (N := some 48) (v := ?_) (a' := ?_) (tb_ 32 64487423) rfl rfl (take_ofW HT_.out HW_.out s12_) (fun _ _ _ h => h) (Or.inl ⟨by rfl, ?_⟩) hHeld ?_ ?_
           rotate_left
           ·
            rintro w' ⟨s0, s1, s2, s3, s4, s5⟩
            go_simp; with_reducible rfl
           rotate_left
           ·
            exact s10_
           refine take_ (i := 26) (N := some 52) (v := ?_) (a' := ?_) (tb_ 32 131596287) rfl rfl (take_ofW HT_.out HW_.out s12_) (fun _ _ _ h => h) (Or.inl ⟨by rfl, ?_⟩) hHeld ?_ ?_
           rotate_left
           ·
            rintro w' ⟨s0, s1, s2, s3, s4, s5⟩
            go_simp; with_reducible rfl
           rotate_left
           ·
            exact s10_
           refine one_ (i := 19) (N := some 45) (tb_ 32 132120575) rfl rfl (one_of HT_.out s12_) (by decide) (fun K hK => ?_)
           refine goes_ Tryz.func135 s12_ rfl #[.agg #[.int .i64 a0_0, .slice _ l0_1.length c0_1], .int .i64 (rd x3_1 x6_2)] (by rfl) rfl rfl s0_ ?_
           with_reducible refine (spec_l4Closure.calls k2 a0_0 _ _ l0_1 (rd x3_1 x6_2) t187 _ ?side1 ?side2 A17.out).mono ?_
           (case side1 => exact s4_)
           (case side2 => exact HC0_1.out)
           rintro e w21 ⟨rfl, hb⟩
           have HS2_ := (hb.cell (World.block_lt_of_cell? _ _ (hHeld.2.2.1))).trans (hHeld.2.2.1); have HS3_ := (hb.cell (World.block_lt_of_cell? _ _ (hHeld.2.2.2.1))).trans (hHeld.2.2.2.1); have HS4_ := (hb.cell (World.block_lt_of_cell? _ _ (hHeld.2.2.2.2.1))).trans (hHeld.2.2.2.2.1); have HS5_ := (hb.cell (World.block_lt_of_cell? _ _ (hHeld.2.2.2.2.2))).trans (hHeld.2.2.2.2.2)
           refine ⟨_, rfl, ?_⟩
           have n0_ := Aside0.mk (Kd.R_below s9_ hb); have n1_ := Aside0.mk (blk_below (g := gb175) (o := .cells #[.int .i64 a0_0, .slice A0_1 l0_1.length c0_1] 29 (0, 0)) q4_6 hb); have n2_ := Aside0.mk (below_step q4_3 hb); clear HO_3; clear BK175; clear HB; have HO_3 := n0_; have BK175 := n1_; have HB := n2_; clear n0_ n1_ n2_
           (try clear hb)
           (try clear hb2)
           (try clear hk)
           (try clear hi)
           refine hK.out _ _ ⟨(blk_cell BK175.out 0).trans rfl, (blk_cell BK175.out 1).trans rfl, HS2_, HS3_, HS4_, HS5_⟩ (fun hHeld => ?_)
           clear hK K
           refine norm_ (a' := ?_) ?_ ?_
           rotate_left
           ·
            show Act.put _ (some 45) _ = _
            exact s10_
           refine pl_ 21 47 (tb_ 32 134217727) ?_
           refine one_ (i := 27) (N := some 53) (tb_ 32 268435455) rfl rfl (one_of HT_.out s12_) (by decide) (fun K hK => ?_)
           refine goes_ Tryz.func135 s12_ rfl #[.agg #[.int .i64 a0_0, .slice _ l0_1.length c0_1], .int .i64 (rd x3_1 x6_2)] (by rfl) rfl rfl s0_ ?_
           with_reducible refine (spec_l4Closure.calls k2 a0_0 _ _ l0_1 (rd x3_1 x6_2) t189 _ ?side1 ?side2 A18.out).mono ?_
           (case side1 => exact s4_)
           (case side2 => exact HC0_1.out)
           rintro e w22 ⟨rfl, hb⟩
           have HS2_ := (hb.cell (World.block_lt_of_cell? _ _ (hHeld.2.2.1))).trans (hHeld.2.2.1); have HS3_ := (hb.cell (World.block_lt_of_cell? _ _ (hHeld.2.2.2.1))).trans (hHeld.2.2.2.1); have HS4_ := (hb.cell (World.block_lt_of_cell? _ _ (hHeld.2.2.2.2.1))).trans (hHeld.2.2.2.2.1); have HS5_ := (hb.cell (World.block_lt_of_cell? _ _ (hHeld.2.2.2.2.2))).trans (hHeld.2.2.2.2.2)
           refine ⟨_, rfl, ?_⟩
           have n0_ := Aside0.mk (Kd.R_below s9_ hb); have n1_ := Aside0.mk (blk_below (g := gb175) (o := .cells #[.int .i64 a0_0, .slice A0_1 l0_1.length c0_1] 29 (0, 0)) q4_6 hb); have n2_ := Aside0.mk (below_step q4_3 hb); clear HO_3; clear BK175; clear HB; have HO_3 := n0_; have BK175 := n1_; have HB := n2_; clear n0_ n1_ n2_
           (try clear hb)
           (try clear hb2)
           (try clear hk)
           (try clear hi)
           refine hK.out _ _ ⟨(blk_cell BK175.out 0).trans rfl, (blk_cell BK175.out 1).trans rfl, HS2_, HS3_, HS4_, HS5_⟩ (fun hHeld => ?_)
           clear hK K
           refine norm_ (a' := ?_) ?_ ?_
           rotate_left
           ·
            show Act.put _ (some 53) _ = _
            exact s10_
           refine pl_ 28 54 (tb_ 32 536870911) ?_; refine pl_ 29 55 (tb_ 32 1073741823) ?_; refine pl_ 30 56 (tb_ 32 2147483647) ?_; refine pl_ 31 5 (tb_ 32 4294967295) ?_
           refine done_ (done_of HT_.out s12_) ?_
           try go_wp2
           go_roundg k2
           case measure => have := HK1.out; have := HK2.out; omega
           case rel => exact ⟨(((Go.bits .and .i64 t187 x4_1) == t189)), (wrap64 (x6_2 + 1)), s2_, s2_, H', ⟨by have := HK1.out; have := HK2.out; omega⟩, ⟨s9_⟩, ⟨q4_6⟩, ⟨q4_3⟩⟩
          ·
           rw [if_neg c16] at H; have c16b0 : ((Go.bits .and .i64 (rd x3_1 x6_2) x4_1) == (rd x3_1 x6_2)) = false := beq_eq_false_iff_ne.mpr c16; have c16b1 : ((Go.bits .and .i64 (rd x3_1 x6_2) x4_1) != (rd x3_1 x6_2)) = true := bne_iff_ne.mpr c16; have H' := Aside0.mk H; clear H; obtain ⟨Ao23, co23, eo23⟩ := Kd.R_slice HO_3.out; subst eo23
           try go_wp2
           have n0_ := Aside0.mk (Kd.R_drew HO_3.out); have n1_ := Aside0.mk (blk_drew BK175.out); have n2_ := Aside0.mk (below_drew1 HB.out); clear HO_3; clear BK175; clear HB; have HO_3 := n0_; have BK175 := n1_; have HB := n2_; clear n0_ n1_ n2_; have p184 : 0 ≤ (x6_2 : Int) := of_decide_eq_true s3_; have q184 : x6_2 < (x3_1.length : Int) := of_decide_eq_true s3_; obtain ⟨ad184, e184, hx184_0⟩ := Kd.at_int (Kd.R_reads' HO_3.out).2.2 x6_2 p184 q184
           cases e184
           replace p184 := eq_true p184; replace q184 := eq_true q184; have p185 : 0 ≤ (x6_2 : Int) := of_decide_eq_true s3_; have q185 : x6_2 < (x3_1.length : Int) := of_decide_eq_true s3_; obtain ⟨ad185, e185, hx185_0⟩ := Kd.at_int (Kd.R_reads' HO_3.out).2.2 x6_2 p185 q185
           obtain rfl : ad184 = ad185 := (by injection e185)
           replace p185 := eq_true p185; replace q185 := eq_true q185
           refine start_ (n := 32) (S := fun w' => w'.cell? (ad184.add (x6_2).toNat) = some (.int .i64 (rd x3_1 x6_2)) ∧ w'.cell? (ad184.add (x6_2).toNat) = some (.int .i64 (rd x3_1 x6_2))) (ds := []) (tb_ 32 0) s12_ rfl rfl ⟨hx184_0, hx185_0⟩ (fun hHeld => ?_); refine with_tabW spec_l10Pseudo.tab10 spec_l10Pseudo.bits10 (fun HT_ HW_ => ?_)
           generalize wr.drew = w24 at HO_3 BK175 HB hx184_0 hx185_0 hHeld ⊢
           refine pl_ 0 26 (tb_ 32 1) ?_; refine pl_ 1 27 (tb_ 32 3) ?_; refine pl_ 2 28 (tb_ 32 7) ?_; refine pl_ 3 29 (tb_ 32 15) ?_; refine pl_ 4 30 (tb_ 32 31) ?_; refine pl_ 6 32 (tb_ 32 95) ?_; refine pl_ 8 34 (tb_ 32 351) ?_; refine pl_ 9 35 (tb_ 32 863) ?_; refine pl_ 10 36 (tb_ 32 1887) ?_
           refine take_ (i := 5) (N := some 31) (v := ?_) (a' := ?_) (tb_ 32 1919) rfl rfl (take_ofW HT_.out HW_.out s12_) (fun _ _ _ h => h) (Or.inl ⟨by rfl, ?_⟩) hHeld ?_ ?_
           rotate_left
           ·
            rintro w' ⟨s0, s1⟩
            go_simp; with_reducible rfl
           rotate_left
           ·
            exact s10_
           refine pl_ 7 33 (tb_ 32 2047) ?_
           refine take_ (i := 11) (N := some 37) (v := ?_) (a' := ?_) (tb_ 32 4095) rfl rfl (take_ofW HT_.out HW_.out s12_) (fun _ _ _ h => h) (Or.inl ⟨by rfl, ?_⟩) hHeld ?_ ?_
           rotate_left
           ·
            rintro w' ⟨s0, s1⟩
            go_simp; with_reducible rfl
           rotate_left
           ·
            exact s10_
           refine pl_ 12 38 (tb_ 32 8191) ?_; refine pl_ 13 39 (tb_ 32 16383) ?_; refine pr_ 14 40 (tb_ 32 32767) ?_; refine pr_ 15 41 (tb_ 32 65535) ?_; refine pr_ 16 42 (tb_ 32 131071) ?_; refine pr_ 17 43 (tb_ 32 262143) ?_; refine pr_ 18 44 (tb_ 32 524287) ?_; refine pr_ 19 45 (tb_ 32 1048575) ?_; refine pr_ 20 46 (tb_ 32 2097151) ?_; refine pr_ 21 47 (tb_ 32 4194303) ?_; refine pr_ 22 48 (tb_ 32 8388607) ?_; refine pr_ 23 49 (tb_ 32 16777215) ?_; refine pr_ 24 50 (tb_ 32 33554431) ?_; refine pr_ 25 51 (tb_ 32 67108863) ?_; refine pr_ 26 52 (tb_ 32 134217727) ?_; refine pr_ 27 53 (tb_ 32 268435455) ?_; refine pr_ 28 54 (tb_ 32 536870911) ?_; refine pl_ 29 55 (tb_ 32 1073741823) ?_; refine pl_ 30 56 (tb_ 32 2147483647) ?_; refine pl_ 31 5 (tb_ 32 4294967295) ?_
           refine done_ (done_of HT_.out s12_) ?_
           try go_wp2
           go_roundg k2
           case measure => have := HK1.out; have := HK2.out; omega
           case rel => exact ⟨(true), (wrap64 (x6_2 + 1)), s2_, s2_, H', ⟨by have := HK1.out; have := HK2.out; omega⟩, ⟨s9_⟩, ⟨q4_6⟩, ⟨q4_3⟩⟩
         ·
          rw [if_neg c15] at H
          exact absurd H (by simp)
        ·
         replace c14 := Bool.eq_false_iff.mpr c14; subst c14
         rw [if_neg (show ¬ (false = true) by decide)] at H
         have H' := Aside0.mk H; clear H; obtain ⟨Ao25, co25, eo25⟩ := Kd.R_slice HO_3.out; subst eo25
         try go_wp2
         have n0_ := Aside0.mk (Kd.R_drew HO_3.out); have n1_ := Aside0.mk (blk_drew BK175.out); have n2_ := Aside0.mk (below_drew1 HB.out); clear HO_3; clear BK175; clear HB; have HO_3 := n0_; have BK175 := n1_; have HB := n2_; clear n0_ n1_ n2_
         refine start_ (n := 32) (S := fun w' => True) (ds := []) (tb_ 32 0) s12_ rfl rfl trivial (fun hHeld => ?_); refine with_tabW spec_l10Pseudo.tab10 spec_l10Pseudo.bits10 (fun HT_ HW_ => ?_)
         generalize wr.drew = w26 at HO_3 BK175 HB hHeld ⊢
         refine pl_ 0 26 (tb_ 32 1) ?_; refine pl_ 1 27 (tb_ 32 3) ?_; refine pr_ 2 28 (tb_ 32 7) ?_; refine pr_ 3 29 (tb_ 32 15) ?_; refine pr_ 4 30 (tb_ 32 31) ?_; refine pr_ 5 31 (tb_ 32 63) ?_; refine pr_ 6 32 (tb_ 32 127) ?_; refine pr_ 7 33 (tb_ 32 255) ?_; refine pr_ 8 34 (tb_ 32 511) ?_; refine pr_ 9 35 (tb_ 32 1023) ?_; refine pr_ 10 36 (tb_ 32 2047) ?_; refine pr_ 11 37 (tb_ 32 4095) ?_; refine pr_ 12 38 (tb_ 32 8191) ?_; refine pr_ 13 39 (tb_ 32 16383) ?_; refine pr_ 14 40 (tb_ 32 32767) ?_; refine pr_ 15 41 (tb_ 32 65535) ?_; refine pr_ 16 42 (tb_ 32 131071) ?_; refine pr_ 17 43 (tb_ 32 262143) ?_; refine pr_ 18 44 (tb_ 32 524287) ?_; refine pr_ 19 45 (tb_ 32 1048575) ?_; refine pr_ 20 46 (tb_ 32 2097151) ?_; refine pr_ 21 47 (tb_ 32 4194303) ?_; refine pr_ 22 48 (tb_ 32 8388607) ?_; refine pr_ 23 49 (tb_ 32 16777215) ?_; refine pr_ 24 50 (tb_ 32 33554431) ?_; refine pr_ 25 51 (tb_ 32 67108863) ?_; refine pr_ 26 52 (tb_ 32 134217727) ?_
         refine pr_ 27 53 (tb_ 32 268435455) ?_; refine pr_ 28 54 (tb_ 32 536870911) ?_; refine pr_ 29 55 (tb_ 32 1073741823) ?_; refine pl_ 30 56 (tb_ 32 2147483647) ?_; refine pl_ 31 5 (tb_ 32 4294967295) ?_
         refine done_ (done_of HT_.out s12_) ?_
         try go_wp2
         go_roundg k2
         case measure => have := HK1.out; have := HK2.out; omega
         case rel => exact ⟨(false), (wrap64 (x6_2 + 1)), s2_, s2_, H', ⟨by have := HK1.out; have := HK2.out; omega⟩, ⟨s9_⟩, ⟨q4_6⟩, ⟨q4_3⟩⟩
       ·
        rw [if_neg c13] at H; have c13b0 : decide (x6_2 < (x3_1.length : Int)) = false := decide_eq_false c13; clear c13
        by_cases c27 : x5_2 = true
        ·
         subst c27; rw [if_pos rfl] at H
         by_cases c28 : x3_1.length < 17592186044416
         ·
          rw [if_pos c28] at H; have LMc28 := Aside0.mk c28; clear c28; obtain ⟨y190, hy190⟩ : ∃ y_ : List Int, y_ = (x3_1 ++ [x4_1]) := ⟨_, rfl⟩
          replace H : (spec_l10Pseudo.l0 k2 y190 (wrap64 (x4_1 + 1)) a0_0 l0_1) = some r := by first | (rw [hy190]; with_reducible exact H) | (have H2_ := (Option.bind_some _ _).symm.trans H; rw [hy190]; with_reducible exact H2_) | (have H2_ := (Option.bind_some _ _).symm.trans H; with_reducible exact H2_) | with_reducible exact H | (rw [hy190]; exact H) | exact H
          have Ny190 := Aside0.mk hy190; clear hy190; have H' := Aside0.mk H; clear H; obtain ⟨Ao29, co29, eo29⟩ := Kd.R_slice HO_3.out; subst eo29
          go_wp2_with (first | ((with_reducible refine gate_builtin (b := .append) (xs := #[.tmp 58, .tmp 60]) rfl ?_); at_builtin; refine Kd.R_append (Kd.int .i64) (w0 := w) w.heap.size rfl (.tmp 58) (.tmp 60) 27 3 (.int .i64 0) 8 rfl Tryz.underlying27 info3 rfl (by decide) (by omega) (.slice Ao29 x3_1.length co29) x3_1 x4_1 [.int .i64 x4_1] (fun _ => True) (fun _ => False) rfl rfl ?aP (fun _ hk => hk.elim) ?aF ?aO ?aB ?aS ?aL ?_; (case aP => exact rfl); (case aB => exact q4_3); (case aF => exact (fun _ _ => trivial)); (case aO => exact s9_); (case aS => exact (below_size q4_3)); (case aL => have := LMc28.out; omega); intro v191 w30 ho hb hg hat; rw [← Ny190.out] at ho; have n_ := ac_ (blk_grown (g := gb175) (o := .cells #[.int .i64 a0_0, .slice A0_1 l0_1.length c0_1] 29 (0, 0)) q4_6 hg (Kd.R_ne HO_3.out BK175.out (by decide))) <| ac_ (hb) <| Aside0.mk (ho); clear BK175 HB HO_3; obtain ⟨BK175, HB, HO192⟩ := n_; clear ho hb hg hat))
          go_roundg k2
          case measure => have := HK1.out; have := HK2.out; omega
          case rel => exact ⟨(y190), (wrap64 (x4_1 + 1)), s2_, H', ⟨by have := HK1.out; have := HK2.out; omega⟩, ⟨(by (with_reducible repeat (first | apply Kd.R_alloc | apply Kd.R_drewN | apply Kd.R_drew)); exact HO192.out)⟩, ⟨q4_6⟩, ⟨q4_3⟩⟩
         ·
          rw [if_neg c28] at H
          exact absurd H (by simp)
        ·
         replace c27 := Bool.eq_false_iff.mpr c27; subst c27
         rw [if_neg (show ¬ (false = true) by decide)] at H
         have H' := Aside0.mk H; clear H; obtain ⟨Ao31, co31, eo31⟩ := Kd.R_slice HO_3.out; subst eo31
         go_wp2
         go_roundg k2
         case measure => have := HK1.out; have := HK2.out; omega
         case rel => exact ⟨(x3_1), (wrap64 (x4_1 + 1)), s2_, H', ⟨by have := HK1.out; have := HK2.out; omega⟩, ⟨s9_⟩, ⟨q4_6⟩, ⟨q4_3⟩⟩
   ·
    rw [if_neg c6] at H; have c6b0 : decide (x4_1 ≤ t179) = false := decide_eq_false c6; clear c6; obtain ⟨t180, A32, H⟩ := bnd4_ H; obtain rfl := Option.some.inj H; have hcz33_0 : wr.cell? ⟨gb175, 0, none⟩ = some (.int .i64 a0_0) := (blk_cell BK175.out 0).trans rfl; have hcz33_1 : wr.cell? ⟨gb175, 1, none⟩ = some (.slice A0_1 l0_1.length c0_1) := (blk_cell BK175.out 1).trans rfl; have hfz33_0 := blk_frozen BK175.out 0; have hfz33_1 := blk_frozen BK175.out 1
    go_wp2_with (first | (refine gL_ 62 11 Tryz.func62 #[.int .i64 a0_0] ?_; (with_reducible refine (spec_FullSet.calls a0_0 t179 _ A5.out).mono ?_); rintro e w' ⟨rfl, ⟨nd, rfl⟩⟩; refine ⟨_, rfl, ?_⟩; obtain ⟨Ao34, co34, eo34⟩ := Kd.R_slice HO_3.out; subst eo34) | (refine gL_ 139 63 Tryz.func139 #[.slice Ao34 x3_1.length co34] ?_; (with_reducible refine (spec_SortLectic.calls k1 _ _ x3_1 t180 _ ?side1 ?side2 A32.out).mono ?_); (case side1 => repeat (first | exact (Kd.R_reads' HO_3.out).2.2 | (with_reducible refine Kd.C_alloc ?_ _) | (with_reducible refine Kd.C_drewN ?_ _) | (with_reducible refine Kd.C_drew ?_))); (case side2 => exact (Kd.R_reads' HO_3.out).2.1); rintro e w35 ⟨v181, rfl, ho0, hb⟩; refine ⟨_, rfl, ?_⟩; have n_ := ac_ (Kd.R_elder' s9_ (Kd.R_base ho0) hb) <| ac_ (Kd.R_lower (Kd.R_new' ho0 (Kd.R_lt s9_)) (below_size q4_3)) <| ac_ (blk_below (g := gb175) (o := .cells #[.int .i64 a0_0, .slice A0_1 l0_1.length c0_1] 29 (0, 0)) q4_6 hb) <| Aside0.mk (below_step q4_3 hb); clear HO_3 BK175 HB; obtain ⟨HO_3, HO182, BK175, HB⟩ := n_; (try clear hb ho0)))
    go_ret
    exact ⟨_, (by first | rfl | (simp [errW_none, errW_some] <;> rfl) | (simp [*, errW_none, errW_some] <;> rfl)), (by (with_reducible repeat (first | apply Kd.R_alloc | apply Kd.R_drewN | apply Kd.R_drew)); exact Kd.R_mono HO182.out (fun _ hk => trivial)), q4_3⟩
end Go.Proofs.YtafnamchckehmaaGreatDoor.Pr
