/- What the law needs of the program's functions as plain functions, of the proofs that their calls answer so, and of plain laws: gathered by a program of this place (pack.py) out of its printed texts. No condition beyond what each statement says. -/
import Derived.Test.YtafnamchckehmaaZFnArrows2
import Derived.Test.YtafnamchckehmaaZFnArrows6
import Derived.Test.YtafnamchckehmaaZFnArrows7
namespace Go.Proofs.Ytafnamchckehmaa.Pr
open Go.RowKit Go.Proofs.YtafnamchckehmaaW.PrintWords Go.Proofs.YtafnamchckehmaaW.PrintLast Go.Proofs.YtafnamchckehmaaW.PrintMore
attribute [local go_sem] max2_int min2_int max_two min_two max_three min_three max_four min_four   -- for this text's walks alone
set_option linter.unusedVariables false
set_option linter.unusedSimpArgs false
theorem q6_1 {P : Prop} (h : P := by repeat (first | exact (Kd.C_below HR0_1.out HB.out) | (with_reducible refine Kd.C_alloc ?_ _) | (with_reducible refine Kd.C_drewN ?_ _) | (with_reducible refine Kd.C_drew ?_))) : P := h
theorem q6_2 {P : Prop} (h : P := by repeat (first | (with_reducible first | exact HB.out | apply below_alloc | apply pw_below_drewN | apply below_drew1 | refine below_set ?_ GE318.out) | exact HB.out)) : P := h
theorem q6_3 {P : Prop} (h : P := by (try simp only [List.map_toArray, List.map_cons, List.map_nil]); first | done | rfl | (simp only [List.length_drop, List.length_take]; rfl)) : P := h
theorem q6_4 {P : Prop} (h : P := by repeat (first | (with_reducible first | exact HB.out | apply below_alloc | apply pw_below_drewN | apply below_drew1) | exact HB.out)) : P := h
theorem q6_5 {P : Prop} (h : P := by (with_reducible repeat (first | refine blk_drewN ?_ _ | refine blk_drew ?_ | refine blk_alloc ?_ _)); exact BK318.out) : P := h
theorem q6_6 {P : Prop} (h : P := by (with_reducible repeat (first | apply Kd.R_alloc | apply Kd.R_drewN | apply Kd.R_drew)); exact HO_3.out) : P := h
theorem q6_7 {P : Prop} (h : P := by first | rfl | (simp; done) | (simp [*]; done) | (simp [i64_w, i32_w]; done)) : P := h
theorem q6_8 {P : Prop} (h : P := by rw [if_neg (show ¬ (false = true) by decide)] at H; exact H) : P := h
theorem q6_9 {P : Prop} (h : P := by first | (with_reducible assumption) | assumption) : P := h
theorem q6_10 {P : Prop} (h : P := by rw [if_pos rfl] at H; exact H) : P := h
theorem q6_11 {P : Prop} (h : P := by kernel_rfl) : P := h
mutual
def spec_ArrowText.l0 : Nat → List ByteArray → Int → Int → List Int → Option (List ByteArray)
 | 0, _, _, _, _ => none
 | k + 1, x3, x4, x319000, x319001 => if x4 < (x319001.length : Int) then ((spec_l8Down.f k x319000 x319001 x4).bind fun t323 => ((spec_l8Up.f k x319000 x319001 x4).bind fun t324 => (spec_ArrowText.l1 k x3 x4 (⟨#[]⟩ : ByteArray) t323 t324 0 x319000 x319001))) else (some x3)
def spec_ArrowText.l1 : Nat → List ByteArray → Int → ByteArray → Int → Int → Int → Int → List Int → Option (List ByteArray)
 | 0, _, _, _, _, _, _, _, _ => none
 | k + 1, x3, x4, x5, x6, x7, x8, x319000, x319001 => if x8 < x319000 then (if 0 ≤ x4 then (if x4 < (x319001.length : Int) then ((spec_l2Has.f (rd x319001 x4) x8).bind fun t329 => (if t329 = true then (if x5.size + 1 ≤ 9223372036854775807 then (spec_ArrowText.l1 k x3 x4 (x5 ++ (⟨#[120]⟩ : ByteArray)) x6 x7 (wrap64 (x8 + 1)) x319000 x319001) else (none)) else ((spec_l2Has.f (Go.bits .and .i64 x6 x7) x8).bind fun t330 => (if t330 = true then (if x5.size + 1 ≤ 9223372036854775807 then (spec_ArrowText.l1 k x3 x4 (x5 ++ (⟨#[42]⟩ : ByteArray)) x6 x7 (wrap64 (x8 + 1)) x319000 x319001) else (none)) else ((spec_l2Has.f x6 x8).bind fun t331 => (if t331 = true then (if x5.size + 1 ≤ 9223372036854775807 then (spec_ArrowText.l1 k x3 x4 (x5 ++ (⟨#[118]⟩ : ByteArray)) x6 x7 (wrap64 (x8 + 1)) x319000 x319001) else (none)) else ((spec_l2Has.f x7 x8).bind fun t332 => (if t332 = true then (if x5.size + 1 ≤ 9223372036854775807 then (spec_ArrowText.l1 k x3 x4 (x5 ++ (⟨#[94]⟩ : ByteArray)) x6 x7 (wrap64 (x8 + 1)) x319000 x319001) else (none)) else (if x5.size + 1 ≤ 9223372036854775807 then (spec_ArrowText.l1 k x3 x4 (x5 ++ (⟨#[46]⟩ : ByteArray)) x6 x7 (wrap64 (x8 + 1)) x319000 x319001) else (none)))))))))) else (none)) else (none)) else (if x3.length < 8796093022208 then (spec_ArrowText.l0 k (x3 ++ [x5]) (wrap64 (x4 + 1)) x319000 x319001) else (none))
end
def spec_ArrowText.f (k : Nat) (a0_0 : Int) (l0_1 : List Int) : Option (List ByteArray) := (some (([] : List ByteArray) : List ByteArray)).bind fun y319 => ((spec_IsContext.f k a0_0 l0_1).bind fun t322 => (if t322 = true then (spec_ArrowText.l0 k y319 0 a0_0 l0_1) else (some y319)))
set_option maxHeartbeats 8000000 in
set_option maxRecDepth 100000 in
theorem spec_ArrowText.calls (k : Nat) (a0_0 : Int) (A0_1 : Option Addr) (c0_1 : Nat) (l0_1 : List Int) (r : List ByteArray) (w : World) (hr0_1 : Kd.C (Kd.int .i64) w A0_1 l0_1.length l0_1) (hc0_1 : l0_1.length ≤ c0_1) (h : spec_ArrowText.f k a0_0 l0_1 = some r) :
  Calls Try.prog 15 #[.agg #[.int .i64 a0_0, .slice A0_1 l0_1.length c0_1]] w fun e w' => ∃ v0_ : Value, e = .returned (v0_) ∧ Kd.R Kd.string 9 w' w.heap.size (fun _ => True) v0_ r ∧ Below w.heap.size w w' := by
 have hu26 := Try.underlying26
 have HR0_1 := Aside0.mk hr0_1
 have HC0_1 := Aside0.mk hc0_1
 clear hr0_1 hc0_1
 have HB := Aside0.mk (Below.refl w.heap.size w)
 have H : ((some (([] : List ByteArray) : List ByteArray)).bind fun y319 => ((spec_IsContext.f k a0_0 l0_1).bind fun t322 => (if t322 = true then (spec_ArrowText.l0 k y319 0 a0_0 l0_1) else (some y319)))) = some r := h
 clear h
 obtain ⟨y319, hy319⟩ : ∃ y_ : List ByteArray, y_ = (([] : List ByteArray)) := ⟨_, rfl⟩
 replace H : ((spec_IsContext.f k a0_0 l0_1).bind fun t322 => (if t322 = true then (spec_ArrowText.l0 k y319 0 a0_0 l0_1) else (some y319))) = some r := by first | (rw [hy319]; with_reducible exact H) | (have H2_ := (Option.bind_some _ _).symm.trans H; rw [hy319]; with_reducible exact H2_) | (have H2_ := (Option.bind_some _ _).symm.trans H; with_reducible exact H2_) | with_reducible exact H | (rw [hy319]; exact H) | exact H
 have Ny319 := Aside0.mk hy319
 clear hy319
 replace H := Option.bind_eq_some_iff.mp H
 obtain ⟨t322, A20, H⟩ := H
 replace H : (if t322 = true then (spec_ArrowText.l0 k y319 0 a0_0 l0_1) else (some y319)) = some r := H
 have A2 := Aside0.mk A20
 clear A20
 by_cases c3 : t322 = true
 ·
  subst c3
  have H1 : (spec_ArrowText.l0 k y319 0 a0_0 l0_1) = some r := q6_10
  clear H
  have H := H1
  clear H1
  have H' := Aside0.mk H
  clear H
  go_enter Try.func15, Try.ntmps15
  go_wp2_with (first | ((with_reducible refine gate_dst (N := 1) rfl ?_); refine box_event ?hg (N := 1) ?hd (cs := #[.int .i64 a0_0, .slice A0_1 l0_1.length c0_1]) (t := 26) ?hr ?_; (case hd => rfl); (case hg => rfl); (case hr => first | (go_simp; done) | (go_simp; rfl)); intro gb318 hg w4 hbox hb; have n0_ := Aside0.mk (below_step q6_4 hb); have n1_ := Aside0.mk (hbox); have n2_ := Aside0.mk ((by rw [hg]; exact (below_size q6_4) : w.heap.size ≤ gb318)); have n3_ := Aside0.mk ((by rw [hg]; exact (below_size q6_4) : w.heap.size ≤ gb318)); clear HB; have HB := n0_; have BK318 := n1_; have GW318 := n2_; have GE318 := n3_; clear n0_ n1_ n2_ n3_; clear hb hbox hg) | ((with_reducible refine gate_dst (N := 9) rfl ?_); refine Kd.R_lit Kd.string _ 9 ?hg (N := 9) ?hd (xs := ([] : List ByteArray)) (inner := []) (ok := fun _ => True) (okp := fun _ => True) ?hr ?hp (fun _ hk => hk) trivial (Below.refl _ _) (Nat.le_refl _) (by simp) ?_; (case hd => rfl); (case hg => rfl); (case hr => first | (go_simp; done) | (go_simp; rfl)); (case hp => exact (Reps.none _ _)); intro v320 w5 ho6 hb hg_ hnew_; clear hg_ hnew_; (first | rw [← Ny319.out] at ho6 | (simp only [Int.reduceToNat] at ho6; rw [← Ny319.out] at ho6)); have n0_ := Aside0.mk (Kd.R_lower ho6 (below_size q6_2)); have n1_ := Aside0.mk (blk_below (g := gb318) (o := .cells #[.int .i64 a0_0, .slice A0_1 l0_1.length c0_1] 26 (0, 0)) q6_5 hb); have n2_ := Aside0.mk (below_step q6_2 hb); clear BK318; clear HB; have HO321 := n0_; have BK318 := n1_; have HB := n2_; clear n0_ n1_ n2_; clear hb ho6; have hcz7_0 : w5.cell? ⟨gb318, 0, none⟩ = some (.int .i64 a0_0) := (blk_cell BK318.out 0).trans rfl; have hcz7_1 : w5.cell? ⟨gb318, 1, none⟩ = some (.slice A0_1 l0_1.length c0_1) := (blk_cell BK318.out 1).trans rfl; have hfz7_0 := blk_frozen BK318.out 0; have hfz7_1 := blk_frozen BK318.out 1) | ((with_reducible refine gate_callee (f := 20) rfl ?_); refine goesL_ (some 11) rfl rfl Try.func20 q6_11 rfl #[.agg #[.int .i64 a0_0, .slice A0_1 l0_1.length c0_1]] rfl q6_3 ?_; (with_reducible refine (spec_IsContext.calls k a0_0 _ _ l0_1 true _ ?side1 ?side2 A2.out).mono ?_); (case side1 => exact q6_1); (case side2 => exact HC0_1.out); rintro e w8 ⟨rfl, hb⟩; refine ⟨_, rfl, ?_⟩; have n0_ := Aside0.mk (Kd.R_below (by (with_reducible repeat (first | apply Kd.R_alloc | apply Kd.R_drewN | apply Kd.R_drew)); exact HO321.out) hb); have n1_ := Aside0.mk (blk_below (g := gb318) (o := .cells #[.int .i64 a0_0, .slice A0_1 l0_1.length c0_1] 26 (0, 0)) q6_5 hb); have n2_ := Aside0.mk (below_step q6_2 hb); clear HO321; clear BK318; clear HB; have HO321 := n0_; have BK318 := n1_; have HB := n2_; clear n0_ n1_ n2_; (try clear hb); (try clear hb2); (try clear hk); (try clear hi)))
  go_loopg [3, 4] k (fun kq v3 v4 w' => ∃ (x3_1 : List ByteArray) (x4_1 : Int), v4 = .int .i64 x4_1 ∧ Aside0 (spec_ArrowText.l0 kq x3_1 x4_1 a0_0 l0_1 = some r) ∧ Aside0 (kq ≤ k) ∧ Aside0 (Kd.R Kd.string 9 w' w.heap.size (fun _ => True) v3 x3_1) ∧ Aside0 (w'.heap[gb318]? = some (.cells #[.int .i64 a0_0, (.slice A0_1 l0_1.length c0_1)] 26 (0, 0))) ∧ Aside0 (Below w.heap.size w w'))
  case atStart => exact ⟨(y319), (0), q6_7, H', ⟨Nat.le_refl _⟩, ⟨by (with_reducible repeat (first | apply Kd.R_alloc | apply Kd.R_drewN | apply Kd.R_drew)); exact HO321.out⟩, ⟨by (with_reducible repeat (first | refine blk_drewN ?_ _ | refine blk_drew ?_ | refine blk_alloc ?_ _)); exact BK318.out⟩, ⟨by repeat (first | (with_reducible first | exact HB.out | apply below_alloc | apply pw_below_drewN | apply below_drew1 | refine below_set ?_ GE318.out) | exact HB.out)⟩⟩
  case round =>
   clear H'
   try clear c1
   try clear c2
   try clear p2
   try clear c3
   try clear hcz7_0
   try clear hcz7_1
   try clear hfz7_0
   try clear hfz7_1
   obtain ⟨x3_1, x4_1, rfl, HA, HK1, HO_3, BK318, HB⟩ := hrel
   cases gk with
   | zero => exact absurd HA.out (by simp [spec_ArrowText.l0])
   | succ k1 =>
    have H := HA.out
    clear HA
    simp only [spec_ArrowText.l0] at H
    by_cases c9 : x4_1 < (l0_1.length : Int)
    ·
     rw [if_pos c9] at H
     have c9b0 : decide (x4_1 < (l0_1.length : Int)) = true := decide_eq_true c9
     clear c9
     replace H := Option.bind_eq_some_iff.mp H
     obtain ⟨t323, A100, H⟩ := H
     replace H : ((spec_l8Up.f k1 a0_0 l0_1 x4_1).bind fun t324 => (spec_ArrowText.l1 k1 x3_1 x4_1 (⟨#[]⟩ : ByteArray) t323 t324 0 a0_0 l0_1)) = some r := H
     have A10 := Aside0.mk A100
     clear A100
     replace H := Option.bind_eq_some_iff.mp H
     obtain ⟨t324, A110, H⟩ := H
     replace H : (spec_ArrowText.l1 k1 x3_1 x4_1 (⟨#[]⟩ : ByteArray) t323 t324 0 a0_0 l0_1) = some r := H
     have A11 := Aside0.mk A110
     clear A110
     have H' := Aside0.mk H
     clear H
     have hcz12_0 : wr.cell? ⟨gb318, 0, none⟩ = some (.int .i64 a0_0) := (blk_cell BK318.out 0).trans rfl
     have hcz12_1 : wr.cell? ⟨gb318, 1, none⟩ = some (.slice A0_1 l0_1.length c0_1) := (blk_cell BK318.out 1).trans rfl
     have hfz12_0 := blk_frozen BK318.out 0
     have hfz12_1 := blk_frozen BK318.out 1
     go_wp2_with (first | ((with_reducible refine gate_callee (f := 54) rfl ?_); refine goesL_ (some 23) rfl rfl Try.func54 q6_11 rfl #[.agg #[.int .i64 a0_0, .slice A0_1 l0_1.length c0_1], .int .i64 x4_1] rfl q6_3 ?_; (with_reducible refine (spec_l8Down.calls k1 a0_0 _ _ l0_1 x4_1 t323 _ ?side1 ?side2 A10.out).mono ?_); (case side1 => exact q6_1); (case side2 => exact HC0_1.out); rintro e w13 ⟨rfl, hb⟩; refine ⟨_, rfl, ?_⟩; have n0_ := Aside0.mk (Kd.R_below q6_6 hb); have n1_ := Aside0.mk (blk_below (g := gb318) (o := .cells #[.int .i64 a0_0, .slice A0_1 l0_1.length c0_1] 26 (0, 0)) q6_5 hb); have n2_ := Aside0.mk (below_step q6_2 hb); clear HO_3; clear BK318; clear HB; have HO_3 := n0_; have BK318 := n1_; have HB := n2_; clear n0_ n1_ n2_; (try clear hb); (try clear hb2); (try clear hk); (try clear hi); have hcz14_0 : w13.cell? ⟨gb318, 0, none⟩ = some (.int .i64 a0_0) := (blk_cell BK318.out 0).trans rfl; have hcz14_1 : w13.cell? ⟨gb318, 1, none⟩ = some (.slice A0_1 l0_1.length c0_1) := (blk_cell BK318.out 1).trans rfl; have hfz14_0 := blk_frozen BK318.out 0; have hfz14_1 := blk_frozen BK318.out 1) | ((with_reducible refine gate_callee (f := 55) rfl ?_); refine goesL_ (some 26) rfl rfl Try.func55 q6_11 rfl #[.agg #[.int .i64 a0_0, .slice A0_1 l0_1.length c0_1], .int .i64 x4_1] rfl q6_3 ?_; (with_reducible refine (spec_l8Up.calls k1 a0_0 _ _ l0_1 x4_1 t324 _ ?side1 ?side2 A11.out).mono ?_); (case side1 => exact q6_1); (case side2 => exact HC0_1.out); rintro e w15 ⟨rfl, hb⟩; refine ⟨_, rfl, ?_⟩; have n0_ := Aside0.mk (Kd.R_below q6_6 hb); have n1_ := Aside0.mk (blk_below (g := gb318) (o := .cells #[.int .i64 a0_0, .slice A0_1 l0_1.length c0_1] 26 (0, 0)) q6_5 hb); have n2_ := Aside0.mk (below_step q6_2 hb); clear HO_3; clear BK318; clear HB; have HO_3 := n0_; have BK318 := n1_; have HB := n2_; clear n0_ n1_ n2_; (try clear hb); (try clear hb2); (try clear hk); (try clear hi)))
     go_loopg [5, 8] k1 (fun kq v5 v8 w' => ∃ (x5_2 : ByteArray) (x8_2 : Int), v5 = .string x5_2 ∧ v8 = .int .i64 x8_2 ∧ Aside0 (spec_ArrowText.l1 kq x3_1 x4_1 x5_2 t323 t324 x8_2 a0_0 l0_1 = some r) ∧ Aside0 (kq ≤ k1) ∧ Aside0 (Kd.R Kd.string 9 w' w.heap.size (fun _ => True) u3 x3_1) ∧ Aside0 (w'.heap[gb318]? = some (.cells #[.int .i64 a0_0, (.slice A0_1 l0_1.length c0_1)] 26 (0, 0))) ∧ Aside0 (Below w.heap.size w w'))
     case atStart => exact ⟨((⟨#[]⟩ : ByteArray)), (0), q6_7, q6_7, H', ⟨Nat.le_refl _⟩, ⟨by (with_reducible repeat (first | apply Kd.R_alloc | apply Kd.R_drewN | apply Kd.R_drew)); exact HO_3.out⟩, ⟨by (with_reducible repeat (first | refine blk_drewN ?_ _ | refine blk_drew ?_ | refine blk_alloc ?_ _)); exact BK318.out⟩, ⟨by repeat (first | (with_reducible first | exact HB.out | apply below_alloc | apply pw_below_drewN | apply below_drew1 | refine below_set ?_ GE318.out) | exact HB.out)⟩⟩
     case round =>
      clear H'
      try clear c1
      try clear c2
      try clear p2
      try clear c3
      try clear c5
      try clear c9
      try clear c9b0
      try clear c15
      try clear hcz12_0
      try clear hcz12_1
      try clear hcz14_0
      try clear hcz14_1
      try clear hcz7_0
      try clear hcz7_1
      try clear hfz12_0
      try clear hfz12_1
      try clear hfz14_0
      try clear hfz14_1
      try clear hfz7_0
      try clear hfz7_1
      try clear p2
      obtain ⟨x5_2, x8_2, rfl, rfl, HA, HK2, HO_3, BK318, HB⟩ := hrel
      cases gk with
      | zero => exact absurd HA.out (by simp [spec_ArrowText.l1])
      | succ k2 =>
       have H := HA.out
       clear HA
       simp only [spec_ArrowText.l1] at H
       by_cases c16 : x8_2 < a0_0
       ·
        rw [if_pos c16] at H
        have c16b0 : decide (x8_2 < a0_0) = true := decide_eq_true c16
        clear c16
        by_cases c17 : 0 ≤ x4_1
        ·
         rw [if_pos c17] at H
         have c17b0 : decide (0 ≤ x4_1) = true := decide_eq_true c17
         clear c17
         by_cases c18 : x4_1 < (l0_1.length : Int)
         ·
          rw [if_pos c18] at H
          have c18b0 : decide (x4_1 < (l0_1.length : Int)) = true := decide_eq_true c18
          clear c18
          replace H := Option.bind_eq_some_iff.mp H
          obtain ⟨t329, A190, H⟩ := H
          replace H : (if t329 = true then (if x5_2.size + 1 ≤ 9223372036854775807 then (spec_ArrowText.l1 k2 x3_1 x4_1 (x5_2 ++ (⟨#[120]⟩ : ByteArray)) t323 t324 (wrap64 (x8_2 + 1)) a0_0 l0_1) else (none)) else ((spec_l2Has.f (Go.bits .and .i64 t323 t324) x8_2).bind fun t330 => (if t330 = true then (if x5_2.size + 1 ≤ 9223372036854775807 then (spec_ArrowText.l1 k2 x3_1 x4_1 (x5_2 ++ (⟨#[42]⟩ : ByteArray)) t323 t324 (wrap64 (x8_2 + 1)) a0_0 l0_1) else (none)) else ((spec_l2Has.f t323 x8_2).bind fun t331 => (if t331 = true then (if x5_2.size + 1 ≤ 9223372036854775807 then (spec_ArrowText.l1 k2 x3_1 x4_1 (x5_2 ++ (⟨#[118]⟩ : ByteArray)) t323 t324 (wrap64 (x8_2 + 1)) a0_0 l0_1) else (none)) else ((spec_l2Has.f t324 x8_2).bind fun t332 => (if t332 = true then (if x5_2.size + 1 ≤ 9223372036854775807 then (spec_ArrowText.l1 k2 x3_1 x4_1 (x5_2 ++ (⟨#[94]⟩ : ByteArray)) t323 t324 (wrap64 (x8_2 + 1)) a0_0 l0_1) else (none)) else (if x5_2.size + 1 ≤ 9223372036854775807 then (spec_ArrowText.l1 k2 x3_1 x4_1 (x5_2 ++ (⟨#[46]⟩ : ByteArray)) t323 t324 (wrap64 (x8_2 + 1)) a0_0 l0_1) else (none))))))))) = some r := H
          have A19 := Aside0.mk A190
          clear A190
          by_cases c20 : t329 = true
          ·
           subst c20
           have H1 : (if x5_2.size + 1 ≤ 9223372036854775807 then (spec_ArrowText.l1 k2 x3_1 x4_1 (x5_2 ++ (⟨#[120]⟩ : ByteArray)) t323 t324 (wrap64 (x8_2 + 1)) a0_0 l0_1) else (none)) = some r := q6_10
           clear H
           have H := H1
           clear H1
           by_cases c21 : x5_2.size + 1 ≤ 9223372036854775807
           ·
            rw [if_pos c21] at H
            have c21b0 := eq_true c21
            have c21b1 : decide (x5_2.size + 1 ≤ 9223372036854775807) = true := decide_eq_true c21
            try have c21b2 : (9223372036854775807 < x5_2.size + 1) = False := eq_false (Nat.not_lt.2 c21)
            have H' := Aside0.mk H
            clear H
            have hcz22_0 : wr.cell? ⟨gb318, 0, none⟩ = some (.int .i64 a0_0) := (blk_cell BK318.out 0).trans rfl
            have hcz22_1 : wr.cell? ⟨gb318, 1, none⟩ = some (.slice A0_1 l0_1.length c0_1) := (blk_cell BK318.out 1).trans rfl
            have hfz22_0 := blk_frozen BK318.out 0
            have hfz22_1 := blk_frozen BK318.out 1
            have p328 : 0 ≤ (x4_1 : Int) := of_decide_eq_true q6_9
            have q328 : x4_1 < (l0_1.length : Int) := of_decide_eq_true q6_9
            obtain ⟨ad328, e328, hx328_0⟩ := Kd.at_int HR0_1.out x4_1 p328 q328
            cases e328
            replace hx328_0 := (HB.out.cell (World.block_lt_of_cell? w _ hx328_0)).trans hx328_0
            replace p328 := eq_true p328
            replace q328 := eq_true q328
            go_wp2_with (first | ((with_reducible refine gate_callee (f := 57) rfl ?_); refine goesL_ (some 42) rfl rfl Try.func57 q6_11 rfl #[.int .i64 (rd l0_1 x4_1), .int .i64 x8_2] rfl q6_3 ?_; (with_reducible refine (spec_l2Has.calls (rd l0_1 x4_1) x8_2 true _ A19.out).mono ?_); rintro e w' ⟨rfl, ⟨nd, rfl⟩⟩; refine ⟨_, rfl, ?_⟩))
            go_roundg k2
            case measure => have := HK1.out; have := HK2.out; omega
            case rel => exact ⟨(x5_2 ++ (⟨#[120]⟩ : ByteArray)), (wrap64 (x8_2 + 1)), q6_7, q6_7, H', ⟨by have := HK1.out; have := HK2.out; omega⟩, ⟨by (with_reducible repeat (first | apply Kd.R_alloc | apply Kd.R_drewN | apply Kd.R_drew)); exact HO_3.out⟩, ⟨by (with_reducible repeat (first | refine blk_drewN ?_ _ | refine blk_drew ?_ | refine blk_alloc ?_ _)); exact BK318.out⟩, ⟨by repeat (first | (with_reducible first | exact HB.out | apply below_alloc | apply pw_below_drewN | apply below_drew1 | refine below_set ?_ GE318.out) | exact HB.out)⟩⟩
           ·
            rw [if_neg c21] at H
            exact absurd H (by simp)
          ·
           replace c20 := Bool.eq_false_iff.mpr c20
           subst c20
           have H1 : ((spec_l2Has.f (Go.bits .and .i64 t323 t324) x8_2).bind fun t330 => (if t330 = true then (if x5_2.size + 1 ≤ 9223372036854775807 then (spec_ArrowText.l1 k2 x3_1 x4_1 (x5_2 ++ (⟨#[42]⟩ : ByteArray)) t323 t324 (wrap64 (x8_2 + 1)) a0_0 l0_1) else (none)) else ((spec_l2Has.f t323 x8_2).bind fun t331 => (if t331 = true then (if x5_2.size + 1 ≤ 9223372036854775807 then (spec_ArrowText.l1 k2 x3_1 x4_1 (x5_2 ++ (⟨#[118]⟩ : ByteArray)) t323 t324 (wrap64 (x8_2 + 1)) a0_0 l0_1) else (none)) else ((spec_l2Has.f t324 x8_2).bind fun t332 => (if t332 = true then (if x5_2.size + 1 ≤ 9223372036854775807 then (spec_ArrowText.l1 k2 x3_1 x4_1 (x5_2 ++ (⟨#[94]⟩ : ByteArray)) t323 t324 (wrap64 (x8_2 + 1)) a0_0 l0_1) else (none)) else (if x5_2.size + 1 ≤ 9223372036854775807 then (spec_ArrowText.l1 k2 x3_1 x4_1 (x5_2 ++ (⟨#[46]⟩ : ByteArray)) t323 t324 (wrap64 (x8_2 + 1)) a0_0 l0_1) else (none)))))))) = some r := q6_8
           clear H
           have H := H1
           clear H1
           replace H := Option.bind_eq_some_iff.mp H
           obtain ⟨t330, A230, H⟩ := H
           replace H : (if t330 = true then (if x5_2.size + 1 ≤ 9223372036854775807 then (spec_ArrowText.l1 k2 x3_1 x4_1 (x5_2 ++ (⟨#[42]⟩ : ByteArray)) t323 t324 (wrap64 (x8_2 + 1)) a0_0 l0_1) else (none)) else ((spec_l2Has.f t323 x8_2).bind fun t331 => (if t331 = true then (if x5_2.size + 1 ≤ 9223372036854775807 then (spec_ArrowText.l1 k2 x3_1 x4_1 (x5_2 ++ (⟨#[118]⟩ : ByteArray)) t323 t324 (wrap64 (x8_2 + 1)) a0_0 l0_1) else (none)) else ((spec_l2Has.f t324 x8_2).bind fun t332 => (if t332 = true then (if x5_2.size + 1 ≤ 9223372036854775807 then (spec_ArrowText.l1 k2 x3_1 x4_1 (x5_2 ++ (⟨#[94]⟩ : ByteArray)) t323 t324 (wrap64 (x8_2 + 1)) a0_0 l0_1) else (none)) else (if x5_2.size + 1 ≤ 9223372036854775807 then (spec_ArrowText.l1 k2 x3_1 x4_1 (x5_2 ++ (⟨#[46]⟩ : ByteArray)) t323 t324 (wrap64 (x8_2 + 1)) a0_0 l0_1) else (none))))))) = some r := H
           have A23 := Aside0.mk A230
           clear A230
           by_cases c24 : t330 = true
           ·
            subst c24
            have H1 : (if x5_2.size + 1 ≤ 9223372036854775807 then (spec_ArrowText.l1 k2 x3_1 x4_1 (x5_2 ++ (⟨#[42]⟩ : ByteArray)) t323 t324 (wrap64 (x8_2 + 1)) a0_0 l0_1) else (none)) = some r := q6_10
            clear H
            have H := H1
            clear H1
            by_cases c25 : x5_2.size + 1 ≤ 9223372036854775807
            ·
             rw [if_pos c25] at H
             have c25b0 := eq_true c25
             have c25b1 : decide (x5_2.size + 1 ≤ 9223372036854775807) = true := decide_eq_true c25
             try have c25b2 : (9223372036854775807 < x5_2.size + 1) = False := eq_false (Nat.not_lt.2 c25)
             have H' := Aside0.mk H
             clear H
             have hcz26_0 : wr.cell? ⟨gb318, 0, none⟩ = some (.int .i64 a0_0) := (blk_cell BK318.out 0).trans rfl
             have hcz26_1 : wr.cell? ⟨gb318, 1, none⟩ = some (.slice A0_1 l0_1.length c0_1) := (blk_cell BK318.out 1).trans rfl
             have hfz26_0 := blk_frozen BK318.out 0
             have hfz26_1 := blk_frozen BK318.out 1
             have p328 : 0 ≤ (x4_1 : Int) := of_decide_eq_true q6_9
             have q328 : x4_1 < (l0_1.length : Int) := of_decide_eq_true q6_9
             obtain ⟨ad328, e328, hx328_0⟩ := Kd.at_int HR0_1.out x4_1 p328 q328
             cases e328
             replace hx328_0 := (HB.out.cell (World.block_lt_of_cell? w _ hx328_0)).trans hx328_0
             replace p328 := eq_true p328
             replace q328 := eq_true q328
             go_wp2_with (first | ((with_reducible refine gate_callee (f := 57) rfl ?_); refine goesL_ (some 42) rfl rfl Try.func57 q6_11 rfl #[.int .i64 (rd l0_1 x4_1), .int .i64 x8_2] rfl q6_3 ?_; (with_reducible refine (spec_l2Has.calls (rd l0_1 x4_1) x8_2 false _ A19.out).mono ?_); rintro e w' ⟨rfl, ⟨nd, rfl⟩⟩; refine ⟨_, rfl, ?_⟩) | ((with_reducible refine gate_callee (f := 57) rfl ?_); refine goesL_ (some 50) rfl rfl Try.func57 q6_11 rfl #[.int .i64 (Go.bits .and .i64 t323 t324), .int .i64 x8_2] rfl q6_3 ?_; (with_reducible refine (spec_l2Has.calls (Go.bits .and .i64 t323 t324) x8_2 true _ A23.out).mono ?_); rintro e w' ⟨rfl, ⟨nd, rfl⟩⟩; refine ⟨_, rfl, ?_⟩))
             go_roundg k2
             case measure => have := HK1.out; have := HK2.out; omega
             case rel => exact ⟨(x5_2 ++ (⟨#[42]⟩ : ByteArray)), (wrap64 (x8_2 + 1)), q6_7, q6_7, H', ⟨by have := HK1.out; have := HK2.out; omega⟩, ⟨by (with_reducible repeat (first | apply Kd.R_alloc | apply Kd.R_drewN | apply Kd.R_drew)); exact HO_3.out⟩, ⟨by (with_reducible repeat (first | refine blk_drewN ?_ _ | refine blk_drew ?_ | refine blk_alloc ?_ _)); exact BK318.out⟩, ⟨by repeat (first | (with_reducible first | exact HB.out | apply below_alloc | apply pw_below_drewN | apply below_drew1 | refine below_set ?_ GE318.out) | exact HB.out)⟩⟩
            ·
             rw [if_neg c25] at H
             exact absurd H (by simp)
           ·
            replace c24 := Bool.eq_false_iff.mpr c24
            subst c24
            have H1 : ((spec_l2Has.f t323 x8_2).bind fun t331 => (if t331 = true then (if x5_2.size + 1 ≤ 9223372036854775807 then (spec_ArrowText.l1 k2 x3_1 x4_1 (x5_2 ++ (⟨#[118]⟩ : ByteArray)) t323 t324 (wrap64 (x8_2 + 1)) a0_0 l0_1) else (none)) else ((spec_l2Has.f t324 x8_2).bind fun t332 => (if t332 = true then (if x5_2.size + 1 ≤ 9223372036854775807 then (spec_ArrowText.l1 k2 x3_1 x4_1 (x5_2 ++ (⟨#[94]⟩ : ByteArray)) t323 t324 (wrap64 (x8_2 + 1)) a0_0 l0_1) else (none)) else (if x5_2.size + 1 ≤ 9223372036854775807 then (spec_ArrowText.l1 k2 x3_1 x4_1 (x5_2 ++ (⟨#[46]⟩ : ByteArray)) t323 t324 (wrap64 (x8_2 + 1)) a0_0 l0_1) else (none)))))) = some r := q6_8
            clear H
            have H := H1
            clear H1
            replace H := Option.bind_eq_some_iff.mp H
            obtain ⟨t331, A270, H⟩ := H
            replace H : (if t331 = true then (if x5_2.size + 1 ≤ 9223372036854775807 then (spec_ArrowText.l1 k2 x3_1 x4_1 (x5_2 ++ (⟨#[118]⟩ : ByteArray)) t323 t324 (wrap64 (x8_2 + 1)) a0_0 l0_1) else (none)) else ((spec_l2Has.f t324 x8_2).bind fun t332 => (if t332 = true then (if x5_2.size + 1 ≤ 9223372036854775807 then (spec_ArrowText.l1 k2 x3_1 x4_1 (x5_2 ++ (⟨#[94]⟩ : ByteArray)) t323 t324 (wrap64 (x8_2 + 1)) a0_0 l0_1) else (none)) else (if x5_2.size + 1 ≤ 9223372036854775807 then (spec_ArrowText.l1 k2 x3_1 x4_1 (x5_2 ++ (⟨#[46]⟩ : ByteArray)) t323 t324 (wrap64 (x8_2 + 1)) a0_0 l0_1) else (none))))) = some r := H
            have A27 := Aside0.mk A270
            clear A270
            by_cases c28 : t331 = true
            ·
             subst c28
             have H1 : (if x5_2.size + 1 ≤ 9223372036854775807 then (spec_ArrowText.l1 k2 x3_1 x4_1 (x5_2 ++ (⟨#[118]⟩ : ByteArray)) t323 t324 (wrap64 (x8_2 + 1)) a0_0 l0_1) else (none)) = some r := q6_10
             clear H
             have H := H1
             clear H1
             by_cases c29 : x5_2.size + 1 ≤ 9223372036854775807
             ·
              rw [if_pos c29] at H
              have c29b0 := eq_true c29
              have c29b1 : decide (x5_2.size + 1 ≤ 9223372036854775807) = true := decide_eq_true c29
              try have c29b2 : (9223372036854775807 < x5_2.size + 1) = False := eq_false (Nat.not_lt.2 c29)
              have H' := Aside0.mk H
              clear H
              have hcz30_0 : wr.cell? ⟨gb318, 0, none⟩ = some (.int .i64 a0_0) := (blk_cell BK318.out 0).trans rfl
              have hcz30_1 : wr.cell? ⟨gb318, 1, none⟩ = some (.slice A0_1 l0_1.length c0_1) := (blk_cell BK318.out 1).trans rfl
              have hfz30_0 := blk_frozen BK318.out 0
              have hfz30_1 := blk_frozen BK318.out 1
              have p328 : 0 ≤ (x4_1 : Int) := of_decide_eq_true q6_9
              have q328 : x4_1 < (l0_1.length : Int) := of_decide_eq_true q6_9
              obtain ⟨ad328, e328, hx328_0⟩ := Kd.at_int HR0_1.out x4_1 p328 q328
              cases e328
              replace hx328_0 := (HB.out.cell (World.block_lt_of_cell? w _ hx328_0)).trans hx328_0
              replace p328 := eq_true p328
              replace q328 := eq_true q328
              go_wp2_with (first | ((with_reducible refine gate_callee (f := 57) rfl ?_); refine goesL_ (some 42) rfl rfl Try.func57 q6_11 rfl #[.int .i64 (rd l0_1 x4_1), .int .i64 x8_2] rfl q6_3 ?_; (with_reducible refine (spec_l2Has.calls (rd l0_1 x4_1) x8_2 false _ A19.out).mono ?_); rintro e w' ⟨rfl, ⟨nd, rfl⟩⟩; refine ⟨_, rfl, ?_⟩) | ((with_reducible refine gate_callee (f := 57) rfl ?_); refine goesL_ (some 50) rfl rfl Try.func57 q6_11 rfl #[.int .i64 (Go.bits .and .i64 t323 t324), .int .i64 x8_2] rfl q6_3 ?_; (with_reducible refine (spec_l2Has.calls (Go.bits .and .i64 t323 t324) x8_2 false _ A23.out).mono ?_); rintro e w' ⟨rfl, ⟨nd, rfl⟩⟩; refine ⟨_, rfl, ?_⟩) | ((with_reducible refine gate_callee (f := 57) rfl ?_); refine goesL_ (some 56) rfl rfl Try.func57 q6_11 rfl #[.int .i64 t323, .int .i64 x8_2] rfl q6_3 ?_; (with_reducible refine (spec_l2Has.calls t323 x8_2 true _ A27.out).mono ?_); rintro e w' ⟨rfl, ⟨nd, rfl⟩⟩; refine ⟨_, rfl, ?_⟩))
              go_roundg k2
              case measure => have := HK1.out; have := HK2.out; omega
              case rel => exact ⟨(x5_2 ++ (⟨#[118]⟩ : ByteArray)), (wrap64 (x8_2 + 1)), q6_7, q6_7, H', ⟨by have := HK1.out; have := HK2.out; omega⟩, ⟨by (with_reducible repeat (first | apply Kd.R_alloc | apply Kd.R_drewN | apply Kd.R_drew)); exact HO_3.out⟩, ⟨by (with_reducible repeat (first | refine blk_drewN ?_ _ | refine blk_drew ?_ | refine blk_alloc ?_ _)); exact BK318.out⟩, ⟨by repeat (first | (with_reducible first | exact HB.out | apply below_alloc | apply pw_below_drewN | apply below_drew1 | refine below_set ?_ GE318.out) | exact HB.out)⟩⟩
             ·
              rw [if_neg c29] at H
              exact absurd H (by simp)
            ·
             replace c28 := Bool.eq_false_iff.mpr c28
             subst c28
             have H1 : ((spec_l2Has.f t324 x8_2).bind fun t332 => (if t332 = true then (if x5_2.size + 1 ≤ 9223372036854775807 then (spec_ArrowText.l1 k2 x3_1 x4_1 (x5_2 ++ (⟨#[94]⟩ : ByteArray)) t323 t324 (wrap64 (x8_2 + 1)) a0_0 l0_1) else (none)) else (if x5_2.size + 1 ≤ 9223372036854775807 then (spec_ArrowText.l1 k2 x3_1 x4_1 (x5_2 ++ (⟨#[46]⟩ : ByteArray)) t323 t324 (wrap64 (x8_2 + 1)) a0_0 l0_1) else (none)))) = some r := q6_8
             clear H
             have H := H1
             clear H1
             replace H := Option.bind_eq_some_iff.mp H
             obtain ⟨t332, A310, H⟩ := H
             replace H : (if t332 = true then (if x5_2.size + 1 ≤ 9223372036854775807 then (spec_ArrowText.l1 k2 x3_1 x4_1 (x5_2 ++ (⟨#[94]⟩ : ByteArray)) t323 t324 (wrap64 (x8_2 + 1)) a0_0 l0_1) else (none)) else (if x5_2.size + 1 ≤ 9223372036854775807 then (spec_ArrowText.l1 k2 x3_1 x4_1 (x5_2 ++ (⟨#[46]⟩ : ByteArray)) t323 t324 (wrap64 (x8_2 + 1)) a0_0 l0_1) else (none))) = some r := H
             have A31 := Aside0.mk A310
             clear A310
             by_cases c32 : t332 = true
             ·
              subst c32
              have H1 : (if x5_2.size + 1 ≤ 9223372036854775807 then (spec_ArrowText.l1 k2 x3_1 x4_1 (x5_2 ++ (⟨#[94]⟩ : ByteArray)) t323 t324 (wrap64 (x8_2 + 1)) a0_0 l0_1) else (none)) = some r := q6_10
              clear H
              have H := H1
              clear H1
              by_cases c33 : x5_2.size + 1 ≤ 9223372036854775807
              ·
               rw [if_pos c33] at H
               have c33b0 := eq_true c33
               have c33b1 : decide (x5_2.size + 1 ≤ 9223372036854775807) = true := decide_eq_true c33
               try have c33b2 : (9223372036854775807 < x5_2.size + 1) = False := eq_false (Nat.not_lt.2 c33)
               have H' := Aside0.mk H
               clear H
               have hcz34_0 : wr.cell? ⟨gb318, 0, none⟩ = some (.int .i64 a0_0) := (blk_cell BK318.out 0).trans rfl
               have hcz34_1 : wr.cell? ⟨gb318, 1, none⟩ = some (.slice A0_1 l0_1.length c0_1) := (blk_cell BK318.out 1).trans rfl
               have hfz34_0 := blk_frozen BK318.out 0
               have hfz34_1 := blk_frozen BK318.out 1
               have p328 : 0 ≤ (x4_1 : Int) := of_decide_eq_true q6_9
               have q328 : x4_1 < (l0_1.length : Int) := of_decide_eq_true q6_9
               obtain ⟨ad328, e328, hx328_0⟩ := Kd.at_int HR0_1.out x4_1 p328 q328
               cases e328
               replace hx328_0 := (HB.out.cell (World.block_lt_of_cell? w _ hx328_0)).trans hx328_0
               replace p328 := eq_true p328
               replace q328 := eq_true q328
               go_wp2_with (first | ((with_reducible refine gate_callee (f := 57) rfl ?_); refine goesL_ (some 42) rfl rfl Try.func57 q6_11 rfl #[.int .i64 (rd l0_1 x4_1), .int .i64 x8_2] rfl q6_3 ?_; (with_reducible refine (spec_l2Has.calls (rd l0_1 x4_1) x8_2 false _ A19.out).mono ?_); rintro e w' ⟨rfl, ⟨nd, rfl⟩⟩; refine ⟨_, rfl, ?_⟩) | ((with_reducible refine gate_callee (f := 57) rfl ?_); refine goesL_ (some 50) rfl rfl Try.func57 q6_11 rfl #[.int .i64 (Go.bits .and .i64 t323 t324), .int .i64 x8_2] rfl q6_3 ?_; (with_reducible refine (spec_l2Has.calls (Go.bits .and .i64 t323 t324) x8_2 false _ A23.out).mono ?_); rintro e w' ⟨rfl, ⟨nd, rfl⟩⟩; refine ⟨_, rfl, ?_⟩) | ((with_reducible refine gate_callee (f := 57) rfl ?_); refine goesL_ (some 56) rfl rfl Try.func57 q6_11 rfl #[.int .i64 t323, .int .i64 x8_2] rfl q6_3 ?_; (with_reducible refine (spec_l2Has.calls t323 x8_2 false _ A27.out).mono ?_); rintro e w' ⟨rfl, ⟨nd, rfl⟩⟩; refine ⟨_, rfl, ?_⟩) | ((with_reducible refine gate_callee (f := 57) rfl ?_); refine goesL_ (some 62) rfl rfl Try.func57 q6_11 rfl #[.int .i64 t324, .int .i64 x8_2] rfl q6_3 ?_; (with_reducible refine (spec_l2Has.calls t324 x8_2 true _ A31.out).mono ?_); rintro e w' ⟨rfl, ⟨nd, rfl⟩⟩; refine ⟨_, rfl, ?_⟩))
               go_roundg k2
               case measure => have := HK1.out; have := HK2.out; omega
               case rel => exact ⟨(x5_2 ++ (⟨#[94]⟩ : ByteArray)), (wrap64 (x8_2 + 1)), q6_7, q6_7, H', ⟨by have := HK1.out; have := HK2.out; omega⟩, ⟨by (with_reducible repeat (first | apply Kd.R_alloc | apply Kd.R_drewN | apply Kd.R_drew)); exact HO_3.out⟩, ⟨by (with_reducible repeat (first | refine blk_drewN ?_ _ | refine blk_drew ?_ | refine blk_alloc ?_ _)); exact BK318.out⟩, ⟨by repeat (first | (with_reducible first | exact HB.out | apply below_alloc | apply pw_below_drewN | apply below_drew1 | refine below_set ?_ GE318.out) | exact HB.out)⟩⟩
              ·
               rw [if_neg c33] at H
               exact absurd H (by simp)
             ·
              replace c32 := Bool.eq_false_iff.mpr c32
              subst c32
              have H1 : (if x5_2.size + 1 ≤ 9223372036854775807 then (spec_ArrowText.l1 k2 x3_1 x4_1 (x5_2 ++ (⟨#[46]⟩ : ByteArray)) t323 t324 (wrap64 (x8_2 + 1)) a0_0 l0_1) else (none)) = some r := q6_8
              clear H
              have H := H1
              clear H1
              by_cases c35 : x5_2.size + 1 ≤ 9223372036854775807
              ·
               rw [if_pos c35] at H
               have c35b0 := eq_true c35
               have c35b1 : decide (x5_2.size + 1 ≤ 9223372036854775807) = true := decide_eq_true c35
               try have c35b2 : (9223372036854775807 < x5_2.size + 1) = False := eq_false (Nat.not_lt.2 c35)
               have H' := Aside0.mk H
               clear H
               have hcz36_0 : wr.cell? ⟨gb318, 0, none⟩ = some (.int .i64 a0_0) := (blk_cell BK318.out 0).trans rfl
               have hcz36_1 : wr.cell? ⟨gb318, 1, none⟩ = some (.slice A0_1 l0_1.length c0_1) := (blk_cell BK318.out 1).trans rfl
               have hfz36_0 := blk_frozen BK318.out 0
               have hfz36_1 := blk_frozen BK318.out 1
               have p328 : 0 ≤ (x4_1 : Int) := of_decide_eq_true q6_9
               have q328 : x4_1 < (l0_1.length : Int) := of_decide_eq_true q6_9
               obtain ⟨ad328, e328, hx328_0⟩ := Kd.at_int HR0_1.out x4_1 p328 q328
               cases e328
               replace hx328_0 := (HB.out.cell (World.block_lt_of_cell? w _ hx328_0)).trans hx328_0
               replace p328 := eq_true p328
               replace q328 := eq_true q328
               go_wp2_with (first | ((with_reducible refine gate_callee (f := 57) rfl ?_); refine goesL_ (some 42) rfl rfl Try.func57 q6_11 rfl #[.int .i64 (rd l0_1 x4_1), .int .i64 x8_2] rfl q6_3 ?_; (with_reducible refine (spec_l2Has.calls (rd l0_1 x4_1) x8_2 false _ A19.out).mono ?_); rintro e w' ⟨rfl, ⟨nd, rfl⟩⟩; refine ⟨_, rfl, ?_⟩) | ((with_reducible refine gate_callee (f := 57) rfl ?_); refine goesL_ (some 50) rfl rfl Try.func57 q6_11 rfl #[.int .i64 (Go.bits .and .i64 t323 t324), .int .i64 x8_2] rfl q6_3 ?_; (with_reducible refine (spec_l2Has.calls (Go.bits .and .i64 t323 t324) x8_2 false _ A23.out).mono ?_); rintro e w' ⟨rfl, ⟨nd, rfl⟩⟩; refine ⟨_, rfl, ?_⟩) | ((with_reducible refine gate_callee (f := 57) rfl ?_); refine goesL_ (some 56) rfl rfl Try.func57 q6_11 rfl #[.int .i64 t323, .int .i64 x8_2] rfl q6_3 ?_; (with_reducible refine (spec_l2Has.calls t323 x8_2 false _ A27.out).mono ?_); rintro e w' ⟨rfl, ⟨nd, rfl⟩⟩; refine ⟨_, rfl, ?_⟩) | ((with_reducible refine gate_callee (f := 57) rfl ?_); refine goesL_ (some 62) rfl rfl Try.func57 q6_11 rfl #[.int .i64 t324, .int .i64 x8_2] rfl q6_3 ?_; (with_reducible refine (spec_l2Has.calls t324 x8_2 false _ A31.out).mono ?_); rintro e w' ⟨rfl, ⟨nd, rfl⟩⟩; refine ⟨_, rfl, ?_⟩))
               go_roundg k2
               case measure => have := HK1.out; have := HK2.out; omega
               case rel => exact ⟨(x5_2 ++ (⟨#[46]⟩ : ByteArray)), (wrap64 (x8_2 + 1)), q6_7, q6_7, H', ⟨by have := HK1.out; have := HK2.out; omega⟩, ⟨by (with_reducible repeat (first | apply Kd.R_alloc | apply Kd.R_drewN | apply Kd.R_drew)); exact HO_3.out⟩, ⟨by (with_reducible repeat (first | refine blk_drewN ?_ _ | refine blk_drew ?_ | refine blk_alloc ?_ _)); exact BK318.out⟩, ⟨by repeat (first | (with_reducible first | exact HB.out | apply below_alloc | apply pw_below_drewN | apply below_drew1 | refine below_set ?_ GE318.out) | exact HB.out)⟩⟩
              ·
               rw [if_neg c35] at H
               exact absurd H (by simp)
         ·
          rw [if_neg c18] at H
          exact absurd H (by simp)
        ·
         rw [if_neg c17] at H
         exact absurd H (by simp)
       ·
        rw [if_neg c16] at H
        have c16b0 : decide (x8_2 < a0_0) = false := decide_eq_false c16
        clear c16
        by_cases c37 : x3_1.length < 8796093022208
        ·
         rw [if_pos c37] at H
         have LMc37 := Aside0.mk c37
         clear c37
         obtain ⟨y325, hy325⟩ : ∃ y_ : List ByteArray, y_ = (x3_1 ++ [x5_2]) := ⟨_, rfl⟩
         replace H : (spec_ArrowText.l0 k2 y325 (wrap64 (x4_1 + 1)) a0_0 l0_1) = some r := by first | (rw [hy325]; with_reducible exact H) | (have H2_ := (Option.bind_some _ _).symm.trans H; rw [hy325]; with_reducible exact H2_) | (have H2_ := (Option.bind_some _ _).symm.trans H; with_reducible exact H2_) | with_reducible exact H | (rw [hy325]; exact H) | exact H
         have Ny325 := Aside0.mk hy325
         clear hy325
         have H' := Aside0.mk H
         clear H
         have hcz38_0 : wr.cell? ⟨gb318, 0, none⟩ = some (.int .i64 a0_0) := (blk_cell BK318.out 0).trans rfl
         have hcz38_1 : wr.cell? ⟨gb318, 1, none⟩ = some (.slice A0_1 l0_1.length c0_1) := (blk_cell BK318.out 1).trans rfl
         have hfz38_0 := blk_frozen BK318.out 0
         have hfz38_1 := blk_frozen BK318.out 1
         go_wp2_with (first | ((with_reducible refine gate_builtin (b := .append) (xs := #[.tmp 65, .tmp 67]) rfl ?_); at_builtin; refine Kd.R_append Kd.string (w0 := w) w.heap.size rfl (.tmp 65) (.tmp 67) 32 9 (.string ⟨#[]⟩) 16 rfl Try.underlying32 info9 rfl (by decide) (by omega) u3 x3_1 x5_2 [.string x5_2] (fun _ => True) (fun _ => False) rfl rfl ?aP (fun _ hk => hk.elim) ?aF ?aO ?aB ?aS ?aL ?_; (case aP => exact rfl); (case aB => exact q6_2); (case aF => exact (fun _ _ => trivial)); (case aO => exact q6_6); (case aS => exact (below_size q6_2)); (case aL => have := LMc37.out; omega); intro v326 w39 ho hb hg hat; rw [← Ny325.out] at ho; have n0_ := Aside0.mk (blk_grown (g := gb318) (o := .cells #[.int .i64 a0_0, .slice A0_1 l0_1.length c0_1] 26 (0, 0)) q6_5 hg (Kd.R_ne HO_3.out BK318.out (by decide))); have n1_ := Aside0.mk (hb); have n2_ := Aside0.mk (ho); clear BK318; clear HB; clear HO_3; have BK318 := n0_; have HB := n1_; have HO327 := n2_; clear n0_ n1_ n2_; clear ho hb hg hat))
         go_roundg k2
         case measure => have := HK1.out; have := HK2.out; omega
         case rel => exact ⟨(y325), (wrap64 (x4_1 + 1)), q6_7, H', ⟨by have := HK1.out; have := HK2.out; omega⟩, ⟨by (with_reducible repeat (first | apply Kd.R_alloc | apply Kd.R_drewN | apply Kd.R_drew)); exact HO327.out⟩, ⟨by (with_reducible repeat (first | refine blk_drewN ?_ _ | refine blk_drew ?_ | refine blk_alloc ?_ _)); exact BK318.out⟩, ⟨by repeat (first | (with_reducible first | exact HB.out | apply below_alloc | apply pw_below_drewN | apply below_drew1 | refine below_set ?_ GE318.out) | exact HB.out)⟩⟩
        ·
         rw [if_neg c37] at H
         exact absurd H (by simp)
    ·
     rw [if_neg c9] at H
     have c9b0 : decide (x4_1 < (l0_1.length : Int)) = false := decide_eq_false c9
     clear c9
     obtain rfl := Option.some.inj H
     have hcz40_0 : wr.cell? ⟨gb318, 0, none⟩ = some (.int .i64 a0_0) := (blk_cell BK318.out 0).trans rfl
     have hcz40_1 : wr.cell? ⟨gb318, 1, none⟩ = some (.slice A0_1 l0_1.length c0_1) := (blk_cell BK318.out 1).trans rfl
     have hfz40_0 := blk_frozen BK318.out 0
     have hfz40_1 := blk_frozen BK318.out 1
     go_wp2
     go_ret
     exact ⟨_, by first | rfl | (simp [errW_none, errW_some] <;> rfl) | (simp [*, errW_none, errW_some] <;> rfl), by (with_reducible repeat (first | apply Kd.R_alloc | apply Kd.R_drewN | apply Kd.R_drew)); exact HO_3.out, by repeat (first | (with_reducible first | exact HB.out | apply below_alloc | apply pw_below_drewN | apply below_drew1 | refine below_set ?_ GE318.out) | exact HB.out)⟩
 ·
  replace c3 := Bool.eq_false_iff.mpr c3
  subst c3
  have H1 : (some y319) = some r := q6_8
  clear H
  have H := H1
  clear H1
  obtain rfl := Option.some.inj H
  go_enter Try.func15, Try.ntmps15
  go_wp2_with (first | ((with_reducible refine gate_dst (N := 1) rfl ?_); refine box_event ?hg (N := 1) ?hd (cs := #[.int .i64 a0_0, .slice A0_1 l0_1.length c0_1]) (t := 26) ?hr ?_; (case hd => rfl); (case hg => rfl); (case hr => first | (go_simp; done) | (go_simp; rfl)); intro gb318 hg w41 hbox hb; have n0_ := Aside0.mk (below_step q6_4 hb); have n1_ := Aside0.mk (hbox); have n2_ := Aside0.mk ((by rw [hg]; exact (below_size q6_4) : w.heap.size ≤ gb318)); have n3_ := Aside0.mk ((by rw [hg]; exact (below_size q6_4) : w.heap.size ≤ gb318)); clear HB; have HB := n0_; have BK318 := n1_; have GW318 := n2_; have GE318 := n3_; clear n0_ n1_ n2_ n3_; clear hb hbox hg) | ((with_reducible refine gate_dst (N := 9) rfl ?_); refine Kd.R_lit Kd.string _ 9 ?hg (N := 9) ?hd (xs := ([] : List ByteArray)) (inner := []) (ok := fun _ => True) (okp := fun _ => True) ?hr ?hp (fun _ hk => hk) trivial (Below.refl _ _) (Nat.le_refl _) (by simp) ?_; (case hd => rfl); (case hg => rfl); (case hr => first | (go_simp; done) | (go_simp; rfl)); (case hp => exact (Reps.none _ _)); intro v320 w42 ho43 hb hg_ hnew_; clear hg_ hnew_; (first | rw [← Ny319.out] at ho43 | (simp only [Int.reduceToNat] at ho43; rw [← Ny319.out] at ho43)); have n0_ := Aside0.mk (Kd.R_lower ho43 (below_size q6_2)); have n1_ := Aside0.mk (blk_below (g := gb318) (o := .cells #[.int .i64 a0_0, .slice A0_1 l0_1.length c0_1] 26 (0, 0)) q6_5 hb); have n2_ := Aside0.mk (below_step q6_2 hb); clear BK318; clear HB; have HO321 := n0_; have BK318 := n1_; have HB := n2_; clear n0_ n1_ n2_; clear hb ho43; have hcz44_0 : w42.cell? ⟨gb318, 0, none⟩ = some (.int .i64 a0_0) := (blk_cell BK318.out 0).trans rfl; have hcz44_1 : w42.cell? ⟨gb318, 1, none⟩ = some (.slice A0_1 l0_1.length c0_1) := (blk_cell BK318.out 1).trans rfl; have hfz44_0 := blk_frozen BK318.out 0; have hfz44_1 := blk_frozen BK318.out 1) | ((with_reducible refine gate_callee (f := 20) rfl ?_); refine goesL_ (some 11) rfl rfl Try.func20 q6_11 rfl #[.agg #[.int .i64 a0_0, .slice A0_1 l0_1.length c0_1]] rfl q6_3 ?_; (with_reducible refine (spec_IsContext.calls k a0_0 _ _ l0_1 false _ ?side1 ?side2 A2.out).mono ?_); (case side1 => exact q6_1); (case side2 => exact HC0_1.out); rintro e w45 ⟨rfl, hb⟩; refine ⟨_, rfl, ?_⟩; have n0_ := Aside0.mk (Kd.R_below (by (with_reducible repeat (first | apply Kd.R_alloc | apply Kd.R_drewN | apply Kd.R_drew)); exact HO321.out) hb); have n1_ := Aside0.mk (blk_below (g := gb318) (o := .cells #[.int .i64 a0_0, .slice A0_1 l0_1.length c0_1] 26 (0, 0)) q6_5 hb); have n2_ := Aside0.mk (below_step q6_2 hb); clear HO321; clear BK318; clear HB; have HO321 := n0_; have BK318 := n1_; have HB := n2_; clear n0_ n1_ n2_; (try clear hb); (try clear hb2); (try clear hk); (try clear hi)))
  go_ret
  exact ⟨_, by first | rfl | (simp [errW_none, errW_some] <;> rfl) | (simp [*, errW_none, errW_some] <;> rfl), by (with_reducible repeat (first | apply Kd.R_alloc | apply Kd.R_drewN | apply Kd.R_drew)); exact HO321.out, by repeat (first | (with_reducible first | exact HB.out | apply below_alloc | apply pw_below_drewN | apply below_drew1 | refine below_set ?_ GE318.out) | exact HB.out)⟩
theorem q6_12 {P : Prop} (h : P := by repeat (first | exact (Kd.C_below HR0_1.out HB.out) | (with_reducible refine Kd.C_alloc ?_ _) | (with_reducible refine Kd.C_drewN ?_ _) | (with_reducible refine Kd.C_drew ?_))) : P := h
theorem q6_13 {P : Prop} (h : P := by repeat (first | (with_reducible first | exact HB.out | apply below_alloc | apply pw_below_drewN | apply below_drew1 | refine below_set ?_ GE342.out) | exact HB.out)) : P := h
theorem q6_14 {P : Prop} (h : P := by repeat (first | (with_reducible first | exact HB.out | apply below_alloc | apply pw_below_drewN | apply below_drew1) | exact HB.out)) : P := h
theorem q6_15 {P : Prop} (h : P := by (with_reducible repeat (first | refine blk_drewN ?_ _ | refine blk_drew ?_ | refine blk_alloc ?_ _)); exact BK342.out) : P := h
theorem q6_16 {P : Prop} (h : P := by first | rfl | (simp; done) | (simp [*]; done) | (simp [i64_w, i32_w]; done)) : P := h
theorem q6_17 {P : Prop} (h : P := by first | (with_reducible assumption) | assumption) : P := h
mutual
def spec_IsReducibleObject.j0 : Nat → Int → Bool → Int → List Int → Option (Bool)
 | 0, _, _, _, _ => none
 | k + 1, x1, x18, x343000, x343001 => if x18 = true then (some false) else ((spec_FullSet.f x343000).bind fun t345 => (spec_IsReducibleObject.l0 k x1 t345 0 x343000 x343001))
def spec_IsReducibleObject.l0 : Nat → Int → Int → Int → Int → List Int → Option (Bool)
 | 0, _, _, _, _, _ => none
 | k + 1, x1, x5, x6, x343000, x343001 => if x6 < (x343001.length : Int) then (if 0 ≤ x6 then (if 0 ≤ x1 then (if x1 < (x343001.length : Int) then (if (rd x343001 x6) = (rd x343001 x1) then (spec_IsReducibleObject.l0 k x1 x5 (wrap64 (x6 + 1)) x343000 x343001) else (if (Go.bits .and .i64 (rd x343001 x6) (rd x343001 x1)) = (rd x343001 x1) then (spec_IsReducibleObject.l0 k x1 (Go.bits .and .i64 x5 (rd x343001 x6)) (wrap64 (x6 + 1)) x343000 x343001) else (spec_IsReducibleObject.l0 k x1 x5 (wrap64 (x6 + 1)) x343000 x343001))) else (none)) else (none)) else (none)) else (if 0 ≤ x1 then (if x1 < (x343001.length : Int) then (some (x5 == (rd x343001 x1))) else (none)) else (none))
end
def spec_IsReducibleObject.f (k : Nat) (a0_0 : Int) (l0_1 : List Int) (a1 : Int) : Option (Bool) := (spec_IsContext.f k a0_0 l0_1).bind fun t343 => (if t343 = true then ((spec_l1In.f a1 0 (wrap64 ((l0_1.length : Int) - 1))).bind fun t344 => (spec_IsReducibleObject.j0 k a1 (!t344) a0_0 l0_1)) else (spec_IsReducibleObject.j0 k a1 true a0_0 l0_1))
set_option maxHeartbeats 8000000 in
set_option maxRecDepth 100000 in
theorem spec_IsReducibleObject.calls (k : Nat) (a0_0 : Int) (A0_1 : Option Addr) (c0_1 : Nat) (l0_1 : List Int) (a1 : Int) (r : Bool) (w : World) (hr0_1 : Kd.C (Kd.int .i64) w A0_1 l0_1.length l0_1) (hc0_1 : l0_1.length ≤ c0_1) (h : spec_IsReducibleObject.f k a0_0 l0_1 a1 = some r) :
  Calls Try.prog 37 #[.agg #[.int .i64 a0_0, .slice A0_1 l0_1.length c0_1], .int .i64 a1] w fun e w' => e = .returned (.bool r) ∧ Below w.heap.size w w' := by
 have hu26 := Try.underlying26
 have HR0_1 := Aside0.mk hr0_1
 have HC0_1 := Aside0.mk hc0_1
 clear hr0_1 hc0_1
 have HB := Aside0.mk (Below.refl w.heap.size w)
 have H : ((spec_IsContext.f k a0_0 l0_1).bind fun t343 => (if t343 = true then ((spec_l1In.f a1 0 (wrap64 ((l0_1.length : Int) - 1))).bind fun t344 => (spec_IsReducibleObject.j0 k a1 (!t344) a0_0 l0_1)) else (spec_IsReducibleObject.j0 k a1 true a0_0 l0_1))) = some r := h
 clear h
 have HC3 := Aside0.mk H
 clear H
 go_enter Try.func37, Try.ntmps37
 go_upto_region 1 with (first | ((with_reducible refine gate_dst (N := 2) rfl ?_); (try (refine gate_guard (by rfl) ?_; dsimp only)); refine box_event ?hg (N := 2) ?hd (cs := #[.int .i64 a0_0, .slice A0_1 l0_1.length c0_1]) (t := 26) ?hr ?_; (case hd => rfl); (case hg => rfl); (case hr => first | (go_simp; done) | (go_simp; rfl)); intro gb342 hg w4 hbox hb; have n0_ := Aside0.mk (below_step q6_14 hb); have n1_ := Aside0.mk (hbox); have n2_ := Aside0.mk ((by rw [hg]; exact (below_size q6_14) : w.heap.size ≤ gb342)); have n3_ := Aside0.mk ((by rw [hg]; exact (below_size q6_14) : w.heap.size ≤ gb342)); clear HB; have HB := n0_; have BK342 := n1_; have GW342 := n2_; have GE342 := n3_; clear n0_ n1_ n2_ n3_; clear hb hbox hg))
 repeat (go_quiet (first | ((with_reducible refine gate_dst (N := 2) rfl ?_); (try (refine gate_guard (by rfl) ?_; dsimp only)); refine box_event ?hg (N := 2) ?hd (cs := #[.int .i64 a0_0, .slice A0_1 l0_1.length c0_1]) (t := 26) ?hr ?_; (case hd => rfl); (case hg => rfl); (case hr => first | (go_simp; done) | (go_simp; rfl)); intro gb342 hg w4 hbox hb; have n0_ := Aside0.mk (below_step q6_14 hb); have n1_ := Aside0.mk (hbox); have n2_ := Aside0.mk ((by rw [hg]; exact (below_size q6_14) : w.heap.size ≤ gb342)); have n3_ := Aside0.mk ((by rw [hg]; exact (below_size q6_14) : w.heap.size ≤ gb342)); clear HB; have HB := n0_; have BK342 := n1_; have GW342 := n2_; have GE342 := n3_; clear n0_ n1_ n2_ n3_; clear hb hbox hg)); go_upto_region 1 with (first | ((with_reducible refine gate_dst (N := 2) rfl ?_); (try (refine gate_guard (by rfl) ?_; dsimp only)); refine box_event ?hg (N := 2) ?hd (cs := #[.int .i64 a0_0, .slice A0_1 l0_1.length c0_1]) (t := 26) ?hr ?_; (case hd => rfl); (case hg => rfl); (case hr => first | (go_simp; done) | (go_simp; rfl)); intro gb342 hg w4 hbox hb; have n0_ := Aside0.mk (below_step q6_14 hb); have n1_ := Aside0.mk (hbox); have n2_ := Aside0.mk ((by rw [hg]; exact (below_size q6_14) : w.heap.size ≤ gb342)); have n3_ := Aside0.mk ((by rw [hg]; exact (below_size q6_14) : w.heap.size ≤ gb342)); clear HB; have HB := n0_; have BK342 := n1_; have GW342 := n2_; have GE342 := n3_; clear n0_ n1_ n2_ n3_; clear hb hbox hg)))
 (try simp only [Act.put, List.setIfInBounds_toArray, List.set_cons_zero, List.set_cons_succ])
 go_cut [18] (fun v18 wc => ∃ (kq : Nat) (x18_2 : Bool), v18 = .bool x18_2 ∧ Aside0 (spec_IsReducibleObject.j0 kq a1 x18_2 a0_0 l0_1 = some r) ∧ Aside0 (kq ≤ k) ∧ Aside0 (wc.heap[gb342]? = some (.cells #[.int .i64 a0_0, (.slice A0_1 l0_1.length c0_1)] 26 (0, 0))) ∧ Aside0 (Below w.heap.size w wc))
 case first =>
  have H := HC3.out
  clear HC3
  replace H := Option.bind_eq_some_iff.mp H
  obtain ⟨t343, A50, H⟩ := H
  replace H : (if t343 = true then ((spec_l1In.f a1 0 (wrap64 ((l0_1.length : Int) - 1))).bind fun t344 => (spec_IsReducibleObject.j0 k a1 (!t344) a0_0 l0_1)) else (spec_IsReducibleObject.j0 k a1 true a0_0 l0_1)) = some r := H
  have A5 := Aside0.mk A50
  clear A50
  by_cases c6 : t343 = true
  ·
   subst c6
   have H1 : ((spec_l1In.f a1 0 (wrap64 ((l0_1.length : Int) - 1))).bind fun t344 => (spec_IsReducibleObject.j0 k a1 (!t344) a0_0 l0_1)) = some r := by rw [if_pos rfl] at H; exact H
   clear H
   have H := H1
   clear H1
   replace H := Option.bind_eq_some_iff.mp H
   obtain ⟨t344, A70, H⟩ := H
   replace H : (spec_IsReducibleObject.j0 k a1 (!t344) a0_0 l0_1) = some r := H
   have A7 := Aside0.mk A70
   clear A70
   have H' := Aside0.mk H
   clear H
   have hcz8_0 : w4.cell? ⟨gb342, 0, none⟩ = some (.int .i64 a0_0) := (blk_cell BK342.out 0).trans rfl
   have hcz8_1 : w4.cell? ⟨gb342, 1, none⟩ = some (.slice A0_1 l0_1.length c0_1) := (blk_cell BK342.out 1).trans rfl
   have hfz8_0 := blk_frozen BK342.out 0
   have hfz8_1 := blk_frozen BK342.out 1
   go_wp2_with (first | (go_at_call 20; (with_reducible refine (spec_IsContext.calls k a0_0 _ _ l0_1 true _ ?side1 ?side2 A5.out).mono ?_); (case side1 => exact q6_12); (case side2 => exact HC0_1.out); rintro e w9 ⟨rfl, hb⟩; have n0_ := Aside0.mk (blk_below (g := gb342) (o := .cells #[.int .i64 a0_0, .slice A0_1 l0_1.length c0_1] 26 (0, 0)) q6_15 hb); have n1_ := Aside0.mk (below_step q6_13 hb); clear BK342; clear HB; have BK342 := n0_; have HB := n1_; clear n0_ n1_; (try clear hb); (try clear hb2); (try clear hk); (try clear hi); have hcz10_0 : w9.cell? ⟨gb342, 0, none⟩ = some (.int .i64 a0_0) := (blk_cell BK342.out 0).trans rfl; have hcz10_1 : w9.cell? ⟨gb342, 1, none⟩ = some (.slice A0_1 l0_1.length c0_1) := (blk_cell BK342.out 1).trans rfl; have hfz10_0 := blk_frozen BK342.out 0; have hfz10_1 := blk_frozen BK342.out 1) | (go_at_call 53; (with_reducible refine (spec_l1In.calls a1 0 (wrap64 ((l0_1.length : Int) - 1)) t344 _ A7.out).mono ?_); rintro e w' ⟨rfl, ⟨nd, rfl⟩⟩; (try first | exact ⟨rfl, _, World.drewN_drewN _ _ _⟩ | exact ⟨rfl, _, Eq.trans (World.drewN_drewN _ _ _) (congrArg (World.drewN _) (Nat.add_assoc _ _ _))⟩)))
   repeat (go_quiet (first | (go_at_call 20; (with_reducible refine (spec_IsContext.calls k a0_0 _ _ l0_1 true _ ?side1 ?side2 A5.out).mono ?_); (case side1 => exact q6_12); (case side2 => exact HC0_1.out); rintro e w9 ⟨rfl, hb⟩; have n0_ := Aside0.mk (blk_below (g := gb342) (o := .cells #[.int .i64 a0_0, .slice A0_1 l0_1.length c0_1] 26 (0, 0)) q6_15 hb); have n1_ := Aside0.mk (below_step q6_13 hb); clear BK342; clear HB; have BK342 := n0_; have HB := n1_; clear n0_ n1_; (try clear hb); (try clear hb2); (try clear hk); (try clear hi); have hcz10_0 : w9.cell? ⟨gb342, 0, none⟩ = some (.int .i64 a0_0) := (blk_cell BK342.out 0).trans rfl; have hcz10_1 : w9.cell? ⟨gb342, 1, none⟩ = some (.slice A0_1 l0_1.length c0_1) := (blk_cell BK342.out 1).trans rfl; have hfz10_0 := blk_frozen BK342.out 0; have hfz10_1 := blk_frozen BK342.out 1) | (go_at_call 53; (with_reducible refine (spec_l1In.calls a1 0 (wrap64 ((l0_1.length : Int) - 1)) t344 _ A7.out).mono ?_); rintro e w' ⟨rfl, ⟨nd, rfl⟩⟩; (try first | exact ⟨rfl, _, World.drewN_drewN _ _ _⟩ | exact ⟨rfl, _, Eq.trans (World.drewN_drewN _ _ _) (congrArg (World.drewN _) (Nat.add_assoc _ _ _))⟩))); try go_wp2_with (first | (go_at_call 20; (with_reducible refine (spec_IsContext.calls k a0_0 _ _ l0_1 true _ ?side1 ?side2 A5.out).mono ?_); (case side1 => exact q6_12); (case side2 => exact HC0_1.out); rintro e w9 ⟨rfl, hb⟩; have n0_ := Aside0.mk (blk_below (g := gb342) (o := .cells #[.int .i64 a0_0, .slice A0_1 l0_1.length c0_1] 26 (0, 0)) q6_15 hb); have n1_ := Aside0.mk (below_step q6_13 hb); clear BK342; clear HB; have BK342 := n0_; have HB := n1_; clear n0_ n1_; (try clear hb); (try clear hb2); (try clear hk); (try clear hi); have hcz10_0 : w9.cell? ⟨gb342, 0, none⟩ = some (.int .i64 a0_0) := (blk_cell BK342.out 0).trans rfl; have hcz10_1 : w9.cell? ⟨gb342, 1, none⟩ = some (.slice A0_1 l0_1.length c0_1) := (blk_cell BK342.out 1).trans rfl; have hfz10_0 := blk_frozen BK342.out 0; have hfz10_1 := blk_frozen BK342.out 1) | (go_at_call 53; (with_reducible refine (spec_l1In.calls a1 0 (wrap64 ((l0_1.length : Int) - 1)) t344 _ A7.out).mono ?_); rintro e w' ⟨rfl, ⟨nd, rfl⟩⟩; (try first | exact ⟨rfl, _, World.drewN_drewN _ _ _⟩ | exact ⟨rfl, _, Eq.trans (World.drewN_drewN _ _ _) (congrArg (World.drewN _) (Nat.add_assoc _ _ _))⟩))))
   go_meet
   case rel => exact ⟨_, (!t344), q6_16, H', ⟨by first | omega | exact Nat.le_refl _⟩, ⟨by (with_reducible repeat (first | refine blk_drewN ?_ _ | refine blk_drew ?_ | refine blk_alloc ?_ _)); exact BK342.out⟩, ⟨by repeat (first | (with_reducible first | exact HB.out | apply below_alloc | apply pw_below_drewN | apply below_drew1 | refine below_set ?_ GE342.out) | exact HB.out)⟩⟩
  ·
   replace c6 := Bool.eq_false_iff.mpr c6
   subst c6
   have H1 : (spec_IsReducibleObject.j0 k a1 true a0_0 l0_1) = some r := by rw [if_neg (show ¬ (false = true) by decide)] at H; exact H
   clear H
   have H := H1
   clear H1
   have H' := Aside0.mk H
   clear H
   have hcz11_0 : w4.cell? ⟨gb342, 0, none⟩ = some (.int .i64 a0_0) := (blk_cell BK342.out 0).trans rfl
   have hcz11_1 : w4.cell? ⟨gb342, 1, none⟩ = some (.slice A0_1 l0_1.length c0_1) := (blk_cell BK342.out 1).trans rfl
   have hfz11_0 := blk_frozen BK342.out 0
   have hfz11_1 := blk_frozen BK342.out 1
   go_wp2_with (first | (go_at_call 20; (with_reducible refine (spec_IsContext.calls k a0_0 _ _ l0_1 false _ ?side1 ?side2 A5.out).mono ?_); (case side1 => exact q6_12); (case side2 => exact HC0_1.out); rintro e w12 ⟨rfl, hb⟩; have n0_ := Aside0.mk (blk_below (g := gb342) (o := .cells #[.int .i64 a0_0, .slice A0_1 l0_1.length c0_1] 26 (0, 0)) q6_15 hb); have n1_ := Aside0.mk (below_step q6_13 hb); clear BK342; clear HB; have BK342 := n0_; have HB := n1_; clear n0_ n1_; (try clear hb); (try clear hb2); (try clear hk); (try clear hi)))
   repeat (go_quiet (first | (go_at_call 20; (with_reducible refine (spec_IsContext.calls k a0_0 _ _ l0_1 false _ ?side1 ?side2 A5.out).mono ?_); (case side1 => exact q6_12); (case side2 => exact HC0_1.out); rintro e w12 ⟨rfl, hb⟩; have n0_ := Aside0.mk (blk_below (g := gb342) (o := .cells #[.int .i64 a0_0, .slice A0_1 l0_1.length c0_1] 26 (0, 0)) q6_15 hb); have n1_ := Aside0.mk (below_step q6_13 hb); clear BK342; clear HB; have BK342 := n0_; have HB := n1_; clear n0_ n1_; (try clear hb); (try clear hb2); (try clear hk); (try clear hi))); try go_wp2_with (first | (go_at_call 20; (with_reducible refine (spec_IsContext.calls k a0_0 _ _ l0_1 false _ ?side1 ?side2 A5.out).mono ?_); (case side1 => exact q6_12); (case side2 => exact HC0_1.out); rintro e w12 ⟨rfl, hb⟩; have n0_ := Aside0.mk (blk_below (g := gb342) (o := .cells #[.int .i64 a0_0, .slice A0_1 l0_1.length c0_1] 26 (0, 0)) q6_15 hb); have n1_ := Aside0.mk (below_step q6_13 hb); clear BK342; clear HB; have BK342 := n0_; have HB := n1_; clear n0_ n1_; (try clear hb); (try clear hb2); (try clear hk); (try clear hi))))
   go_meet
   case rel => exact ⟨_, (true), q6_16, H', ⟨by first | omega | exact Nat.le_refl _⟩, ⟨by (with_reducible repeat (first | refine blk_drewN ?_ _ | refine blk_drew ?_ | refine blk_alloc ?_ _)); exact BK342.out⟩, ⟨by repeat (first | (with_reducible first | exact HB.out | apply below_alloc | apply pw_below_drewN | apply below_drew1 | refine below_set ?_ GE342.out) | exact HB.out)⟩⟩
 case rest =>
  clear HC3
  try clear p2
  try clear c3
  try clear c6
  try clear p6
  try clear hcz10_0
  try clear hcz10_1
  try clear hcz11_0
  try clear hcz11_1
  try clear hcz8_0
  try clear hcz8_1
  try clear hfz10_0
  try clear hfz10_1
  try clear hfz11_0
  try clear hfz11_1
  try clear hfz8_0
  try clear hfz8_1
  obtain ⟨kq, x18_2, rfl, HA, HJ2, BK342, HB⟩ := hcut
  cases kq with
  | zero => exact absurd HA.out (by simp [spec_IsReducibleObject.j0])
  | succ kj2 =>
   have H := HA.out
   clear HA
   simp only [spec_IsReducibleObject.j0] at H
   by_cases c13 : x18_2 = true
   ·
    subst c13
    have H1 : (some false) = some r := by rw [if_pos rfl] at H; exact H
    clear H
    have H := H1
    clear H1
    obtain rfl := Option.some.inj H
    go_wp2
    repeat (go_quiet (fail); try go_wp2)
    go_ret
    exact ⟨by first | rfl | (simp [errW_none, errW_some] <;> rfl) | (simp [*, errW_none, errW_some] <;> rfl), by repeat (first | (with_reducible first | exact HB.out | apply below_alloc | apply pw_below_drewN | apply below_drew1 | refine below_set ?_ GE342.out) | exact HB.out)⟩
   ·
    replace c13 := Bool.eq_false_iff.mpr c13
    subst c13
    have H1 : ((spec_FullSet.f a0_0).bind fun t345 => (spec_IsReducibleObject.l0 kj2 a1 t345 0 a0_0 l0_1)) = some r := by rw [if_neg (show ¬ (false = true) by decide)] at H; exact H
    clear H
    have H := H1
    clear H1
    replace H := Option.bind_eq_some_iff.mp H
    obtain ⟨t345, A140, H⟩ := H
    replace H : (spec_IsReducibleObject.l0 kj2 a1 t345 0 a0_0 l0_1) = some r := H
    have A14 := Aside0.mk A140
    clear A140
    have H' := Aside0.mk H
    clear H
    have hcz15_0 : wc.cell? ⟨gb342, 0, none⟩ = some (.int .i64 a0_0) := (blk_cell BK342.out 0).trans rfl
    have hcz15_1 : wc.cell? ⟨gb342, 1, none⟩ = some (.slice A0_1 l0_1.length c0_1) := (blk_cell BK342.out 1).trans rfl
    have hfz15_0 := blk_frozen BK342.out 0
    have hfz15_1 := blk_frozen BK342.out 1
    go_wp2_with (first | (go_at_call 70; (with_reducible refine (spec_FullSet.calls a0_0 t345 _ A14.out).mono ?_); rintro e w' ⟨rfl, ⟨nd, rfl⟩⟩; (try first | exact ⟨rfl, _, World.drewN_drewN _ _ _⟩ | exact ⟨rfl, _, Eq.trans (World.drewN_drewN _ _ _) (congrArg (World.drewN _) (Nat.add_assoc _ _ _))⟩)))
    repeat (go_quiet (first | (go_at_call 70; (with_reducible refine (spec_FullSet.calls a0_0 t345 _ A14.out).mono ?_); rintro e w' ⟨rfl, ⟨nd, rfl⟩⟩; (try first | exact ⟨rfl, _, World.drewN_drewN _ _ _⟩ | exact ⟨rfl, _, Eq.trans (World.drewN_drewN _ _ _) (congrArg (World.drewN _) (Nat.add_assoc _ _ _))⟩))); try go_wp2_with (first | (go_at_call 70; (with_reducible refine (spec_FullSet.calls a0_0 t345 _ A14.out).mono ?_); rintro e w' ⟨rfl, ⟨nd, rfl⟩⟩; (try first | exact ⟨rfl, _, World.drewN_drewN _ _ _⟩ | exact ⟨rfl, _, Eq.trans (World.drewN_drewN _ _ _) (congrArg (World.drewN _) (Nat.add_assoc _ _ _))⟩))))
    go_loopg [5, 6] kj2 (fun kq v5 v6 w' => ∃ (x5_2 : Int) (x6_2 : Int), v5 = .int .i64 x5_2 ∧ v6 = .int .i64 x6_2 ∧ Aside0 (spec_IsReducibleObject.l0 kq a1 x5_2 x6_2 a0_0 l0_1 = some r) ∧ Aside0 (kq ≤ kj2) ∧ Aside0 (w'.heap[gb342]? = some (.cells #[.int .i64 a0_0, (.slice A0_1 l0_1.length c0_1)] 26 (0, 0))) ∧ Aside0 (Below w.heap.size w w'))
    case atStart => exact ⟨(t345), (0), q6_16, q6_16, H', ⟨Nat.le_refl _⟩, ⟨by (with_reducible repeat (first | refine blk_drewN ?_ _ | refine blk_drew ?_ | refine blk_alloc ?_ _)); exact BK342.out⟩, ⟨by repeat (first | (with_reducible first | exact HB.out | apply below_alloc | apply pw_below_drewN | apply below_drew1 | refine below_set ?_ GE342.out) | exact HB.out)⟩⟩
    case round =>
     clear H'
     try clear c1
     try clear p2
     try clear c3
     try clear c6
     try clear p6
     try clear c13
     try clear hcz10_0
     try clear hcz10_1
     try clear hcz11_0
     try clear hcz11_1
     try clear hcz15_0
     try clear hcz15_1
     try clear hcz8_0
     try clear hcz8_1
     try clear hfz10_0
     try clear hfz10_1
     try clear hfz11_0
     try clear hfz11_1
     try clear hfz15_0
     try clear hfz15_1
     try clear hfz8_0
     try clear hfz8_1
     try clear p2
     try clear p6
     obtain ⟨x5_2, x6_2, rfl, rfl, HA, HK2, BK342, HB⟩ := hrel
     cases gk with
     | zero => exact absurd HA.out (by simp [spec_IsReducibleObject.l0])
     | succ k2 =>
      have H := HA.out
      clear HA
      simp only [spec_IsReducibleObject.l0] at H
      by_cases c16 : x6_2 < (l0_1.length : Int)
      ·
       rw [if_pos c16] at H
       have c16b0 : decide (x6_2 < (l0_1.length : Int)) = true := decide_eq_true c16
       clear c16
       by_cases c17 : 0 ≤ x6_2
       ·
        rw [if_pos c17] at H
        have c17b0 : decide (0 ≤ x6_2) = true := decide_eq_true c17
        clear c17
        by_cases c18 : 0 ≤ a1
        ·
         rw [if_pos c18] at H
         have c18b0 : decide (0 ≤ a1) = true := decide_eq_true c18
         clear c18
         by_cases c19 : a1 < (l0_1.length : Int)
         ·
          rw [if_pos c19] at H
          have c19b0 : decide (a1 < (l0_1.length : Int)) = true := decide_eq_true c19
          clear c19
          by_cases c20 : (rd l0_1 x6_2) = (rd l0_1 a1)
          ·
           rw [if_pos c20] at H
           have c20b0 : ((rd l0_1 x6_2) == (rd l0_1 a1)) = true := beq_iff_eq.mpr c20
           have c20b1 : ((rd l0_1 x6_2) != (rd l0_1 a1)) = false := bne_eq_false_iff_eq.mpr c20
           clear c20
           have H' := Aside0.mk H
           clear H
           have hcz21_0 : wr.cell? ⟨gb342, 0, none⟩ = some (.int .i64 a0_0) := (blk_cell BK342.out 0).trans rfl
           have hcz21_1 : wr.cell? ⟨gb342, 1, none⟩ = some (.slice A0_1 l0_1.length c0_1) := (blk_cell BK342.out 1).trans rfl
           have hfz21_0 := blk_frozen BK342.out 0
           have hfz21_1 := blk_frozen BK342.out 1
           have p346 : 0 ≤ (x6_2 : Int) := of_decide_eq_true q6_17
           have q346 : x6_2 < (l0_1.length : Int) := of_decide_eq_true q6_17
           obtain ⟨ad346, e346, hx346_0⟩ := Kd.at_int HR0_1.out x6_2 p346 q346
           cases e346
           replace hx346_0 := (HB.out.cell (World.block_lt_of_cell? w _ hx346_0)).trans hx346_0
           replace p346 := eq_true p346
           replace q346 := eq_true q346
           have p347 : 0 ≤ (a1 : Int) := of_decide_eq_true q6_17
           have q347 : a1 < (l0_1.length : Int) := of_decide_eq_true q6_17
           obtain ⟨ad347, e347, hx347_0⟩ := Kd.at_int HR0_1.out a1 p347 q347
           obtain rfl : ad346 = ad347 := (by injection e347)
           replace hx347_0 := (HB.out.cell (World.block_lt_of_cell? w _ hx347_0)).trans hx347_0
           replace p347 := eq_true p347
           replace q347 := eq_true q347
           go_wp2
           repeat (go_quiet (fail); try go_wp2)
           go_roundg k2
           case measure => have := HJ2.out; have := HK2.out; omega
           case rel => exact ⟨(x5_2), (wrap64 (x6_2 + 1)), q6_16, q6_16, H', ⟨by have := HJ2.out; have := HK2.out; omega⟩, ⟨by (with_reducible repeat (first | refine blk_drewN ?_ _ | refine blk_drew ?_ | refine blk_alloc ?_ _)); exact BK342.out⟩, ⟨by repeat (first | (with_reducible first | exact HB.out | apply below_alloc | apply pw_below_drewN | apply below_drew1 | refine below_set ?_ GE342.out) | exact HB.out)⟩⟩
          ·
           rw [if_neg c20] at H
           have c20b0 : ((rd l0_1 x6_2) == (rd l0_1 a1)) = false := beq_eq_false_iff_ne.mpr c20
           have c20b1 : ((rd l0_1 x6_2) != (rd l0_1 a1)) = true := bne_iff_ne.mpr c20
           by_cases c22 : (Go.bits .and .i64 (rd l0_1 x6_2) (rd l0_1 a1)) = (rd l0_1 a1)
           ·
            rw [if_pos c22] at H
            have c22b0 : ((Go.bits .and .i64 (rd l0_1 x6_2) (rd l0_1 a1)) == (rd l0_1 a1)) = true := beq_iff_eq.mpr c22
            have c22b1 : ((Go.bits .and .i64 (rd l0_1 x6_2) (rd l0_1 a1)) != (rd l0_1 a1)) = false := bne_eq_false_iff_eq.mpr c22
            clear c22
            have H' := Aside0.mk H
            clear H
            have hcz23_0 : wr.cell? ⟨gb342, 0, none⟩ = some (.int .i64 a0_0) := (blk_cell BK342.out 0).trans rfl
            have hcz23_1 : wr.cell? ⟨gb342, 1, none⟩ = some (.slice A0_1 l0_1.length c0_1) := (blk_cell BK342.out 1).trans rfl
            have hfz23_0 := blk_frozen BK342.out 0
            have hfz23_1 := blk_frozen BK342.out 1
            have p346 : 0 ≤ (x6_2 : Int) := of_decide_eq_true q6_17
            have q346 : x6_2 < (l0_1.length : Int) := of_decide_eq_true q6_17
            obtain ⟨ad346, e346, hx346_0⟩ := Kd.at_int HR0_1.out x6_2 p346 q346
            cases e346
            replace hx346_0 := (HB.out.cell (World.block_lt_of_cell? w _ hx346_0)).trans hx346_0
            replace p346 := eq_true p346
            replace q346 := eq_true q346
            have p347 : 0 ≤ (a1 : Int) := of_decide_eq_true q6_17
            have q347 : a1 < (l0_1.length : Int) := of_decide_eq_true q6_17
            obtain ⟨ad347, e347, hx347_0⟩ := Kd.at_int HR0_1.out a1 p347 q347
            obtain rfl : ad346 = ad347 := (by injection e347)
            replace hx347_0 := (HB.out.cell (World.block_lt_of_cell? w _ hx347_0)).trans hx347_0
            replace p347 := eq_true p347
            replace q347 := eq_true q347
            have p348 : 0 ≤ (x6_2 : Int) := of_decide_eq_true q6_17
            have q348 : x6_2 < (l0_1.length : Int) := of_decide_eq_true q6_17
            obtain ⟨ad348, e348, hx348_0⟩ := Kd.at_int HR0_1.out x6_2 p348 q348
            obtain rfl : ad346 = ad348 := (by injection e348)
            replace hx348_0 := (HB.out.cell (World.block_lt_of_cell? w _ hx348_0)).trans hx348_0
            replace p348 := eq_true p348
            replace q348 := eq_true q348
            have p349 : 0 ≤ (a1 : Int) := of_decide_eq_true q6_17
            have q349 : a1 < (l0_1.length : Int) := of_decide_eq_true q6_17
            obtain ⟨ad349, e349, hx349_0⟩ := Kd.at_int HR0_1.out a1 p349 q349
            obtain rfl : ad346 = ad349 := (by injection e349)
            replace hx349_0 := (HB.out.cell (World.block_lt_of_cell? w _ hx349_0)).trans hx349_0
            replace p349 := eq_true p349
            replace q349 := eq_true q349
            have p350 : 0 ≤ (a1 : Int) := of_decide_eq_true q6_17
            have q350 : a1 < (l0_1.length : Int) := of_decide_eq_true q6_17
            obtain ⟨ad350, e350, hx350_0⟩ := Kd.at_int HR0_1.out a1 p350 q350
            obtain rfl : ad346 = ad350 := (by injection e350)
            replace hx350_0 := (HB.out.cell (World.block_lt_of_cell? w _ hx350_0)).trans hx350_0
            replace p350 := eq_true p350
            replace q350 := eq_true q350
            have p351 : 0 ≤ (x6_2 : Int) := of_decide_eq_true q6_17
            have q351 : x6_2 < (l0_1.length : Int) := of_decide_eq_true q6_17
            obtain ⟨ad351, e351, hx351_0⟩ := Kd.at_int HR0_1.out x6_2 p351 q351
            obtain rfl : ad346 = ad351 := (by injection e351)
            replace hx351_0 := (HB.out.cell (World.block_lt_of_cell? w _ hx351_0)).trans hx351_0
            replace p351 := eq_true p351
            replace q351 := eq_true q351
            go_wp2
            repeat (go_quiet (fail); try go_wp2)
            go_roundg k2
            case measure => have := HJ2.out; have := HK2.out; omega
            case rel => exact ⟨(Go.bits .and .i64 x5_2 (rd l0_1 x6_2)), (wrap64 (x6_2 + 1)), q6_16, q6_16, H', ⟨by have := HJ2.out; have := HK2.out; omega⟩, ⟨by (with_reducible repeat (first | refine blk_drewN ?_ _ | refine blk_drew ?_ | refine blk_alloc ?_ _)); exact BK342.out⟩, ⟨by repeat (first | (with_reducible first | exact HB.out | apply below_alloc | apply pw_below_drewN | apply below_drew1 | refine below_set ?_ GE342.out) | exact HB.out)⟩⟩
           ·
            rw [if_neg c22] at H
            have c22b0 : ((Go.bits .and .i64 (rd l0_1 x6_2) (rd l0_1 a1)) == (rd l0_1 a1)) = false := beq_eq_false_iff_ne.mpr c22
            have c22b1 : ((Go.bits .and .i64 (rd l0_1 x6_2) (rd l0_1 a1)) != (rd l0_1 a1)) = true := bne_iff_ne.mpr c22
            have H' := Aside0.mk H
            clear H
            have hcz24_0 : wr.cell? ⟨gb342, 0, none⟩ = some (.int .i64 a0_0) := (blk_cell BK342.out 0).trans rfl
            have hcz24_1 : wr.cell? ⟨gb342, 1, none⟩ = some (.slice A0_1 l0_1.length c0_1) := (blk_cell BK342.out 1).trans rfl
            have hfz24_0 := blk_frozen BK342.out 0
            have hfz24_1 := blk_frozen BK342.out 1
            have p346 : 0 ≤ (x6_2 : Int) := of_decide_eq_true q6_17
            have q346 : x6_2 < (l0_1.length : Int) := of_decide_eq_true q6_17
            obtain ⟨ad346, e346, hx346_0⟩ := Kd.at_int HR0_1.out x6_2 p346 q346
            cases e346
            replace hx346_0 := (HB.out.cell (World.block_lt_of_cell? w _ hx346_0)).trans hx346_0
            replace p346 := eq_true p346
            replace q346 := eq_true q346
            have p347 : 0 ≤ (a1 : Int) := of_decide_eq_true q6_17
            have q347 : a1 < (l0_1.length : Int) := of_decide_eq_true q6_17
            obtain ⟨ad347, e347, hx347_0⟩ := Kd.at_int HR0_1.out a1 p347 q347
            obtain rfl : ad346 = ad347 := (by injection e347)
            replace hx347_0 := (HB.out.cell (World.block_lt_of_cell? w _ hx347_0)).trans hx347_0
            replace p347 := eq_true p347
            replace q347 := eq_true q347
            have p348 : 0 ≤ (x6_2 : Int) := of_decide_eq_true q6_17
            have q348 : x6_2 < (l0_1.length : Int) := of_decide_eq_true q6_17
            obtain ⟨ad348, e348, hx348_0⟩ := Kd.at_int HR0_1.out x6_2 p348 q348
            obtain rfl : ad346 = ad348 := (by injection e348)
            replace hx348_0 := (HB.out.cell (World.block_lt_of_cell? w _ hx348_0)).trans hx348_0
            replace p348 := eq_true p348
            replace q348 := eq_true q348
            have p349 : 0 ≤ (a1 : Int) := of_decide_eq_true q6_17
            have q349 : a1 < (l0_1.length : Int) := of_decide_eq_true q6_17
            obtain ⟨ad349, e349, hx349_0⟩ := Kd.at_int HR0_1.out a1 p349 q349
            obtain rfl : ad346 = ad349 := (by injection e349)
            replace hx349_0 := (HB.out.cell (World.block_lt_of_cell? w _ hx349_0)).trans hx349_0
            replace p349 := eq_true p349
            replace q349 := eq_true q349
            have p350 : 0 ≤ (a1 : Int) := of_decide_eq_true q6_17
            have q350 : a1 < (l0_1.length : Int) := of_decide_eq_true q6_17
            obtain ⟨ad350, e350, hx350_0⟩ := Kd.at_int HR0_1.out a1 p350 q350
            obtain rfl : ad346 = ad350 := (by injection e350)
            replace hx350_0 := (HB.out.cell (World.block_lt_of_cell? w _ hx350_0)).trans hx350_0
            replace p350 := eq_true p350
            replace q350 := eq_true q350
            go_wp2
            repeat (go_quiet (fail); try go_wp2)
            go_roundg k2
            case measure => have := HJ2.out; have := HK2.out; omega
            case rel => exact ⟨(x5_2), (wrap64 (x6_2 + 1)), q6_16, q6_16, H', ⟨by have := HJ2.out; have := HK2.out; omega⟩, ⟨by (with_reducible repeat (first | refine blk_drewN ?_ _ | refine blk_drew ?_ | refine blk_alloc ?_ _)); exact BK342.out⟩, ⟨by repeat (first | (with_reducible first | exact HB.out | apply below_alloc | apply pw_below_drewN | apply below_drew1 | refine below_set ?_ GE342.out) | exact HB.out)⟩⟩
         ·
          rw [if_neg c19] at H
          exact absurd H (by simp)
        ·
         rw [if_neg c18] at H
         exact absurd H (by simp)
       ·
        rw [if_neg c17] at H
        exact absurd H (by simp)
      ·
       rw [if_neg c16] at H
       have c16b0 : decide (x6_2 < (l0_1.length : Int)) = false := decide_eq_false c16
       clear c16
       by_cases c25 : 0 ≤ a1
       ·
        rw [if_pos c25] at H
        have c25b0 : decide (0 ≤ a1) = true := decide_eq_true c25
        clear c25
        by_cases c26 : a1 < (l0_1.length : Int)
        ·
         rw [if_pos c26] at H
         have c26b0 : decide (a1 < (l0_1.length : Int)) = true := decide_eq_true c26
         clear c26
         obtain rfl := Option.some.inj H
         have hcz27_0 : wr.cell? ⟨gb342, 0, none⟩ = some (.int .i64 a0_0) := (blk_cell BK342.out 0).trans rfl
         have hcz27_1 : wr.cell? ⟨gb342, 1, none⟩ = some (.slice A0_1 l0_1.length c0_1) := (blk_cell BK342.out 1).trans rfl
         have hfz27_0 := blk_frozen BK342.out 0
         have hfz27_1 := blk_frozen BK342.out 1
         have p352 : 0 ≤ (a1 : Int) := of_decide_eq_true q6_17
         have q352 : a1 < (l0_1.length : Int) := of_decide_eq_true q6_17
         obtain ⟨ad352, e352, hx352_0⟩ := Kd.at_int HR0_1.out a1 p352 q352
         cases e352
         replace hx352_0 := (HB.out.cell (World.block_lt_of_cell? w _ hx352_0)).trans hx352_0
         replace p352 := eq_true p352
         replace q352 := eq_true q352
         go_wp2
         repeat (go_quiet (fail); try go_wp2)
         go_ret
         exact ⟨by first | rfl | (simp [errW_none, errW_some] <;> rfl) | (simp [*, errW_none, errW_some] <;> rfl), by repeat (first | (with_reducible first | exact HB.out | apply below_alloc | apply pw_below_drewN | apply below_drew1 | refine below_set ?_ GE342.out) | exact HB.out)⟩
        ·
         rw [if_neg c26] at H
         exact absurd H (by simp)
       ·
        rw [if_neg c25] at H
        exact absurd H (by simp)
theorem q6_18 {P : Prop} (h : P := by repeat (first | exact (Kd.C_below HR0_1.out HB.out) | (with_reducible refine Kd.C_alloc ?_ _) | (with_reducible refine Kd.C_drewN ?_ _) | (with_reducible refine Kd.C_drew ?_))) : P := h
theorem q6_19 {P : Prop} (h : P := by repeat (first | (with_reducible first | exact HB.out | apply below_alloc | apply pw_below_drewN | apply below_drew1 | refine below_set ?_ GE353.out) | exact HB.out)) : P := h
theorem q6_20 {P : Prop} (h : P := by (try simp only [List.map_toArray, List.map_cons, List.map_nil]); first | done | rfl | (simp only [List.length_drop, List.length_take]; rfl)) : P := h
theorem q6_21 {P : Prop} (h : P := by repeat (first | (with_reducible first | exact HB.out | apply below_alloc | apply pw_below_drewN | apply below_drew1) | exact HB.out)) : P := h
theorem q6_22 {P : Prop} (h : P := by (with_reducible repeat (first | refine blk_drewN ?_ _ | refine blk_drew ?_ | refine blk_alloc ?_ _)); exact BK353.out) : P := h
def spec_IsIrreducibleObject.f (k : Nat) (a0_0 : Int) (l0_1 : List Int) (a1 : Int) : Option (Bool) := (spec_IsContext.f k a0_0 l0_1).bind fun t354 => (if t354 = true then ((spec_l1In.f a1 0 (wrap64 ((l0_1.length : Int) - 1))).bind fun t355 => (if t355 = true then ((spec_IsReducibleObject.f k a0_0 l0_1 a1).bind fun t356 => (some (!t356))) else (some false))) else (some false))
set_option maxHeartbeats 8000000 in
set_option maxRecDepth 100000 in
theorem spec_IsIrreducibleObject.calls (k : Nat) (a0_0 : Int) (A0_1 : Option Addr) (c0_1 : Nat) (l0_1 : List Int) (a1 : Int) (r : Bool) (w : World) (hr0_1 : Kd.C (Kd.int .i64) w A0_1 l0_1.length l0_1) (hc0_1 : l0_1.length ≤ c0_1) (h : spec_IsIrreducibleObject.f k a0_0 l0_1 a1 = some r) :
  Calls Try.prog 17 #[.agg #[.int .i64 a0_0, .slice A0_1 l0_1.length c0_1], .int .i64 a1] w fun e w' => e = .returned (.bool r) ∧ Below w.heap.size w w' := by
 have hu26 := Try.underlying26
 have HR0_1 := Aside0.mk hr0_1
 have HC0_1 := Aside0.mk hc0_1
 clear hr0_1 hc0_1
 have HB := Aside0.mk (Below.refl w.heap.size w)
 have H : ((spec_IsContext.f k a0_0 l0_1).bind fun t354 => (if t354 = true then ((spec_l1In.f a1 0 (wrap64 ((l0_1.length : Int) - 1))).bind fun t355 => (if t355 = true then ((spec_IsReducibleObject.f k a0_0 l0_1 a1).bind fun t356 => (some (!t356))) else (some false))) else (some false))) = some r := h
 clear h
 replace H := Option.bind_eq_some_iff.mp H
 obtain ⟨t354, A30, H⟩ := H
 replace H : (if t354 = true then ((spec_l1In.f a1 0 (wrap64 ((l0_1.length : Int) - 1))).bind fun t355 => (if t355 = true then ((spec_IsReducibleObject.f k a0_0 l0_1 a1).bind fun t356 => (some (!t356))) else (some false))) else (some false)) = some r := H
 have A3 := Aside0.mk A30
 clear A30
 by_cases c4 : t354 = true
 ·
  subst c4
  have H1 : ((spec_l1In.f a1 0 (wrap64 ((l0_1.length : Int) - 1))).bind fun t355 => (if t355 = true then ((spec_IsReducibleObject.f k a0_0 l0_1 a1).bind fun t356 => (some (!t356))) else (some false))) = some r := by rw [if_pos rfl] at H; exact H
  clear H
  have H := H1
  clear H1
  replace H := Option.bind_eq_some_iff.mp H
  obtain ⟨t355, A50, H⟩ := H
  replace H : (if t355 = true then ((spec_IsReducibleObject.f k a0_0 l0_1 a1).bind fun t356 => (some (!t356))) else (some false)) = some r := H
  have A5 := Aside0.mk A50
  clear A50
  by_cases c6 : t355 = true
  ·
   subst c6
   have H1 : ((spec_IsReducibleObject.f k a0_0 l0_1 a1).bind fun t356 => (some (!t356))) = some r := by rw [if_pos rfl] at H; exact H
   clear H
   have H := H1
   clear H1
   replace H := Option.bind_eq_some_iff.mp H
   obtain ⟨t356, A70, H⟩ := H
   replace H : (some (!t356)) = some r := H
   have A7 := Aside0.mk A70
   clear A70
   obtain rfl := Option.some.inj H
   go_enter Try.func17, Try.ntmps17
   go_wp2_with (first | ((with_reducible refine gate_dst (N := 2) rfl ?_); (try (refine gate_guard (by rfl) ?_; dsimp only)); refine box_event ?hg (N := 2) ?hd (cs := #[.int .i64 a0_0, .slice A0_1 l0_1.length c0_1]) (t := 26) ?hr ?_; (case hd => rfl); (case hg => rfl); (case hr => first | (go_simp; done) | (go_simp; rfl)); intro gb353 hg w8 hbox hb; have n0_ := Aside0.mk (below_step q6_21 hb); have n1_ := Aside0.mk (hbox); have n2_ := Aside0.mk ((by rw [hg]; exact (below_size q6_21) : w.heap.size ≤ gb353)); have n3_ := Aside0.mk ((by rw [hg]; exact (below_size q6_21) : w.heap.size ≤ gb353)); clear HB; have HB := n0_; have BK353 := n1_; have GW353 := n2_; have GE353 := n3_; clear n0_ n1_ n2_ n3_; clear hb hbox hg; have hcz9_0 : w8.cell? ⟨gb353, 0, none⟩ = some (.int .i64 a0_0) := (blk_cell BK353.out 0).trans rfl; have hcz9_1 : w8.cell? ⟨gb353, 1, none⟩ = some (.slice A0_1 l0_1.length c0_1) := (blk_cell BK353.out 1).trans rfl; have hfz9_0 := blk_frozen BK353.out 0; have hfz9_1 := blk_frozen BK353.out 1) | ((with_reducible refine gate_callee (f := 20) rfl ?_); refine goesL_ (some 6) rfl rfl Try.func20 (by kernel_rfl) rfl #[.agg #[.int .i64 a0_0, .slice A0_1 l0_1.length c0_1]] rfl q6_20 ?_; (with_reducible refine (spec_IsContext.calls k a0_0 _ _ l0_1 true _ ?side1 ?side2 A3.out).mono ?_); (case side1 => exact q6_18); (case side2 => exact HC0_1.out); rintro e w10 ⟨rfl, hb⟩; refine ⟨_, rfl, ?_⟩; have n0_ := Aside0.mk (blk_below (g := gb353) (o := .cells #[.int .i64 a0_0, .slice A0_1 l0_1.length c0_1] 26 (0, 0)) q6_22 hb); have n1_ := Aside0.mk (below_step q6_19 hb); clear BK353; clear HB; have BK353 := n0_; have HB := n1_; clear n0_ n1_; (try clear hb); (try clear hb2); (try clear hk); (try clear hi); have hcz11_0 : w10.cell? ⟨gb353, 0, none⟩ = some (.int .i64 a0_0) := (blk_cell BK353.out 0).trans rfl; have hcz11_1 : w10.cell? ⟨gb353, 1, none⟩ = some (.slice A0_1 l0_1.length c0_1) := (blk_cell BK353.out 1).trans rfl; have hfz11_0 := blk_frozen BK353.out 0; have hfz11_1 := blk_frozen BK353.out 1) | (go_at_call 53; (with_reducible refine (spec_l1In.calls a1 0 (wrap64 ((l0_1.length : Int) - 1)) true _ A5.out).mono ?_); rintro e w' ⟨rfl, ⟨nd, rfl⟩⟩) | (go_at_call 37; (with_reducible refine (spec_IsReducibleObject.calls k a0_0 _ _ l0_1 a1 t356 _ ?side1 ?side2 A7.out).mono ?_); (case side1 => repeat (first | exact (Kd.C_below HR0_1.out q6_19) | (with_reducible refine Kd.C_alloc ?_ _) | (with_reducible refine Kd.C_drewN ?_ _) | (with_reducible refine Kd.C_drew ?_))); (case side2 => exact HC0_1.out); rintro e w12 ⟨rfl, hb⟩; have n0_ := Aside0.mk (blk_below (g := gb353) (o := .cells #[.int .i64 a0_0, .slice A0_1 l0_1.length c0_1] 26 (0, 0)) q6_22 hb); have n1_ := Aside0.mk (below_step q6_19 hb); clear BK353; clear HB; have BK353 := n0_; have HB := n1_; clear n0_ n1_; (try clear hb); (try clear hb2); (try clear hk); (try clear hi)))
   go_ret
   exact ⟨by first | rfl | (simp [errW_none, errW_some] <;> rfl) | (simp [*, errW_none, errW_some] <;> rfl), by repeat (first | (with_reducible first | exact HB.out | apply below_alloc | apply pw_below_drewN | apply below_drew1 | refine below_set ?_ GE353.out) | exact HB.out)⟩
  ·
   replace c6 := Bool.eq_false_iff.mpr c6
   subst c6
   have H1 : (some false) = some r := by rw [if_neg (show ¬ (false = true) by decide)] at H; exact H
   clear H
   have H := H1
   clear H1
   obtain rfl := Option.some.inj H
   go_enter Try.func17, Try.ntmps17
   go_wp2_with (first | ((with_reducible refine gate_dst (N := 2) rfl ?_); (try (refine gate_guard (by rfl) ?_; dsimp only)); refine box_event ?hg (N := 2) ?hd (cs := #[.int .i64 a0_0, .slice A0_1 l0_1.length c0_1]) (t := 26) ?hr ?_; (case hd => rfl); (case hg => rfl); (case hr => first | (go_simp; done) | (go_simp; rfl)); intro gb353 hg w13 hbox hb; have n0_ := Aside0.mk (below_step q6_21 hb); have n1_ := Aside0.mk (hbox); have n2_ := Aside0.mk ((by rw [hg]; exact (below_size q6_21) : w.heap.size ≤ gb353)); have n3_ := Aside0.mk ((by rw [hg]; exact (below_size q6_21) : w.heap.size ≤ gb353)); clear HB; have HB := n0_; have BK353 := n1_; have GW353 := n2_; have GE353 := n3_; clear n0_ n1_ n2_ n3_; clear hb hbox hg; have hcz14_0 : w13.cell? ⟨gb353, 0, none⟩ = some (.int .i64 a0_0) := (blk_cell BK353.out 0).trans rfl; have hcz14_1 : w13.cell? ⟨gb353, 1, none⟩ = some (.slice A0_1 l0_1.length c0_1) := (blk_cell BK353.out 1).trans rfl; have hfz14_0 := blk_frozen BK353.out 0; have hfz14_1 := blk_frozen BK353.out 1) | ((with_reducible refine gate_callee (f := 20) rfl ?_); refine goesL_ (some 6) rfl rfl Try.func20 (by kernel_rfl) rfl #[.agg #[.int .i64 a0_0, .slice A0_1 l0_1.length c0_1]] rfl q6_20 ?_; (with_reducible refine (spec_IsContext.calls k a0_0 _ _ l0_1 true _ ?side1 ?side2 A3.out).mono ?_); (case side1 => exact q6_18); (case side2 => exact HC0_1.out); rintro e w15 ⟨rfl, hb⟩; refine ⟨_, rfl, ?_⟩; have n0_ := Aside0.mk (blk_below (g := gb353) (o := .cells #[.int .i64 a0_0, .slice A0_1 l0_1.length c0_1] 26 (0, 0)) q6_22 hb); have n1_ := Aside0.mk (below_step q6_19 hb); clear BK353; clear HB; have BK353 := n0_; have HB := n1_; clear n0_ n1_; (try clear hb); (try clear hb2); (try clear hk); (try clear hi); have hcz16_0 : w15.cell? ⟨gb353, 0, none⟩ = some (.int .i64 a0_0) := (blk_cell BK353.out 0).trans rfl; have hcz16_1 : w15.cell? ⟨gb353, 1, none⟩ = some (.slice A0_1 l0_1.length c0_1) := (blk_cell BK353.out 1).trans rfl; have hfz16_0 := blk_frozen BK353.out 0; have hfz16_1 := blk_frozen BK353.out 1) | (go_at_call 53; (with_reducible refine (spec_l1In.calls a1 0 (wrap64 ((l0_1.length : Int) - 1)) false _ A5.out).mono ?_); rintro e w' ⟨rfl, ⟨nd, rfl⟩⟩))
   go_ret
   exact ⟨by first | rfl | (simp [errW_none, errW_some] <;> rfl) | (simp [*, errW_none, errW_some] <;> rfl), by repeat (first | (with_reducible first | exact HB.out | apply below_alloc | apply pw_below_drewN | apply below_drew1 | refine below_set ?_ GE353.out) | exact HB.out)⟩
 ·
  replace c4 := Bool.eq_false_iff.mpr c4
  subst c4
  have H1 : (some false) = some r := by rw [if_neg (show ¬ (false = true) by decide)] at H; exact H
  clear H
  have H := H1
  clear H1
  obtain rfl := Option.some.inj H
  go_enter Try.func17, Try.ntmps17
  go_wp2_with (first | ((with_reducible refine gate_dst (N := 2) rfl ?_); (try (refine gate_guard (by rfl) ?_; dsimp only)); refine box_event ?hg (N := 2) ?hd (cs := #[.int .i64 a0_0, .slice A0_1 l0_1.length c0_1]) (t := 26) ?hr ?_; (case hd => rfl); (case hg => rfl); (case hr => first | (go_simp; done) | (go_simp; rfl)); intro gb353 hg w17 hbox hb; have n0_ := Aside0.mk (below_step q6_21 hb); have n1_ := Aside0.mk (hbox); have n2_ := Aside0.mk ((by rw [hg]; exact (below_size q6_21) : w.heap.size ≤ gb353)); have n3_ := Aside0.mk ((by rw [hg]; exact (below_size q6_21) : w.heap.size ≤ gb353)); clear HB; have HB := n0_; have BK353 := n1_; have GW353 := n2_; have GE353 := n3_; clear n0_ n1_ n2_ n3_; clear hb hbox hg; have hcz18_0 : w17.cell? ⟨gb353, 0, none⟩ = some (.int .i64 a0_0) := (blk_cell BK353.out 0).trans rfl; have hcz18_1 : w17.cell? ⟨gb353, 1, none⟩ = some (.slice A0_1 l0_1.length c0_1) := (blk_cell BK353.out 1).trans rfl; have hfz18_0 := blk_frozen BK353.out 0; have hfz18_1 := blk_frozen BK353.out 1) | ((with_reducible refine gate_callee (f := 20) rfl ?_); refine goesL_ (some 6) rfl rfl Try.func20 (by kernel_rfl) rfl #[.agg #[.int .i64 a0_0, .slice A0_1 l0_1.length c0_1]] rfl q6_20 ?_; (with_reducible refine (spec_IsContext.calls k a0_0 _ _ l0_1 false _ ?side1 ?side2 A3.out).mono ?_); (case side1 => exact q6_18); (case side2 => exact HC0_1.out); rintro e w19 ⟨rfl, hb⟩; refine ⟨_, rfl, ?_⟩; have n0_ := Aside0.mk (blk_below (g := gb353) (o := .cells #[.int .i64 a0_0, .slice A0_1 l0_1.length c0_1] 26 (0, 0)) q6_22 hb); have n1_ := Aside0.mk (below_step q6_19 hb); clear BK353; clear HB; have BK353 := n0_; have HB := n1_; clear n0_ n1_; (try clear hb); (try clear hb2); (try clear hk); (try clear hi)))
  go_ret
  exact ⟨by first | rfl | (simp [errW_none, errW_some] <;> rfl) | (simp [*, errW_none, errW_some] <;> rfl), by repeat (first | (with_reducible first | exact HB.out | apply below_alloc | apply pw_below_drewN | apply below_drew1 | refine below_set ?_ GE353.out) | exact HB.out)⟩
end Go.Proofs.Ytafnamchckehmaa.Pr
