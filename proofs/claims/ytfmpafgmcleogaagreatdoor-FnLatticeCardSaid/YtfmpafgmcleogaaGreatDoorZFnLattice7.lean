/- Functions of the program as plain functions, proofs that their calls answer so, and plain laws: what the law needs. No condition beyond what each statement says. -/
import Derived.Test.YtfmpafgmcleogaaGreatDoorZFnLattice6
import Derived.Shelf.Abstract
import Derived.Laws.Bits64b
import Derived.Lib.TrailingZeros
import Derived.WalkSpells
import Derived.Maps.OwnSet
import Derived.Test.YtfmpafgmcleogaaGreatDoorRows
import Derived.Lib.LaidTab
import Derived.LaidSub
import Derived.MakeChecks
namespace Go.Proofs.YtfmpafgmcleogaaGreatDoor.Pr
set_option maxHeartbeats 40000000
set_option maxRecDepth 100000
open Go.RowKit Go.Proofs.YtfmpafgmcleogaaGreatDoorW.PrintWords Go.Proofs.YtfmpafgmcleogaaGreatDoorW.PrintLast Go.Proofs.YtfmpafgmcleogaaGreatDoorW.PrintMore
attribute [local go_sem] max2_int min2_int max_two min_two max_three min_three max_four min_four
set_option linter.unusedVariables false
set_option linter.unusedSimpArgs false
theorem bnd8_ {α β : Type} {o : Option α} {f : α → Option β} {r : β} (h : o.bind f = some r) : ∃ a, Aside0 (o = some a) ∧ f a = some r := by
 obtain ⟨a, h1, h2⟩ := Option.bind_eq_some_iff.mp h
 exact ⟨a, ⟨h1⟩, h2⟩
theorem q8_1 {P : Prop} (h : P := by repeat (first | (with_reducible first | exact HB.out | apply below_alloc | apply pw_below_drewN | apply below_drew1 | refine below_set ?_ GE504.out) | exact HB.out)) : P := h
def spec_BottomOf.f (k : Nat) (a0_0 : Int) (l0_1 : List Int) : Option (Int) := (spec_Concepts.f k a0_0 l0_1).bind fun t505 => (some (wrap64 ((t505.length : Int) - 1)))
theorem spec_BottomOf.calls (k : Nat) (a0_0 : Int) (A0_1 : Option Addr) (c0_1 : Nat) (l0_1 : List Int) (r : Int) (w : World) (hr0_1 : Kd.C (Kd.int .i64) w A0_1 l0_1.length l0_1) (hc0_1 : l0_1.length ≤ c0_1) (h : spec_BottomOf.f k a0_0 l0_1 = some r) :
  Calls Tryz.prog 22 #[.agg #[.int .i64 a0_0, .slice A0_1 l0_1.length c0_1]] w fun e w' => e = .returned (.int .i64 r) ∧ Below w.heap.size w w' := by
 have hu26 := Tryz.underlying26; have HR0_1 := Aside0.mk hr0_1; have HC0_1 := Aside0.mk hc0_1; clear hr0_1 hc0_1; have HB := Aside0.mk (Below.refl w.heap.size w); have H := h; clear h; unfold spec_BottomOf.f at H; obtain ⟨t505, A2, H⟩ := bnd8_ H; obtain rfl := Option.some.inj H
 go_enter Tryz.func22, Tryz.ntmps22
 go_wp2_with (first | (refine be_ 1 #[.int .i64 a0_0, .slice A0_1 l0_1.length c0_1] 26 ?_; intro gb504 hg w3 hbox hb; have n_ := ac_ (below_step s0_ hb) <| ac_ (hbox) <| ac_ ((gz_ w hg s0_)) <| Aside0.mk ((gz_ w hg s0_)); clear HB; obtain ⟨HB, BK504, GW504, GE504⟩ := n_; clear hb hbox hg; have hcz4_0 : w3.cell? ⟨gb504, 0, none⟩ = some (.int .i64 a0_0) := (blk_cell BK504.out 0).trans rfl; have hcz4_1 : w3.cell? ⟨gb504, 1, none⟩ = some (.slice A0_1 l0_1.length c0_1) := (blk_cell BK504.out 1).trans rfl; have hfz4_0 := blk_frozen BK504.out 0; have hfz4_1 := blk_frozen BK504.out 1) | ((with_reducible refine gate_callee (f := 28) rfl ?_); refine goesL_ (some 4) rfl rfl Tryz.func28 (by kernel_rfl) rfl #[.agg #[.int .i64 a0_0, .slice A0_1 l0_1.length c0_1]] rfl (by (try simp only [List.map_toArray, List.map_cons, List.map_nil]); first | done | rfl | (simp only [List.length_drop, List.length_take]; rfl)) ?_; (with_reducible refine (spec_Concepts.calls k a0_0 _ _ l0_1 t505 _ ?side1 ?side2 A2.out).mono ?_); (case side1 => repeat (first | exact (Kd.C_below HR0_1.out HB.out) | (with_reducible refine Kd.C_alloc ?_ _) | (with_reducible refine Kd.C_drewN ?_ _) | (with_reducible refine Kd.C_drew ?_))); (case side2 => exact HC0_1.out); rintro e w5 ⟨v506, rfl, ho0, hb⟩; refine ⟨_, rfl, ?_⟩; have n_ := ac_ (Kd.R_lower ho0 (below_size q8_1)) <| ac_ (blk_below (g := gb504) (o := .cells #[.int .i64 a0_0, .slice A0_1 l0_1.length c0_1] 26 (0, 0)) (by (with_reducible repeat (first | refine blk_drewN ?_ _ | refine blk_drew ?_ | refine blk_alloc ?_ _)); exact BK504.out) hb) <| Aside0.mk (below_step q8_1 hb); clear BK504 HB; obtain ⟨HO507, BK504, HB⟩ := n_; (try clear hb ho0); obtain ⟨Ao6, co6, eo6⟩ := Kd.R_slice HO507.out; subst eo6))
 go_ret
 exact ⟨(by first | rfl | (simp [errW_none, errW_some] <;> rfl) | (simp [*, errW_none, errW_some] <;> rfl)), q8_1⟩
def spec_l1Max.f (a0 : Int) (a1 : Int) : Option (Int) := if a0 > a1 then (some a0) else (some a1)
theorem spec_l1Max.calls (a0 : Int) (a1 : Int) (r : Int) (w : World) (h : spec_l1Max.f a0 a1 = some r) :
  Calls Tryz.prog 49 #[.int .i64 a0, .int .i64 a1] w fun e w' => e = .returned (.int .i64 r) ∧ Drawn0 w w' := by
 have H := h; clear h; unfold spec_l1Max.f at H
 by_cases c3 : a0 > a1
 ·
  rw [if_pos c3] at H; have c3b0 : decide (a1 < a0) = true := decide_eq_true c3; clear c3; obtain rfl := Option.some.inj H
  go_enter Tryz.func49, Tryz.ntmps49
  go_wp2
  go_ret
  exact ⟨rf_, (by repeat (first | exact Drawn0.refl _ | apply Drawn0.step))⟩
 ·
  rw [if_neg c3] at H; have c3b0 : decide (a1 < a0) = false := decide_eq_false c3; clear c3; obtain rfl := Option.some.inj H
  go_enter Tryz.func49, Tryz.ntmps49
  go_wp2
  go_ret
  exact ⟨rf_, (by repeat (first | exact Drawn0.refl _ | apply Drawn0.step))⟩
theorem q8_3 {P : Prop} (h : P := by repeat (first | (with_reducible first | exact HB.out | apply below_alloc | apply pw_below_drewN | apply below_drew1 | refine below_set ?_ GE508.out) | exact HB.out)) : P := h
theorem q8_6 {P : Prop} (h : P := by (with_reducible repeat (first | refine blk_drewN ?_ _ | refine blk_drew ?_ | refine blk_alloc ?_ _)); exact BK508.out) : P := h
theorem q8_8 {P : Prop} (h : P := by (with_reducible repeat (first | apply Kd.R_alloc | apply Kd.R_drewN | apply Kd.R_drew)); exact HO_4.out) : P := h
mutual
def spec_HeightOf.l0 : Nat → List (S51) → List Int → Int → Int → Option (Int)
 | 0, _, _, _, _ => none
 | k + 1, x3, x4, x5, x6 => if x6 < (x3.length : Int) then (if x4.length < 17592186044416 then (spec_HeightOf.l1 k x3 (x4 ++ [0]) x5 x6 0) else (none)) else (some x5)
def spec_HeightOf.l1 : Nat → List (S51) → List Int → Int → Int → Int → Option (Int)
 | 0, _, _, _, _, _ => none
 | k + 1, x3, x4, x5, x6, x7 => if x7 < x6 then (if 0 ≤ x6 then (if x6 < (x3.length : Int) then (if 0 ≤ x7 then (if x7 < (x3.length : Int) then ((spec_l6Under.f ((rd_T51 x3 x6).f0) ((rd_T51 x3 x6).f1) ((rd_T51 x3 x7).f0) ((rd_T51 x3 x7).f1)).bind fun t522 => (if t522 = true then (if x6 < (x4.length : Int) then (if x7 < (x4.length : Int) then ((spec_l1Max.f (rd x4 x6) (wrap64 ((rd x4 x7) + 1))).bind fun t525 => (spec_HeightOf.l1 k x3 (x4.set (x6 : Int).toNat t525) x5 x6 (wrap64 (x7 + 1)))) else (none)) else (none)) else (spec_HeightOf.l1 k x3 x4 x5 x6 (wrap64 (x7 + 1))))) else (none)) else (none)) else (none)) else (none)) else (if 0 ≤ x6 then (if x6 < (x4.length : Int) then ((spec_l1Max.f x5 (rd x4 x6)).bind fun t519 => (spec_HeightOf.l0 k x3 x4 t519 (wrap64 (x6 + 1)))) else (none)) else (none))
end
def spec_HeightOf.f (k : Nat) (a0_0 : Int) (l0_1 : List Int) : Option (Int) := (spec_Concepts.f k a0_0 l0_1).bind fun t509 => (spec_HeightOf.l0 k t509 (([] : List Int)) (-1) 0)
def spec_HeightOf.T11 : Bool × List (List Nat × List Nat) := (true, [([], []), ([], []), ([0, 1], [0, 1]), ([2], [2]), ([], []), ([], []), ([4, 5], [4, 5]), ([6], [6]), ([3, 7], [3, 7])])
def spec_HeightOf.B11 : List Nat := [0, 0, 3, 7, 0, 0, 48, 112, 255]
theorem spec_HeightOf.tab11 : rtab .any (opsOf Tryz.f24 11) = spec_HeightOf.T11 := by kernel_rfl
theorem spec_HeightOf.bits11 : waitsOk spec_HeightOf.T11.2 spec_HeightOf.B11 = true := by kernel_rfl
def spec_HeightOf.T12 : Bool × List (List Nat × List Nat) := (true, [([], []), ([], []), ([], []), ([], []), ([2, 3], [2, 3]), ([4], [4]), ([], []), ([], []), ([6, 7], [6, 7]), ([8], [8]), ([9], [9]), ([5, 10], [5, 10]), ([0, 1, 0, 1, 2, 3, 4, 5, 6, 7, 8, 9, 10, 11], [0, 1]), ([12, 11, 11, 0, 1, 2, 3, 4, 5, 6, 7, 8, 9, 10, 11], [11, 12])])
def spec_HeightOf.B12 : List Nat := [0, 0, 0, 0, 12, 28, 0, 0, 192, 448, 960, 2044, 4095, 8191]
theorem spec_HeightOf.tab12 : rtab .any (opsOf Tryz.f24 12) = spec_HeightOf.T12 := by kernel_rfl
theorem spec_HeightOf.bits12 : waitsOk spec_HeightOf.T12.2 spec_HeightOf.B12 = true := by kernel_rfl
theorem spec_HeightOf.calls (k : Nat) (a0_0 : Int) (A0_1 : Option Addr) (c0_1 : Nat) (l0_1 : List Int) (r : Int) (w : World) (hr0_1 : Kd.C (Kd.int .i64) w A0_1 l0_1.length l0_1) (hc0_1 : l0_1.length ≤ c0_1) (h : spec_HeightOf.f k a0_0 l0_1 = some r) :
  Calls Tryz.prog 24 #[.agg #[.int .i64 a0_0, .slice A0_1 l0_1.length c0_1]] w fun e w' => e = .returned (.int .i64 r) ∧ Below w.heap.size w w' := by
 have hu26 := Tryz.underlying26; have hu51 := Tryz.underlying51; have HR0_1 := Aside0.mk hr0_1; have HC0_1 := Aside0.mk hc0_1; clear hr0_1 hc0_1; have HB := Aside0.mk (Below.refl w.heap.size w); have H := h; clear h; unfold spec_HeightOf.f at H; obtain ⟨t509, A2, H⟩ := bnd8_ H; obtain ⟨y512, hy_⟩ : ∃ y_ : List Int, y_ = (([] : List Int)) := ⟨_, rfl⟩
 replace H : (spec_HeightOf.l0 k t509 y512 (-1) 0) = some r := rH_
 have Ny512 := Aside0.mk hy_; clear hy_; have H' := Aside0.mk H; clear H
 go_enter Tryz.func24, Tryz.ntmps24
 go_wp2_with (first | (refine be_ 1 #[.int .i64 a0_0, .slice A0_1 l0_1.length c0_1] 26 ?_; intro gb508 hg w3 hbox hb; have n_ := ac_ (below_step s0_ hb) <| ac_ (hbox) <| ac_ ((gz_ w hg s0_)) <| Aside0.mk ((gz_ w hg s0_)); clear HB; obtain ⟨HB, BK508, GW508, GE508⟩ := n_; clear hb hbox hg; have hcz4_0 : w3.cell? ⟨gb508, 0, none⟩ = some (.int .i64 a0_0) := (blk_cell BK508.out 0).trans rfl; have hcz4_1 : w3.cell? ⟨gb508, 1, none⟩ = some (.slice A0_1 l0_1.length c0_1) := (blk_cell BK508.out 1).trans rfl; have hfz4_0 := blk_frozen BK508.out 0; have hfz4_1 := blk_frozen BK508.out 1) | (refine gL_ 28 9 Tryz.func28 #[.agg #[.int .i64 a0_0, .slice A0_1 l0_1.length c0_1]] ?_; (with_reducible refine (spec_Concepts.calls k a0_0 _ _ l0_1 t509 _ ?side1 ?side2 A2.out).mono ?_); (case side1 => repeat (first | exact (Kd.C_below HR0_1.out HB.out) | (with_reducible refine Kd.C_alloc ?_ _) | (with_reducible refine Kd.C_drewN ?_ _) | (with_reducible refine Kd.C_drew ?_))); (case side2 => exact HC0_1.out); rintro e w5 ⟨v510, rfl, ho0, hb⟩; refine ⟨_, rfl, ?_⟩; have n_ := ac_ (Kd.R_lower ho0 (below_size q8_3)) <| ac_ (blk_below (g := gb508) (o := .cells #[.int .i64 a0_0, .slice A0_1 l0_1.length c0_1] 26 (0, 0)) q8_6 hb) <| Aside0.mk (below_step q8_3 hb); clear BK508 HB; obtain ⟨HO511, BK508, HB⟩ := n_; (try clear hb ho0)) | (refine rl_ (Kd.int .i64) 3 10 ?_; intro v513 w6 ho7 hb hg_ hnew_; clear hg_ hnew_; (first | rw [← Ny512.out] at ho7 | (simp only [Int.reduceToNat] at ho7; rw [← Ny512.out] at ho7)); have n_ := ac_ (Kd.R_below (by (with_reducible repeat (first | apply Kd.R_alloc | apply Kd.R_drewN | apply Kd.R_drew)); exact HO511.out) hb) <| ac_ (Kd.R_lower ho7 (below_size q8_3)) <| ac_ (blk_below (g := gb508) (o := .cells #[.int .i64 a0_0, .slice A0_1 l0_1.length c0_1] 26 (0, 0)) q8_6 hb) <| Aside0.mk (below_step q8_3 hb); clear HO511 BK508 HB; obtain ⟨HO511, HO514, BK508, HB⟩ := n_; clear hb ho7))
 go_loopg [4, 5, 6] k (fun kq v4 v5 v6 w' => ∃ (x4_1 : List Int) (x5_1 : Int) (x6_1 : Int), v5 = .int .i64 x5_1 ∧ v6 = .int .i64 x6_1 ∧ Aside0 (spec_HeightOf.l0 kq t509 x4_1 x5_1 x6_1 = some r) ∧ Aside0 (kq ≤ k) ∧ Aside0 (Kd.R k51 51 w' w.heap.size (fun _ => True) v510 t509) ∧ Aside0 (Kd.R (Kd.int .i64) 3 w' w.heap.size (fun _ => True) v4 x4_1) ∧ Aside0 (w'.heap[gb508]? = some (.cells #[.int .i64 a0_0, (.slice A0_1 l0_1.length c0_1)] 26 (0, 0))) ∧ Aside0 (Below w.heap.size w w'))
 case atStart => exact ⟨(y512), ((-1)), (0), s3_, s3_, H', ⟨Nat.le_refl _⟩, ⟨(by (with_reducible repeat (first | apply Kd.R_alloc | apply Kd.R_drewN | apply Kd.R_drew)); exact HO511.out)⟩, ⟨(by (with_reducible repeat (first | apply Kd.R_alloc | apply Kd.R_drewN | apply Kd.R_drew)); exact HO514.out)⟩, ⟨q8_6⟩, ⟨q8_3⟩⟩
 case round =>
  clear H'
  try clear c2
  try clear p2
  try clear hcz4_0
  try clear hcz4_1
  try clear hfz4_0
  try clear hfz4_1
  obtain ⟨x4_1, x5_1, x6_1, rfl, rfl, HA, HK1, HO_3, HO_4, BK508, HB⟩ := hrel
  cases gk with
  | zero => exact absurd HA.out (by simp [spec_HeightOf.l0])
  | succ k1 =>
   have H := HA.out; clear HA
   simp only [spec_HeightOf.l0] at H
   by_cases c8 : x6_1 < (t509.length : Int)
   ·
    rw [if_pos c8] at H; have c8b0 : decide (x6_1 < (t509.length : Int)) = true := decide_eq_true c8; clear c8
    by_cases c9 : x4_1.length < 17592186044416
    ·
     rw [if_pos c9] at H; have LMc9 := Aside0.mk c9; clear c9; obtain ⟨y515, hy_⟩ : ∃ y_ : List Int, y_ = (x4_1 ++ [0]) := ⟨_, rfl⟩
     replace H : (spec_HeightOf.l1 k1 t509 y515 x5_1 x6_1 0) = some r := rH_
     have Ny515 := Aside0.mk hy_; clear hy_; have H' := Aside0.mk H; clear H; obtain ⟨Ao10, co10, eo10⟩ := Kd.R_slice HO_3.out; subst eo10
     go_wp2_with (first | ((with_reducible refine gate_builtin (b := .append) (xs := #[.tmp 17, .tmp 18]) rfl ?_); at_builtin; refine Kd.R_append (Kd.int .i64) (w0 := w) w.heap.size rfl (.tmp 17) (.tmp 18) 24 3 (.int .i64 0) 8 rfl Tryz.underlying24 info3 rfl (by decide) (by omega) u4 x4_1 0 [.int .i64 0] (fun _ => True) (fun _ => False) rfl rfl ?aP (fun _ hk => hk.elim) ?aF ?aO ?aB ?aS ?aL ?_; (case aP => exact rfl); (case aB => exact q8_3); (case aF => exact (fun _ _ => trivial)); (case aO => exact q8_8); (case aS => exact (below_size q8_3)); (case aL => have := LMc9.out; omega); intro v516 w11 ho hb hg hat; rw [← Ny515.out] at ho; have n_ := ac_ (Kd.R_over' s11_ (Kd.R_typed q8_8) (by decide) hg) <| ac_ (blk_grown (g := gb508) (o := .cells #[.int .i64 a0_0, .slice A0_1 l0_1.length c0_1] 26 (0, 0)) q8_6 hg (Kd.R_ne HO_4.out BK508.out (by decide))) <| ac_ (hb) <| Aside0.mk (ho); clear HO_3 BK508 HB HO_4; obtain ⟨HO_3, BK508, HB, HO517⟩ := n_; clear ho hb hg hat))
     go_loopg [7] k1 (fun kq v7 w' => ∃ (x4_2 : List Int) (x7_2 : Int), v7 = .int .i64 x7_2 ∧ Aside0 (spec_HeightOf.l1 kq t509 x4_2 x5_1 x6_1 x7_2 = some r) ∧ Aside0 (kq ≤ k1) ∧ Aside0 (Kd.R k51 51 w' w.heap.size (fun _ => True) (.slice Ao10 t509.length co10) t509) ∧ Aside0 (Kd.R (Kd.int .i64) 3 w' w.heap.size (fun _ => True) v516 x4_2) ∧ Aside0 (w'.heap[gb508]? = some (.cells #[.int .i64 a0_0, (.slice A0_1 l0_1.length c0_1)] 26 (0, 0))) ∧ Aside0 (Below w.heap.size w w'))
     case atStart => exact ⟨(y515), (0), s3_, H', ⟨Nat.le_refl _⟩, ⟨s11_⟩, ⟨(by (with_reducible repeat (first | apply Kd.R_alloc | apply Kd.R_drewN | apply Kd.R_drew)); exact HO517.out)⟩, ⟨q8_6⟩, ⟨q8_3⟩⟩
     case round =>
      clear H'
      try clear c2
      try clear p2
      try clear c8
      try clear c8b0
      try clear c9
      try clear hcz4_0
      try clear hcz4_1
      try clear hfz4_0
      try clear hfz4_1
      try clear p2
      obtain ⟨x4_2, x7_2, rfl, HA, HK2, HO_3, HO_4, BK508, HB⟩ := hrel
      cases gk with
      | zero => exact absurd HA.out (by simp [spec_HeightOf.l1])
      | succ k2 =>
       have H := HA.out; clear HA
       simp only [spec_HeightOf.l1] at H
       by_cases c12 : x7_2 < x6_1
       ·
        rw [if_pos c12] at H; have c12b0 : decide (x7_2 < x6_1) = true := decide_eq_true c12; clear c12
        by_cases c13 : 0 ≤ x6_1
        ·
         rw [if_pos c13] at H; have c13b0 : decide (0 ≤ x6_1) = true := decide_eq_true c13; clear c13
         by_cases c14 : x6_1 < (t509.length : Int)
         ·
          rw [if_pos c14] at H; have c14b0 : decide (x6_1 < (t509.length : Int)) = true := decide_eq_true c14; clear c14
          by_cases c15 : 0 ≤ x7_2
          ·
           rw [if_pos c15] at H; have c15b0 : decide (0 ≤ x7_2) = true := decide_eq_true c15; clear c15
           by_cases c16 : x7_2 < (t509.length : Int)
           ·
            rw [if_pos c16] at H; have c16b0 : decide (x7_2 < (t509.length : Int)) = true := decide_eq_true c16; clear c16; obtain ⟨t522, A17, H⟩ := bnd8_ H
            by_cases c18 : t522 = true
            ·
             subst c18; rw [if_pos rfl] at H
             by_cases c19 : x6_1 < (x4_2.length : Int)
             ·
              rw [if_pos c19] at H; have c19b0 : decide (x6_1 < (x4_2.length : Int)) = true := decide_eq_true c19; clear c19
              by_cases c20 : x7_2 < (x4_2.length : Int)
              ·
               rw [if_pos c20] at H; have c20b0 : decide (x7_2 < (x4_2.length : Int)) = true := decide_eq_true c20; clear c20; obtain ⟨t525, A21, H⟩ := bnd8_ H; obtain ⟨y526, hy_⟩ : ∃ y_ : List Int, y_ = (x4_2.set (x6_1 : Int).toNat t525) := ⟨_, rfl⟩
               replace H : (spec_HeightOf.l1 k2 t509 y526 x5_1 x6_1 (wrap64 (x7_2 + 1))) = some r := rH_
               have Ny526 := Aside0.mk hy_; clear hy_; have H' := Aside0.mk H; clear H
               try go_wp2
               have n0_ := Aside0.mk (Kd.R_drew HO_3.out); have n1_ := Aside0.mk (Kd.R_drew HO_4.out); have n2_ := Aside0.mk (blk_drew BK508.out); have n3_ := Aside0.mk (below_drew1 HB.out); clear HO_3; clear HO_4; clear BK508; clear HB; have HO_3 := n0_; have HO_4 := n1_; have BK508 := n2_; have HB := n3_; clear n0_ n1_ n2_ n3_; have p520 : 0 ≤ (x6_1 : Int) := of_decide_eq_true s4_; have q520 : x6_1 < (t509.length : Int) := of_decide_eq_true s4_; obtain ⟨ad520, e520, hx520_0, hx520_1⟩ := at_T51 (Kd.R_reads' HO_3.out).2.2 x6_1 p520 q520
               cases e520
               replace p520 := eq_true p520; replace q520 := eq_true q520; have p521 : 0 ≤ (x7_2 : Int) := of_decide_eq_true s4_; have q521 : x7_2 < (t509.length : Int) := of_decide_eq_true s4_; obtain ⟨ad521, e521, hx521_0, hx521_1⟩ := at_T51 (Kd.R_reads' HO_3.out).2.2 x7_2 p521 q521
               obtain rfl : ad520 = ad521 := (by injection e521)
               replace p521 := eq_true p521; replace q521 := eq_true q521
               refine start_ (n := 9) (S := fun w' => w'.cell? (ad520.add ((x6_1).toNat * 2)) = some (.int .i64 ((rd_T51 t509 x6_1).f0)) ∧ w'.cell? ⟨(ad520.add ((x6_1).toNat * 2)).block, (ad520.add ((x6_1).toNat * 2)).off + 1, none⟩ = some (.int .i64 ((rd_T51 t509 x6_1).f1)) ∧ w'.cell? (ad520.add ((x7_2).toNat * 2)) = some (.int .i64 ((rd_T51 t509 x7_2).f0)) ∧ w'.cell? ⟨(ad520.add ((x7_2).toNat * 2)).block, (ad520.add ((x7_2).toNat * 2)).off + 1, none⟩ = some (.int .i64 ((rd_T51 t509 x7_2).f1))) (ds := []) (tb_ 9 0) (by kernel_rfl) rfl rfl ⟨hx520_0, hx520_1, hx521_0, hx521_1⟩ (fun hHeld => ?_); refine with_tabW spec_HeightOf.tab11 spec_HeightOf.bits11 (fun HT_ HW_ => ?_)
               generalize wr.drew = w23 at HO_3 HO_4 BK508 HB hx520_0 hx520_1 hx521_0 hx521_1 hHeld ⊢
               refine pl_ 0 25 (tb_ 9 1) ?_; refine pl_ 1 26 (tb_ 9 3) ?_; refine pl_ 2 27 (tb_ 9 7) ?_; refine pl_ 4 29 (tb_ 9 23) ?_; refine pl_ 5 30 (tb_ 9 55) ?_; refine pl_ 6 31 (tb_ 9 119) ?_; refine tk_ 3 28 (tb_ 9 127) hHeld ?_; refine tk_ 7 32 (tb_ 9 255) hHeld ?_
               refine on_ 8 33 (tb_ 9 511) (fun K hK => ?_)
               refine goes_ Tryz.func43 (by kernel_rfl) rfl #[.agg #[.int .i64 ((rd_T51 t509 x6_1).f0), .int .i64 ((rd_T51 t509 x6_1).f1)], .agg #[.int .i64 ((rd_T51 t509 x7_2).f0), .int .i64 ((rd_T51 t509 x7_2).f1)]] (by rfl) rfl rfl s1_ ?_
               with_reducible refine (spec_l6Under.calls ((rd_T51 t509 x6_1).f0) ((rd_T51 t509 x6_1).f1) ((rd_T51 t509 x7_2).f0) ((rd_T51 t509 x7_2).f1) true _ A17.out).mono ?_
               rintro e w24 ⟨rfl, hb⟩
               have HS0_ := (hb.cell (World.block_lt_of_cell? _ _ (hHeld.1))).trans (hHeld.1); have HS1_ := (hb.cell (World.block_lt_of_cell? _ _ (hHeld.2.1))).trans (hHeld.2.1); have HS2_ := (hb.cell (World.block_lt_of_cell? _ _ (hHeld.2.2.1))).trans (hHeld.2.2.1); have HS3_ := (hb.cell (World.block_lt_of_cell? _ _ (hHeld.2.2.2))).trans (hHeld.2.2.2)
               refine ⟨_, rfl, ?_⟩
               have n0_ := Aside0.mk (Kd.R_below s11_ hb); have n1_ := Aside0.mk (Kd.R_below q8_8 hb); have n2_ := Aside0.mk (blk_below (g := gb508) (o := .cells #[.int .i64 a0_0, .slice A0_1 l0_1.length c0_1] 26 (0, 0)) q8_6 hb); have n3_ := Aside0.mk (below_step q8_3 hb); clear HO_3; clear HO_4; clear BK508; clear HB; have HO_3 := n0_; have HO_4 := n1_; have BK508 := n2_; have HB := n3_; clear n0_ n1_ n2_ n3_
               (try clear hb)
               (try clear hb2)
               (try clear hk)
               (try clear hi)
               refine hK.out _ _ ⟨HS0_, HS1_, HS2_, HS3_⟩ (fun hHeld => ?_)
               clear hK K
               refine norm_ (a' := ?_) ?_ ?_
               rotate_left
               ·
                show Act.put _ (some 33) _ = _
                simp only [Act.put, List.setIfInBounds_toArray, List.set_cons_zero, List.set_cons_succ, i64_w, i32_w]
                rfl
               refine done_ (done_of HT_.out (by kernel_rfl)) ?_
               try go_wp2
               have n0_ := Aside0.mk (Kd.R_drew HO_3.out); have n1_ := Aside0.mk (Kd.R_drew HO_4.out); have n2_ := Aside0.mk (blk_drew BK508.out); have n3_ := Aside0.mk (below_drew1 HB.out); clear HO_3; clear HO_4; clear BK508; clear HB; have HO_3 := n0_; have HO_4 := n1_; have BK508 := n2_; have HB := n3_; clear n0_ n1_ n2_ n3_; obtain ⟨Ao26, co26, eo26⟩ := Kd.R_slice HO_4.out
               (first | subst eo26 | (injection eo26 with f1_ f2_ f3_; have f4_ := f1_.symm; have f5_ := f3_.symm; clear f1_ f2_ f3_; subst f4_; subst f5_))
               have p523 : 0 ≤ (x6_1 : Int) := of_decide_eq_true s4_; have q523 : x6_1 < (x4_2.length : Int) := of_decide_eq_true s4_; obtain ⟨ad523, e523, hx523_0⟩ := Kd.at_int (Kd.R_reads' HO_4.out).2.2 x6_1 p523 q523
               cases e523
               replace p523 := eq_true p523; replace q523 := eq_true q523; have p524 : 0 ≤ (x7_2 : Int) := of_decide_eq_true s4_; have q524 : x7_2 < (x4_2.length : Int) := of_decide_eq_true s4_; obtain ⟨ad524, e524, hx524_0⟩ := Kd.at_int (Kd.R_reads' HO_4.out).2.2 x7_2 p524 q524
               obtain rfl : ad523 = ad524 := (by injection e524)
               replace p524 := eq_true p524; replace q524 := eq_true q524
               refine start_ (n := 14) (S := fun w' => w'.cell? (ad523.add (x6_1).toNat) = some (.int .i64 (rd x4_2 x6_1)) ∧ w'.cell? (ad523.add (x7_2).toNat) = some (.int .i64 (rd x4_2 x7_2))) (ds := [13]) (tb_ 14 0) (by kernel_rfl) rfl rfl ⟨hx523_0, hx524_0⟩ (fun hHeld => ?_); refine with_tabW spec_HeightOf.tab12 spec_HeightOf.bits12 (fun HT_ HW_ => ?_)
               generalize w24.drew = w25 at HO_3 HO_4 BK508 HB hx523_0 hx524_0 hHeld ⊢
               refine pl_ 0 34 (tb_ 14 1) ?_; refine pl_ 1 35 (tb_ 14 3) ?_; refine pl_ 2 36 (tb_ 14 7) ?_; refine pl_ 3 37 (tb_ 14 15) ?_; refine pl_ 4 38 (tb_ 14 31) ?_; refine pl_ 6 40 (tb_ 14 95) ?_; refine pl_ 7 41 (tb_ 14 223) ?_; refine pl_ 8 42 (tb_ 14 479) ?_; refine tk_ 5 39 (tb_ 14 511) hHeld ?_; refine tk_ 9 43 (tb_ 14 1023) hHeld ?_; refine pl_ 10 44 (tb_ 14 2047) ?_
               refine on_ 11 45 (tb_ 14 4095) (fun K hK => ?_)
               refine goes_ Tryz.func49 (by kernel_rfl) rfl #[.int .i64 (rd x4_2 x6_1), .int .i64 (wrap64 ((rd x4_2 x7_2) + 1))] (by rfl) rfl rfl s1_ ?_
               with_reducible refine (spec_l1Max.calls (rd x4_2 x6_1) (wrap64 ((rd x4_2 x7_2) + 1)) t525 _ A21.out).mono ?_
               rintro e w' ⟨rfl, ⟨nd, rfl⟩⟩
               refine ⟨_, rfl, ?_⟩
               have p22 : 0 ≤ (x6_1 : Int) := of_decide_eq_true s4_; have q22 : (x6_1 : Int) < ((x4_2.length : Int) : Int) := of_decide_eq_true s4_
               obtain ⟨go22, co22, eo22, gb22, gl22, cl22, HG22⟩ := Kd.R_form HO_4.out (by omega)
               (first | cases eo22 | (injection eo22 with ea_ en_ ec_; (first | subst ea_ | (injection ea_ with ea_; subst ea_)); subst ec_; clear en_))
               have GB22 := Aside0.mk gb22; have GG22 := Aside0.mk HG22; clear gb22 gl22 HG22
               (first | simp only [add_plain] at hx523_0 | skip)
               (first | simp only [add_plain] at hx524_0 | skip)
               obtain ⟨hx22_0, hf22_0⟩ := Kd.R_celln 0 HO_4.out (x6_1 : Int) p22 q22; replace p22 := eq_true p22; replace q22 := eq_true q22; have HP27 := Kd.R_putn HO_4.out (x6_1 : Int) t525; rw [← Ny526.out] at HP27; have HQ27 := Aside0.mk HP27; clear HP27
               refine hK.out _ _ ⟨hHeld.1, hHeld.2⟩ (fun hHeld => ?_)
               clear hK K
               refine norm_ (a' := ?_) ?_ ?_
               rotate_left
               ·
                show Act.put _ (some 45) _ = _
                simp only [Act.put, List.setIfInBounds_toArray, List.set_cons_zero, List.set_cons_succ, i64_w, i32_w]
                rfl
               refine pl_ 12 46 (tb_ 14 8191) ?_
               refine last_ (i := 13) (N := none) (tb_ 14 16383) rfl rfl (one_of HT_.out (by kernel_rfl)) (by decide) (fun K hK => ?_)
               refine skip_ (w1 := ?_) (by rfl) rfl ?_ ?_
               rotate_left
               ·
                go_simp
                rfl
               refine hK.out _ _ ?_
               clear hK K
               refine done_ (done_of HT_.out (by kernel_rfl)) ?_
               try go_wp2
               go_roundg k2
               case measure => have := HK1.out; have := HK2.out; omega
               case rel => exact ⟨(y526), (wrap64 (x7_2 + 1)), s3_, H', ⟨by have := HK1.out; have := HK2.out; omega⟩, ⟨(by (with_reducible repeat (first | apply Kd.R_alloc | apply Kd.R_drewN | apply Kd.R_drew)); exact Kd.R_mono (Kd.R_far (p := ⟨go22, (x6_1 : Int).toNat, none⟩) (Kd.R_types HO_3.out GG22.out (by decide)) (fun _ hk => hk.2) (.int .i64 t525)) (fun _ hk => trivial))⟩, ⟨(by (with_reducible repeat (first | apply Kd.R_alloc | apply Kd.R_drewN | apply Kd.R_drew)); exact HQ27.out)⟩, ⟨(by (with_reducible repeat (first | refine blk_drewN ?_ _ | refine blk_drew ?_ | refine blk_alloc ?_ _)); refine blk_far ?_ (by have h_ := Kd.R_ne HO_4.out BK508.out (by decide); intro e_; exact h_ (by rw [e_]; rfl)) _; (with_reducible repeat (first | refine blk_drewN ?_ _ | refine blk_drew ?_ | refine blk_alloc ?_ _)); exact BK508.out)⟩, ⟨(by repeat (first | (with_reducible first | exact HB.out | apply below_alloc | apply pw_below_drewN | apply below_drew1 | refine below_set ?_ GB22.out | refine below_set ?_ GE508.out) | exact HB.out))⟩⟩
              ·
               rw [if_neg c20] at H
               exact absurd H (by simp)
             ·
              rw [if_neg c19] at H
              exact absurd H (by simp)
            ·
             replace c18 := Bool.eq_false_iff.mpr c18; subst c18
             rw [if_neg (show ¬ (false = true) by decide)] at H
             have H' := Aside0.mk H; clear H
             try go_wp2
             have n0_ := Aside0.mk (Kd.R_drew HO_3.out); have n1_ := Aside0.mk (Kd.R_drew HO_4.out); have n2_ := Aside0.mk (blk_drew BK508.out); have n3_ := Aside0.mk (below_drew1 HB.out); clear HO_3; clear HO_4; clear BK508; clear HB; have HO_3 := n0_; have HO_4 := n1_; have BK508 := n2_; have HB := n3_; clear n0_ n1_ n2_ n3_; have p520 : 0 ≤ (x6_1 : Int) := of_decide_eq_true s4_; have q520 : x6_1 < (t509.length : Int) := of_decide_eq_true s4_; obtain ⟨ad520, e520, hx520_0, hx520_1⟩ := at_T51 (Kd.R_reads' HO_3.out).2.2 x6_1 p520 q520
             cases e520
             replace p520 := eq_true p520; replace q520 := eq_true q520; have p521 : 0 ≤ (x7_2 : Int) := of_decide_eq_true s4_; have q521 : x7_2 < (t509.length : Int) := of_decide_eq_true s4_; obtain ⟨ad521, e521, hx521_0, hx521_1⟩ := at_T51 (Kd.R_reads' HO_3.out).2.2 x7_2 p521 q521
             obtain rfl : ad520 = ad521 := (by injection e521)
             replace p521 := eq_true p521; replace q521 := eq_true q521
             refine start_ (n := 9) (S := fun w' => w'.cell? (ad520.add ((x6_1).toNat * 2)) = some (.int .i64 ((rd_T51 t509 x6_1).f0)) ∧ w'.cell? ⟨(ad520.add ((x6_1).toNat * 2)).block, (ad520.add ((x6_1).toNat * 2)).off + 1, none⟩ = some (.int .i64 ((rd_T51 t509 x6_1).f1)) ∧ w'.cell? (ad520.add ((x7_2).toNat * 2)) = some (.int .i64 ((rd_T51 t509 x7_2).f0)) ∧ w'.cell? ⟨(ad520.add ((x7_2).toNat * 2)).block, (ad520.add ((x7_2).toNat * 2)).off + 1, none⟩ = some (.int .i64 ((rd_T51 t509 x7_2).f1))) (ds := []) (tb_ 9 0) (by kernel_rfl) rfl rfl ⟨hx520_0, hx520_1, hx521_0, hx521_1⟩ (fun hHeld => ?_); refine with_tabW spec_HeightOf.tab11 spec_HeightOf.bits11 (fun HT_ HW_ => ?_)
             generalize wr.drew = w28 at HO_3 HO_4 BK508 HB hx520_0 hx520_1 hx521_0 hx521_1 hHeld ⊢
             refine pl_ 0 25 (tb_ 9 1) ?_; refine pl_ 1 26 (tb_ 9 3) ?_; refine pl_ 2 27 (tb_ 9 7) ?_; refine pl_ 4 29 (tb_ 9 23) ?_; refine pl_ 5 30 (tb_ 9 55) ?_; refine pl_ 6 31 (tb_ 9 119) ?_; refine tk_ 3 28 (tb_ 9 127) hHeld ?_; refine tk_ 7 32 (tb_ 9 255) hHeld ?_
             refine on_ 8 33 (tb_ 9 511) (fun K hK => ?_)
             refine goes_ Tryz.func43 (by kernel_rfl) rfl #[.agg #[.int .i64 ((rd_T51 t509 x6_1).f0), .int .i64 ((rd_T51 t509 x6_1).f1)], .agg #[.int .i64 ((rd_T51 t509 x7_2).f0), .int .i64 ((rd_T51 t509 x7_2).f1)]] (by rfl) rfl rfl s1_ ?_
             with_reducible refine (spec_l6Under.calls ((rd_T51 t509 x6_1).f0) ((rd_T51 t509 x6_1).f1) ((rd_T51 t509 x7_2).f0) ((rd_T51 t509 x7_2).f1) false _ A17.out).mono ?_
             rintro e w29 ⟨rfl, hb⟩
             have HS0_ := (hb.cell (World.block_lt_of_cell? _ _ (hHeld.1))).trans (hHeld.1); have HS1_ := (hb.cell (World.block_lt_of_cell? _ _ (hHeld.2.1))).trans (hHeld.2.1); have HS2_ := (hb.cell (World.block_lt_of_cell? _ _ (hHeld.2.2.1))).trans (hHeld.2.2.1); have HS3_ := (hb.cell (World.block_lt_of_cell? _ _ (hHeld.2.2.2))).trans (hHeld.2.2.2)
             refine ⟨_, rfl, ?_⟩
             have n0_ := Aside0.mk (Kd.R_below s11_ hb); have n1_ := Aside0.mk (Kd.R_below q8_8 hb); have n2_ := Aside0.mk (blk_below (g := gb508) (o := .cells #[.int .i64 a0_0, .slice A0_1 l0_1.length c0_1] 26 (0, 0)) q8_6 hb); have n3_ := Aside0.mk (below_step q8_3 hb); clear HO_3; clear HO_4; clear BK508; clear HB; have HO_3 := n0_; have HO_4 := n1_; have BK508 := n2_; have HB := n3_; clear n0_ n1_ n2_ n3_
             (try clear hb)
             (try clear hb2)
             (try clear hk)
             (try clear hi)
             refine hK.out _ _ ⟨HS0_, HS1_, HS2_, HS3_⟩ (fun hHeld => ?_)
             clear hK K
             refine norm_ (a' := ?_) ?_ ?_
             rotate_left
             ·
              show Act.put _ (some 33) _ = _
              simp only [Act.put, List.setIfInBounds_toArray, List.set_cons_zero, List.set_cons_succ, i64_w, i32_w]
              rfl
             refine done_ (done_of HT_.out (by kernel_rfl)) ?_
             try go_wp2
             go_roundg k2
             case measure => have := HK1.out; have := HK2.out; omega
             case rel => exact ⟨(x4_2), (wrap64 (x7_2 + 1)), s3_, H', ⟨by have := HK1.out; have := HK2.out; omega⟩, ⟨s11_⟩, ⟨q8_8⟩, ⟨q8_6⟩, ⟨q8_3⟩⟩
           ·
            rw [if_neg c16] at H
            exact absurd H (by simp)
          ·
           rw [if_neg c15] at H
           exact absurd H (by simp)
         ·
          rw [if_neg c14] at H
          exact absurd H (by simp)
        ·
         rw [if_neg c13] at H
         exact absurd H (by simp)
       ·
        rw [if_neg c12] at H; have c12b0 : decide (x7_2 < x6_1) = false := decide_eq_false c12; clear c12
        by_cases c30 : 0 ≤ x6_1
        ·
         rw [if_pos c30] at H; have c30b0 : decide (0 ≤ x6_1) = true := decide_eq_true c30; clear c30
         by_cases c31 : x6_1 < (x4_2.length : Int)
         ·
          rw [if_pos c31] at H; have c31b0 : decide (x6_1 < (x4_2.length : Int)) = true := decide_eq_true c31; clear c31; obtain ⟨t519, A32, H⟩ := bnd8_ H; have H' := Aside0.mk H; clear H; obtain ⟨Ao33, co33, eo33⟩ := Kd.R_slice HO_4.out; subst eo33; have p518 : 0 ≤ (x6_1 : Int) := of_decide_eq_true s4_; have q518 : x6_1 < (x4_2.length : Int) := of_decide_eq_true s4_; obtain ⟨ad518, e518, hx518_0⟩ := Kd.at_int (Kd.R_reads' HO_4.out).2.2 x6_1 p518 q518
          cases e518
          replace p518 := eq_true p518; replace q518 := eq_true q518
          go_wp2_with (first | (refine gL_ 49 52 Tryz.func49 #[.int .i64 x5_1, .int .i64 (rd x4_2 x6_1)] ?_; (with_reducible refine (spec_l1Max.calls x5_1 (rd x4_2 x6_1) t519 _ A32.out).mono ?_); rintro e w' ⟨rfl, ⟨nd, rfl⟩⟩; refine ⟨_, rfl, ?_⟩))
          go_roundg k2
          case measure => have := HK1.out; have := HK2.out; omega
          case rel => exact ⟨(x4_2), (t519), (wrap64 (x6_1 + 1)), s3_, s3_, H', ⟨by have := HK1.out; have := HK2.out; omega⟩, ⟨s11_⟩, ⟨q8_8⟩, ⟨q8_6⟩, ⟨q8_3⟩⟩
         ·
          rw [if_neg c31] at H
          exact absurd H (by simp)
        ·
         rw [if_neg c30] at H
         exact absurd H (by simp)
    ·
     rw [if_neg c9] at H
     exact absurd H (by simp)
   ·
    rw [if_neg c8] at H; have c8b0 : decide (x6_1 < (t509.length : Int)) = false := decide_eq_false c8; clear c8; obtain rfl := Option.some.inj H; obtain ⟨Ao34, co34, eo34⟩ := Kd.R_slice HO_3.out; subst eo34
    go_wp2
    go_ret
    exact ⟨(by first | rfl | (simp [errW_none, errW_some] <;> rfl) | (simp [*, errW_none, errW_some] <;> rfl)), q8_3⟩
theorem q8_11 {P : Prop} (h : P := by repeat (first | (with_reducible first | exact HB.out | apply below_alloc | apply pw_below_drewN | apply below_drew1 | refine below_set ?_ GE534.out) | exact HB.out)) : P := h
theorem q8_14 {P : Prop} (h : P := by (with_reducible repeat (first | refine blk_drewN ?_ _ | refine blk_drew ?_ | refine blk_alloc ?_ _)); exact BK534.out) : P := h
def spec_CountEdges.l0 : Nat → List (S51) → Int → Int → Option (Int)
 | 0, _, _, _ => none
 | k + 1, x3, x4, x5 => if x5 < (x3.length : Int) then ((spec_l6Covers.f k x3 x5 true).bind fun t538 => (spec_CountEdges.l0 k x3 (wrap64 (x4 + (t538.length : Int))) (wrap64 (x5 + 1)))) else (some x4)
def spec_CountEdges.f (k : Nat) (a0_0 : Int) (l0_1 : List Int) : Option (Int) := (spec_Concepts.f k a0_0 l0_1).bind fun t535 => (spec_CountEdges.l0 k t535 0 0)
theorem spec_CountEdges.calls (k : Nat) (a0_0 : Int) (A0_1 : Option Addr) (c0_1 : Nat) (l0_1 : List Int) (r : Int) (w : World) (hr0_1 : Kd.C (Kd.int .i64) w A0_1 l0_1.length l0_1) (hc0_1 : l0_1.length ≤ c0_1) (h : spec_CountEdges.f k a0_0 l0_1 = some r) :
  Calls Tryz.prog 26 #[.agg #[.int .i64 a0_0, .slice A0_1 l0_1.length c0_1]] w fun e w' => e = .returned (.int .i64 r) ∧ Below w.heap.size w w' := by
 have hu26 := Tryz.underlying26; have HR0_1 := Aside0.mk hr0_1; have HC0_1 := Aside0.mk hc0_1; clear hr0_1 hc0_1; have HB := Aside0.mk (Below.refl w.heap.size w); have H := h; clear h; unfold spec_CountEdges.f at H; obtain ⟨t535, A2, H⟩ := bnd8_ H; have H' := Aside0.mk H; clear H
 go_enter Tryz.func26, Tryz.ntmps26
 go_wp2_with (first | (refine be_ 1 #[.int .i64 a0_0, .slice A0_1 l0_1.length c0_1] 26 ?_; intro gb534 hg w3 hbox hb; have n_ := ac_ (below_step s0_ hb) <| ac_ (hbox) <| ac_ ((gz_ w hg s0_)) <| Aside0.mk ((gz_ w hg s0_)); clear HB; obtain ⟨HB, BK534, GW534, GE534⟩ := n_; clear hb hbox hg; have hcz4_0 : w3.cell? ⟨gb534, 0, none⟩ = some (.int .i64 a0_0) := (blk_cell BK534.out 0).trans rfl; have hcz4_1 : w3.cell? ⟨gb534, 1, none⟩ = some (.slice A0_1 l0_1.length c0_1) := (blk_cell BK534.out 1).trans rfl; have hfz4_0 := blk_frozen BK534.out 0; have hfz4_1 := blk_frozen BK534.out 1) | (refine gL_ 28 7 Tryz.func28 #[.agg #[.int .i64 a0_0, .slice A0_1 l0_1.length c0_1]] ?_; (with_reducible refine (spec_Concepts.calls k a0_0 _ _ l0_1 t535 _ ?side1 ?side2 A2.out).mono ?_); (case side1 => repeat (first | exact (Kd.C_below HR0_1.out HB.out) | (with_reducible refine Kd.C_alloc ?_ _) | (with_reducible refine Kd.C_drewN ?_ _) | (with_reducible refine Kd.C_drew ?_))); (case side2 => exact HC0_1.out); rintro e w5 ⟨v536, rfl, ho0, hb⟩; refine ⟨_, rfl, ?_⟩; have n_ := ac_ (Kd.R_lower ho0 (below_size q8_11)) <| ac_ (blk_below (g := gb534) (o := .cells #[.int .i64 a0_0, .slice A0_1 l0_1.length c0_1] 26 (0, 0)) q8_14 hb) <| Aside0.mk (below_step q8_11 hb); clear BK534 HB; obtain ⟨HO537, BK534, HB⟩ := n_; (try clear hb ho0)))
 go_loopg [4, 5] k (fun kq v4 v5 w' => ∃ (x4_1 : Int) (x5_1 : Int), v4 = .int .i64 x4_1 ∧ v5 = .int .i64 x5_1 ∧ Aside0 (spec_CountEdges.l0 kq t535 x4_1 x5_1 = some r) ∧ Aside0 (kq ≤ k) ∧ Aside0 (Kd.R k51 51 w' w.heap.size (fun _ => True) v536 t535) ∧ Aside0 (w'.heap[gb534]? = some (.cells #[.int .i64 a0_0, (.slice A0_1 l0_1.length c0_1)] 26 (0, 0))) ∧ Aside0 (Below w.heap.size w w'))
 case atStart => exact ⟨(0), (0), s3_, s3_, H', ⟨Nat.le_refl _⟩, ⟨(by (with_reducible repeat (first | apply Kd.R_alloc | apply Kd.R_drewN | apply Kd.R_drew)); exact HO537.out)⟩, ⟨q8_14⟩, ⟨q8_11⟩⟩
 case round =>
  clear H'
  try clear c2
  try clear p2
  try clear hcz4_0
  try clear hcz4_1
  try clear hfz4_0
  try clear hfz4_1
  obtain ⟨x4_1, x5_1, rfl, rfl, HA, HK1, HO_3, BK534, HB⟩ := hrel
  cases gk with
  | zero => exact absurd HA.out (by simp [spec_CountEdges.l0])
  | succ k1 =>
   have H := HA.out; clear HA
   simp only [spec_CountEdges.l0] at H
   by_cases c6 : x5_1 < (t535.length : Int)
   ·
    rw [if_pos c6] at H; have c6b0 : decide (x5_1 < (t535.length : Int)) = true := decide_eq_true c6; clear c6; obtain ⟨t538, A7, H⟩ := bnd8_ H; have H' := Aside0.mk H; clear H; obtain ⟨Ao8, co8, eo8⟩ := Kd.R_slice HO_3.out; subst eo8
    go_wp2_with (first | (refine gL_ 41 17 Tryz.func41 #[.slice Ao8 t535.length co8, .int .i64 x5_1, .bool true] ?_; (with_reducible refine (spec_l6Covers.calls k1 _ _ t535 x5_1 true t538 _ ?side1 ?side2 A7.out).mono ?_); (case side1 => repeat (first | exact (Kd.R_reads' HO_3.out).2.2 | (with_reducible refine Kd.C_alloc ?_ _) | (with_reducible refine Kd.C_drewN ?_ _) | (with_reducible refine Kd.C_drew ?_))); (case side2 => exact (Kd.R_reads' HO_3.out).2.1); rintro e w9 ⟨v539, rfl, ho0, hb⟩; refine ⟨_, rfl, ?_⟩; have n_ := ac_ (Kd.R_below (by (with_reducible repeat (first | apply Kd.R_alloc | apply Kd.R_drewN | apply Kd.R_drew)); exact HO_3.out) hb) <| ac_ (Kd.R_lower ho0 (below_size q8_11)) <| ac_ (blk_below (g := gb534) (o := .cells #[.int .i64 a0_0, .slice A0_1 l0_1.length c0_1] 26 (0, 0)) q8_14 hb) <| Aside0.mk (below_step q8_11 hb); clear HO_3 BK534 HB; obtain ⟨HO_3, HO540, BK534, HB⟩ := n_; (try clear hb ho0); obtain ⟨Ao10, co10, eo10⟩ := Kd.R_slice HO540.out; subst eo10))
    go_roundg k1
    case measure => have := HK1.out; omega
    case rel => exact ⟨(wrap64 (x4_1 + (t538.length : Int))), (wrap64 (x5_1 + 1)), s3_, s3_, H', ⟨by have := HK1.out; omega⟩, ⟨(by (with_reducible repeat (first | apply Kd.R_alloc | apply Kd.R_drewN | apply Kd.R_drew)); exact HO_3.out)⟩, ⟨q8_14⟩, ⟨q8_11⟩⟩
   ·
    rw [if_neg c6] at H; have c6b0 : decide (x5_1 < (t535.length : Int)) = false := decide_eq_false c6; clear c6; obtain rfl := Option.some.inj H; obtain ⟨Ao11, co11, eo11⟩ := Kd.R_slice HO_3.out; subst eo11
    go_wp2
    go_ret
    exact ⟨(by first | rfl | (simp [errW_none, errW_some] <;> rfl) | (simp [*, errW_none, errW_some] <;> rfl)), q8_11⟩
def laws_hasInt.l0 : Nat → List Int → Int → Int → Option (Bool)
 | 0, _, _, _ => none
 | k + 1, x0, x1, x5 => if x5 < (x0.length : Int) then (if 0 ≤ x5 then (if (rd x0 x5) = x1 then (some true) else (laws_hasInt.l0 k x0 x1 (wrap64 (x5 + 1)))) else (none)) else (some false)
def laws_hasInt.f (k : Nat) (l0 : List Int) (a1 : Int) : Option (Bool) := laws_hasInt.l0 k l0 a1 0
theorem laws_hasInt.calls (k : Nat) (A0 : Option Addr) (c0 : Nat) (l0 : List Int) (a1 : Int) (r : Bool) (w : World) (hr0 : Kd.C (Kd.int .i64) w A0 l0.length l0) (hc0 : l0.length ≤ c0) (h : laws_hasInt.f k l0 a1 = some r) :
  Calls Tryz.prog 27 #[.slice A0 l0.length c0, .int .i64 a1] w fun e w' => e = .returned (.bool r) ∧ Drawn0 w w' := by
 have HR0 := Aside0.mk hr0; have HC0 := Aside0.mk hc0; clear hr0 hc0; have H := h; clear h; unfold laws_hasInt.f at H; have H' := Aside0.mk H; clear H
 go_enter Tryz.func27, Tryz.ntmps27
 go_wp2
 go_loopg [5] k (fun kq v5 w' => ∃ (x5_1 : Int), v5 = .int .i64 x5_1 ∧ Aside0 (laws_hasInt.l0 kq l0 a1 x5_1 = some r) ∧ Aside0 (kq ≤ k) ∧ Drawn0 w w')
 case atStart => exact ⟨(0), s3_, H', ⟨Nat.le_refl _⟩, s10_⟩
 case round =>
  clear H'
  try clear c2
  try clear p2
  obtain ⟨x5_1, rfl, HA, HK1, ⟨m1, rfl⟩⟩ := hrel
  cases gk with
  | zero => exact absurd HA.out (by simp [laws_hasInt.l0])
  | succ k1 =>
   have H := HA.out; clear HA
   simp only [laws_hasInt.l0] at H
   by_cases c3 : x5_1 < (l0.length : Int)
   ·
    rw [if_pos c3] at H; have c3b0 : decide (x5_1 < (l0.length : Int)) = true := decide_eq_true c3; clear c3
    by_cases c4 : 0 ≤ x5_1
    ·
     rw [if_pos c4] at H; have c4b0 : decide (0 ≤ x5_1) = true := decide_eq_true c4; clear c4
     by_cases c5 : (rd l0 x5_1) = a1
     ·
      rw [if_pos c5] at H; have c5b0 : ((rd l0 x5_1) == a1) = true := beq_iff_eq.mpr c5; have c5b1 : ((rd l0 x5_1) != a1) = false := bne_eq_false_iff_eq.mpr c5; clear c5; obtain rfl := Option.some.inj H; have p541 : 0 ≤ (x5_1 : Int) := of_decide_eq_true s4_; have q541 : x5_1 < (l0.length : Int) := of_decide_eq_true s4_; obtain ⟨ad541, e541, hx541_0⟩ := Kd.at_int HR0.out x5_1 p541 q541
      cases e541
      replace p541 := eq_true p541; replace q541 := eq_true q541
      go_wp2
      go_ret
      exact ⟨s3_, s10_⟩
     ·
      rw [if_neg c5] at H; have c5b0 : ((rd l0 x5_1) == a1) = false := beq_eq_false_iff_ne.mpr c5; have c5b1 : ((rd l0 x5_1) != a1) = true := bne_iff_ne.mpr c5; have H' := Aside0.mk H; clear H; have p541 : 0 ≤ (x5_1 : Int) := of_decide_eq_true s4_; have q541 : x5_1 < (l0.length : Int) := of_decide_eq_true s4_; obtain ⟨ad541, e541, hx541_0⟩ := Kd.at_int HR0.out x5_1 p541 q541
      cases e541
      replace p541 := eq_true p541; replace q541 := eq_true q541
      go_wp2
      go_roundg k1
      case measure => have := HK1.out; omega
      case rel => exact ⟨(wrap64 (x5_1 + 1)), s3_, H', ⟨by have := HK1.out; omega⟩, s10_⟩
    ·
     rw [if_neg c4] at H
     exact absurd H (by simp)
   ·
    rw [if_neg c3] at H; have c3b0 : decide (x5_1 < (l0.length : Int)) = false := decide_eq_false c3; clear c3; obtain rfl := Option.some.inj H
    go_wp2
    go_ret
    exact ⟨s3_, s10_⟩
end Go.Proofs.YtfmpafgmcleogaaGreatDoor.Pr
namespace Go.Proofs.YtfmpafgmcleogaaGreatDoor.Pr
open Go.RowKit Go.Proofs.YtfmpafgmcleogaaGreatDoorW.PrintWords Go.Proofs.YtfmpafgmcleogaaGreatDoorW.PrintLast Go.Proofs.YtfmpafgmcleogaaGreatDoorW.PrintMore
set_option linter.unusedVariables false
set_option linter.unusedSimpArgs false
def idxF {α : Type} (p : α → Bool) (l : List α) : Int := if l.any p = true then (l.findIdx p : Int) else -1
theorem idxF_hit {α : Type} (p : α → Bool) (l : List α) (d : α) (k : Nat) (hk : k < l.length) (h : p (l.getD k d) = true) (hn : ∀ j, j < k → p (l.getD j d) = false) : idxF p l = k := by
  have hg : ∀ j (hj : j < l.length), l.getD j d = l[j] := fun j hj => by simp [List.getD_eq_getElem?_getD, List.getElem?_eq_getElem hj]
  have hf : l.findIdx p = k := (List.findIdx_eq hk).2 ⟨by rw [← hg k hk]; exact h, fun j hj => by rw [← hg j (by omega)]; exact hn j hj⟩
  have ha : l.any p = true := List.any_eq_true.2 ⟨l[k], List.getElem_mem hk, by rw [← hg k hk]; exact h⟩
  unfold idxF
  rw [if_pos ha, hf]
theorem idxF_miss {α : Type} (p : α → Bool) (l : List α) (d : α) (hn : ∀ j, j < l.length → p (l.getD j d) = false) : idxF p l = -1 ∧ l.any p = false := by
  have ha : l.any p = false := by
    rw [List.any_eq_false]
    intro x hx
    obtain ⟨j, hj, rfl⟩ := List.getElem_of_mem hx
    have := hn j hj
    rw [List.getD_eq_getElem?_getD, List.getElem?_eq_getElem hj] at this
    simpa using this
  unfold idxF
  rw [ha]
  exact ⟨rfl, rfl⟩
theorem idxF_nonneg {α : Type} (p : α → Bool) (l : List α) : decide (0 ≤ idxF p l) = l.any p := by
  unfold idxF
  cases l.any p <;> simp
set_option maxHeartbeats 4000000
set_option maxRecDepth 100000
def FnIb (g : Nat) (lb : Array Value) (p : Int → Bool) (w : World) : Prop :=
  ∀ (W : World) (x : Int), Below w.heap.size w W → Calls Tryz.prog g (#[.int .i64 x] ++ lb) W fun e w' => e = .returned (.bool (p x)) ∧ Below W.heap.size W w'
theorem IndexFunc_int (g : Nat) (lb : Array Value) (eg : ∀ args w, (callFunc g args).run Tryz.prog w = .ok (.enter g args) w) (A : Option Addr) (c : Nat) (l : List Int) (p : Int → Bool) (w : World)
    (hr : Kd.C (Kd.int .i64) w A l.length l) (hp : FnIb g lb p w) :
    Calls Tryz.prog 87 #[.slice A l.length c, .func (.func g) #[] lb] w fun e w' => e = .returned (.int .i64 (idxF p l)) ∧ Below w.heap.size w w' := by
  have HR0 := Aside0.mk hr
  have HP := Aside0.mk hp
  clear hr hp
  go_enter Tryz.func87, Tryz.ntmps87
  go_wp2
  go_loopg [5, 8] (l.length + 1) (fun kq _ v8 w' => ∃ (x : Int), v8 = .int .i64 x ∧ Aside0 (0 ≤ x ∧ x ≤ l.length ∧ (l.length : Int) - x < kq) ∧ Aside0 (∀ j : Nat, (j : Int) < x → p (l.getD j (0 : Int)) = false) ∧ Aside0 (Below w.heap.size w w'))
  case atStart => exact ⟨0, rfl, ⟨by omega⟩, ⟨fun j hj => by omega⟩, ⟨Below.refl _ _⟩⟩
  case round =>
    obtain ⟨x, rfl, HX, HN, HB⟩ := hrel
    by_cases hlt : x < (l.length : Int)
    · have c0 : decide (x < (l.length : Int)) = true := decide_eq_true hlt
      have p0 : 0 ≤ x := HX.out.1
      obtain ⟨ad, e, hx0⟩ := Kd.at_int HR0.out x p0 hlt
      cases e
      replace hx0 := (HB.out.cell (World.block_lt_of_cell? w _ hx0)).trans hx0
      have HL := Aside0.mk hlt
      replace p0 := eq_true p0
      replace hlt := eq_true hlt
      have hcall := HP.out wr (rd l x) HB.out
      cases hq : p (rd l x) with
      | true =>
        rw [hq] at hcall
        have HQ := Aside0.mk hq
        clear hq
        go_wp2_with (go_at_fn g; refine hcall.mono ?_; rintro e w' ⟨rfl, hb⟩)
        go_ret
        have hx := HX.out
        have h1 := idxF_hit p l (0 : Int) x.toNat (by have := HL.out; omega) HQ.out (fun j hj => HN.out j (by omega))
        refine ⟨?_, below_step HB.out hb⟩
        rw [h1, Int.toNat_of_nonneg hx.1]
        rfl
      | false =>
        rw [hq] at hcall
        have HQ := Aside0.mk hq
        clear hq
        go_wp2_with (go_at_fn g; refine hcall.mono ?_; rintro e w' ⟨rfl, hb⟩)
        have hw : wrap64 (x + 1) = x + 1 := by have h1 := HX.out; have h2 := HL.out; have h3 := HR0.out.2.1; unfold wrap64; omega
        have HW := Aside0.mk hw
        clear hw
        go_roundg (gk - 1)
        case measure => have h1 := HX.out; have h2 := HL.out; omega
        case rel =>
          refine ⟨x + 1, by rw [HW.out], ⟨?_⟩, ⟨fun j hj => ?_⟩, ⟨below_step HB.out hb⟩⟩
          · have h1 := HX.out; have h2 := HL.out; omega
          · by_cases e : (j : Int) = x
            · have : j = x.toNat := by omega
              subst this
              exact HQ.out
            · exact HN.out j (by omega)
    · have c0 : decide (x < (l.length : Int)) = false := decide_eq_false hlt
      have HL := Aside0.mk hlt
      clear hlt
      go_wp2
      go_ret
      have h1 := HX.out
      have h2 := HL.out
      rw [(idxF_miss p l (0 : Int) (fun j hj => HN.out j (by omega))).1]
      exact ⟨rfl, HB.out⟩
theorem ContainsFunc_int (g : Nat) (lb : Array Value) (eg : ∀ args w, (callFunc g args).run Tryz.prog w = .ok (.enter g args) w) (A : Option Addr) (c : Nat) (l : List Int) (p : Int → Bool) (w : World)
    (hr : Kd.C (Kd.int .i64) w A l.length l) (hp : FnIb g lb p w) :
    Calls Tryz.prog 72 #[.slice A l.length c, .func (.func g) #[] lb] w fun e w' => e = .returned (.bool (l.any p)) ∧ Below w.heap.size w w' := by
  have h0 := IndexFunc_int g lb eg A c l p w hr hp
  have h1 := Aside0.mk (idxF_nonneg p l)
  clear hr hp
  go_enter Tryz.func72, Tryz.ntmps72
  go_wp2_with (go_at_call 87; refine h0.mono ?_; rintro e w' ⟨rfl, hb⟩)
  go_ret
  exact ⟨by rw [← h1.out]; rfl, hb⟩
def Tab64 (w : World) : Prop := ∀ j, j < 64 → w.cell? ⟨1, j, none⟩ = some (.int .u8 (Lib.deBruijn64tab.getD j 0))
theorem Tab64.below {w w' : World} (h : Tab64 w) (hb : Below w.heap.size w w') : Tab64 w' := fun j hj => (hb.cell (p := ⟨1, j, none⟩) (World.block_lt_of_cell? w _ (h j hj))).trans (h j hj)
theorem Tab64.drewN {w : World} (h : Tab64 w) (n : Nat) : Tab64 (w.drewN n) := h.below (pw_below_drewN (Below.refl _ _) n)
theorem Tab64.drew {w : World} (h : Tab64 w) : Tab64 w.drew := h.below (below_drew1 (Below.refl _ _))
theorem Tab64.alloc {w : World} (h : Tab64 w) (o : Obj) : Tab64 (w.alloc o) := h.below (below_alloc (Below.refl _ _) o)
theorem tz64_key (x a : Nat) (hx : x < 18446744073709551616) (hx0 : x ≠ 0) (hlow : x &&& (18446744073709551616 - x) = a) :
    IntKind.u64.wrap (bits BinOp.and IntKind.u64 (x : Int) (IntKind.u64.wrap (-(x : Int))) * 285870213051353865) / 288230376151711744 = ((a * 285870213051353865 % 18446744073709551616 / 288230376151711744 : Nat) : Int) := by
  have e1 : IntKind.u64.wrap (-(x : Int)) = ((18446744073709551616 - x : Nat) : Int) := by rw [IntKind.wrap_u64]; omega
  rw [e1, bits_and_u64_nat x _ hx (by omega), hlow, IntKind.wrap_u64]
  omega
set_option maxHeartbeats 1000000 in
theorem tz64_core (x k idx : Nat) (w : World) (hx0 : ((x : Int) == 0) = false)
    (key : IntKind.u64.wrap (bits BinOp.and IntKind.u64 (x : Int) (IntKind.u64.wrap (-(x : Int))) * 285870213051353865) / 288230376151711744 = (idx : Int))
    (hi : idx < 64) (hk : k < 64) (hcell : w.cell? ⟨1, idx, none⟩ = some (.int .u8 k)) :
    Calls Tryz.prog 114 #[.int .u64 x] w fun e w' => e = .returned (.int .i64 k) ∧ w' = w := by
  go_enter Tryz.func114, Tryz.ntmps114
  go_wp2_with (simp only [key])
  go_ret
  exact ⟨rfl, rfl⟩
theorem tz64_zero (w : World) : Calls Tryz.prog 114 #[.int .u64 0] w fun e w' => e = .returned (.int .i64 64) ∧ w' = w := by
  go_enter Tryz.func114, Tryz.ntmps114
  go_wp2
  go_ret
  exact ⟨rfl, rfl⟩
def bits_TrailingZeros64.f (a0 : Int) : Option Int := if 0 ≤ a0 ∧ a0 < 18446744073709551616 then some ((Lib.ctz 64 a0.toNat : Nat) : Int) else none
theorem bits_TrailingZeros64.calls (a0 : Int) (r : Int) (w : World) (htab : Tab64 w) (h : bits_TrailingZeros64.f a0 = some r) :
    Calls Tryz.prog 114 #[.int .u64 a0] w fun e w' => e = .returned (.int .i64 r) ∧ Drawn0 w w' := by
  unfold bits_TrailingZeros64.f at h
  by_cases ha : 0 ≤ a0 ∧ a0 < 18446744073709551616
  · rw [if_pos ha] at h
    obtain rfl := Option.some.inj h
    obtain ⟨x, rfl⟩ : ∃ x : Nat, a0 = (x : Int) := ⟨a0.toNat, by omega⟩
    rw [Int.toNat_natCast]
    have hx : x < 18446744073709551616 := by omega
    by_cases hx0 : x = 0
    · subst hx0
      refine (tz64_zero w).mono ?_
      rintro e w' ⟨rfl, rfl⟩
      exact ⟨rfl, Drawn0.refl _⟩
    · obtain ⟨hlow, hk⟩ := Lib.lowest_bit 64 x hx0 hx
      obtain ⟨hi, htb⟩ := Lib.deBruijn64_at _ hk
      have hcell := htab _ hi
      rw [htb] at hcell
      refine (tz64_core x _ _ w (by simp; omega) (tz64_key x _ hx hx0 hlow) hi hk hcell).mono ?_
      rintro e w' ⟨rfl, rfl⟩
      exact ⟨rfl, Drawn0.refl _⟩
  · rw [if_neg ha] at h
    cases h
end Go.Proofs.YtfmpafgmcleogaaGreatDoor.Pr
namespace Go.Proofs.YtfmpafgmcleogaaGreatDoor.Pr
set_option maxHeartbeats 40000000
set_option maxRecDepth 100000
open Go.RowKit Go.Proofs.YtfmpafgmcleogaaGreatDoorW.PrintWords Go.Proofs.YtfmpafgmcleogaaGreatDoorW.PrintLast Go.Proofs.YtfmpafgmcleogaaGreatDoorW.PrintMore
attribute [local go_sem] max2_int min2_int max_two min_two max_three min_three max_four min_four
set_option linter.unusedVariables false
set_option linter.unusedSimpArgs false
theorem bnd10_ {α β : Type} {o : Option α} {f : α → Option β} {r : β} (h : o.bind f = some r) : ∃ a, Aside0 (o = some a) ∧ f a = some r := by
 obtain ⟨a, h1, h2⟩ := Option.bind_eq_some_iff.mp h
 exact ⟨a, ⟨h1⟩, h2⟩
def bits_TrailingZeros.f (a0 : Int) : Option (Int) := (bits_TrailingZeros64.f a0).bind fun t274 => (some t274)
theorem bits_TrailingZeros.calls (a0 : Int) (r : Int) (w : World) (htab : Tab64 w) (h : bits_TrailingZeros.f a0 = some r) :
  Calls Tryz.prog 100 #[.int .u64 a0] w fun e w' => e = .returned (.int .i64 r) ∧ Drawn0 w w' := by
 have HTB := Aside0.mk htab; clear htab; have H := h; clear h; unfold bits_TrailingZeros.f at H; obtain ⟨t274, A2, H⟩ := bnd10_ H; obtain rfl := Option.some.inj H
 go_enter Tryz.func100, Tryz.ntmps100
 go_wp2_with (first | ((with_reducible refine gate_callee (f := 114) rfl ?_); refine goesL_ (some 7) rfl rfl Tryz.func114 (by kernel_rfl) rfl #[.int .u64 a0] rfl (by (try simp only [List.map_toArray, List.map_cons, List.map_nil]); first | done | rfl | (simp only [List.length_drop, List.length_take]; rfl)) ?_; (with_reducible refine (bits_TrailingZeros64.calls a0 t274 _ ?tab A2.out).mono ?_); (case tab => first | exact HTB.out | (refine Tab64.below HTB.out ?_; repeat (first | (with_reducible first | exact HB.out | apply below_alloc | apply pw_below_drewN | apply below_drew1) | exact HB.out)) | (repeat (first | exact HTB.out | apply Tab64.drewN | apply Tab64.drew | apply Tab64.alloc))); rintro e w' ⟨rfl, ⟨nd, rfl⟩⟩; refine ⟨_, rfl, ?_⟩))
 go_ret
 exact ⟨rf_, (by repeat (first | exact Drawn0.refl _ | apply Drawn0.step))⟩
def impl_BeforeSet.j0 : Nat → Int → Int → Bool → Option (Bool)
 | 0, _, _, _ => none
 | k + 1, x0, x1, x17 => if x17 = true then (some false) else ((bits_TrailingZeros.f (IntKind.u64.wrap (Go.bits .xor .i64 x0 x1))).bind fun t277 => ((impl_HasElement.f x1 t277).bind fun t278 => (some t278)))
def impl_BeforeSet.f (k : Nat) (a0 : Int) (a1 : Int) : Option (Bool) := (impl_isAnySet.f a0).bind fun t275 => (if t275 = true then ((impl_isAnySet.f a1).bind fun t276 => (if t276 = true then (impl_BeforeSet.j0 k a0 a1 (a0 == a1)) else (impl_BeforeSet.j0 k a0 a1 true))) else (impl_BeforeSet.j0 k a0 a1 true))
theorem impl_BeforeSet.calls (k : Nat) (a0 : Int) (a1 : Int) (r : Bool) (w : World) (htab : Tab64 w) (h : impl_BeforeSet.f k a0 a1 = some r) :
  Calls Tryz.prog 93 #[.int .i64 a0, .int .i64 a1] w fun e w' => e = .returned (.bool r) ∧ Drawn0 w w' := by
 have HTB := Aside0.mk htab; clear htab; have H := h; clear h; unfold impl_BeforeSet.f at H; have HC3 := Aside0.mk H; clear H
 go_enter Tryz.func93, Tryz.ntmps93
 go_upto_region 1 with (fail)
 go_cut [17] (fun v17 wc => ∃ (kq : Nat) (x17_2 : Bool), v17 = .bool x17_2 ∧ Aside0 (impl_BeforeSet.j0 kq a0 a1 x17_2 = some r) ∧ Aside0 (kq ≤ k) ∧ Drawn0 w wc)
 case first =>
  have H := HC3.out; clear HC3; obtain ⟨t275, A4, H⟩ := bnd10_ H
  by_cases c5 : t275 = true
  ·
   subst c5; rw [if_pos rfl] at H; obtain ⟨t276, A6, H⟩ := bnd10_ H
   by_cases c7 : t276 = true
   ·
    subst c7; rw [if_pos rfl] at H; have H' := Aside0.mk H; clear H
    go_wp2_with (first | (refine gL_ 89 6 Tryz.func89 #[.int .i64 a0] ?_; (with_reducible refine (impl_isAnySet.calls a0 true _ A4.out).mono ?_); rintro e w' ⟨rfl, ⟨nd, rfl⟩⟩; refine ⟨_, rfl, ?_⟩) | (go_at_call 89; (with_reducible refine (impl_isAnySet.calls a1 true _ A6.out).mono ?_); rintro e w' ⟨rfl, ⟨nd, rfl⟩⟩))
    go_meet
    case rel => exact ⟨_, ((a0 == a1)), s3_, H', ⟨(by first | omega | exact Nat.le_refl _)⟩, s10_⟩
   ·
    replace c7 := Bool.eq_false_iff.mpr c7; subst c7
    rw [if_neg (show ¬ (false = true) by decide)] at H
    have H' := Aside0.mk H; clear H
    go_wp2_with (first | (refine gL_ 89 6 Tryz.func89 #[.int .i64 a0] ?_; (with_reducible refine (impl_isAnySet.calls a0 true _ A4.out).mono ?_); rintro e w' ⟨rfl, ⟨nd, rfl⟩⟩; refine ⟨_, rfl, ?_⟩) | (go_at_call 89; (with_reducible refine (impl_isAnySet.calls a1 false _ A6.out).mono ?_); rintro e w' ⟨rfl, ⟨nd, rfl⟩⟩))
    go_meet
    case rel => exact ⟨_, (true), s3_, H', ⟨(by first | omega | exact Nat.le_refl _)⟩, s10_⟩
  ·
   replace c5 := Bool.eq_false_iff.mpr c5; subst c5
   rw [if_neg (show ¬ (false = true) by decide)] at H
   have H' := Aside0.mk H; clear H
   go_wp2_with (first | (refine gL_ 89 6 Tryz.func89 #[.int .i64 a0] ?_; (with_reducible refine (impl_isAnySet.calls a0 false _ A4.out).mono ?_); rintro e w' ⟨rfl, ⟨nd, rfl⟩⟩; refine ⟨_, rfl, ?_⟩))
   go_meet
   case rel => exact ⟨_, (true), s3_, H', ⟨(by first | omega | exact Nat.le_refl _)⟩, s10_⟩
 case rest =>
  clear HC3
  try clear p2
  try clear c5
  try clear c7
  obtain ⟨kq, x17_2, rfl, HA, HJ2, ⟨mc2, rfl⟩⟩ := hcut
  cases kq with
  | zero => exact absurd HA.out (by simp [impl_BeforeSet.j0])
  | succ kj2 =>
   have H := HA.out; clear HA
   simp only [impl_BeforeSet.j0] at H
   by_cases c8 : x17_2 = true
   ·
    subst c8; rw [if_pos rfl] at H; obtain rfl := Option.some.inj H
    go_wp2
    go_ret
    exact ⟨s3_, s10_⟩
   ·
    replace c8 := Bool.eq_false_iff.mpr c8; subst c8
    rw [if_neg (show ¬ (false = true) by decide)] at H
    obtain ⟨t277, A9, H⟩ := bnd10_ H; obtain ⟨t278, A10, H⟩ := bnd10_ H; obtain rfl := Option.some.inj H
    go_wp2_with (first | (refine gL_ 100 23 Tryz.func100 #[.int .u64 (IntKind.u64.wrap (Go.bits .xor .i64 a0 a1))] ?_; (with_reducible refine (bits_TrailingZeros.calls (IntKind.u64.wrap (Go.bits .xor .i64 a0 a1)) t277 _ ?tab A9.out).mono ?_); (case tab => first | exact HTB.out | (refine Tab64.below HTB.out ?_; repeat (first | (with_reducible first | exact HB.out | apply below_alloc | apply pw_below_drewN | apply below_drew1) | exact HB.out)) | (repeat (first | exact HTB.out | apply Tab64.drewN | apply Tab64.drew | apply Tab64.alloc))); rintro e w' ⟨rfl, ⟨nd, rfl⟩⟩; refine ⟨_, rfl, ?_⟩) | (refine gL_ 96 24 Tryz.func96 #[.int .i64 a1, .int .i64 t277] ?_; (with_reducible refine (impl_HasElement.calls a1 t277 t278 _ A10.out).mono ?_); rintro e w' ⟨rfl, ⟨nd, rfl⟩⟩; refine ⟨_, rfl, ?_⟩))
    go_ret
    exact ⟨s3_, s10_⟩
def impl_SortLectic_2.f (k : Nat) (a0 : Int) (a1 : Int) : Option (Int) := if a0 = a1 then (some 0) else ((impl_BeforeSet.f k a0 a1).bind fun t279 => (if t279 = true then (some (-1)) else (some 1)))
theorem impl_SortLectic_2.calls (k : Nat) (a0 : Int) (a1 : Int) (r : Int) (w : World) (htab : Tab64 w) (h : impl_SortLectic_2.f k a0 a1 = some r) :
  Calls Tryz.prog 92 #[.int .i64 a0, .int .i64 a1] w fun e w' => e = .returned (.int .i64 r) ∧ Drawn0 w w' := by
 have HTB := Aside0.mk htab; clear htab; have H := h; clear h; unfold impl_SortLectic_2.f at H
 by_cases c3 : a0 = a1
 ·
  rw [if_pos c3] at H; have c3b0 : (a0 == a1) = true := beq_iff_eq.mpr c3; have c3b1 : (a0 != a1) = false := bne_eq_false_iff_eq.mpr c3; clear c3; obtain rfl := Option.some.inj H
  go_enter Tryz.func92, Tryz.ntmps92
  go_wp2
  go_ret
  exact ⟨s3_, (by repeat (first | exact Drawn0.refl _ | apply Drawn0.step))⟩
 ·
  rw [if_neg c3] at H; have c3b0 : (a0 == a1) = false := beq_eq_false_iff_ne.mpr c3; have c3b1 : (a0 != a1) = true := bne_iff_ne.mpr c3; obtain ⟨t279, A4, H⟩ := bnd10_ H
  by_cases c5 : t279 = true
  ·
   subst c5; rw [if_pos rfl] at H; obtain rfl := Option.some.inj H
   go_enter Tryz.func92, Tryz.ntmps92
   go_wp2_with (first | (refine gL_ 93 12 Tryz.func93 #[.int .i64 a0, .int .i64 a1] ?_; (with_reducible refine (impl_BeforeSet.calls k a0 a1 true _ ?tab A4.out).mono ?_); (case tab => first | exact HTB.out | (refine Tab64.below HTB.out ?_; repeat (first | (with_reducible first | exact HB.out | apply below_alloc | apply pw_below_drewN | apply below_drew1) | exact HB.out)) | (repeat (first | exact HTB.out | apply Tab64.drewN | apply Tab64.drew | apply Tab64.alloc))); rintro e w' ⟨rfl, ⟨nd, rfl⟩⟩; refine ⟨_, rfl, ?_⟩))
   go_ret
   exact ⟨s3_, (by repeat (first | exact Drawn0.refl _ | apply Drawn0.step))⟩
  ·
   replace c5 := Bool.eq_false_iff.mpr c5; subst c5
   rw [if_neg (show ¬ (false = true) by decide)] at H
   obtain rfl := Option.some.inj H
   go_enter Tryz.func92, Tryz.ntmps92
   go_wp2_with (first | (refine gL_ 93 12 Tryz.func93 #[.int .i64 a0, .int .i64 a1] ?_; (with_reducible refine (impl_BeforeSet.calls k a0 a1 false _ ?tab A4.out).mono ?_); (case tab => first | exact HTB.out | (refine Tab64.below HTB.out ?_; repeat (first | (with_reducible first | exact HB.out | apply below_alloc | apply pw_below_drewN | apply below_drew1) | exact HB.out)) | (repeat (first | exact HTB.out | apply Tab64.drewN | apply Tab64.drew | apply Tab64.alloc))); rintro e w' ⟨rfl, ⟨nd, rfl⟩⟩; refine ⟨_, rfl, ?_⟩))
   go_ret
   exact ⟨s3_, (by repeat (first | exact Drawn0.refl _ | apply Drawn0.step))⟩
end Go.Proofs.YtfmpafgmcleogaaGreatDoor.Pr
namespace Go.Proofs.YtfmpafgmcleogaaGreatDoor.Pr
open Go.RowKit Go.Proofs.YtfmpafgmcleogaaGreatDoorW.PrintWords Go.Proofs.YtfmpafgmcleogaaGreatDoorW.PrintLast Go.Proofs.YtfmpafgmcleogaaGreatDoorW.PrintMore
set_option linter.unusedVariables false
set_option linter.unusedSimpArgs false
def slices_Clone_int.f (l0 : List Int) : Option (List Int) := if l0.length < 8796093022208 then some l0 else none
set_option maxHeartbeats 4000000 in
set_option maxRecDepth 100000 in
theorem slices_Clone_int.calls (A0 : Option Addr) (c0 : Nat) (l0 : List Int) (r : List Int) (w : World) (hr0 : Kd.C (Kd.int .i64) w A0 l0.length l0) (hc0 : l0.length ≤ c0) (h : slices_Clone_int.f l0 = some r) :
    Calls Tryz.prog 90 #[.slice A0 l0.length c0] w fun e w' => ∃ v0_ : Value, e = .returned (v0_) ∧ Kd.R (Kd.int .i64) 3 w' w.heap.size (fun _ => True) v0_ r ∧ Below w.heap.size w w' := by
  unfold slices_Clone_int.f at h
  by_cases hlen : l0.length < 8796093022208
  · rw [if_pos hlen] at h
    obtain rfl := Option.some.inj h
    clear h
    have HR0 := Aside0.mk hr0
    have HC0 := Aside0.mk hc0
    have HL := Aside0.mk hlen
    have HB := Aside0.mk (Below.refl w.heap.size w)
    cases A0 with
    | none =>
      have h0 : l0 = [] := by
        rcases Nat.eq_zero_or_pos l0.length with h | h
        · exact List.eq_nil_of_length_eq_zero h
        · obtain ⟨ad, e, _⟩ := hr0.2.2 h
          cases e
      have H0 := Aside0.mk h0
      clear h0 hr0 hc0 hlen
      have hnil : ∀ W, (binOp .eql 24 (.slice none l0.length c0) (.slice none 0 0)).run Tryz.prog W = .ok (.bool true) W := fun W => Lib.run_eql_slice_nil W _ _ _ _ _ _ _ Tryz.underlying24
      go_enter Tryz.func90, Tryz.ntmps90
      go_wp2
      go_ret
      exact ⟨_, rfl, by rw [H0.out]; exact Kd.R_nil _ _ _ _ _, HB.out⟩
    | some ad =>
      clear hr0 hc0 hlen
      have hnil : ∀ W, (binOp .eql 24 (.slice (some ad) l0.length c0) (.slice none 0 0)).run Tryz.prog W = .ok (.bool false) W := fun W => Lib.run_eql_slice_nil W _ _ _ _ _ _ _ Tryz.underlying24
      go_enter Tryz.func90, Tryz.ntmps90
      go_wp2_with (first | (refine rl_ (Kd.int .i64) 3 5 ?_; intro v5 w5 ho6 hb hg_ hnew_; clear hg_ hnew_; have n0_ := Aside0.mk (Kd.R_lower ho6 (below_size HB.out)); have n1_ := Aside0.mk (below_step HB.out hb); clear HB; have HO := n0_; have HB := n1_; clear n0_ n1_; clear hb ho6) | ((with_reducible refine gate_builtin (b := .append) (xs := #[.tmp 5, .tmp 6]) rfl ?_); at_builtin; refine Kd.R_append_rows (Kd.int .i64) (w0 := w) w.heap.size rfl (.tmp 5) (.tmp 6) 24 3 (.int .i64 0) 8 rfl Tryz.underlying24 info3 rfl (by decide) (by omega) v5 [] l0 _ _ _ (fun _ => True) (fun _ => False) rfl rfl ?aO ?aR (fun _ _ h => h) (fun _ h => h.elim) ?aF ?aB ?aS ?aL ?_; (case aR => exact (Kd.C_below HR0.out HB.out)); (case aB => exact HB.out); (case aF => exact (fun _ _ => trivial)); (case aO => exact HO.out); (case aS => exact below_size HB.out); (case aL => have := HL.out; simp; omega); intro v6 w8 ho hb hg hat; have n0_ := Aside0.mk (hb); have n1_ := Aside0.mk (ho); clear HB HO; have HB := n0_; have HO := n1_; clear n0_ n1_; clear ho hb hg hat))
      go_ret
      exact ⟨_, rfl, HO.out, HB.out⟩
  · rw [if_neg hlen] at h
    cases h
set_option maxHeartbeats 4000000
set_option maxRecDepth 100000
def FnCb (g : Nat) (lb : Array Value) (p : S51 → Bool) (w : World) : Prop :=
  ∀ (W : World) (x : S51), Below w.heap.size w W → Calls Tryz.prog g (#[.agg #[.int .i64 x.f0, .int .i64 x.f1]] ++ lb) W fun e w' => e = .returned (.bool (p x)) ∧ Below W.heap.size W w'
theorem IndexFunc_con (g : Nat) (lb : Array Value) (eg : ∀ args w, (callFunc g args).run Tryz.prog w = .ok (.enter g args) w) (A : Option Addr) (c : Nat) (l : List S51) (p : S51 → Bool) (w : World)
    (hr : Kd.C k51 w A l.length l) (hp : FnCb g lb p w) :
    Calls Tryz.prog 58 #[.slice A l.length c, .func (.func g) #[] lb] w fun e w' => e = .returned (.int .i64 (idxF p l)) ∧ Below w.heap.size w w' := by
  have hu := Tryz.underlying51
  have HR0 := Aside0.mk hr
  have HP := Aside0.mk hp
  clear hr hp
  go_enter Tryz.func58, Tryz.ntmps58
  go_wp2
  go_loopg [5, 8] (l.length + 1) (fun kq _ v8 w' => ∃ (x : Int), v8 = .int .i64 x ∧ Aside0 (0 ≤ x ∧ x ≤ l.length ∧ (l.length : Int) - x < kq) ∧ Aside0 (∀ j : Nat, (j : Int) < x → p (l.getD j z51) = false) ∧ Aside0 (Below w.heap.size w w'))
  case atStart => exact ⟨0, rfl, ⟨by omega⟩, ⟨fun j hj => by omega⟩, ⟨Below.refl _ _⟩⟩
  case round =>
    obtain ⟨x, rfl, HX, HN, HB⟩ := hrel
    by_cases hlt : x < (l.length : Int)
    · have c0 : decide (x < (l.length : Int)) = true := decide_eq_true hlt
      have p0 : 0 ≤ x := HX.out.1
      obtain ⟨ad, e, hx0, hx1⟩ := at_T51 HR0.out x p0 hlt
      cases e
      replace hx0 := (HB.out.cell (World.block_lt_of_cell? w _ hx0)).trans hx0
      replace hx1 := (HB.out.cell (World.block_lt_of_cell? w _ hx1)).trans hx1
      have HL := Aside0.mk hlt
      replace p0 := eq_true p0
      replace hlt := eq_true hlt
      have hcall := HP.out wr (rd_T51 l x) HB.out
      cases hq : p (rd_T51 l x) with
      | true =>
        rw [hq] at hcall
        have HQ := Aside0.mk hq
        clear hq
        go_wp2_with (go_at_fn g; refine hcall.mono ?_; rintro e w' ⟨rfl, hb⟩)
        go_ret
        have hx := HX.out
        have h1 := idxF_hit p l z51 x.toNat (by have := HL.out; omega) HQ.out (fun j hj => HN.out j (by omega))
        refine ⟨?_, below_step HB.out hb⟩
        rw [h1, Int.toNat_of_nonneg hx.1]
        rfl
      | false =>
        rw [hq] at hcall
        have HQ := Aside0.mk hq
        clear hq
        go_wp2_with (go_at_fn g; refine hcall.mono ?_; rintro e w' ⟨rfl, hb⟩)
        have hw : wrap64 (x + 1) = x + 1 := by have h1 := HX.out; have h2 := HL.out; have h3 := HR0.out.2.1; unfold wrap64; omega
        have HW := Aside0.mk hw
        clear hw
        go_roundg (gk - 1)
        case measure => have h1 := HX.out; have h2 := HL.out; omega
        case rel =>
          refine ⟨x + 1, by rw [HW.out], ⟨?_⟩, ⟨fun j hj => ?_⟩, ⟨below_step HB.out hb⟩⟩
          · have h1 := HX.out; have h2 := HL.out; omega
          · by_cases e : (j : Int) = x
            · have : j = x.toNat := by omega
              subst this
              exact HQ.out
            · exact HN.out j (by omega)
    · have c0 : decide (x < (l.length : Int)) = false := decide_eq_false hlt
      have HL := Aside0.mk hlt
      clear hlt
      go_wp2
      go_ret
      have h1 := HX.out
      have h2 := HL.out
      rw [(idxF_miss p l z51 (fun j hj => HN.out j (by omega))).1]
      exact ⟨rfl, HB.out⟩
def impl_lattice_index_IndexFunc0.f (l0 : List S51) (a1 : Int) : Option Int := some (idxF (fun x => decide (x.f0 = a1)) l0)
def impl_lattice_join_IndexFunc0.f (l0 : List S51) (a1 : Int) : Option Int := some (idxF (fun x => decide (x.f1 = a1)) l0)
theorem index1_calls (a b s : Int) (g : Nat) (W : World) (hc : W.cell? ⟨g, 0, none⟩ = some (.int .i64 s)) :
    Calls Tryz.prog 75 #[.agg #[.int .i64 a, .int .i64 b], .pointer (some ⟨g, 0, none⟩)] W fun e w' => e = .returned (.bool (decide (a = s))) ∧ Below W.heap.size W w' := by
  have hb : g < W.heap.size := World.block_lt_of_cell? W _ hc
  have hu := Tryz.underlying51
  go_enter Tryz.func75, Tryz.ntmps75
  go_wp2
  go_ret
  exact ⟨rfl, by (repeat (first | apply below_alloc | apply pw_below_drewN | apply below_drew1 | exact Below.refl _ _))⟩
theorem join1_calls (a b s : Int) (g : Nat) (W : World) (hc : W.cell? ⟨g, 0, none⟩ = some (.int .i64 s)) :
    Calls Tryz.prog 59 #[.agg #[.int .i64 a, .int .i64 b], .pointer (some ⟨g, 0, none⟩)] W fun e w' => e = .returned (.bool (decide (b = s))) ∧ Below W.heap.size W w' := by
  have hb : g < W.heap.size := World.block_lt_of_cell? W _ hc
  have hu := Tryz.underlying51
  go_enter Tryz.func59, Tryz.ntmps59
  go_wp2
  go_ret
  exact ⟨rfl, by (repeat (first | apply below_alloc | apply pw_below_drewN | apply below_drew1 | exact Below.refl _ _))⟩
theorem impl_lattice_index_IndexFunc0.calls (A0 : Option Addr) (c0 : Nat) (l0 : List S51) (a1 : Int) (r : Int) (w : World) (hr0 : Kd.C k51 w A0 l0.length l0) (hc0 : l0.length ≤ c0) (h : impl_lattice_index_IndexFunc0.f l0 a1 = some r)
    {g : Nat} (hg : w.heap[g]? = some (.cells #[.int .i64 a1] 3 (0, 0))) :
    Calls Tryz.prog 58 #[.slice A0 l0.length c0, .func (.func 75) #[] #[.pointer (some ⟨g, 0, none⟩)]] w fun e w' => e = .returned (.int .i64 r) ∧ Below w.heap.size w w' := by
  obtain rfl := Option.some.inj h
  have eg : ∀ args w, (callFunc 75 args).run Tryz.prog w = .ok (.enter 75 args) w := enters_of Tryz.func75 (by kernel_rfl) rfl
  refine IndexFunc_con 75 #[.pointer (some ⟨g, 0, none⟩)] eg A0 c0 l0 (fun x => decide (x.f0 = a1)) w hr0 fun W x hb => ?_
  rw [show (#[.agg #[.int .i64 x.f0, .int .i64 x.f1]] ++ #[.pointer (some ⟨g, 0, none⟩)] : Array Value) = #[.agg #[.int .i64 x.f0, .int .i64 x.f1], .pointer (some ⟨g, 0, none⟩)] from rfl]
  exact index1_calls x.f0 x.f1 a1 g W ((blk_cell (blk_below hg hb) 0).trans rfl)
theorem impl_lattice_join_IndexFunc0.calls (A0 : Option Addr) (c0 : Nat) (l0 : List S51) (a1 : Int) (r : Int) (w : World) (hr0 : Kd.C k51 w A0 l0.length l0) (hc0 : l0.length ≤ c0) (h : impl_lattice_join_IndexFunc0.f l0 a1 = some r)
    {g : Nat} (hg : w.heap[g]? = some (.cells #[.int .i64 a1] 3 (0, 0))) :
    Calls Tryz.prog 58 #[.slice A0 l0.length c0, .func (.func 59) #[] #[.pointer (some ⟨g, 0, none⟩)]] w fun e w' => e = .returned (.int .i64 r) ∧ Below w.heap.size w w' := by
  obtain rfl := Option.some.inj h
  have eg : ∀ args w, (callFunc 59 args).run Tryz.prog w = .ok (.enter 59 args) w := enters_of Tryz.func59 (by kernel_rfl) rfl
  refine IndexFunc_con 59 #[.pointer (some ⟨g, 0, none⟩)] eg A0 c0 l0 (fun x => decide (x.f1 = a1)) w hr0 fun W x hb => ?_
  rw [show (#[.agg #[.int .i64 x.f0, .int .i64 x.f1]] ++ #[.pointer (some ⟨g, 0, none⟩)] : Array Value) = #[.agg #[.int .i64 x.f0, .int .i64 x.f1], .pointer (some ⟨g, 0, none⟩)] from rfl]
  exact join1_calls x.f0 x.f1 a1 g W ((blk_cell (blk_below hg hb) 0).trans rfl)
end Go.Proofs.YtfmpafgmcleogaaGreatDoor.Pr
namespace Go.Proofs.YtfmpafgmcleogaaGreatDoor.Pr
set_option maxHeartbeats 40000000
set_option maxRecDepth 100000
open Go.RowKit Go.Proofs.YtfmpafgmcleogaaGreatDoorW.PrintWords Go.Proofs.YtfmpafgmcleogaaGreatDoorW.PrintLast Go.Proofs.YtfmpafgmcleogaaGreatDoorW.PrintMore
attribute [local go_sem] max2_int min2_int max_two min_two max_three min_three max_four min_four
set_option linter.unusedVariables false
set_option linter.unusedSimpArgs false
theorem bnd11_ {α β : Type} {o : Option α} {f : α → Option β} {r : β} (h : o.bind f = some r) : ∃ a, Aside0 (o = some a) ∧ f a = some r := by
 obtain ⟨a, h1, h2⟩ := Option.bind_eq_some_iff.mp h
 exact ⟨a, ⟨h1⟩, h2⟩
theorem q11_1 {P : Prop} (h : P := by repeat (first | (with_reducible first | exact HB.out | apply below_alloc | apply pw_below_drewN | apply below_drew1 | refine below_set ?_ GE345.out) | exact HB.out)) : P := h
def impl_lattice_index.f (l0 : List (S51)) (a1 : Int) : Option (Int) := (impl_lattice_index_IndexFunc0.f l0 a1).bind fun t346 => (some t346)
theorem impl_lattice_index.calls (A0 : Option Addr) (c0 : Nat) (l0 : List (S51)) (a1 : Int) (r : Int) (w : World) (hr0 : Kd.C k51 w A0 l0.length l0) (hc0 : l0.length ≤ c0) (h : impl_lattice_index.f l0 a1 = some r) :
  Calls Tryz.prog 45 #[.slice A0 l0.length c0, .int .i64 a1] w fun e w' => e = .returned (.int .i64 r) ∧ Below w.heap.size w w' := by
 have HR0 := Aside0.mk hr0; have HC0 := Aside0.mk hc0; clear hr0 hc0; have HB := Aside0.mk (Below.refl w.heap.size w); have H := h; clear h; unfold impl_lattice_index.f at H; obtain ⟨t346, A3, H⟩ := bnd11_ H; obtain rfl := Option.some.inj H
 go_enter Tryz.func45, Tryz.ntmps45
 go_wp2_with (first | (refine be_ 3 #[.int .i64 a1] 3 ?_; intro gb345 hg w4 hbox hb; have n_ := ac_ (below_step s0_ hb) <| ac_ (hbox) <| ac_ ((gz_ w hg s0_)) <| Aside0.mk ((gz_ w hg s0_)); clear HB; obtain ⟨HB, BK345, GW345, GE345⟩ := n_; clear hb hbox hg; have hcz5_0 : w4.cell? ⟨gb345, 0, none⟩ = some (.int .i64 a1) := (blk_cell BK345.out 0).trans rfl; have hfz5_0 := blk_frozen BK345.out 0) | ((with_reducible refine gate_callee (f := 58) rfl ?_); refine goesL_ (some 7) rfl rfl Tryz.func58 (by kernel_rfl) rfl #[.slice A0 l0.length c0, .func (.func 75) #[] #[.pointer (some ⟨gb345, 0, none⟩)]] rfl (by (try simp only [List.map_toArray, List.map_cons, List.map_nil]); first | done | rfl | (simp only [List.length_drop, List.length_take]; rfl)) ?_; (with_reducible refine (impl_lattice_index_IndexFunc0.calls ?u1_1 ?u1_2 l0 a1 t346 _ ?side1 ?side2 A3.out ?box0).mono ?_); (case box0 => (with_reducible repeat (first | refine blk_drewN ?_ _ | refine blk_drew ?_ | refine blk_alloc ?_ _)); exact BK345.out); (case side1 => repeat (first | exact (Kd.C_below HR0.out HB.out) | (with_reducible refine Kd.C_alloc ?_ _) | (with_reducible refine Kd.C_drewN ?_ _) | (with_reducible refine Kd.C_drew ?_))); (case side2 => exact HC0.out); rintro e w6 ⟨rfl, hb⟩; refine ⟨_, rfl, ?_⟩; have n_ := ac_ (blk_below (g := gb345) (o := .cells #[.int .i64 a1] 3 (0, 0)) (by (with_reducible repeat (first | refine blk_drewN ?_ _ | refine blk_drew ?_ | refine blk_alloc ?_ _)); exact BK345.out) hb) <| Aside0.mk (below_step q11_1 hb); clear BK345 HB; obtain ⟨BK345, HB⟩ := n_; (try clear hb)))
 go_ret
 exact ⟨(by first | rfl | (simp [errW_none, errW_some] <;> rfl) | (simp [*, errW_none, errW_some] <;> rfl)), q11_1⟩
def impl_lattice_meet.f (l0 : List (S51)) (a1 : Int) (a2 : Int) : Option (Int) := if 0 ≤ a1 then (if a1 < (l0.length : Int) then (if 0 ≤ a2 then (if a2 < (l0.length : Int) then ((impl_lattice_index.f l0 (Go.bits .and .i64 ((rd_T51 l0 a1).f0) ((rd_T51 l0 a2).f0))).bind fun t349 => (some t349)) else (none)) else (none)) else (none)) else (none)
def impl_lattice_meet.T1 : Bool × List (List Nat × List Nat) := (true, [([], []), ([], []), ([], []), ([1, 2], [1, 2]), ([3], [3]), ([4], [4]), ([], []), ([], []), ([6, 7], [6, 7]), ([8], [8]), ([9], [9]), ([5, 10], [5, 10]), ([0, 11], [0, 11]), ([12, 12, 0, 1, 2, 3, 4, 5, 6, 7, 8, 9, 10, 11, 12], [12])])
def impl_lattice_meet.B1 : List Nat := [0, 0, 0, 6, 14, 30, 0, 0, 192, 448, 960, 2046, 4095, 8191]
theorem impl_lattice_meet.tab1 : rtab .any (opsOf Tryz.f32 1) = impl_lattice_meet.T1 := by kernel_rfl
theorem impl_lattice_meet.bits1 : waitsOk impl_lattice_meet.T1.2 impl_lattice_meet.B1 = true := by kernel_rfl
theorem impl_lattice_meet.calls (A0 : Option Addr) (c0 : Nat) (l0 : List (S51)) (a1 : Int) (a2 : Int) (r : Int) (w : World) (hr0 : Kd.C k51 w A0 l0.length l0) (hc0 : l0.length ≤ c0) (h : impl_lattice_meet.f l0 a1 a2 = some r) :
  Calls Tryz.prog 32 #[.slice A0 l0.length c0, .int .i64 a1, .int .i64 a2] w fun e w' => e = .returned (.int .i64 r) ∧ Below w.heap.size w w' := by
 have HR0 := Aside0.mk hr0; have HC0 := Aside0.mk hc0; clear hr0 hc0; have HB := Aside0.mk (Below.refl w.heap.size w); have H := h; clear h; unfold impl_lattice_meet.f at H
 by_cases c4 : 0 ≤ a1
 ·
  rw [if_pos c4] at H; have c4b0 : decide (0 ≤ a1) = true := decide_eq_true c4; clear c4
  by_cases c5 : a1 < (l0.length : Int)
  ·
   rw [if_pos c5] at H; have c5b0 : decide (a1 < (l0.length : Int)) = true := decide_eq_true c5; clear c5
   by_cases c6 : 0 ≤ a2
   ·
    rw [if_pos c6] at H; have c6b0 : decide (0 ≤ a2) = true := decide_eq_true c6; clear c6
    by_cases c7 : a2 < (l0.length : Int)
    ·
     rw [if_pos c7] at H; have c7b0 : decide (a2 < (l0.length : Int)) = true := decide_eq_true c7; clear c7; obtain ⟨t349, A8, H⟩ := bnd11_ H; obtain rfl := Option.some.inj H
     go_enter Tryz.func32, Tryz.ntmps32
     try go_wp2
     have n0_ := Aside0.mk (below_drew1 HB.out); clear HB; have HB := n0_; clear n0_; have p347 : 0 ≤ (a1 : Int) := of_decide_eq_true s4_; have q347 : a1 < (l0.length : Int) := of_decide_eq_true s4_; obtain ⟨ad347, e347, hx347_0, hx347_1⟩ := at_T51 HR0.out a1 p347 q347; have hw347_1 := hx347_1; have hw347_0 := hx347_0
     cases e347
     replace hx347_0 := (HB.out.cell (World.block_lt_of_cell? w _ hx347_0)).trans hx347_0; replace hx347_1 := (HB.out.cell (World.block_lt_of_cell? w _ hx347_1)).trans hx347_1; replace p347 := eq_true p347; replace q347 := eq_true q347; have p348 : 0 ≤ (a2 : Int) := of_decide_eq_true s4_; have q348 : a2 < (l0.length : Int) := of_decide_eq_true s4_; obtain ⟨ad348, e348, hx348_0, hx348_1⟩ := at_T51 HR0.out a2 p348 q348; have hw348_1 := hx348_1; have hw348_0 := hx348_0
     obtain rfl : ad347 = ad348 := (by injection e348)
     replace hx348_0 := (HB.out.cell (World.block_lt_of_cell? w _ hx348_0)).trans hx348_0; replace hx348_1 := (HB.out.cell (World.block_lt_of_cell? w _ hx348_1)).trans hx348_1; replace p348 := eq_true p348; replace q348 := eq_true q348
     refine start_ (n := 14) (S := fun w' => w'.cell? (ad347.add ((a1).toNat * 2)) = some (.int .i64 ((rd_T51 l0 a1).f0)) ∧ w'.cell? ⟨(ad347.add ((a1).toNat * 2)).block, (ad347.add ((a1).toNat * 2)).off + 1, none⟩ = some (.int .i64 ((rd_T51 l0 a1).f1)) ∧ w'.cell? (ad347.add ((a2).toNat * 2)) = some (.int .i64 ((rd_T51 l0 a2).f0)) ∧ w'.cell? ⟨(ad347.add ((a2).toNat * 2)).block, (ad347.add ((a2).toNat * 2)).off + 1, none⟩ = some (.int .i64 ((rd_T51 l0 a2).f1))) (ds := []) (tb_ 14 0) (by kernel_rfl) rfl rfl ⟨((HB.out.cell (World.block_lt_of_cell? w _ hw347_0)).trans hw347_0), ((HB.out.cell (World.block_lt_of_cell? w _ hw347_1)).trans hw347_1), ((HB.out.cell (World.block_lt_of_cell? w _ hw348_0)).trans hw348_0), ((HB.out.cell (World.block_lt_of_cell? w _ hw348_1)).trans hw348_1)⟩ (fun hHeld => ?_); refine with_tabW impl_lattice_meet.tab1 impl_lattice_meet.bits1 (fun HT_ HW_ => ?_)
     generalize w.drew = w9 at HB hx347_0 hx347_1 hx348_0 hx348_1 hHeld ⊢
     refine pl_ 0 7 (tb_ 14 1) ?_; refine pl_ 1 8 (tb_ 14 3) ?_; refine pl_ 2 9 (tb_ 14 7) ?_; refine pl_ 3 10 (tb_ 14 15) ?_; refine pl_ 4 11 (tb_ 14 31) ?_; refine pl_ 6 13 (tb_ 14 95) ?_; refine pl_ 7 14 (tb_ 14 223) ?_; refine pl_ 8 15 (tb_ 14 479) ?_; refine pl_ 9 16 (tb_ 14 991) ?_; refine tk_ 5 12 (tb_ 14 1023) hHeld ?_; refine tk_ 10 17 (tb_ 14 2047) hHeld ?_; refine pl_ 11 18 (tb_ 14 4095) ?_
     refine on_ 12 19 (tb_ 14 8191) (fun K hK => ?_)
     refine goes_ Tryz.func45 (by kernel_rfl) rfl #[.slice (some ad347) l0.length c0, .int .i64 (Go.bits .and .i64 ((rd_T51 l0 a1).f0) ((rd_T51 l0 a2).f0))] (by rfl) rfl rfl (by (try simp only [List.map_toArray, List.map_cons, List.map_nil]); first | done | rfl | (simp only [List.length_drop, List.length_take]; rfl)) ?_
     with_reducible refine (impl_lattice_index.calls _ _ l0 (Go.bits .and .i64 ((rd_T51 l0 a1).f0) ((rd_T51 l0 a2).f0)) t349 _ ?side1 ?side2 A8.out).mono ?_
     (case side1 => repeat (first | exact (Kd.C_below HR0.out HB.out) | (with_reducible refine Kd.C_alloc ?_ _) | (with_reducible refine Kd.C_drewN ?_ _) | (with_reducible refine Kd.C_drew ?_)))
     (case side2 => exact HC0.out)
     rintro e w10 ⟨rfl, hb⟩
     refine ⟨_, rfl, ?_⟩
     have n0_ := Aside0.mk (below_step s0_ hb); clear HB; have HB := n0_; clear n0_
     (try clear hb)
     (try clear hb2)
     (try clear hk)
     (try clear hi)
     refine hK.out _ _ ⟨((HB.out.cell (World.block_lt_of_cell? w _ hw347_0)).trans hw347_0), ((HB.out.cell (World.block_lt_of_cell? w _ hw347_1)).trans hw347_1), ((HB.out.cell (World.block_lt_of_cell? w _ hw348_0)).trans hw348_0), ((HB.out.cell (World.block_lt_of_cell? w _ hw348_1)).trans hw348_1)⟩ (fun hHeld => ?_)
     clear hK K
     refine norm_ (a' := ?_) ?_ ?_
     rotate_left
     ·
      show Act.put _ (some 19) _ = _
      simp only [Act.put, List.setIfInBounds_toArray, List.set_cons_zero, List.set_cons_succ, i64_w, i32_w]
      rfl
     refine pl_ 13 6 (tb_ 14 16383) ?_
     refine done_ (done_of HT_.out (by kernel_rfl)) ?_
     try go_wp2
     go_ret
     exact ⟨(by first | rfl | (simp [errW_none, errW_some] <;> rfl) | (simp [*, errW_none, errW_some] <;> rfl)), s0_⟩
    ·
     rw [if_neg c7] at H
     exact absurd H (by simp)
   ·
    rw [if_neg c6] at H
    exact absurd H (by simp)
  ·
   rw [if_neg c5] at H
   exact absurd H (by simp)
 ·
  rw [if_neg c4] at H
  exact absurd H (by simp)
theorem bnd12_ {α β : Type} {o : Option α} {f : α → Option β} {r : β} (h : o.bind f = some r) : ∃ a, Aside0 (o = some a) ∧ f a = some r := by
 obtain ⟨a, h1, h2⟩ := Option.bind_eq_some_iff.mp h
 exact ⟨a, ⟨h1⟩, h2⟩
theorem q12_1 {P : Prop} (h : P := by repeat (first | (with_reducible first | exact HB.out | apply below_alloc | apply pw_below_drewN | apply below_drew1 | refine below_set ?_ GE359.out) | exact HB.out)) : P := h
theorem q12_3 {P : Prop} (h : P := by have := World.block_lt_of_cell? _ _ hw357_0; first | rwa [add_block] at this | exact this) : P := h
theorem q12_4 {P : Prop} (h : P := by have := World.block_lt_of_cell? _ _ hw357_1; first | rwa [add_block] at this | exact this) : P := h
theorem q12_5 {P : Prop} (h : P := by have := World.block_lt_of_cell? _ _ hw358_0; first | rwa [add_block] at this | exact this) : P := h
theorem q12_6 {P : Prop} (h : P := by have := World.block_lt_of_cell? _ _ hw358_1; first | rwa [add_block] at this | exact this) : P := h
def impl_lattice_join.f (l0 : List (S51)) (a1 : Int) (a2 : Int) : Option (Int) := if 0 ≤ a1 then (if a1 < (l0.length : Int) then (if 0 ≤ a2 then (if a2 < (l0.length : Int) then ((impl_lattice_join_IndexFunc0.f l0 (Go.bits .and .i64 ((rd_T51 l0 a1).f1) ((rd_T51 l0 a2).f1))).bind fun t360 => (some t360)) else (none)) else (none)) else (none)) else (none)
def impl_lattice_join.T1 : Bool × List (List Nat × List Nat) := (true, [([], []), ([], []), ([0, 1], [0, 1]), ([2], [2]), ([3], [3]), ([], []), ([], []), ([5, 6], [5, 6]), ([7], [7]), ([8], [8]), ([4, 9], [4, 9]), ([], []), ([11, 10, 0, 1, 2, 3, 4, 5, 6, 7, 8, 9, 10, 11], [10, 11])])
def impl_lattice_join.B1 : List Nat := [0, 0, 3, 7, 15, 0, 0, 96, 224, 480, 1023, 0, 4095]
theorem impl_lattice_join.tab1 : rtab .any (opsOf Tryz.f33 1) = impl_lattice_join.T1 := by kernel_rfl
theorem impl_lattice_join.bits1 : waitsOk impl_lattice_join.T1.2 impl_lattice_join.B1 = true := by kernel_rfl
set_option maxHeartbeats 40000000 in
set_option maxRecDepth 100000 in
theorem impl_lattice_join.calls (A0 : Option Addr) (c0 : Nat) (l0 : List (S51)) (a1 : Int) (a2 : Int) (r : Int) (w : World) (hr0 : Kd.C k51 w A0 l0.length l0) (hc0 : l0.length ≤ c0) (h : impl_lattice_join.f l0 a1 a2 = some r) :
  Calls Tryz.prog 33 #[.slice A0 l0.length c0, .int .i64 a1, .int .i64 a2] w fun e w' => e = .returned (.int .i64 r) ∧ Below w.heap.size w w' := by
 have HR0 := Aside0.mk hr0; have HC0 := Aside0.mk hc0; clear hr0 hc0; have HB := Aside0.mk (Below.refl w.heap.size w); have H := h; clear h; unfold impl_lattice_join.f at H
 by_cases c4 : 0 ≤ a1
 ·
  rw [if_pos c4] at H; have c4b0 : decide (0 ≤ a1) = true := decide_eq_true c4; clear c4
  by_cases c5 : a1 < (l0.length : Int)
  ·
   rw [if_pos c5] at H; have c5b0 : decide (a1 < (l0.length : Int)) = true := decide_eq_true c5; clear c5
   by_cases c6 : 0 ≤ a2
   ·
    rw [if_pos c6] at H; have c6b0 : decide (0 ≤ a2) = true := decide_eq_true c6; clear c6
    by_cases c7 : a2 < (l0.length : Int)
    ·
     rw [if_pos c7] at H; have c7b0 : decide (a2 < (l0.length : Int)) = true := decide_eq_true c7; clear c7; obtain ⟨t360, A8, H⟩ := bnd12_ H; obtain rfl := Option.some.inj H
     go_enter Tryz.func33, Tryz.ntmps33
     try go_wp2
     have n0_ := Aside0.mk (below_drew1 HB.out); clear HB; have HB := n0_; clear n0_; have p357 : 0 ≤ (a1 : Int) := of_decide_eq_true s4_; have q357 : a1 < (l0.length : Int) := of_decide_eq_true s4_; obtain ⟨ad357, e357, hx357_0, hx357_1⟩ := at_T51 HR0.out a1 p357 q357; have hw357_1 := hx357_1; have hw357_0 := hx357_0
     cases e357
     replace hx357_0 := (HB.out.cell (World.block_lt_of_cell? w _ hx357_0)).trans hx357_0; replace hx357_1 := (HB.out.cell (World.block_lt_of_cell? w _ hx357_1)).trans hx357_1; replace p357 := eq_true p357; replace q357 := eq_true q357; have p358 : 0 ≤ (a2 : Int) := of_decide_eq_true s4_; have q358 : a2 < (l0.length : Int) := of_decide_eq_true s4_; obtain ⟨ad358, e358, hx358_0, hx358_1⟩ := at_T51 HR0.out a2 p358 q358; have hw358_1 := hx358_1; have hw358_0 := hx358_0
     obtain rfl : ad357 = ad358 := (by injection e358)
     replace hx358_0 := (HB.out.cell (World.block_lt_of_cell? w _ hx358_0)).trans hx358_0; replace hx358_1 := (HB.out.cell (World.block_lt_of_cell? w _ hx358_1)).trans hx358_1; replace p358 := eq_true p358; replace q358 := eq_true q358
     refine start_ (n := 13) (S := fun w' => w'.cell? (ad357.add ((a1).toNat * 2)) = some (.int .i64 ((rd_T51 l0 a1).f0)) ∧ w'.cell? ⟨(ad357.add ((a1).toNat * 2)).block, (ad357.add ((a1).toNat * 2)).off + 1, none⟩ = some (.int .i64 ((rd_T51 l0 a1).f1)) ∧ w'.cell? (ad357.add ((a2).toNat * 2)) = some (.int .i64 ((rd_T51 l0 a2).f0)) ∧ w'.cell? ⟨(ad357.add ((a2).toNat * 2)).block, (ad357.add ((a2).toNat * 2)).off + 1, none⟩ = some (.int .i64 ((rd_T51 l0 a2).f1))) (ds := []) (tb_ 13 0) (by kernel_rfl) rfl rfl ⟨((HB.out.cell (World.block_lt_of_cell? w _ hw357_0)).trans hw357_0), ((HB.out.cell (World.block_lt_of_cell? w _ hw357_1)).trans hw357_1), ((HB.out.cell (World.block_lt_of_cell? w _ hw358_0)).trans hw358_0), ((HB.out.cell (World.block_lt_of_cell? w _ hw358_1)).trans hw358_1)⟩ (fun hHeld => ?_); refine with_tabW impl_lattice_join.tab1 impl_lattice_join.bits1 (fun HT_ HW_ => ?_)
     generalize w.drew = w9 at HB hx357_0 hx357_1 hx358_0 hx358_1 hHeld ⊢
     refine pl_ 0 8 (tb_ 13 1) ?_; refine pl_ 1 9 (tb_ 13 3) ?_; refine pl_ 2 10 (tb_ 13 7) ?_; refine pl_ 3 11 (tb_ 13 15) ?_; refine pl_ 5 13 (tb_ 13 47) ?_; refine pl_ 6 14 (tb_ 13 111) ?_; refine pl_ 7 15 (tb_ 13 239) ?_; refine pl_ 8 16 (tb_ 13 495) ?_; refine tk_ 4 12 (tb_ 13 511) hHeld ?_; refine tk_ 9 17 (tb_ 13 1023) hHeld ?_; refine pl_ 10 18 (tb_ 13 2047) ?_
     refine on_ 11 7 (tb_ 13 4095) (fun K hK => ?_)
     refine box_step ?hg (N := 7) ?hd (cs := #[.int .i64 0]) (t := 3) ?hr ?_; (case hd => rfl); (case hg => rfl); (case hr => first | (go_simp; done) | (go_simp; rfl))
     intro gb359 hg w10 hbox hb
     have n0_ := Aside0.mk (below_step s0_ hb); have n1_ := Aside0.mk (hbox)
     have n2_ := Aside0.mk ((gz_ w hg s0_))
     have n3_ := Aside0.mk ((gz_ w hg s0_))
     clear HB; have HB := n0_; have BK359 := n1_; have GW359 := n2_; have GE359 := n3_; clear n0_ n1_ n2_ n3_; clear hb hbox hg
     refine hK.out _ _ ⟨((HB.out.cell (World.block_lt_of_cell? w _ hw357_0)).trans hw357_0), ((HB.out.cell (World.block_lt_of_cell? w _ hw357_1)).trans hw357_1), ((HB.out.cell (World.block_lt_of_cell? w _ hw358_0)).trans hw358_0), ((HB.out.cell (World.block_lt_of_cell? w _ hw358_1)).trans hw358_1)⟩ (fun hHeld => ?_)
     clear hK K
     refine norm_ (a' := ?_) ?_ ?_
     rotate_left
     ·
      show Act.put _ (some 7) _ = _
      simp only [Act.put, List.setIfInBounds_toArray, List.set_cons_zero, List.set_cons_succ, i64_w, i32_w]
      rfl
     refine one_ (i := 12) (N := none) (tb_ 13 8191) rfl rfl (one_of HT_.out (by kernel_rfl)) (by decide) (fun K hK => ?_)
     have hs11 : w10.cell? ⟨gb359, 0, none⟩ = some (.int .i64 0) := (blk_cell BK359.out 0).trans rfl; have hfs11 := blk_frozen BK359.out 0
     refine skip_ (w1 := ?_) (by rfl) rfl ?_ ?_
     rotate_left
     ·
      go_simp
      rfl
     refine hK.out _ _ ⟨((cell_far (p := ⟨gb359, _, none⟩) (by first | exact Nat.ne_of_lt (Nat.lt_of_lt_of_le q12_3 GW359.out) | (rw [add_block]; exact Nat.ne_of_lt (Nat.lt_of_lt_of_le q12_3 GW359.out)) | (show (Addr.add _ _).block ≠ _; rw [add_block]; exact Nat.ne_of_lt (Nat.lt_of_lt_of_le q12_3 GW359.out)) | (dsimp only; exact Nat.ne_of_lt (Nat.lt_of_lt_of_le q12_3 GW359.out))) _).trans (hHeld.1)), ((cell_far (p := ⟨gb359, _, none⟩) (by first | exact Nat.ne_of_lt (Nat.lt_of_lt_of_le q12_4 GW359.out) | (rw [add_block]; exact Nat.ne_of_lt (Nat.lt_of_lt_of_le q12_4 GW359.out)) | (show (Addr.add _ _).block ≠ _; rw [add_block]; exact Nat.ne_of_lt (Nat.lt_of_lt_of_le q12_4 GW359.out)) | (dsimp only; exact Nat.ne_of_lt (Nat.lt_of_lt_of_le q12_4 GW359.out))) _).trans (hHeld.2.1)), ((cell_far (p := ⟨gb359, _, none⟩) (by first | exact Nat.ne_of_lt (Nat.lt_of_lt_of_le q12_5 GW359.out) | (rw [add_block]; exact Nat.ne_of_lt (Nat.lt_of_lt_of_le q12_5 GW359.out)) | (show (Addr.add _ _).block ≠ _; rw [add_block]; exact Nat.ne_of_lt (Nat.lt_of_lt_of_le q12_5 GW359.out)) | (dsimp only; exact Nat.ne_of_lt (Nat.lt_of_lt_of_le q12_5 GW359.out))) _).trans (hHeld.2.2.1)), ((cell_far (p := ⟨gb359, _, none⟩) (by first | exact Nat.ne_of_lt (Nat.lt_of_lt_of_le q12_6 GW359.out) | (rw [add_block]; exact Nat.ne_of_lt (Nat.lt_of_lt_of_le q12_6 GW359.out)) | (show (Addr.add _ _).block ≠ _; rw [add_block]; exact Nat.ne_of_lt (Nat.lt_of_lt_of_le q12_6 GW359.out)) | (dsimp only; exact Nat.ne_of_lt (Nat.lt_of_lt_of_le q12_6 GW359.out))) _).trans (hHeld.2.2.2))⟩ (fun hHeld => ?_)
     clear hK K
     refine done_ (done_of HT_.out (by kernel_rfl)) ?_
     have hcz12_0 : w10.cell? ⟨gb359, 0, none⟩ = some (.int .i64 0) := (blk_cell BK359.out 0).trans rfl; have hfz12_0 := blk_frozen BK359.out 0
     try go_wp2_with (first | ((with_reducible refine gate_callee (f := 58) rfl ?_); refine goesL_ (some 21) rfl rfl Tryz.func58 (by kernel_rfl) rfl #[.slice (some ad357) l0.length c0, .func (.func 59) #[] #[.pointer (some ⟨gb359, 0, none⟩)]] rfl (by (try simp only [List.map_toArray, List.map_cons, List.map_nil]); first | done | rfl | (simp only [List.length_drop, List.length_take]; rfl)) ?_; (with_reducible refine (impl_lattice_join_IndexFunc0.calls ?u2_1 ?u2_2 l0 (Go.bits .and .i64 ((rd_T51 l0 a1).f1) ((rd_T51 l0 a2).f1)) t360 _ ?side1 ?side2 A8.out ?box0).mono ?_); (case box0 => first | ((with_reducible repeat (first | refine blk_drewN ?_ _ | refine blk_drew ?_ | refine blk_alloc ?_ _)); exact BK359.out) | ((with_reducible repeat (first | refine blk_drewN ?_ _ | refine blk_drew ?_ | refine blk_alloc ?_ _)); refine blk_put (cs := #[.int .i64 0]) ?_ 0 _ rfl; (with_reducible repeat (first | refine blk_drewN ?_ _ | refine blk_drew ?_ | refine blk_alloc ?_ _)); exact BK359.out)); (case side1 => exact Kd.C_below HR0.out q12_1); (case side2 => exact HC0.out); rintro e w13 ⟨rfl, hb⟩; refine ⟨_, rfl, ?_⟩; have n_ := ac_ (blk_below (g := gb359) (o := .cells #[.int .i64 (Go.bits .and .i64 ((rd_T51 l0 a1).f1) ((rd_T51 l0 a2).f1))] 3 (0, 0)) (by (with_reducible repeat (first | refine blk_drewN ?_ _ | refine blk_drew ?_ | refine blk_alloc ?_ _)); refine blk_put (cs := #[.int .i64 0]) ?_ 0 _ rfl; (with_reducible repeat (first | refine blk_drewN ?_ _ | refine blk_drew ?_ | refine blk_alloc ?_ _)); exact BK359.out) hb) <| Aside0.mk (below_step q12_1 hb); clear BK359 HB; obtain ⟨BK359, HB⟩ := n_; (try clear hb)))
     go_ret
     exact ⟨(by first | rfl | (simp [errW_none, errW_some] <;> rfl) | (simp [*, errW_none, errW_some] <;> rfl)), q12_1⟩
    ·
     rw [if_neg c7] at H
     exact absurd H (by simp)
   ·
    rw [if_neg c6] at H
    exact absurd H (by simp)
  ·
   rw [if_neg c5] at H
   exact absurd H (by simp)
 ·
  rw [if_neg c4] at H
  exact absurd H (by simp)
end Go.Proofs.YtfmpafgmcleogaaGreatDoor.Pr
namespace Go.Proofs.YtfmpafgmcleogaaGreatDoor.Pr
open Go.RowKit Go.Proofs.YtfmpafgmcleogaaGreatDoorW.PrintWords Go.Proofs.YtfmpafgmcleogaaGreatDoorW.PrintLast Go.Proofs.YtfmpafgmcleogaaGreatDoorW.PrintMore
set_option linter.unusedVariables false
set_option linter.unusedSimpArgs false
def choN (p : Int → Bool) (n : Nat) : List Int := ((List.range n).filter fun i : Nat => p (i : Int)).map fun i : Nat => (i : Int)
def choLoop (p : Int → Bool) : Nat → List Int → Int → Int → Option (List Int)
  | 0, _, _, _ => none
  | k + 1, x5, x9, x10 => if x10 < x9 then (if p x10 = true then (if x5.length < 8796093022208 then (choLoop p k (x5 ++ [x10]) x9 (wrap64 (x10 + 1))) else none) else (choLoop p k x5 x9 (wrap64 (x10 + 1)))) else (some x5)
theorem choLoop_val (p : Int → Bool) (n : Nat) (hn : n ≤ 1048576) : ∀ (d i : Nat) (out : List Int), i + d = n → out.length ≤ i → choLoop p (d + 1) out (n : Int) (i : Int) = some (out ++ ((List.range' i d).filter fun i : Nat => p (i : Int)).map fun i : Nat => (i : Int)) := by
  intro d
  induction d with
  | zero =>
    intro i out hi ho
    unfold choLoop
    rw [if_neg (by omega)]
    simp
  | succ d ih =>
    intro i out hi ho
    unfold choLoop
    have hsmall : out.length < 8796093022208 := by
      have : ∀ n : Nat, n ≤ 1048576 → n < 8796093022208 := fun n _ => by omega
      exact this _ (by omega)
    rw [if_pos (by omega), show wrap64 ((i : Int) + 1) = ((i + 1 : Nat) : Int) from by unfold wrap64; omega, List.range'_succ, List.filter_cons]
    cases hp : p (i : Int) with
    | true =>
      rw [if_pos rfl, if_pos hsmall, ih (i + 1) _ (by omega) (by rw [List.length_append, List.length_singleton]; omega), if_pos rfl, List.append_assoc, List.map_cons]
      rfl
    | false =>
      rw [if_neg (by decide), ih (i + 1) _ (by omega) (by omega), if_neg (by decide)]
set_option maxHeartbeats 40000000 in
set_option maxRecDepth 100000 in
theorem chosen_at (g : Nat) (cb : Array Value) (eg : ∀ args w, (callFunc g args).run Tryz.prog w = .ok (.enter g args) w) (p : Int → Bool) (A0 : Option Addr) (c0 : Nat) (n : Nat) (w : World) (hn : n ≤ 1048576)
    (hp : ∀ (W : World) (x : Int), 0 ≤ x → x < (n : Int) → Below w.heap.size w W → Calls Tryz.prog g (#[.int .i64 x] ++ cb) W fun e w' => e = .returned (.bool (p x)) ∧ Below W.heap.size W w') :
    Calls Tryz.prog 60 #[.slice A0 n c0, .func (.func g) #[] cb] w fun e w' => ∃ v0_ : Value, e = .returned (v0_) ∧ Kd.R (Kd.int .i64) 3 w' w.heap.size (fun _ => True) v0_ (choN p n) ∧ Below w.heap.size w w' := by
  have HP := Aside0.mk hp
  have HN0 := Aside0.mk hn
  have H : choLoop p (n + 1) ([] : List Int) (n : Int) 0 = some (choN p n) := by
    have := choLoop_val p n hn n 0 [] (by omega) (Nat.le_refl _)
    rw [← List.range_eq_range'] at this
    exact this
  clear hp hn
  have HB := Aside0.mk (Below.refl w.heap.size w)
  generalize choN p n = r at *
  generalize hkn : n + 1 = k at *
  clear hkn
  have H' := Aside0.mk H
  clear H
  go_enter Tryz.func60, Tryz.ntmps60
  go_wp2_with (first | (refine rl_ (Kd.int .i64) 3 7 ?_; intro v320 w2 ho3 hb hg_ hnew_; clear hg_ hnew_; have n0_ := Aside0.mk (Kd.R_lower ho3 (below_size (by repeat (first | (with_reducible first | exact HB.out | apply below_alloc | apply pw_below_drewN | apply below_drew1) | exact HB.out)))); have n1_ := Aside0.mk (below_step (by repeat (first | (with_reducible first | exact HB.out | apply below_alloc | apply pw_below_drewN | apply below_drew1) | exact HB.out)) hb); clear HB; have HO321 := n0_; have HB := n1_; clear n0_ n1_; clear hb ho3))
  go_loopg [5, 10] k (fun kq v5 v10 w' => ∃ (x5_1 : List Int) (x10_1 : Int), v10 = .int .i64 x10_1 ∧ Aside0 (0 ≤ x10_1) ∧ Aside0 (choLoop p kq x5_1 (n : Int) x10_1 = some r) ∧ Aside0 (kq ≤ k) ∧ Aside0 (Kd.R (Kd.int .i64) 3 w' w.heap.size (fun _ => True) v5 x5_1) ∧ Aside0 (Below w.heap.size w w'))
  case atStart => exact ⟨([] : List Int), (0), rf_, ⟨Int.le_refl 0⟩, H', ⟨Nat.le_refl _⟩, ⟨by (with_reducible repeat (first | apply Kd.R_alloc | apply Kd.R_drewN | apply Kd.R_drew)); exact HO321.out⟩, ⟨by repeat (first | (with_reducible first | exact HB.out | apply below_alloc | apply pw_below_drewN | apply below_drew1) | exact HB.out)⟩⟩
  case round =>
    clear H'
    obtain ⟨x5_1, x10_1, rfl, H0, HA, HK1, HO_5, HB⟩ := hrel
    cases gk with
    | zero => exact absurd HA.out (by simp [choLoop])
    | succ k1 =>
      have H := HA.out
      clear HA
      simp only [choLoop] at H
      by_cases c4 : x10_1 < (n : Int)
      · rw [if_pos c4] at H
        have c4b0 : decide (x10_1 < (n : Int)) = true := decide_eq_true c4
        have HL := Aside0.mk c4
        clear c4
        have hcall := fun W => HP.out W x10_1 H0.out HL.out
        have HW : Aside0 (0 ≤ wrap64 (x10_1 + 1)) := ⟨by have h1 := H0.out; have h2 := HL.out; have h3 := HN0.out; unfold wrap64; omega⟩
        cases hq : p x10_1 with
        | true =>
          rw [hq] at hcall
          rw [hq, if_pos rfl] at H
          clear hq
          by_cases c8 : x5_1.length < 8796093022208
          · rw [if_pos c8] at H
            have LMc8 := Aside0.mk c8
            clear c8
            have H' := Aside0.mk H
            have HC := Aside0.mk hcall
            clear H hcall
            go_wp2_with fail
            refine (HC.out _ (by repeat (first | (with_reducible first | exact HB.out | apply below_alloc | apply pw_below_drewN | apply below_drew1) | exact HB.out))).mono ?_
            rintro e w8 ⟨rfl, hb⟩
            have n0_ := Aside0.mk (Kd.R_below (by (with_reducible repeat (first | apply Kd.R_alloc | apply Kd.R_drewN | apply Kd.R_drew)); exact HO_5.out) hb)
            have n1_ := Aside0.mk (below_step (by repeat (first | (with_reducible first | exact HB.out | apply below_alloc | apply pw_below_drewN | apply below_drew1) | exact HB.out)) hb)
            clear HB HO_5
            have HO_5 := n0_
            have HB := n1_
            clear n0_ n1_ hb
            go_wp2_with (first | ((with_reducible refine gate_builtin (b := .append) (xs := #[.tmp 16, .tmp 18]) rfl ?_); at_builtin; refine Kd.R_append (Kd.int .i64) (w0 := w) w.heap.size rfl (.tmp 16) (.tmp 18) 24 3 (.int .i64 0) 8 rfl Tryz.underlying24 info3 rfl (by decide) (by omega) u5 x5_1 (x10_1) [.int .i64 (x10_1)] (fun _ => True) (fun _ => False) rfl rfl ?aP (fun _ hk => hk.elim) ?aF ?aO ?aB ?aS ?aL ?_; (case aP => exact rfl); (case aB => exact (by repeat (first | (with_reducible first | exact HB.out | apply below_alloc | apply pw_below_drewN | apply below_drew1) | exact HB.out))); (case aF => exact (fun _ _ => trivial)); (case aO => exact (by (with_reducible repeat (first | apply Kd.R_alloc | apply Kd.R_drewN | apply Kd.R_drew)); exact HO_5.out)); (case aS => exact (below_size (by repeat (first | (with_reducible first | exact HB.out | apply below_alloc | apply pw_below_drewN | apply below_drew1) | exact HB.out)))); (case aL => have := LMc8.out; omega); intro v325 w9 ho hb hg hat; have n0_ := Aside0.mk (hb); have n1_ := Aside0.mk (ho); clear HB; clear HO_5; have HB := n0_; have HO326 := n1_; clear n0_ n1_; clear ho hb hg hat))
            go_roundg k1
            case measure => have := HK1.out; omega
            case rel => exact ⟨(x5_1 ++ [x10_1]), (wrap64 (x10_1 + 1)), rf_, HW, H', ⟨by have := HK1.out; omega⟩, ⟨by (with_reducible repeat (first | apply Kd.R_alloc | apply Kd.R_drewN | apply Kd.R_drew)); exact HO326.out⟩, ⟨by repeat (first | (with_reducible first | exact HB.out | apply below_alloc | apply pw_below_drewN | apply below_drew1) | exact HB.out)⟩⟩
          · rw [if_neg c8] at H
            exact absurd H (by simp)
        | false =>
          rw [hq] at hcall
          rw [hq, if_neg (by decide)] at H
          clear hq
          have H' := Aside0.mk H
          have HC := Aside0.mk hcall
          clear H hcall
          go_wp2_with fail
          refine (HC.out _ (by repeat (first | (with_reducible first | exact HB.out | apply below_alloc | apply pw_below_drewN | apply below_drew1) | exact HB.out))).mono ?_
          rintro e w8 ⟨rfl, hb⟩
          have n0_ := Aside0.mk (Kd.R_below (by (with_reducible repeat (first | apply Kd.R_alloc | apply Kd.R_drewN | apply Kd.R_drew)); exact HO_5.out) hb)
          have n1_ := Aside0.mk (below_step (by repeat (first | (with_reducible first | exact HB.out | apply below_alloc | apply pw_below_drewN | apply below_drew1) | exact HB.out)) hb)
          clear HB HO_5
          have HO_5 := n0_
          have HB := n1_
          clear n0_ n1_ hb
          go_wp2
          go_roundg k1
          case measure => have := HK1.out; omega
          case rel => exact ⟨x5_1, (wrap64 (x10_1 + 1)), rf_, HW, H', ⟨by have := HK1.out; omega⟩, ⟨by (with_reducible repeat (first | apply Kd.R_alloc | apply Kd.R_drewN | apply Kd.R_drew)); exact HO_5.out⟩, ⟨by repeat (first | (with_reducible first | exact HB.out | apply below_alloc | apply pw_below_drewN | apply below_drew1) | exact HB.out)⟩⟩
      · rw [if_neg c4] at H
        have c4b0 : decide (x10_1 < (n : Int)) = false := decide_eq_false c4
        clear c4
        obtain rfl := Option.some.inj H
        go_wp2
        go_ret
        exact ⟨_, by first | rfl | (simp [errW_none, errW_some] <;> rfl) | (simp [*, errW_none, errW_some] <;> rfl), by (with_reducible repeat (first | apply Kd.R_alloc | apply Kd.R_drewN | apply Kd.R_drew)); exact HO_5.out, by repeat (first | (with_reducible first | exact HB.out | apply below_alloc | apply pw_below_drewN | apply below_drew1) | exact HB.out)⟩
open Go.RowKit Go.Maps
abbrev kyH (a : Nat) : Lit := .int .i64 (a : Int)
def agrees (F : Nat → Nat) (D : DataW Unit) : Prop := IsMap D ∧ ∀ x : Nat, Maps.has D (kyH x) = true → ∀ z, D.atKey (kyH x) z = .lit (.int .i64 (F x : Int))
def known (n : Nat) (D : DataW Unit) : Nat := ((List.range n).filter fun x => Maps.has D (kyH x)).length
theorem kyH_key (a : Nat) : WideAt.IsKeyLit (kyH a) := by simp [WideAt.IsKeyLit]
theorem kyH_ne {a b : Nat} (h : b ≠ a) : kyH b ≠ kyH a := fun e => h (by injection e with _ e; exact Int.natCast_inj.1 e)
theorem agrees_empty (F : Nat → Nat) : agrees F (.map []) := ⟨isMap_empty, fun x h => by cases h⟩
theorem agrees_put {F : Nat → Nat} {D : DataW Unit} (h : agrees F D) (a : Nat) : agrees F (D.put (kyH a) (.lit (.int .i64 (F a : Int)))) := by
  refine ⟨h.1.put _ _, fun x hx z => ?_⟩
  by_cases e : x = a
  · subst e
    exact atKey_put_same h.1 (kyH_key _) _ _
  · rw [atKey_put_other (kyH_ne e)]
    rw [has_put_other (kyH_ne e)] at hx
    exact h.2 x hx z
theorem filter_more {α : Type} {p q : α → Bool} {a : α} (hp : p a = false) (hq : q a = true) (h : ∀ x, p x = true → q x = true) : ∀ {l : List α}, a ∈ l → (l.filter p).length + 1 ≤ (l.filter q).length := by
  have le : ∀ l : List α, (l.filter p).length ≤ (l.filter q).length := by
    intro l
    induction l with
    | nil => exact Nat.le_refl _
    | cons x l ih =>
      rw [List.filter_cons, List.filter_cons]
      cases e : p x with
      | true => rw [h x e, if_pos rfl, if_pos rfl, List.length_cons, List.length_cons]; omega
      | false =>
        rw [if_neg (by decide)]
        split
        · rw [List.length_cons]; omega
        · exact ih
  intro l
  induction l with
  | nil => intro h; cases h
  | cons x l ih =>
    intro hm
    rw [List.filter_cons, List.filter_cons]
    rcases List.mem_cons.1 hm with e | e
    · subst e
      rw [hp, hq, if_neg (by decide), if_pos rfl, List.length_cons]
      have := le l
      omega
    · have := ih e
      cases e : p x with
      | true => rw [h x e, if_pos rfl, if_pos rfl, List.length_cons, List.length_cons]; omega
      | false =>
        rw [if_neg (by decide)]
        split
        · rw [List.length_cons]; omega
        · exact this
theorem known_put {n a : Nat} {D : DataW Unit} (hD : IsMap D) (ha : a < n) (h : Maps.has D (kyH a) = false) (d : DataW Unit) : known n D + 1 ≤ known n (D.put (kyH a) d) := by
  refine filter_more (p := fun x => Maps.has D (kyH x)) (q := fun x => Maps.has (D.put (kyH a) d) (kyH x)) h (has_put_same hD (kyH_key _) d) (fun x hx => ?_) (List.mem_range.2 ha)
  by_cases e : x = a
  · subst e
    exact has_put_same hD (kyH_key _) d
  · rw [has_put_other (kyH_ne e)]
    exact hx
theorem known_le (n : Nat) (D : DataW Unit) : known n D ≤ n := Nat.le_trans (List.length_filter_le _ _) (by rw [List.length_range]; exact Nat.le_refl _)
open Go.RowKit Go.Proofs.YtfmpafgmcleogaaGreatDoorW.PrintWords
def tabLaid : List (String × DataW Unit) := [("math/bits.deBruijn64tab", Lib.tabData .u8 (Lib.deBruijn64tab.map fun n : Nat => (n : Int)))]
theorem tabLaid_at : ∀ j, j < 64 → (Lib.deBruijn64tab.map fun n : Nat => (n : Int)).getD j 0 = ((Lib.deBruijn64tab.getD j 0 : Nat) : Int) := by decide
theorem Tab64.of_laid {W : World} (h : laidMet Tryz.prog tabLaid W) : Tab64 W := by
  have ht := Lib.tabIs_of_head (g := 1) (t := 102) (e := 5) (n := 64) (by kernel_rfl) (by kernel_rfl) Tryz.underlying102 Tryz.underlying5 (by kernel_rfl) (by kernel_rfl) h
  intro j hj
  have := ht.cell (g := 1) (by kernel_rfl) j (by rw [List.length_map]; exact hj)
  rw [tabLaid_at j hj] at this
  exact this
end Go.Proofs.YtfmpafgmcleogaaGreatDoor.Pr
