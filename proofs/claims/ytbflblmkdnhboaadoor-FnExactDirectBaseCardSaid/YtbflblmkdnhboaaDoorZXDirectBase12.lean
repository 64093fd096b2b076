/- What the law needs of the program's functions as plain functions, of the proofs that their calls answer so, and of plain laws: gathered by a program of this place (pack.py) out of its printed texts. No condition beyond what each statement says. -/
import Derived.Test.YtbflblmkdnhboaaDoorZXDirectBase2
import Derived.Test.YtbflblmkdnhboaaDoorZXDirectBase6
import Derived.Test.YtbflblmkdnhboaaDoorZXDirectBase11
import Derived.Test.YtbflblmkdnhboaaDoorZXDirectBase7
import Derived.Test.YtbflblmkdnhboaaDoorZXDirectBase8
import Derived.Sort.LotA
namespace Go.Proofs.YtbflblmkdnhboaaDoor.Pr
open Go.RowKit Go.Proofs.YtbflblmkdnhboaaDoorW.PrintWords Go.Proofs.YtbflblmkdnhboaaDoorW.PrintLast Go.Proofs.YtbflblmkdnhboaaDoorW.PrintMore
attribute [local go_sem] max2_int min2_int max_two min_two max_three min_three max_four min_four   -- for this text's walks alone
set_option linter.unusedVariables false
set_option linter.unusedSimpArgs false
theorem put6_ {P : Prop} (h : P := by simp only [Act.put, List.setIfInBounds_toArray, List.set_cons_zero, List.set_cons_succ, i64_w, i32_w]; rfl) : P := h
theorem q6_1 {P : Prop} (h : P := by repeat (first | exact (Kd.C_below HR0_1.out HB.out) | (with_reducible refine Kd.C_alloc ?_ _) | (with_reducible refine Kd.C_drewN ?_ _) | (with_reducible refine Kd.C_drew ?_))) : P := h
theorem q6_2 {P : Prop} (h : P := by repeat (first | (with_reducible first | exact HB.out | apply below_alloc | apply pw_below_drewN | apply below_drew1 | refine below_set ?_ GE296.out) | exact HB.out)) : P := h
theorem q6_3 {P : Prop} (h : P := by (try simp only [List.map_toArray, List.map_cons, List.map_nil]); first | done | rfl | (simp only [List.length_drop, List.length_take]; rfl)) : P := h
theorem q6_4 {P : Prop} (h : P := by repeat (first | (with_reducible first | exact HB.out | apply below_alloc | apply pw_below_drewN | apply below_drew1) | exact HB.out)) : P := h
theorem q6_5 {P : Prop} (h : P := by (with_reducible repeat (first | refine blk_drewN ?_ _ | refine blk_drew ?_ | refine blk_alloc ?_ _)); exact BK296.out) : P := h
theorem q6_6 {P : Prop} (h : P := by first | rfl | (simp; done) | (simp [*]; done) | (simp [i64_w, i32_w]; done)) : P := h
theorem q6_7 {P : Prop} (h : P := by kernel_rfl) : P := h
def impl_proper.l0 : Nat → Int → Int → List Int → Int → Int → Int → List Int → Option (Int)
 | 0, _, _, _, _, _, _, _ => none
 | k + 1, x1, x5, x14, x15, x16, x297000, x297001 => if x16 < x15 then (if 0 ≤ x16 then (if x16 < (x14.length : Int) then (if 0 ≤ (rd x14 x16) then ((impl_ClosureOf.f k x297000 x297001 (Go.bits .andNot .i64 x1 (shl .i64 1 (rd x14 x16)))).bind fun t302 => (impl_proper.l0 k x1 (Go.bits .andNot .i64 x5 t302) x14 x15 (wrap64 (x16 + 1)) x297000 x297001)) else (none)) else (none)) else (none)) else (some x5)
def impl_proper.f (k : Nat) (a0_0 : Int) (l0_1 : List Int) (a1 : Int) : Option (Int) := (impl_ClosureOf.f k a0_0 l0_1 a1).bind fun t297 => ((impl_ElementsOf.f k a1).bind fun t298 => (impl_proper.l0 k a1 (Go.bits .andNot .i64 t297 a1) t298 (t298.length : Int) 0 a0_0 l0_1))
def impl_proper.T5 : Bool × List (List Nat × List Nat) := (true, [([], []), ([], []), ([], []), ([], []), ([3], [3]), ([2, 4], [2, 4]), ([1, 5], [1, 5]), ([0, 6], [0, 6]), ([7, 6, 0, 1, 2, 3, 4, 5, 6, 7], [0, 7])])
def impl_proper.B5 : List Nat := [0, 0, 0, 0, 8, 28, 62, 127, 255]
theorem impl_proper.tab5 : rtab .any (opsOf Tryd.f60 5) = impl_proper.T5 := q6_7
theorem impl_proper.bits5 : waitsOk impl_proper.T5.2 impl_proper.B5 = true := q6_7
set_option maxHeartbeats 8000000 in
set_option maxRecDepth 100000 in
theorem impl_proper.calls (k : Nat) (a0_0 : Int) (A0_1 : Option Addr) (c0_1 : Nat) (l0_1 : List Int) (a1 : Int) (r : Int) (w : World) (hr0_1 : Kd.C (Kd.int .i64) w A0_1 l0_1.length l0_1) (hc0_1 : l0_1.length ≤ c0_1) (h : impl_proper.f k a0_0 l0_1 a1 = some r) :
  Calls Tryd.prog 60 #[.agg #[.int .i64 a0_0, .slice A0_1 l0_1.length c0_1], .int .i64 a1] w fun e w' => e = .returned (.int .i64 r) ∧ Below w.heap.size w w' := by
 have hu27 := Tryd.underlying27
 have HR0_1 := Aside0.mk hr0_1
 have HC0_1 := Aside0.mk hc0_1
 clear hr0_1 hc0_1
 have HB := Aside0.mk (Below.refl w.heap.size w)
 have H : ((impl_ClosureOf.f k a0_0 l0_1 a1).bind fun t297 => ((impl_ElementsOf.f k a1).bind fun t298 => (impl_proper.l0 k a1 (Go.bits .andNot .i64 t297 a1) t298 (t298.length : Int) 0 a0_0 l0_1))) = some r := h
 clear h
 replace H := Option.bind_eq_some_iff.mp H
 obtain ⟨t297, A30, H⟩ := H
 replace H : ((impl_ElementsOf.f k a1).bind fun t298 => (impl_proper.l0 k a1 (Go.bits .andNot .i64 t297 a1) t298 (t298.length : Int) 0 a0_0 l0_1)) = some r := H
 have A3 := Aside0.mk A30
 clear A30
 replace H := Option.bind_eq_some_iff.mp H
 obtain ⟨t298, A40, H⟩ := H
 replace H : (impl_proper.l0 k a1 (Go.bits .andNot .i64 t297 a1) t298 (t298.length : Int) 0 a0_0 l0_1) = some r := H
 have A4 := Aside0.mk A40
 clear A40
 have H' := Aside0.mk H
 clear H
 go_enter Tryd.func60, Tryd.ntmps60
 go_wp2_with (first | ((with_reducible refine gate_dst (N := 2) rfl ?_); refine box_event ?hg (N := 2) ?hd (cs := #[.int .i64 a0_0, .slice A0_1 l0_1.length c0_1]) (t := 27) ?hr ?_; (case hd => rfl); (case hg => rfl); (case hr => first | (go_simp; done) | (go_simp; rfl)); intro gb296 hg w5 hbox hb; have n0_ := Aside0.mk (below_step q6_4 hb); have n1_ := Aside0.mk (hbox); have n2_ := Aside0.mk ((by rw [hg]; exact (below_size q6_4) : w.heap.size ≤ gb296)); have n3_ := Aside0.mk ((by rw [hg]; exact (below_size q6_4) : w.heap.size ≤ gb296)); clear HB; have HB := n0_; have BK296 := n1_; have GW296 := n2_; have GE296 := n3_; clear n0_ n1_ n2_ n3_; clear hb hbox hg; have hcz6_0 : w5.cell? ⟨gb296, 0, none⟩ = some (.int .i64 a0_0) := (blk_cell BK296.out 0).trans rfl; have hcz6_1 : w5.cell? ⟨gb296, 1, none⟩ = some (.slice A0_1 l0_1.length c0_1) := (blk_cell BK296.out 1).trans rfl; have hfz6_0 := blk_frozen BK296.out 0; have hfz6_1 := blk_frozen BK296.out 1) | ((with_reducible refine gate_callee (f := 71) rfl ?_); refine goesL_ (some 10) rfl rfl Tryd.func71 q6_7 rfl #[.agg #[.int .i64 a0_0, .slice A0_1 l0_1.length c0_1], .int .i64 a1] rfl q6_3 ?_; (with_reducible refine (impl_ClosureOf.calls k a0_0 _ _ l0_1 a1 t297 _ ?side1 ?side2 A3.out).mono ?_); (case side1 => exact q6_1); (case side2 => exact HC0_1.out); rintro e w7 ⟨rfl, hb⟩; refine ⟨_, rfl, ?_⟩; have n0_ := Aside0.mk (blk_below (g := gb296) (o := .cells #[.int .i64 a0_0, .slice A0_1 l0_1.length c0_1] 27 (0, 0)) q6_5 hb); have n1_ := Aside0.mk (below_step q6_2 hb); clear BK296; clear HB; have BK296 := n0_; have HB := n1_; clear n0_ n1_; (try clear hb); (try clear hb2); (try clear hk); (try clear hi)) | ((with_reducible refine gate_callee (f := 95) rfl ?_); refine goesL_ (some 14) rfl rfl Tryd.func95 q6_7 rfl #[.int .i64 a1] rfl q6_3 ?_; (with_reducible refine (impl_ElementsOf.calls k a1 t298 _ A4.out).mono ?_); rintro e w8 ⟨v299, rfl, ho0, hb⟩; refine ⟨_, rfl, ?_⟩; have n0_ := Aside0.mk (Kd.R_lower ho0 (below_size q6_2)); have n1_ := Aside0.mk (blk_below (g := gb296) (o := .cells #[.int .i64 a0_0, .slice A0_1 l0_1.length c0_1] 27 (0, 0)) q6_5 hb); have n2_ := Aside0.mk (below_step q6_2 hb); clear BK296; clear HB; have HO300 := n0_; have BK296 := n1_; have HB := n2_; clear n0_ n1_ n2_; (try clear hb); (try clear hb2); (try clear hk); (try clear hi); (try clear ho0); obtain ⟨Ao9, co9, eo9⟩ := Kd.R_slice HO300.out; subst eo9))
 go_loopg [5, 16] k (fun kq v5 v16 w' => ∃ (x5_1 : Int) (x16_1 : Int), v5 = .int .i64 x5_1 ∧ v16 = .int .i64 x16_1 ∧ Aside0 (impl_proper.l0 kq a1 x5_1 t298 (t298.length : Int) x16_1 a0_0 l0_1 = some r) ∧ Aside0 (kq ≤ k) ∧ Aside0 (Kd.R (Kd.int .i64) 3 w' w.heap.size (fun _ => True) (.slice Ao9 t298.length co9) t298) ∧ Aside0 (w'.heap[gb296]? = some (.cells #[.int .i64 a0_0, (.slice A0_1 l0_1.length c0_1)] 27 (0, 0))) ∧ Aside0 (Below w.heap.size w w'))
 case atStart => exact ⟨(Go.bits .andNot .i64 t297 a1), (0), q6_6, q6_6, H', ⟨Nat.le_refl _⟩, ⟨by (with_reducible repeat (first | apply Kd.R_alloc | apply Kd.R_drewN | apply Kd.R_drew)); exact HO300.out⟩, ⟨by (with_reducible repeat (first | refine blk_drewN ?_ _ | refine blk_drew ?_ | refine blk_alloc ?_ _)); exact BK296.out⟩, ⟨by repeat (first | (with_reducible first | exact HB.out | apply below_alloc | apply pw_below_drewN | apply below_drew1 | refine below_set ?_ GE296.out) | exact HB.out)⟩⟩
 case round =>
  clear H'
  try clear p2
  try clear c6
  try clear c7
  try clear c9
  try clear hcz6_0
  try clear hcz6_1
  try clear hfz6_0
  try clear hfz6_1
  obtain ⟨x5_1, x16_1, rfl, rfl, HA, HK1, HO_14, BK296, HB⟩ := hrel
  cases gk with
  | zero => exact absurd HA.out (by simp [impl_proper.l0])
  | succ k1 =>
   have H := HA.out
   clear HA
   simp only [impl_proper.l0] at H
   by_cases c10 : x16_1 < (t298.length : Int)
   ·
    rw [if_pos c10] at H
    have c10b0 : decide (x16_1 < (t298.length : Int)) = true := decide_eq_true c10
    clear c10
    by_cases c11 : 0 ≤ x16_1
    ·
     rw [if_pos c11] at H
     have c11b0 : decide (0 ≤ x16_1) = true := decide_eq_true c11
     clear c11
     by_cases c12 : x16_1 < (t298.length : Int)
     ·
      rw [if_pos c12] at H
      have c12b0 : decide (x16_1 < (t298.length : Int)) = true := decide_eq_true c12
      clear c12
      by_cases c13 : 0 ≤ (rd t298 x16_1)
      ·
       rw [if_pos c13] at H
       have c13b0 := eq_true c13
       have c13b1 : decide (0 ≤ (rd t298 x16_1)) = true := decide_eq_true c13
       clear c13
       obtain ⟨ji14, hji14⟩ : ∃ j_ : Int, (shl .i64 1 (rd t298 x16_1)) = j_ := ⟨_, rfl⟩
       replace H : ((impl_ClosureOf.f k1 a0_0 l0_1 (Go.bits .andNot .i64 a1 (ji14))).bind fun t302 => (impl_proper.l0 k1 a1 (Go.bits .andNot .i64 x5_1 t302) t298 (t298.length : Int) (wrap64 (x16_1 + 1)) a0_0 l0_1)) = some r := by first | (rw [hji14] at H; exact H) | (simp only [hji14] at H ⊢; exact H)
       have hji14_ : (IntKind.i64.wrap (1 * 2 ^ min (rd t298 x16_1).toNat 64)) = ji14 := hji14
       have hji14z : (rd t298 x16_1) ≤ 64 → (IntKind.i64.wrap (1 * 2 ^ (rd t298 x16_1).toNat)) = ji14 := shl_small hji14
       have hji14u : (IntKind.i64.wrap (2 ^ min (rd t298 x16_1).toNat 64)) = ji14 := by have h_ := hji14_; rw [Int.one_mul] at h_; exact h_
       have hji14v : (rd t298 x16_1) ≤ 64 → (IntKind.i64.wrap (2 ^ (rd t298 x16_1).toNat)) = ji14 := fun hle_ => by have h_ := hji14z hle_; rw [Int.one_mul] at h_; exact h_
       have hji14y : (wrap64 (1 * 2 ^ min (rd t298 x16_1).toNat 64)) = ji14 := (i64_w _).symm.trans hji14_
       have hji14x : (rd t298 x16_1) ≤ 64 → (wrap64 (1 * 2 ^ (rd t298 x16_1).toNat)) = ji14 := fun h_ => (i64_w _).symm.trans (hji14z h_)
       replace H := Option.bind_eq_some_iff.mp H
       obtain ⟨t302, A150, H⟩ := H
       replace H : (impl_proper.l0 k1 a1 (Go.bits .andNot .i64 x5_1 t302) t298 (t298.length : Int) (wrap64 (x16_1 + 1)) a0_0 l0_1) = some r := H
       have A15 := Aside0.mk A150
       clear A150
       have H' := Aside0.mk H
       clear H
       have p301 : 0 ≤ (x16_1 : Int) := of_decide_eq_true (by first | (with_reducible assumption) | assumption)
       have q301 : x16_1 < (t298.length : Int) := of_decide_eq_true (by first | (with_reducible assumption) | assumption)
       obtain ⟨ad301, e301, hx301_0⟩ := Kd.at_int (Kd.R_reads' HO_14.out).2.2 x16_1 p301 q301
       cases e301
       replace p301 := eq_true p301
       replace q301 := eq_true q301
       try go_wp2
       have n0_ := Aside0.mk (Kd.R_drew HO_14.out)
       have n1_ := Aside0.mk (blk_drew BK296.out)
       have n2_ := Aside0.mk (below_drew1 HB.out)
       clear HO_14
       clear BK296
       clear HB
       have HO_14 := n0_
       have BK296 := n1_
       have HB := n2_
       clear n0_ n1_ n2_
       refine start_ (n := 9) (S := fun w' => w'.cell? ⟨gb296, 0, none⟩ = some (.int .i64 a0_0) ∧ w'.cell? ⟨gb296, 1, none⟩ = some (.slice A0_1 l0_1.length c0_1)) (ds := []) #[false, false, false, false, false, false, false, false, false] q6_7 rfl rfl ⟨(blk_cell BK296.out 0).trans rfl, (blk_cell BK296.out 1).trans rfl⟩ (fun hHeld => ?_); refine with_tabW impl_proper.tab5 impl_proper.bits5 (fun HT_ HW_ => ?_)
       generalize wr.drew = w16 at HO_14 BK296 HB hHeld ⊢
       refine pure_ (i := 0) (N := some 20) (v := ?_) (a' := ?_) #[true, false, false, false, false, false, false, false, false] rfl rfl (any_of HT_.out q6_7) (fun _ _ _ h => h) (Or.inl ⟨by rfl, ?_⟩) ?_ ?_
       rotate_left
       ·
        intro w'
        go_simp
        with_reducible rfl
       rotate_left
       ·
        exact put6_
       refine pure_ (i := 2) (N := some 22) (v := ?_) (a' := ?_) #[true, false, true, false, false, false, false, false, false] rfl rfl (any_of HT_.out q6_7) (fun _ _ _ h => h) (Or.inl ⟨by rfl, ?_⟩) ?_ ?_
       rotate_left
       ·
        intro w'
        go_simp
        with_reducible rfl
       rotate_left
       ·
        exact put6_
       refine pure_ (i := 3) (N := some 23) (v := ?_) (a' := ?_) #[true, false, true, true, false, false, false, false, false] rfl rfl (any_of HT_.out q6_7) (fun _ _ _ h => h) (Or.inl ⟨by rfl, ?_⟩) ?_ ?_
       rotate_left
       ·
        intro w'
        go_simp
        with_reducible rfl
       rotate_left
       ·
        exact put6_
       refine pure_ (i := 4) (N := some 24) (v := ?_) (a' := ?_) #[true, false, true, true, true, false, false, false, false] rfl rfl (any_of HT_.out q6_7) (fun _ _ _ h => h) (Or.inl ⟨by rfl, ?_⟩) ?_ ?_
       rotate_left
       ·
        intro w'
        go_simp
        with_reducible rfl
       rotate_left
       ·
        exact put6_
       refine pure_ (i := 5) (N := some 25) (v := ?_) (a' := ?_) #[true, false, true, true, true, true, false, false, false] rfl rfl (any_of HT_.out q6_7) (fun _ _ _ h => h) (Or.inl ⟨by rfl, ?_⟩) ?_ ?_
       rotate_left
       ·
        intro w'
        go_simp
        with_reducible rfl
       rotate_left
       ·
        exact put6_
       refine take_ (i := 1) (N := some 21) (v := ?_) (a' := ?_) #[true, true, true, true, true, true, false, false, false] rfl rfl (take_ofW HT_.out HW_.out q6_7) (fun _ _ _ h => h) (Or.inl ⟨by rfl, ?_⟩) hHeld ?_ ?_
       rotate_left
       ·
        rintro w' ⟨s0, s1⟩
        go_simp
        with_reducible rfl
       rotate_left
       ·
        exact put6_
       refine one_ (i := 6) (N := some 26) #[true, true, true, true, true, true, true, false, false] rfl rfl (one_of HT_.out q6_7) (by decide) (fun K hK => ?_)
       refine goes_ Tryd.func71 q6_7 rfl #[.agg #[.int .i64 a0_0, .slice _ l0_1.length c0_1], .int .i64 (Go.bits .andNot .i64 a1 (ji14))] (by rfl) rfl rfl (by (try simp only [List.map_toArray, List.map_cons, List.map_nil]); first | done | (simp only [hji14]; rfl) | rfl | (simp only [List.length_drop, List.length_take]; rfl)) ?_
       with_reducible refine (impl_ClosureOf.calls k1 a0_0 _ _ l0_1 (Go.bits .andNot .i64 a1 (ji14)) t302 _ ?side1 ?side2 A15.out).mono ?_
       (case side1 => exact q6_1)
       (case side2 => exact HC0_1.out)
       rintro e w17 ⟨rfl, hb⟩
       refine ⟨_, rfl, ?_⟩
       have n0_ := Aside0.mk (Kd.R_below (by (with_reducible repeat (first | apply Kd.R_alloc | apply Kd.R_drewN | apply Kd.R_drew)); exact HO_14.out) hb)
       have n1_ := Aside0.mk (blk_below (g := gb296) (o := .cells #[.int .i64 a0_0, .slice A0_1 l0_1.length c0_1] 27 (0, 0)) q6_5 hb)
       have n2_ := Aside0.mk (below_step q6_2 hb)
       clear HO_14
       clear BK296
       clear HB
       have HO_14 := n0_
       have BK296 := n1_
       have HB := n2_
       clear n0_ n1_ n2_
       (try clear hb)
       (try clear hb2)
       (try clear hk)
       (try clear hi)
       refine hK.out _ _ ⟨(blk_cell BK296.out 0).trans rfl, (blk_cell BK296.out 1).trans rfl⟩ (fun hHeld => ?_)
       clear hK K
       refine norm_ (a' := ?_) ?_ ?_
       rotate_left
       ·
        show Act.put _ (some 26) _ = _
        exact put6_
       refine pure_ (i := 7) (N := some 27) (v := ?_) (a' := ?_) #[true, true, true, true, true, true, true, true, false] rfl rfl (any_of HT_.out q6_7) (fun _ _ _ h => h) (Or.inl ⟨by rfl, ?_⟩) ?_ ?_
       rotate_left
       ·
        intro w'
        go_simp
        with_reducible rfl
       rotate_left
       ·
        exact put6_
       refine pure_ (i := 8) (N := some 5) (v := ?_) (a' := ?_) #[true, true, true, true, true, true, true, true, true] rfl rfl (any_of HT_.out q6_7) (fun _ _ _ h => h) (Or.inl ⟨by rfl, ?_⟩) ?_ ?_
       rotate_left
       ·
        intro w'
        go_simp
        with_reducible rfl
       rotate_left
       ·
        exact put6_
       refine done_ (done_of HT_.out q6_7) ?_
       try go_wp2
       go_roundg k1
       case measure => have := HK1.out; omega
       case rel => exact ⟨(Go.bits .andNot .i64 x5_1 t302), (wrap64 (x16_1 + 1)), q6_6, q6_6, H', ⟨by have := HK1.out; omega⟩, ⟨by (with_reducible repeat (first | apply Kd.R_alloc | apply Kd.R_drewN | apply Kd.R_drew)); exact HO_14.out⟩, ⟨by (with_reducible repeat (first | refine blk_drewN ?_ _ | refine blk_drew ?_ | refine blk_alloc ?_ _)); exact BK296.out⟩, ⟨by repeat (first | (with_reducible first | exact HB.out | apply below_alloc | apply pw_below_drewN | apply below_drew1 | refine below_set ?_ GE296.out) | exact HB.out)⟩⟩
      ·
       rw [if_neg c13] at H
       exact absurd H (by simp)
     ·
      rw [if_neg c12] at H
      exact absurd H (by simp)
    ·
     rw [if_neg c11] at H
     exact absurd H (by simp)
   ·
    rw [if_neg c10] at H
    have c10b0 : decide (x16_1 < (t298.length : Int)) = false := decide_eq_false c10
    clear c10
    obtain rfl := Option.some.inj H
    go_wp2
    go_ret
    exact ⟨by first | rfl | (simp [errW_none, errW_some] <;> rfl) | (simp [*, errW_none, errW_some] <;> rfl), by repeat (first | (with_reducible first | exact HB.out | apply below_alloc | apply pw_below_drewN | apply below_drew1 | refine below_set ?_ GE296.out) | exact HB.out)⟩
end Go.Proofs.YtbflblmkdnhboaaDoor.Pr
namespace Go.Proofs.YtbflblmkdnhboaaDoor.Pr
open Go.RowKit Go.Proofs.YtbflblmkdnhboaaDoorW.PrintWords Go.Proofs.YtbflblmkdnhboaaDoorW.PrintLast Go.Proofs.YtbflblmkdnhboaaDoorW.PrintMore
open Go.Sort Go.Shelf
set_option linter.unusedVariables false
set_option linter.unusedSimpArgs false
theorem Reps_one {α : Type} (enc : α → Value) (xs : List α) (cs : List Value) : Reps (fun x c => c = [enc x]) 1 xs cs ↔ cs = xs.map enc := by
  constructor
  · rintro ⟨h1, h2⟩
    rw [Nat.mul_one] at h1
    refine List.ext_getElem? fun j => ?_
    rw [List.getElem?_map]
    rcases Nat.lt_or_ge j xs.length with h | h
    · have h3 := h2 j xs[j] (List.getElem?_eq_getElem h)
      rw [Nat.mul_one] at h3
      have h4 := congrArg (fun l => l[0]?) h3
      simp only [List.getElem?_take_of_succ, List.getElem?_drop, List.getElem?_cons_zero, Nat.add_zero] at h4
      rw [List.getElem?_eq_getElem h]
      exact h4
    · rw [List.getElem?_eq_none h, List.getElem?_eq_none (by omega)]; rfl
  · rintro rfl
    refine ⟨by simp, fun j p hp => ?_⟩
    rw [Nat.mul_one]
    obtain ⟨hj, rfl⟩ := List.getElem?_eq_some_iff.1 hp
    refine List.ext_getElem? fun i => ?_
    cases i with
    | zero => simp [List.getElem?_take, List.getElem?_drop, List.getElem?_eq_getElem hj]
    | succ i => simp [List.getElem?_take]
theorem R_int_out {e base g n c : Nat} {w : World} {xs : List Int} {ok : Nat → Prop} (h : (Kd.int .i64).R e w base ok (.slice (some ⟨g, 0, none⟩) n c) xs) (hx : 0 < xs.length) :
    base ≤ g ∧ n = xs.length ∧ xs.length ≤ c ∧ c ≤ maxLen ∧ ∃ cur : Array Value, w.heap[g]? = some (.cells cur e (0, 0)) ∧ cur.size = c ∧ cur.toList.take xs.length = xs.map (Value.int .i64) := by
  obtain ⟨_, inner, ho, hr⟩ := h
  obtain ⟨h1, h2⟩ := ho
  rcases h2 with ⟨h2, _⟩ | ⟨g', cap, cur, he, hb, hh, hn, hx, hs, ht⟩
  · cases h2
  · injection he with e1 e2 e3
    injection e1 with e1
    injection e1 with e1 _ _
    subst e1 e3
    refine ⟨hb, e2, hn, hx, cur, hh, by rw [hs]; exact Nat.mul_one _, ?_⟩
    have := (Reps_one (Value.int .i64) xs inner).1 hr
    rw [← this, ← ht, show xs.length * (Kd.int .i64).sz = xs.length from Nat.mul_one _]
theorem R_int_in {e base g c : Nat} {w : World} {xs : List Int} {cur : Array Value} (hb : base ≤ g) (hc : xs.length ≤ c) (hm : c ≤ maxLen) (hh : w.heap[g]? = some (.cells cur e (0, 0))) (hs : cur.size = c)
    (ht : cur.toList.take xs.length = xs.map (Value.int .i64)) : (Kd.int .i64).R e w base (fun _ => True) (.slice (some ⟨g, 0, none⟩) xs.length c) xs :=
  ⟨fun _ _ => trivial, xs.map (Value.int .i64), ⟨by rw [List.length_map]; exact (Nat.mul_one _).symm, .inr ⟨g, c, cur, rfl, hb, hh, hc, hm, by rw [hs]; exact (Nat.mul_one _).symm, by rw [show xs.length * (Kd.int .i64).sz = xs.length from Nat.mul_one _]; exact ht⟩⟩, (Reps_one (Value.int .i64) xs _).2 rfl⟩
theorem befV_nat {s t : Nat} (hs : s < 256) (ht : t < 256) : Pu.befV (s : Int) (t : Int) = Pu.bef s t := by
  unfold Pu.befV Pu.isAny
  rw [decide_eq_true (show 0 ≤ (s : Int) ∧ (s : Int) < 256 by omega), decide_eq_true (show 0 ≤ (t : Int) ∧ (t : Int) < 256 by omega), Int.toNat_natCast, Int.toNat_natCast]
  rfl
theorem cast_nodup {R : List Nat} (h : R.Nodup) : (Pu.cast R).Nodup := List.pairwise_map.2 (h.imp fun hne e => hne (by omega))
theorem nodup_cast {R : List Nat} (h : (Pu.cast R).Nodup) : R.Nodup := (List.pairwise_map.1 (show (R.map fun (x : Nat) => (x : Int)).Nodup from h)).imp fun hne e => hne (by rw [e])
theorem lecF_nodup (p : Nat → Bool) : (Pu.lecF p).Nodup := (Pu.lecF_sorted p).imp fun h e => by subst e; omega
def encF (x : Fin 256) : Value := .int .i64 ((x.val : Nat) : Int)
def cfF (x y : Fin 256) : Int := if x = y then 0 else if Pu.bef x.val y.val = true then -1 else 1
theorem lt_cfF (x y : Fin 256) : ltOf cfF x y = Pu.bef x.val y.val := by
  unfold ltOf cfF
  by_cases h : x = y
  · subst h
    rw [if_pos rfl, Pu.bef_irrefl]; rfl
  · rw [if_neg h]
    cases hb : Pu.bef x.val y.val with
    | true => rfl
    | false => rfl
theorem swoF : SWO (ltOf cfF) where
  irrefl := fun x => by rw [lt_cfF]; exact Pu.bef_irrefl _
  trans := fun x y z h1 h2 => by
    rw [lt_cfF] at h1 h2 ⊢
    unfold Pu.bef at h1 h2 ⊢
    rw [decide_eq_true_iff] at h1 h2 ⊢
    omega
  ntrans := fun x y z h1 h2 => by
    rw [lt_cfF] at h1 h2 ⊢
    unfold Pu.bef at h1 h2 ⊢
    rw [decide_eq_false_iff_not] at h1 h2 ⊢
    omega
theorem antiF (x y : Fin 256) (h1 : ltOf cfF x y = false) (h2 : ltOf cfF y x = false) : x = y := by
  rw [lt_cfF] at h1 h2
  unfold Pu.bef at h1 h2
  rw [decide_eq_false_iff_not] at h1 h2
  exact Fin.ext (Pu.rv_inj x.isLt y.isLt (by omega))
def fin8 (x : Nat) : Fin 256 := ⟨x % 256, Nat.mod_lt _ (by decide)⟩
def arrF (R : List Nat) : Array (Fin 256) := (R.map fin8).toArray
theorem arrF_size (R : List Nat) : (arrF R).size = R.length := by unfold arrF; rw [List.size_toArray, List.length_map]
theorem map_fin8 {R : List Nat} (hR : ∀ x ∈ R, x < 256) : (R.map fin8).map (fun x => x.val) = R := by
  rw [List.map_map]
  conv => rhs; rw [← List.map_id R]
  exact List.map_congr_left fun x hx => Nat.mod_eq_of_lt (hR x hx)
theorem map_encF (L : List (Fin 256)) : L.map encF = (Pu.cast (L.map fun x => x.val)).map (Value.int .i64) := by
  unfold Pu.cast
  rw [List.map_map, List.map_map]
  rfl
theorem holdsF {w : World} {g n e c : Nat} {cur : Array Value} {d : Array (Fin 256)} (hh : w.heap[g]? = some (.cells cur e (0, 0))) (hs : d.size ≤ cur.size) (ht : cur.toList.take d.size = d.toList.map encF) : Holds encF w g 0 d := by
  intro j hj
  have h1 : cur[j]? = some (encF d[j]!) := by
    have h2 := congrArg (fun l => l[j]?) ht
    simp only [List.getElem?_take, if_pos hj, List.getElem?_map, Array.getElem?_toList] at h2
    rw [h2, Array.getElem?_eq_getElem hj, getElem!_pos d j hj]; rfl
  refine ⟨?_, ?_⟩
  · rw [Nat.zero_add]
    simp [World.cell?, hh, h1]
  · simp [World.frozen?, hh]
theorem heap_sortWorld {α : Type} [Inhabited α] (enc : α → Value) {w : World} {g e m : Nat} {cur : Array Value} {d : Array α} {os : Array Obj} (hh : w.heap[g]? = some (.cells cur e (0, 0))) : (sortWorld enc w g 0 m d os).heap[g]? = some (.cells (putCells enc 0 d cur) e (0, 0)) := by
  have hlt : g < w.heap.size := (Array.getElem?_eq_some_iff.1 hh).1
  unfold sortWorld grow putRow mapBlock Sort.ahead
  dsimp only
  rw [Array.getElem?_append_left (by rw [Array.size_modify]; exact hlt), Array.getElem?_modify, if_pos rfl, hh]
  rfl
theorem putCells_take {α : Type} [Inhabited α] (enc : α → Value) {cur : Array Value} {d : Array α} (hs : d.size ≤ cur.size) : (putCells enc 0 d cur).toList.take d.size = d.toList.map enc := by
  refine List.ext_getElem? fun j => ?_
  rw [List.getElem?_take, List.getElem?_map]
  by_cases hj : j < d.size
  · rw [if_pos hj, Array.getElem?_toList, Array.getElem?_toList]
    unfold putCells
    rw [Array.getElem?_mapIdx, Array.getElem?_eq_getElem (show j < cur.size by omega), Option.map_some, if_pos ⟨Nat.zero_le _, by omega⟩, Array.getElem?_eq_getElem hj, Nat.sub_zero, getElem!_pos d j hj]
    rfl
  · rw [if_neg hj, Array.getElem?_toList, Array.getElem?_eq_none (by omega)]
    rfl
theorem putCells_size {α : Type} [Inhabited α] (enc : α → Value) (cur : Array Value) (d : Array α) : (putCells enc 0 d cur).size = cur.size := by unfold putCells; rw [Array.size_mapIdx]
theorem below_sortWorld {α : Type} [Inhabited α] (enc : α → Value) {w0 w : World} {base g m : Nat} {d : Array α} {os : Array Obj} (hb : Below base w0 w) (hg : base ≤ g) (hs : base ≤ w.heap.size) : Below base w0 (sortWorld enc w g 0 m d os) := by
  have e : (sortWorld enc w g 0 m d os).heap = w.heap.modify g (onCells (putCells enc 0 d)) ++ os := rfl
  refine ⟨hb.os, hb.tape, hb.output, ?_, fun j hj => ?_⟩
  · rw [e, Array.size_append, Array.size_modify]
    have := hb.size
    omega
  · rw [e, Array.getElem?_append_left (by rw [Array.size_modify]; omega), Array.getElem?_modify, if_neg (by omega)]
    exact hb.block j hj
def lecOf (R : List Nat) : List Nat := Pu.lecF fun s => decide (s ∈ R)
theorem sortedF {R : List Nat} (hR : ∀ x ∈ R, x < 256) (hnd : R.Nodup) {d' : Array (Fin 256)} (h : d'.toList = (arrF R).toList.mergeSort fun x y => !(ltOf cfF) y x) : d'.toList.map (fun x => x.val) = lecOf R := by
  have hperm : d'.toList.Perm (R.map fin8) := by
    rw [h]
    exact List.mergeSort_perm _ _
  have hp2 : (d'.toList.map fun x => x.val).Perm R := by
    have := hperm.map (fun x => x.val)
    rwa [map_fin8 hR] at this
  have hs : d'.toList.Pairwise fun x y => (!(ltOf cfF) y x) = true := by
    rw [h]
    refine List.pairwise_mergeSort (fun a b c h1 h2 => ?_) (fun a b => ?_) _
    · rw [lt_cfF] at h1 h2 ⊢
      unfold Pu.bef at h1 h2 ⊢
      simp only [Bool.not_eq_true', decide_eq_false_iff_not] at h1 h2 ⊢
      omega
    · rw [lt_cfF, lt_cfF]
      unfold Pu.bef
      simp only [Bool.or_eq_true, Bool.not_eq_true', decide_eq_false_iff_not]
      omega
  have hn : (d'.toList.map fun x => x.val).Nodup := hp2.nodup_iff.2 hnd
  have hl : Pu.lecS (d'.toList.map fun x => x.val) := by
    unfold Pu.lecS
    have h1 : (d'.toList.map fun x => x.val).Pairwise fun a b => a < 256 ∧ b < 256 ∧ Pu.rv a ≤ Pu.rv b := by
      rw [List.pairwise_map]
      refine hs.imp fun {a b} hab => ⟨a.isLt, b.isLt, ?_⟩
      rw [lt_cfF] at hab
      unfold Pu.bef at hab
      simp only [Bool.not_eq_true', decide_eq_false_iff_not] at hab
      omega
    refine (h1.and hn).imp fun {a b} hab => ?_
    obtain ⟨⟨ha, hb, hle⟩, hne⟩ := hab
    rcases Nat.lt_or_ge (Pu.rv a) (Pu.rv b) with hlt | hge
    · exact hlt
    · exact absurd (Pu.rv_inj ha hb (by omega)) hne
  have h2 := Pu.lec_unique hl fun x hx => hR x (hp2.mem_iff.1 hx)
  rw [h2]
  unfold lecOf
  refine Pu.lecF_congr fun s _ => ?_
  rw [decide_eq_decide]
  exact hp2.mem_iff
theorem cmp_val (x y : Fin 256) : Ev (fun k => impl_SortLectic_2.f k ((x.val : Nat) : Int) ((y.val : Nat) : Int)) (cfF x y) := by
  unfold impl_SortLectic_2.f cfF
  by_cases h : x = y
  · subst h
    rw [if_pos rfl]
    exact Ev.congr (fun k => by rw [if_pos rfl]) (Ev.now _)
  · have hne : ¬ ((x.val : Nat) : Int) = ((y.val : Nat) : Int) := fun e => h (Fin.ext (by omega))
    rw [if_neg h]
    refine Ev.congr (fun k => by rw [if_neg hne]) ?_
    refine Ev.bind (Pu.befI_val _ _) ?_
    rw [befV_nat x.isLt y.isLt]
    cases Pu.bef x.val y.val with
    | true => exact Ev.now _
    | false => exact Ev.now _
theorem lecOf_length {R : List Nat} (hR : ∀ x ∈ R, x < 256) (hnd : R.Nodup) : (lecOf R).length = R.length := by
  have hd : ((arrF R).toList.mergeSort fun x y => !(ltOf cfF) y x).toArray.toList = (arrF R).toList.mergeSort fun x y => !(ltOf cfF) y x := rfl
  have h := sortedF hR hnd hd
  have h2 := congrArg List.length h
  rw [List.length_map, List.length_mergeSort] at h2
  rw [← h2]
  unfold arrF
  rw [List.length_map]
set_option maxHeartbeats 1000000 in
theorem sort_at (g c : Nat) (R : List Nat) (hpos : 0 < R.length) (hR : ∀ x ∈ R, x < 256) (hnd : R.Nodup) (w0 w : World) (htab : Tab64 w0) (hb : Below w0.heap.size w0 w)
    (ho : (Kd.int .i64).R 3 w w0.heap.size (fun _ => True) (.slice (some ⟨g, 0, none⟩) R.length c) (Pu.cast R)) :
    Calls Tryd.prog 111 #[.slice (some ⟨g, 0, none⟩) R.length c, .func (.func 112) #[] #[]] w fun e w' => e = .returned (.tuple #[]) ∧ (Kd.int .i64).R 3 w' w0.heap.size (fun _ => True) (.slice (some ⟨g, 0, none⟩) R.length c) (Pu.cast (lecOf R)) ∧ Below w0.heap.size w0 w' := by
  have hlenC : (Pu.cast R).length = R.length := Pu.cast_length R
  obtain ⟨hg, _, hc, hm, cur, hh, hs, ht⟩ := R_int_out ho (by omega)
  rw [hlenC] at hc ht
  have hD : (arrF R).size = R.length := arrF_size R
  have ht2 : cur.toList.take (arrF R).size = (arrF R).toList.map encF := by
    rw [hD, ht, map_encF]
    unfold arrF
    rw [map_fin8 hR]
  have hH : Holds encF w g 0 (arrF R) := holdsF (n := 0) (c := 0) hh (by omega) ht2
  have hblk : g < w.heap.size := (Array.getElem?_eq_some_iff.1 hh).1
  have eg : ∀ args w, (callFunc 112 args).run Tryd.prog w = .ok (.enter 112 args) w := enters_of Tryd.func112 (by kernel_rfl) rfl
  have hcmp : CmpLays1 Tryd.prog 112 #[] encF cfF g 0 (arrF R).size w := by
    intro m os dk _ x y
    obtain ⟨k, hk⟩ := Ev.rounds (cmp_val x y)
    refine (impl_SortLectic_2.calls k _ _ _ _ (htab.below (below_sortWorld encF hb hg hb.size)) hk).mono ?_
    rintro e w' ⟨he, q, rfl⟩
    exact ⟨he, q, #[], by rw [grow_empty]⟩
  have hlen : R.length ≤ 256 := Pu.nodup_le 256 R hnd hR
  have h := Tryd.slices_SortFunc encF (fun _ => rfl) cfF swoF 112 #[] g 0 c (arrF R) w eg hcmp hH hblk (by omega)
  rw [hD] at h
  refine h.mono ?_
  rintro e w' ⟨rfl, d', m, os, hp, hso, rfl⟩
  rw [← hD] at hp hso
  have hL := sortedF hR hnd (sorted_unique_holds swoF antiF (arrF R) d' hp hso)
  have hd' : d'.size = R.length := by
    have := congrArg List.length hL
    rw [List.length_map, lecOf_length hR hnd] at this
    simpa using this
  refine ⟨rfl, ?_, below_sortWorld encF hb hg hb.size⟩
  have hlenL : (Pu.cast (lecOf R)).length = R.length := by rw [Pu.cast_length, lecOf_length hR hnd]
  rw [← hlenL]
  refine R_int_in hg (by omega) hm (heap_sortWorld encF hh) (by rw [putCells_size]; exact hs) ?_
  rw [hlenL, ← hd', putCells_take encF (by omega), map_encF, hL]
theorem compact_lec {L : List Int} (hn : L.Nodup) : Lib.compact L = L := by
  unfold Lib.compact
  rw [Lib.compactUpTo_all]
  · refine List.ext_getElem? fun j => ?_
    rw [List.getElem?_map]
    rcases Nat.lt_or_ge j L.length with h | h
    · rw [List.getElem?_range h, Option.map_some, List.getElem?_eq_getElem h, getElem!_pos L.toArray j (by simpa using h)]
      simp
    · rw [List.getElem?_eq_none (by simpa using h), List.getElem?_eq_none h]; rfl
  · intro j hj
    unfold Lib.keeps
    rw [decide_eq_true_iff]
    by_cases h0 : j = 0
    · exact Or.inl h0
    · refine Or.inr fun e => ?_
      rw [getElem!_pos L.toArray j (by simpa using hj), getElem!_pos L.toArray (j - 1) (by simp; omega)] at e
      have e' : L[j] = L[j - 1]'(by omega) := by simpa using e
      exact List.pairwise_iff_getElem.1 hn (j - 1) j (by omega) hj (by omega) e'.symm
theorem compact_at (g c : Nat) (L : List Int) (hpos : 0 < L.length) (hn : L.Nodup) (hl : L.length ≤ 1048576) (w0 w : World) (hb : Below w0.heap.size w0 w)
    (ho : (Kd.int .i64).R 3 w w0.heap.size (fun _ => True) (.slice (some ⟨g, 0, none⟩) L.length c) L) :
    Calls Tryd.prog 114 #[.slice (some ⟨g, 0, none⟩) L.length c] w fun e w' => e = .returned (.slice (some ⟨g, 0, none⟩) L.length c) ∧ (Kd.int .i64).R 3 w' w0.heap.size (fun _ => True) (.slice (some ⟨g, 0, none⟩) L.length c) L ∧ Below w0.heap.size w0 w' := by
  obtain ⟨hg, _, hc, hm, cur, hh, hs, ht⟩ := R_int_out ho hpos
  have hH : Holds (Value.int .i64) w g 0 L.toArray := by
    intro j hj
    have hj' : j < L.length := by simpa using hj
    have h1 : cur[j]? = some (Value.int .i64 L.toArray[j]!) := by
      have h2 := congrArg (fun l => l[j]?) ht
      simp only [List.getElem?_take, if_pos hj', List.getElem?_map, Array.getElem?_toList] at h2
      rw [h2, List.getElem?_eq_getElem hj', getElem!_pos L.toArray j hj]; rfl
    refine ⟨?_, ?_⟩
    · rw [Nat.zero_add]
      simp only [World.cell?, hh, h1]
      simp [h1]
    · simp [World.frozen?, hh]
  refine (Tryd.slices_Compact_int g 0 c L w hH (by omega) hc).mono ?_
  rintro e w' ⟨rfl, q, rfl⟩
  rw [compact_lec hn, Nat.sub_self, List.replicate_zero, List.append_nil, putRow_self _ _ _ _ _ (holds_ahead _ _ _ _ _ _ hH)]
  exact ⟨rfl, Kd.R_drewN ho q, pw_below_drewN hb q⟩
def impl_SortLectic.f (l0 : List Int) : Option (List Int) :=
  if l0.all Pu.isAny = true ∧ l0.Nodup ∧ 0 < l0.length then some (Pu.cast (lecOf (l0.map Int.toNat))) else none
theorem sl1_val (x : Int) : impl_SortLectic_1.f x = some (!Pu.isAny x) := by
  unfold impl_SortLectic_1.f
  rw [Pu.any_val, Option.bind_some]
theorem R_form_int {e base : Nat} {w : World} {ok : Nat → Prop} {v : Value} {xs : List Int} (h : (Kd.int .i64).R e w base ok v xs) (hx : 0 < xs.length) : ∃ g c, v = .slice (some ⟨g, 0, none⟩) xs.length c ∧ xs.length ≤ c := by
  obtain ⟨_, inner, ⟨h1, h2⟩, _⟩ := h
  rcases h2 with ⟨_, h2⟩ | ⟨g, cap, cur, he, _, _, hn, _⟩
  · omega
  · exact ⟨g, cap, he, hn⟩
set_option maxHeartbeats 4000000 in
set_option maxRecDepth 100000 in
theorem impl_SortLectic.calls (A0 : Option Addr) (c0 : Nat) (l0 : List Int) (r : List Int) (w : World) (hr0 : Kd.C (Kd.int .i64) w A0 l0.length l0) (hc0 : l0.length ≤ c0) (htab : Tab64 w) (h : impl_SortLectic.f l0 = some r) :
    Calls Tryd.prog 87 #[.slice A0 l0.length c0] w fun e w' => ∃ v0_ : Value, e = .returned (v0_) ∧ Kd.R (Kd.int .i64) 3 w' w.heap.size (fun _ => True) v0_ r ∧ Below w.heap.size w w' := by
  unfold impl_SortLectic.f at h
  by_cases hq : l0.all Pu.isAny = true ∧ l0.Nodup ∧ 0 < l0.length
  · rw [if_pos hq] at h
    obtain rfl := Option.some.inj h
    obtain ⟨hall, hnd, hpos⟩ := hq
    rw [List.all_eq_true] at hall
    have hcast : l0 = Pu.cast (l0.map Int.toNat) := Pu.cast_of fun x hx => by have := hall x hx; unfold Pu.isAny at this; rw [decide_eq_true_iff] at this; exact this.1
    generalize l0.map Int.toNat = R at hcast ⊢
    subst hcast
    rw [Pu.cast_length] at hr0 hc0 hpos ⊢
    have hR : ∀ x ∈ R, x < 256 := fun x hx => by
      have := hall (x : Int) (List.mem_map.2 ⟨x, hx, rfl⟩)
      unfold Pu.isAny at this
      rw [decide_eq_true_iff] at this
      omega
    have hndR : R.Nodup := nodup_cast hnd
    have hlen : R.length ≤ 256 := Pu.nodup_le 256 R hndR hR
    have eg : ∀ args w, (callFunc 109 args).run Tryd.prog w = .ok (.enter 109 args) w := enters_of Tryd.func109 (by kernel_rfl) rfl
    have hany : (Pu.cast R).any (fun x => !Pu.isAny x) = false := by
      rw [List.any_eq_false]
      intro x hx
      rw [hall x hx]; decide
    have h0 := ContainsFunc_int 109 #[] eg A0 c0 (Pu.cast R) (fun x => !Pu.isAny x) w (by rw [Pu.cast_length]; exact hr0) (fun W x hb => (impl_SortLectic_1.calls x _ W (sl1_val x)).mono fun e w' ⟨he, q, hw⟩ => ⟨he, by rw [hw]; exact pw_below_drewN (Below.refl _ _) q⟩)
    rw [hany, Pu.cast_length] at h0
    have hcl : slices_Clone_int.f (Pu.cast R) = some (Pu.cast R) := by unfold slices_Clone_int.f; rw [if_pos (by rw [Pu.cast_length]; omega)]
    have hclone := fun W hr => slices_Clone_int.calls A0 c0 (Pu.cast R) (Pu.cast R) W (by rw [Pu.cast_length]; exact hr) (by rw [Pu.cast_length]; exact hc0) hcl
    rw [Pu.cast_length] at hclone
    have hlecL : (Pu.cast (lecOf R)).length = R.length := by rw [Pu.cast_length, lecOf_length hR hndR]
    have hndL : (Pu.cast (lecOf R)).Nodup := cast_nodup (lecF_nodup _)
    have hcompact := fun g c W hb ho => compact_at g c (Pu.cast (lecOf R)) (by omega) hndL (by omega) w W hb ho
    rw [hlecL] at hcompact
    have hsort := fun g c W hb ho => sort_at g c R hpos hR hndR w W htab hb ho
    have HR0 := Aside0.mk hr0
    have HS := Aside0.mk hsort
    have HCP := Aside0.mk hcompact
    have HCL := Aside0.mk hclone
    have HPOS : Aside0 (0 < (Pu.cast R).length) := ⟨by rw [Pu.cast_length]; exact hpos⟩
    have HLEN : Aside0 ((Pu.cast R).length = R.length) := ⟨Pu.cast_length R⟩
    clear hr0 hsort hcompact hclone hcl hlecL hndL hlen hR hndR hall hnd hany hpos htab hc0
    go_enter Tryd.func87, Tryd.ntmps87
    go_wp2_with (first | (go_at_call 79; refine h0.mono ?_; rintro e w1 ⟨rfl, hb1⟩; have HB1 := Aside0.mk hb1; clear hb1) | (go_at_call 110; refine (HCL.out _ (Kd.C_below HR0.out HB1.out)).mono ?_; rintro e w2 ⟨v, rfl, hR2, hB2⟩; obtain ⟨g, c, hv, hgc⟩ := R_form_int hR2 HPOS.out; rw [HLEN.out] at hv hgc; subst hv; have HO2 := Aside0.mk (Kd.R_lower hR2 (below_size HB1.out)); have HB2 := Aside0.mk (below_step HB1.out hB2); clear hR2 hB2 hgc) | (go_at_call 111; refine (HS.out _ _ _ HB2.out HO2.out).mono ?_; rintro e w3 ⟨rfl, hR3, hB3⟩; have HO3 := Aside0.mk hR3; have HB3 := Aside0.mk hB3; clear hR3 hB3) | (go_at_call 114; refine (HCP.out _ _ _ HB3.out HO3.out).mono ?_; rintro e w4 ⟨rfl, hR4, hB4⟩; have HO4 := Aside0.mk hR4; have HB4 := Aside0.mk hB4; clear hR4 hB4))
    go_ret
    exact ⟨_, rfl, HO4.out, HB4.out⟩
  · rw [if_neg hq] at h
    cases h
end Go.Proofs.YtbflblmkdnhboaaDoor.Pr
namespace Go.Proofs.YtbflblmkdnhboaaDoor.Pr
open Go.RowKit Go.Proofs.YtbflblmkdnhboaaDoorW.PrintWords Go.Proofs.YtbflblmkdnhboaaDoorW.PrintLast Go.Proofs.YtbflblmkdnhboaaDoorW.PrintMore
attribute [local go_sem] max2_int min2_int max_two min_two max_three min_three max_four min_four   -- for this text's walks alone
set_option linter.unusedVariables false
set_option linter.unusedSimpArgs false
theorem q8_1 {P : Prop} (h : P := by repeat (first | (with_reducible first | exact HB.out | apply below_alloc | apply pw_below_drewN | apply below_drew1) | exact HB.out)) : P := h
theorem q8_2 {P : Prop} (h : P := by (with_reducible repeat (first | apply Kd.R_alloc | apply Kd.R_drewN | apply Kd.R_drew)); exact HO_3.out) : P := h
def impl_allSets.l0 : Nat → List Int → Int → Int → Option (List Int)
 | 0, _, _, _ => none
 | k + 1, x3, x7, x8 => if x8 < x7 then (if x3.length < 17592186044416 then (impl_allSets.l0 k (x3 ++ [x8]) x7 (wrap64 (x8 + 1))) else (none)) else ((impl_SortLectic.f x3).bind fun t248 => (some t248))
def impl_allSets.f (k : Nat) (a0 : Int) : Option (List Int) := if 0 ≤ a0 then (impl_allSets.l0 k (([] : List Int)) (shl .i64 1 a0) 0) else (none)
set_option maxHeartbeats 8000000 in
set_option maxRecDepth 100000 in
theorem impl_allSets.calls (k : Nat) (a0 : Int) (r : List Int) (w : World) (htab : Tab64 w) (h : impl_allSets.f k a0 = some r) :
  Calls Tryd.prog 55 #[.int .i64 a0] w fun e w' => ∃ v0_ : Value, e = .returned (v0_) ∧ Kd.R (Kd.int .i64) 3 w' w.heap.size (fun _ => True) v0_ r ∧ Below w.heap.size w w' := by
 have HTB := Aside0.mk htab
 clear htab
 have HB := Aside0.mk (Below.refl w.heap.size w)
 have H : (if 0 ≤ a0 then (impl_allSets.l0 k (([] : List Int)) (shl .i64 1 a0) 0) else (none)) = some r := h
 clear h
 obtain ⟨y242, hy242⟩ : ∃ y_ : List Int, y_ = (([] : List Int)) := ⟨_, rfl⟩
 replace H : (if 0 ≤ a0 then (impl_allSets.l0 k y242 (shl .i64 1 a0) 0) else (none)) = some r := by first | (rw [hy242]; with_reducible exact H) | (have H2_ := (Option.bind_some _ _).symm.trans H; rw [hy242]; with_reducible exact H2_) | (have H2_ := (Option.bind_some _ _).symm.trans H; with_reducible exact H2_) | with_reducible exact H | (rw [hy242]; exact H) | exact H
 have Ny242 := Aside0.mk hy242
 clear hy242
 by_cases c2 : 0 ≤ a0
 ·
  rw [if_pos c2] at H
  have c2b0 := eq_true c2
  have c2b1 : decide (0 ≤ a0) = true := decide_eq_true c2
  clear c2
  obtain ⟨ji3, hji3⟩ : ∃ j_ : Int, (shl .i64 1 a0) = j_ := ⟨_, rfl⟩
  replace H : (impl_allSets.l0 k y242 ji3 0) = some r := by first | (rw [hji3] at H; exact H) | (simp only [hji3] at H ⊢; exact H)
  have hji3_ : (IntKind.i64.wrap (1 * 2 ^ min a0.toNat 64)) = ji3 := hji3
  have hji3z : a0 ≤ 64 → (IntKind.i64.wrap (1 * 2 ^ a0.toNat)) = ji3 := shl_small hji3
  have hji3u : (IntKind.i64.wrap (2 ^ min a0.toNat 64)) = ji3 := by have h_ := hji3_; rw [Int.one_mul] at h_; exact h_
  have hji3v : a0 ≤ 64 → (IntKind.i64.wrap (2 ^ a0.toNat)) = ji3 := fun hle_ => by have h_ := hji3z hle_; rw [Int.one_mul] at h_; exact h_
  have hji3y : (wrap64 (1 * 2 ^ min a0.toNat 64)) = ji3 := (i64_w _).symm.trans hji3_
  have hji3x : a0 ≤ 64 → (wrap64 (1 * 2 ^ a0.toNat)) = ji3 := fun h_ => (i64_w _).symm.trans (hji3z h_)
  have H' := Aside0.mk H
  clear H
  go_enter Tryd.func55, Tryd.ntmps55
  go_wp2_with (first | ((with_reducible refine gate_dst (N := 5) rfl ?_); refine Kd.R_lit (Kd.int .i64) _ 3 ?hg (N := 5) ?hd (xs := ([] : List Int)) (inner := []) (ok := fun _ => True) (okp := fun _ => True) ?hr ?hp (fun _ hk => hk) trivial (Below.refl _ _) (Nat.le_refl _) (by simp) ?_; (case hd => rfl); (case hg => rfl); (case hr => first | (go_simp; done) | (go_simp; rfl)); (case hp => exact (Reps.none _ _)); intro v243 w4 ho5 hb hg_ hnew_; clear hg_ hnew_; (first | rw [← Ny242.out] at ho5 | (simp only [Int.reduceToNat] at ho5; rw [← Ny242.out] at ho5)); have n0_ := Aside0.mk (Kd.R_lower ho5 (below_size q8_1)); have n1_ := Aside0.mk (below_step q8_1 hb); clear HB; have HO244 := n0_; have HB := n1_; clear n0_ n1_; clear hb ho5))
  go_loopg [3, 8] k (fun kq v3 v8 w' => ∃ (x3_1 : List Int) (x8_1 : Int), v8 = .int .i64 x8_1 ∧ Aside0 (impl_allSets.l0 kq x3_1 ji3 x8_1 = some r) ∧ Aside0 (kq ≤ k) ∧ Aside0 (Kd.R (Kd.int .i64) 3 w' w.heap.size (fun _ => True) v3 x3_1) ∧ Aside0 (Below w.heap.size w w'))
  case atStart => exact ⟨(y242), (0), (by first | rfl | (simp; done) | (simp [*]; done) | (simp [i64_w, i32_w]; done)), H', ⟨Nat.le_refl _⟩, ⟨by (with_reducible repeat (first | apply Kd.R_alloc | apply Kd.R_drewN | apply Kd.R_drew)); exact HO244.out⟩, ⟨by repeat (first | (with_reducible first | exact HB.out | apply below_alloc | apply pw_below_drewN | apply below_drew1) | exact HB.out)⟩⟩
  case round =>
   clear H'
   try clear c2
   try clear c2b0
   try clear c2b1
   try clear p2
   try clear c5
   obtain ⟨x3_1, x8_1, rfl, HA, HK1, HO_3, HB⟩ := hrel
   cases gk with
   | zero => exact absurd HA.out (by simp [impl_allSets.l0])
   | succ k1 =>
    have H := HA.out
    clear HA
    simp only [impl_allSets.l0] at H
    by_cases c6 : x8_1 < ji3
    ·
     rw [if_pos c6] at H
     have c6b0 : decide (x8_1 < ji3) = true := decide_eq_true c6
     clear c6
     by_cases c7 : x3_1.length < 17592186044416
     ·
      rw [if_pos c7] at H
      have LMc7 := Aside0.mk c7
      clear c7
      obtain ⟨y245, hy245⟩ : ∃ y_ : List Int, y_ = (x3_1 ++ [x8_1]) := ⟨_, rfl⟩
      replace H : (impl_allSets.l0 k1 y245 ji3 (wrap64 (x8_1 + 1))) = some r := by first | (rw [hy245]; with_reducible exact H) | (have H2_ := (Option.bind_some _ _).symm.trans H; rw [hy245]; with_reducible exact H2_) | (have H2_ := (Option.bind_some _ _).symm.trans H; with_reducible exact H2_) | with_reducible exact H | (rw [hy245]; exact H) | exact H
      have Ny245 := Aside0.mk hy245
      clear hy245
      have H' := Aside0.mk H
      clear H
      go_wp2_with (first | ((with_reducible refine gate_builtin (b := .append) (xs := #[.tmp 11, .tmp 13]) rfl ?_); at_builtin; refine Kd.R_append (Kd.int .i64) (w0 := w) w.heap.size rfl (.tmp 11) (.tmp 13) 22 3 (.int .i64 0) 8 rfl Tryd.underlying22 info3 rfl (by decide) (by omega) u3 x3_1 x8_1 [.int .i64 x8_1] (fun _ => True) (fun _ => False) rfl rfl ?aP (fun _ hk => hk.elim) ?aF ?aO ?aB ?aS ?aL ?_; (case aP => exact rfl); (case aB => exact q8_1); (case aF => exact (fun _ _ => trivial)); (case aO => exact q8_2); (case aS => exact (below_size q8_1)); (case aL => have := LMc7.out; omega); intro v246 w8 ho hb hg hat; rw [← Ny245.out] at ho; have n0_ := Aside0.mk (hb); have n1_ := Aside0.mk (ho); clear HB; clear HO_3; have HB := n0_; have HO247 := n1_; clear n0_ n1_; clear ho hb hg hat))
      go_roundg k1
      case measure => have := HK1.out; omega
      case rel => exact ⟨(y245), (wrap64 (x8_1 + 1)), (by first | rfl | (simp; done) | (simp [*]; done) | (simp [i64_w, i32_w]; done)), H', ⟨by have := HK1.out; omega⟩, ⟨by (with_reducible repeat (first | apply Kd.R_alloc | apply Kd.R_drewN | apply Kd.R_drew)); exact HO247.out⟩, ⟨by repeat (first | (with_reducible first | exact HB.out | apply below_alloc | apply pw_below_drewN | apply below_drew1) | exact HB.out)⟩⟩
     ·
      rw [if_neg c7] at H
      exact absurd H (by simp)
    ·
     rw [if_neg c6] at H
     have c6b0 : decide (x8_1 < ji3) = false := decide_eq_false c6
     clear c6
     replace H := Option.bind_eq_some_iff.mp H
     obtain ⟨t248, A90, H⟩ := H
     replace H : (some t248) = some r := H
     have A9 := Aside0.mk A90
     clear A90
     obtain rfl := Option.some.inj H
     obtain ⟨Ao10, co10, eo10⟩ := Kd.R_slice HO_3.out
     subst eo10
     go_wp2_with (first | ((with_reducible refine gate_callee (f := 87) rfl ?_); refine goesL_ (some 17) rfl rfl Tryd.func87 (by kernel_rfl) rfl #[.slice Ao10 x3_1.length co10] rfl (by (try simp only [List.map_toArray, List.map_cons, List.map_nil]); first | done | rfl | (simp only [List.length_drop, List.length_take]; rfl)) ?_; (with_reducible refine (impl_SortLectic.calls _ _ x3_1 t248 _ ?side1 ?side2 ?tab A9.out).mono ?_); (case tab => first | exact HTB.out | (refine Tab64.below HTB.out ?_; repeat (first | (with_reducible first | exact HB.out | apply below_alloc | apply pw_below_drewN | apply below_drew1) | exact HB.out)) | (repeat (first | exact HTB.out | apply Tab64.drewN | apply Tab64.drew | apply Tab64.alloc))); (case side1 => repeat (first | exact (Kd.R_reads' HO_3.out).2.2 | (with_reducible refine Kd.C_alloc ?_ _) | (with_reducible refine Kd.C_drewN ?_ _) | (with_reducible refine Kd.C_drew ?_))); (case side2 => exact (Kd.R_reads' HO_3.out).2.1); rintro e w11 ⟨v249, rfl, ho0, hb⟩; refine ⟨_, rfl, ?_⟩; have n0_ := Aside0.mk (Kd.R_elder' q8_2 (Kd.R_base ho0) hb); have n1_ := Aside0.mk (Kd.R_lower (Kd.R_new' ho0 (Kd.R_lt q8_2)) (below_size q8_1)); have n2_ := Aside0.mk (below_step q8_1 hb); clear HO_3; clear HB; have HO_3 := n0_; have HO250 := n1_; have HB := n2_; clear n0_ n1_ n2_; (try clear hb); (try clear hb2); (try clear hk); (try clear hi); (try clear ho0)))
     go_ret
     exact ⟨_, by first | rfl | (simp [errW_none, errW_some] <;> rfl) | (simp only [← hji3]; first | rfl | (simp [errW_none, errW_some] <;> rfl)) | (simp [*, errW_none, errW_some] <;> rfl), by (with_reducible repeat (first | apply Kd.R_alloc | apply Kd.R_drewN | apply Kd.R_drew)); exact Kd.R_mono HO250.out (fun _ hk => trivial), by repeat (first | (with_reducible first | exact HB.out | apply below_alloc | apply pw_below_drewN | apply below_drew1) | exact HB.out)⟩
 ·
  rw [if_neg c2] at H
  exact absurd H (by simp)
end Go.Proofs.YtbflblmkdnhboaaDoor.Pr
