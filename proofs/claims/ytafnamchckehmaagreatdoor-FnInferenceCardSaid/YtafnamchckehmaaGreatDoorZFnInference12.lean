/- Functions of the program as plain functions, proofs that their calls answer so, and plain laws: what the law needs. No condition beyond what each statement says. -/
import Derived.Test.YtafnamchckehmaaGreatDoorZFnInference11
import Derived.Sort.LotA
import Derived.Test.YtafnamchckehmaaGreatDoorZFnInference9
import Derived.Sort.WalkA
namespace Go.Proofs.YtafnamchckehmaaGreatDoor.Pr
open Go.RowKit Go.Proofs.YtafnamchckehmaaGreatDoorW.PrintWords Go.Proofs.YtafnamchckehmaaGreatDoorW.PrintLast Go.Proofs.YtafnamchckehmaaGreatDoorW.PrintMore
attribute [local go_sem] max2_int min2_int max_two min_two max_three min_three max_four min_four
set_option linter.unusedVariables false
set_option linter.unusedSimpArgs false
theorem bnd39_ {α β : Type} {o : Option α} {f : α → Option β} {r : β} (h : o.bind f = some r) : ∃ a, Aside0 (o = some a) ∧ f a = some r := by
 obtain ⟨a, h1, h2⟩ := Option.bind_eq_some_iff.mp h
 exact ⟨a, ⟨h1⟩, h2⟩
theorem q39_1 {P : Prop} (h : P := by (with_reducible repeat (first | refine blk_drewN ?_ _ | refine blk_drew ?_ | refine blk_alloc ?_ _)); refine blk_put (cs := #[.int .i64 (Go.bits .andNot .i64 x502000_2 (ji20)), .int .i64 0]) ?_ 1 _ rfl; (with_reducible repeat (first | refine blk_drewN ?_ _ | refine blk_drew ?_ | refine blk_alloc ?_ _)); refine blk_put (cs := #[.int .i64 0, .int .i64 0]) ?_ 0 _ rfl; (with_reducible repeat (first | refine blk_drewN ?_ _ | refine blk_drew ?_ | refine blk_alloc ?_ _)); exact BK506.out) : P := h
theorem q39_2 {P : Prop} (h : P := by (with_reducible repeat (first | refine blk_drewN ?_ _ | refine blk_drew ?_ | refine blk_alloc ?_ _)); refine blk_far ?_ NB501_506.out _; (with_reducible repeat (first | refine blk_drewN ?_ _ | refine blk_drew ?_ | refine blk_alloc ?_ _)); refine blk_far ?_ NB501_506.out _; (with_reducible repeat (first | refine blk_drewN ?_ _ | refine blk_drew ?_ | refine blk_alloc ?_ _)); exact BK501.out) : P := h
theorem q39_3 {P : Prop} (h : P := by (with_reducible repeat (first | apply Kd.R_alloc | apply Kd.R_drewN | apply Kd.R_drew)); exact (Kd.R_mono (Kd.R_far (p := ⟨gb506, 1, none⟩) (Kd.R_far (p := ⟨gb506, 0, none⟩) (Kd.R_mono HO_6.out (fun k_ hk => (⟨hk, hk.2⟩ : _ ∧ k_ ≠ gb506))) (fun _ hk => hk.2) (.int .i64 (Go.bits .andNot .i64 x502000_2 (ji20)))) (fun _ hk => hk.2) (.int .i64 x502001_2)) (fun _ h_ => h_.1))) : P := h
theorem q39_4 {P : Prop} (h : P := by (with_reducible repeat (first | apply Kd.R_alloc | apply Kd.R_drewN | apply Kd.R_drew)); exact (Kd.R_mono (Kd.R_far (p := ⟨gb506, 1, none⟩) (Kd.R_far (p := ⟨gb506, 0, none⟩) (Kd.R_types HO_25.out BK506.out (by decide)) (fun _ hk => hk.2) (.int .i64 (Go.bits .andNot .i64 x502000_2 (ji20)))) (fun _ hk => hk.2) (.int .i64 x502001_2)) (fun _ h_ => h_.1))) : P := h
theorem q39_5 {P : Prop} (h : P := by repeat (first | (with_reducible first | exact HB.out | apply below_alloc | apply pw_below_drewN | apply below_drew1 | refine below_set ?_ GE501.out | refine below_set ?_ GE506.out) | exact HB.out)) : P := h
theorem q39_6 {P : Prop} (h : P := by (try simp only [List.map_toArray, List.map_cons, List.map_nil]); first | done | (simp only [hji20]; rfl) | rfl | (simp only [List.length_drop, List.length_take]; rfl)) : P := h
theorem q39_7 {P : Prop} (h : P := by repeat (first | (with_reducible first | exact HB.out | apply below_alloc | apply pw_below_drewN | apply below_drew1 | refine below_set ?_ GE501.out) | exact HB.out)) : P := h
theorem q39_11 {P : Prop} (h : P := by (with_reducible repeat (first | refine blk_drewN ?_ _ | refine blk_drew ?_ | refine blk_alloc ?_ _)); exact BK501.out) : P := h
theorem q39_12 {P : Prop} (h : P := by (with_reducible repeat (first | apply Kd.R_alloc | apply Kd.R_drewN | apply Kd.R_drew)); exact HO_25.out) : P := h
mutual
def impl_LeftReduced.l0 : Nat → List (S48) → List (S48) → List (S48) → Int → Int → Option ((List (S48)) × Bool)
 | 0, _, _, _, _, _ => none
 | k + 1, x1, x6, x17, x18, x19 => if x19 < x18 then (if 0 ≤ x19 then (if x19 < (x17.length : Int) then ((impl_ElementsOf.f k ((rd_T48 x17 x19).f0)).bind fun t502 => (impl_LeftReduced.l1 k x1 x6 x17 x18 x19 t502 (t502.length : Int) 0 ((rd_T48 x17 x19).f0) ((rd_T48 x17 x19).f1))) else (none)) else (none)) else (some (x6, true))
def impl_LeftReduced.l1 : Nat → List (S48) → List (S48) → List (S48) → Int → Int → List Int → Int → Int → Int → Int → Option ((List (S48)) × Bool)
 | 0, _, _, _, _, _, _, _, _, _, _ => none
 | k + 1, x1, x6, x17, x18, x19, x25, x26, x27, x502000, x502001 => if x27 < x26 then (if 0 ≤ x27 then (if x27 < (x25.length : Int) then (if 0 ≤ (rd x25 x27) then ((impl_Follows.f k x1 (Go.bits .andNot .i64 x502000 (shl .i64 1 (rd x25 x27))) x502001).bind fun t507 => (if t507 = true then (impl_LeftReduced.l1 k x1 x6 x17 x18 x19 x25 x26 (wrap64 (x27 + 1)) (Go.bits .andNot .i64 x502000 (shl .i64 1 (rd x25 x27))) x502001) else (impl_LeftReduced.l1 k x1 x6 x17 x18 x19 x25 x26 (wrap64 (x27 + 1)) x502000 x502001))) else (none)) else (none)) else (none)) else (if x6.length < 8796093022208 then (impl_LeftReduced.l0 k x1 (x6 ++ [(⟨x502000, x502001⟩ : S48)]) x17 x18 (wrap64 (x19 + 1))) else (none))
end
def impl_LeftReduced.f (k : Nat) (a0 : Int) (l1 : List (S48)) : Option ((List (S48)) × Bool) := (impl_AreRules.f a0 l1).bind fun t496 => (if t496 = true then (impl_LeftReduced.l0 k l1 (([] : List (S48))) l1 (l1.length : Int) 0) else (some (([] : List (S48)), false)))
def impl_LeftReduced.T10 : Bool × List (List Nat × List Nat) := (true, [([], []), ([0], [0]), ([], []), ([2], [2]), ([1, 3], [1, 3]), ([], []), ([5], [5]), ([4, 6], [4, 6]), ([], []), ([8, 7, 0, 1, 2, 3, 4, 5, 6, 7, 8], [7, 8])])
def impl_LeftReduced.B10 : List Nat := [0, 1, 0, 4, 15, 0, 32, 127, 0, 511]
theorem impl_LeftReduced.tab10 : rtab .any (opsOf Tryz.f37 10) = impl_LeftReduced.T10 := by kernel_rfl
theorem impl_LeftReduced.bits10 : waitsOk impl_LeftReduced.T10.2 impl_LeftReduced.B10 = true := by kernel_rfl
set_option maxHeartbeats 40000000 in
set_option maxRecDepth 100000 in
theorem impl_LeftReduced.calls (k : Nat) (a0 : Int) (A1 : Option Addr) (c1 : Nat) (l1 : List (S48)) (r1 : List (S48)) (r2 : Bool) (w : World) (hr1 : Kd.C k48 w A1 l1.length l1) (hc1 : l1.length ≤ c1) (h : impl_LeftReduced.f k a0 l1 = some (r1, r2)) :
  Calls Tryz.prog 37 #[.int .i64 a0, .slice A1 l1.length c1] w fun e w' => ∃ v0_ : Value, e = .returned (.tuple #[v0_, .bool r2]) ∧ Kd.R k48 48 w' w.heap.size (fun _ => True) v0_ r1 ∧ Below w.heap.size w w' := by
 have hu48 := Tryz.underlying48; have HR1 := Aside0.mk hr1; have HC1 := Aside0.mk hc1; clear hr1 hc1; have HB := Aside0.mk (Below.refl w.heap.size w); have H := h; clear h; unfold impl_LeftReduced.f at H; obtain ⟨t496, A3, H⟩ := bnd39_ H
 by_cases c4 : t496 = true
 ·
  subst c4; rw [if_pos rfl] at H; obtain ⟨y497, hy_⟩ : ∃ y_ : List (S48), y_ = (([] : List (S48))) := ⟨_, rfl⟩
  replace H : (impl_LeftReduced.l0 k l1 y497 l1 (l1.length : Int) 0) = some (r1, r2) := rH_
  have Ny497 := Aside0.mk hy_; clear hy_; have H' := Aside0.mk H; clear H
  go_enter Tryz.func37, Tryz.ntmps37
  go_wp2_with ((with_reducible refine gw_ rfl ?_); first | (refine gL_ 81 14 Tryz.func81 #[.int .i64 a0, .slice A1 l1.length c1] ?_; (with_reducible refine (impl_AreRules.calls a0 _ _ l1 true _ ?side1 ?side2 A3.out).mono ?_); (case side1 => exact s18_); (case side2 => exact HC1.out); rintro e w5 ⟨rfl, hb⟩; refine ⟨_, rfl, ?_⟩; have n_ := Aside0.mk (below_step s1_ hb); clear HB; have HB := n_; clear n_; (try clear hb)) | (refine rl_ k48 48 16 ?_; intro v498 w6 ho7 hb hg_ hnew_; clear hg_ hnew_; (first | rw [← Ny497.out] at ho7 | (simp only [Int.reduceToNat] at ho7; rw [← Ny497.out] at ho7)); have n_ := ac_ (Kd.R_lower ho7 (below_size s1_)) <| Aside0.mk (below_step s1_ hb); clear HB; obtain ⟨HO499, HB⟩ := n_; clear hb ho7))
  go_loopg [6, 19] k (fun kq v6 v19 w' => ∃ (x6_1 : List (S48)) (x19_1 : Int), v19 = .int .i64 x19_1 ∧ Aside0 (impl_LeftReduced.l0 kq l1 x6_1 l1 (l1.length : Int) x19_1 = some (r1, r2)) ∧ Aside0 (kq ≤ k) ∧ Aside0 (Kd.R k48 48 w' w.heap.size (fun _ => True) v6 x6_1) ∧ Aside0 (Below w.heap.size w w'))
  case atStart => exact ⟨(y497), (0), s2_, H', ⟨Nat.le_refl _⟩, ⟨(by (with_reducible repeat (first | apply Kd.R_alloc | apply Kd.R_drewN | apply Kd.R_drew)); exact HO499.out)⟩, ⟨s1_⟩⟩
  case round =>
   clear H'
   try clear c1
   try clear p2
   try clear c3
   try clear c4
   obtain ⟨x6_1, x19_1, rfl, HA, HK1, HO_6, HB⟩ := hrel
   cases gk with
   | zero => exact absurd HA.out (by simp [impl_LeftReduced.l0])
   | succ k1 =>
    have H := HA.out; clear HA
    simp only [impl_LeftReduced.l0] at H
    by_cases c8 : x19_1 < (l1.length : Int)
    ·
     rw [if_pos c8] at H; have c8b0 : decide (x19_1 < (l1.length : Int)) = true := decide_eq_true c8; clear c8
     by_cases c9 : 0 ≤ x19_1
     ·
      rw [if_pos c9] at H; have c9b0 : decide (0 ≤ x19_1) = true := decide_eq_true c9; clear c9
      by_cases c10 : x19_1 < (l1.length : Int)
      ·
       rw [if_pos c10] at H; have c10b0 : decide (x19_1 < (l1.length : Int)) = true := decide_eq_true c10; clear c10; obtain ⟨t502, A11, H⟩ := bnd39_ H; have H' := Aside0.mk H; clear H; have p500 : 0 ≤ (x19_1 : Int) := of_decide_eq_true s3_; have q500 : x19_1 < (l1.length : Int) := of_decide_eq_true s3_; obtain ⟨ad500, e500, hx500_0, hx500_1⟩ := at_T48 HR1.out x19_1 p500 q500
       cases e500
       replace hx500_0 := (HB.out.cell (World.block_lt_of_cell? w _ hx500_0)).trans hx500_0; replace hx500_1 := (HB.out.cell (World.block_lt_of_cell? w _ hx500_1)).trans hx500_1; replace p500 := eq_true p500; replace q500 := eq_true q500
       go_wp2_with ((with_reducible refine gw_ rfl ?_); first | (refine be_ 8 #[.int .i64 0, .int .i64 0] 48 ?_; intro gb501 hg w12 hbox hb; have n_ := ac_ (Kd.R_below (Kd.R_elderB s15_ gb501 (Nat.le_of_eq hg.symm)) hb) <| ac_ (below_step s1_ hb) <| ac_ (hbox) <| ac_ ((gz_ w hg s1_)) <| Aside0.mk ((gz_ w hg s1_)); clear HO_6 HB; obtain ⟨HO_6, HB, BK501, GW501, GE501⟩ := n_; clear hb hbox hg; have hcz13_0 : w12.cell? ⟨gb501, 0, none⟩ = some (.int .i64 0) := (blk_cell BK501.out 0).trans rfl; have hcz13_1 : w12.cell? ⟨gb501, 1, none⟩ = some (.int .i64 0) := (blk_cell BK501.out 1).trans rfl; have hfz13_0 := blk_frozen BK501.out 0; have hfz13_1 := blk_frozen BK501.out 1) | (refine gL_ 155 25 Tryz.func155 #[.int .i64 ((rd_T48 l1 x19_1).f0)] ?_; (with_reducible refine (impl_ElementsOf.calls k1 ((rd_T48 l1 x19_1).f0) t502 _ A11.out).mono ?_); rintro e w14 ⟨v503, rfl, ho0, hb⟩; refine ⟨_, rfl, ?_⟩; have n_ := ac_ (Kd.R_below (by (with_reducible repeat (first | apply Kd.R_alloc | apply Kd.R_drewN | apply Kd.R_drew)); exact (Kd.R_mono (Kd.R_far (p := ⟨gb501, 1, none⟩) (Kd.R_far (p := ⟨gb501, 0, none⟩) (Kd.R_mono HO_6.out (fun k_ hk => (⟨hk, hk.2⟩ : _ ∧ k_ ≠ gb501))) (fun _ hk => hk.2) (.int .i64 ((rd_T48 l1 x19_1).f0))) (fun _ hk => hk.2) (.int .i64 ((rd_T48 l1 x19_1).f1))) (fun _ h_ => h_.1))) hb) <| ac_ (Kd.R_lower ho0 (below_size q39_7)) <| ac_ (blk_below (g := gb501) (o := .cells #[.int .i64 ((rd_T48 l1 x19_1).f0), .int .i64 ((rd_T48 l1 x19_1).f1)] 48 (0, 0)) (by (with_reducible repeat (first | refine blk_drewN ?_ _ | refine blk_drew ?_ | refine blk_alloc ?_ _)); refine blk_put (cs := #[.int .i64 ((rd_T48 l1 x19_1).f0), .int .i64 0]) ?_ 1 _ rfl; (with_reducible repeat (first | refine blk_drewN ?_ _ | refine blk_drew ?_ | refine blk_alloc ?_ _)); refine blk_put (cs := #[.int .i64 0, .int .i64 0]) ?_ 0 _ rfl; (with_reducible repeat (first | refine blk_drewN ?_ _ | refine blk_drew ?_ | refine blk_alloc ?_ _)); exact BK501.out) hb) <| Aside0.mk (below_step q39_7 hb); clear HO_6 BK501 HB; obtain ⟨HO_6, HO504, BK501, HB⟩ := n_; (try clear hb ho0); obtain ⟨Ao15, co15, eo15⟩ := Kd.R_slice HO504.out; subst eo15))
       go_loopg [27] k1 (fun kq v27 w' => ∃ (x27_2 : Int) (x502000_2 : Int) (x502001_2 : Int), v27 = .int .i64 x27_2 ∧ Aside0 (impl_LeftReduced.l1 kq l1 x6_1 l1 (l1.length : Int) x19_1 t502 (t502.length : Int) x27_2 x502000_2 x502001_2 = some (r1, r2)) ∧ Aside0 (kq ≤ k1) ∧ Aside0 (Kd.R k48 48 w' w.heap.size (fun k_ => k_ ≠ gb501) u6 x6_1) ∧ Aside0 (Kd.R (Kd.int .i64) 3 w' w.heap.size (fun _ => True) (.slice Ao15 t502.length co15) t502) ∧ Aside0 (w'.heap[gb501]? = some (.cells #[.int .i64 x502000_2, .int .i64 x502001_2] 48 (0, 0))) ∧ Aside0 (Below w.heap.size w w'))
       case atStart => exact ⟨(0), ((rd_T48 l1 x19_1).f0), ((rd_T48 l1 x19_1).f1), s2_, H', ⟨Nat.le_refl _⟩, ⟨(by (with_reducible repeat (first | apply Kd.R_alloc | apply Kd.R_drewN | apply Kd.R_drew)); exact Kd.R_mono HO_6.out (fun _ hk => hk.2))⟩, ⟨(by (with_reducible repeat (first | apply Kd.R_alloc | apply Kd.R_drewN | apply Kd.R_drew)); exact HO504.out)⟩, ⟨q39_11⟩, ⟨q39_7⟩⟩
       case round =>
        clear H'
        try clear c1
        try clear p2
        try clear c3
        try clear c4
        try clear p5
        try clear q5
        try clear hx5
        try clear c8
        try clear c8b0
        try clear c9
        try clear c9b0
        try clear c10
        try clear c10b0
        try clear c15
        try clear hcz13_0
        try clear hcz13_1
        try clear hfz13_0
        try clear hfz13_1
        try clear hx500_0
        try clear hx500_1
        try clear p2
        try clear p500
        try clear q500
        obtain ⟨x27_2, x502000_2, x502001_2, rfl, HA, HK2, HO_6, HO_25, BK501, HB⟩ := hrel
        cases gk with
        | zero => exact absurd HA.out (by simp [impl_LeftReduced.l1])
        | succ k2 =>
         have H := HA.out; clear HA
         simp only [impl_LeftReduced.l1] at H
         by_cases c16 : x27_2 < (t502.length : Int)
         ·
          rw [if_pos c16] at H; have c16b0 : decide (x27_2 < (t502.length : Int)) = true := decide_eq_true c16; clear c16
          by_cases c17 : 0 ≤ x27_2
          ·
           rw [if_pos c17] at H; have c17b0 : decide (0 ≤ x27_2) = true := decide_eq_true c17; clear c17
           by_cases c18 : x27_2 < (t502.length : Int)
           ·
            rw [if_pos c18] at H; have c18b0 : decide (x27_2 < (t502.length : Int)) = true := decide_eq_true c18; clear c18
            by_cases c19 : 0 ≤ (rd t502 x27_2)
            ·
             rw [if_pos c19] at H; have c19b0 := eq_true c19; have c19b1 : decide (0 ≤ (rd t502 x27_2)) = true := decide_eq_true c19; clear c19; obtain ⟨ji20, hji20⟩ : ∃ j_ : Int, (shl .i64 1 (rd t502 x27_2)) = j_ := ⟨_, rfl⟩
             replace H : ((impl_Follows.f k2 l1 (Go.bits .andNot .i64 x502000_2 (ji20)) x502001_2).bind fun t507 => (if t507 = true then (impl_LeftReduced.l1 k2 l1 x6_1 l1 (l1.length : Int) x19_1 t502 (t502.length : Int) (wrap64 (x27_2 + 1)) (Go.bits .andNot .i64 x502000_2 (ji20)) x502001_2) else (impl_LeftReduced.l1 k2 l1 x6_1 l1 (l1.length : Int) x19_1 t502 (t502.length : Int) (wrap64 (x27_2 + 1)) x502000_2 x502001_2))) = some (r1, r2) := by first | (rw [hji20] at H; exact H) | (simp only [hji20] at H ⊢; exact H)
             have hji20_ : (IntKind.i64.wrap (1 * 2 ^ min (rd t502 x27_2).toNat 64)) = ji20 := hji20; have hji20z : (rd t502 x27_2) ≤ 64 → (IntKind.i64.wrap (1 * 2 ^ (rd t502 x27_2).toNat)) = ji20 := shl_small hji20
             have hji20u : (IntKind.i64.wrap (2 ^ min (rd t502 x27_2).toNat 64)) = ji20 := by have h_ := hji20_; rw [Int.one_mul] at h_; exact h_
             have hji20v : (rd t502 x27_2) ≤ 64 → (IntKind.i64.wrap (2 ^ (rd t502 x27_2).toNat)) = ji20 := fun hle_ => by have h_ := hji20z hle_; rw [Int.one_mul] at h_; exact h_
             have hji20y : (wrap64 (1 * 2 ^ min (rd t502 x27_2).toNat 64)) = ji20 := (i64_w _).symm.trans hji20_
             have hji20x : (rd t502 x27_2) ≤ 64 → (wrap64 (1 * 2 ^ (rd t502 x27_2).toNat)) = ji20 := fun h_ => (i64_w _).symm.trans (hji20z h_)
             obtain ⟨t507, A21, H⟩ := bnd39_ H
             by_cases c22 : t507 = true
             ·
              subst c22; rw [if_pos rfl] at H; have H' := Aside0.mk H; clear H; have p505 : 0 ≤ (x27_2 : Int) := of_decide_eq_true s3_; have q505 : x27_2 < (t502.length : Int) := of_decide_eq_true s3_; obtain ⟨ad505, e505, hx505_0⟩ := Kd.at_int (Kd.R_reads' HO_25.out).2.2 x27_2 p505 q505
              cases e505
              replace p505 := eq_true p505; replace q505 := eq_true q505
              try go_wp2
              have n0_ := Aside0.mk (Kd.R_drew HO_6.out); have n1_ := Aside0.mk (Kd.R_drew HO_25.out); have n2_ := Aside0.mk (blk_drew BK501.out); have n3_ := Aside0.mk (below_drew1 HB.out); clear HO_6; clear HO_25; clear BK501; clear HB; have HO_6 := n0_; have HO_25 := n1_; have BK501 := n2_; have HB := n3_; clear n0_ n1_ n2_ n3_
              refine start_ (n := 10) (S := fun w' => w'.cell? ⟨gb501, 0, none⟩ = some (.int .i64 x502000_2) ∧ w'.cell? ⟨gb501, 1, none⟩ = some (.int .i64 x502001_2)) (ds := []) (tb_ 10 0) (by kernel_rfl) rfl rfl ⟨(blk_cell BK501.out 0).trans rfl, (blk_cell BK501.out 1).trans rfl⟩ (fun hHeld => ?_); refine with_tabW impl_LeftReduced.tab10 impl_LeftReduced.bits10 (fun HT_ HW_ => ?_)
              generalize wr.drew = w23 at HO_6 HO_25 BK501 HB hHeld ⊢
              refine pl_ 0 31 (tb_ 10 1) ?_; refine pl_ 2 33 (tb_ 10 5) ?_; refine pl_ 3 34 (tb_ 10 13) ?_; refine pl_ 5 36 (tb_ 10 45) ?_; refine tk_ 1 32 (tb_ 10 47) hHeld ?_; refine pl_ 4 35 (tb_ 10 63) ?_; refine tk_ 6 37 (tb_ 10 127) hHeld ?_; refine pl_ 7 38 (tb_ 10 255) ?_
              refine on_ 8 11 (tb_ 10 511) (fun K hK => ?_)
              refine box_step ?hg (N := 11) ?hd (cs := #[.int .i64 0, .int .i64 0]) (t := 48) ?hr ?_; (case hd => rfl); (case hg => rfl); (case hr => first | (go_simp; done) | (go_simp; rfl))
              intro gb506 hg w24 hbox hb
              have n0_ := Aside0.mk (Kd.R_below (Kd.R_elderB s15_ gb506 (Nat.le_of_eq hg.symm)) hb); have n1_ := Aside0.mk (Kd.R_below q39_12 hb); have n2_ := Aside0.mk (blk_below (g := gb501) (o := .cells #[.int .i64 x502000_2, .int .i64 x502001_2] 48 (0, 0)) q39_11 hb); have n3_ := Aside0.mk (below_step q39_7 hb); have n4_ := Aside0.mk (hbox)
              have n5_ := Aside0.mk ((gz_ w hg q39_7))
              have n6_ := Aside0.mk ((gz_ w hg q39_7))
              have n7_ := Aside0.mk ((nl_ hg (blk_lt (g := gb501) (o := .cells #[.int .i64 x502000_2, .int .i64 x502001_2] 48 (0, 0)) q39_11)))
              have n8_ := Aside0.mk ((ng_ hg (blk_lt (g := gb501) (o := .cells #[.int .i64 x502000_2, .int .i64 x502001_2] 48 (0, 0)) q39_11)))
              clear HO_6; clear HO_25; clear BK501; clear HB; have HO_6 := n0_; have HO_25 := n1_; have BK501 := n2_; have HB := n3_; have BK506 := n4_; have GW506 := n5_; have GE506 := n6_; have NB501_506 := n7_; have NB506_501 := n8_; clear n0_ n1_ n2_ n3_ n4_ n5_ n6_ n7_ n8_; clear hb hbox hg
              refine hK.out _ _ ⟨(blk_cell BK501.out 0).trans rfl, (blk_cell BK501.out 1).trans rfl⟩ (fun hHeld => ?_)
              clear hK K
              refine norm_ (a' := ?_) ?_ ?_
              rotate_left
              ·
               show Act.put _ (some 11) _ = _
               simp only [Act.put, List.setIfInBounds_toArray, List.set_cons_zero, List.set_cons_succ, i64_w, i32_w]
               rfl
              refine one_ (i := 9) (N := none) (tb_ 10 1023) rfl rfl (one_of HT_.out (by kernel_rfl)) (by decide) (fun K hK => ?_)
              have hs25 : w24.cell? ⟨gb506, 0, none⟩ = some (.int .i64 0) := (blk_cell BK506.out 0).trans rfl; have hfs25 := blk_frozen BK506.out 0; have hns25_0 := NB501_506.out; have hms25_0 := NB506_501.out; have hs26 : w24.cell? ⟨gb506, 1, none⟩ = some (.int .i64 0) := (blk_cell BK506.out 1).trans rfl; have hfs26 := blk_frozen BK506.out 1; have hns26_0 := NB501_506.out; have hms26_0 := NB506_501.out
              refine skip_ (w1 := ?_) (by rfl) rfl ?_ ?_
              rotate_left
              ·
               go_simp
               rfl
              refine hK.out _ _ ⟨((cell_far (p := ⟨gb506, _, none⟩) NB501_506.out _).trans (((cell_far (p := ⟨gb506, _, none⟩) NB501_506.out _).trans (hHeld.1)))), ((cell_far (p := ⟨gb506, _, none⟩) NB501_506.out _).trans (((cell_far (p := ⟨gb506, _, none⟩) NB501_506.out _).trans (hHeld.2))))⟩ (fun hHeld => ?_)
              clear hK K
              refine done_ (done_of HT_.out (by kernel_rfl)) ?_
              have hnb27 := NB506_501.out; have hnc27 := NB501_506.out; have hcz28_0 : w24.cell? ⟨gb506, 0, none⟩ = some (.int .i64 0) := (blk_cell BK506.out 0).trans rfl; have hcz28_1 : w24.cell? ⟨gb506, 1, none⟩ = some (.int .i64 0) := (blk_cell BK506.out 1).trans rfl; have hfz28_0 := blk_frozen BK506.out 0; have hfz28_1 := blk_frozen BK506.out 1
              try go_wp2_with (first | ((with_reducible refine gate_callee (f := 68) rfl ?_); refine goesL_ (some 41) rfl rfl Tryz.func68 (by kernel_rfl) rfl #[.slice (some ad500) l1.length c1, .agg #[.int .i64 (Go.bits .andNot .i64 x502000_2 (ji20)), .int .i64 x502001_2]] rfl q39_6 ?_; (with_reducible refine (impl_Follows.calls k2 _ _ l1 (Go.bits .andNot .i64 x502000_2 (ji20)) x502001_2 true _ ?side1 ?side2 A21.out).mono ?_); (case side1 => exact Kd.C_below HR1.out q39_5); (case side2 => exact HC1.out); rintro e w29 ⟨rfl, hb⟩; refine ⟨_, rfl, ?_⟩; have n_ := ac_ (Kd.R_below q39_3 hb) <| ac_ (Kd.R_below q39_4 hb) <| ac_ (blk_below (g := gb501) (o := .cells #[.int .i64 x502000_2, .int .i64 x502001_2] 48 (0, 0)) q39_2 hb) <| ac_ (blk_below (g := gb506) (o := .cells #[.int .i64 (Go.bits .andNot .i64 x502000_2 (ji20)), .int .i64 x502001_2] 48 (0, 0)) q39_1 hb) <| Aside0.mk (below_step q39_5 hb); clear HO_6 HO_25 BK501 BK506 HB; obtain ⟨HO_6, HO_25, BK501, BK506, HB⟩ := n_; (try clear hb); have hcz30_0 : w29.cell? ⟨gb506, 0, none⟩ = some (.int .i64 (Go.bits .andNot .i64 x502000_2 (ji20))) := (blk_cell BK506.out 0).trans rfl; have hcz30_1 : w29.cell? ⟨gb506, 1, none⟩ = some (.int .i64 x502001_2) := (blk_cell BK506.out 1).trans rfl; have hfz30_0 := blk_frozen BK506.out 0; have hfz30_1 := blk_frozen BK506.out 1; have hcz31_0 : w29.cell? ⟨gb501, 0, none⟩ = some (.int .i64 x502000_2) := (blk_cell BK501.out 0).trans rfl; have hcz31_1 : w29.cell? ⟨gb501, 1, none⟩ = some (.int .i64 x502001_2) := (blk_cell BK501.out 1).trans rfl; have hfz31_0 := blk_frozen BK501.out 0; have hfz31_1 := blk_frozen BK501.out 1))
              go_roundg k2
              case measure => have := HK1.out; have := HK2.out; omega
              case rel => exact ⟨(wrap64 (x27_2 + 1)), (Go.bits .andNot .i64 x502000_2 (ji20)), (x502001_2), s2_, H', ⟨by have := HK1.out; have := HK2.out; omega⟩, ⟨(by (with_reducible repeat (first | apply Kd.R_alloc | apply Kd.R_drewN | apply Kd.R_drew)); exact Kd.R_mono (Kd.R_far (p := ⟨gb501, 1, none⟩) (Kd.R_far (p := ⟨gb501, 0, none⟩) (Kd.R_mono HO_6.out (fun k_ hk => (⟨hk, hk.1⟩ : _ ∧ k_ ≠ gb501))) (fun _ hk => hk.2) (.int .i64 (Go.bits .andNot .i64 x502000_2 (ji20)))) (fun _ hk => hk.2) (.int .i64 x502001_2)) (fun _ hk => hk.1.1))⟩, ⟨(by (with_reducible repeat (first | apply Kd.R_alloc | apply Kd.R_drewN | apply Kd.R_drew)); exact Kd.R_mono (Kd.R_far (p := ⟨gb501, 1, none⟩) (Kd.R_far (p := ⟨gb501, 0, none⟩) (Kd.R_types HO_25.out BK501.out (by decide)) (fun _ hk => hk.2) (.int .i64 (Go.bits .andNot .i64 x502000_2 (ji20)))) (fun _ hk => hk.2) (.int .i64 x502001_2)) (fun _ hk => trivial))⟩, ⟨(by (with_reducible repeat (first | refine blk_drewN ?_ _ | refine blk_drew ?_ | refine blk_alloc ?_ _)); refine blk_put (cs := #[.int .i64 (Go.bits .andNot .i64 x502000_2 (ji20)), .int .i64 x502001_2]) ?_ 1 _ rfl; (with_reducible repeat (first | refine blk_drewN ?_ _ | refine blk_drew ?_ | refine blk_alloc ?_ _)); refine blk_put (cs := #[.int .i64 x502000_2, .int .i64 x502001_2]) ?_ 0 _ rfl; (with_reducible repeat (first | refine blk_drewN ?_ _ | refine blk_drew ?_ | refine blk_alloc ?_ _)); exact BK501.out)⟩, ⟨q39_5⟩⟩
             ·
              replace c22 := Bool.eq_false_iff.mpr c22; subst c22
              rw [if_neg (show ¬ (false = true) by decide)] at H
              have H' := Aside0.mk H; clear H; have p505 : 0 ≤ (x27_2 : Int) := of_decide_eq_true s3_; have q505 : x27_2 < (t502.length : Int) := of_decide_eq_true s3_; obtain ⟨ad505, e505, hx505_0⟩ := Kd.at_int (Kd.R_reads' HO_25.out).2.2 x27_2 p505 q505
              cases e505
              replace p505 := eq_true p505; replace q505 := eq_true q505
              try go_wp2
              have n0_ := Aside0.mk (Kd.R_drew HO_6.out); have n1_ := Aside0.mk (Kd.R_drew HO_25.out); have n2_ := Aside0.mk (blk_drew BK501.out); have n3_ := Aside0.mk (below_drew1 HB.out); clear HO_6; clear HO_25; clear BK501; clear HB; have HO_6 := n0_; have HO_25 := n1_; have BK501 := n2_; have HB := n3_; clear n0_ n1_ n2_ n3_
              refine start_ (n := 10) (S := fun w' => w'.cell? ⟨gb501, 0, none⟩ = some (.int .i64 x502000_2) ∧ w'.cell? ⟨gb501, 1, none⟩ = some (.int .i64 x502001_2)) (ds := []) (tb_ 10 0) (by kernel_rfl) rfl rfl ⟨(blk_cell BK501.out 0).trans rfl, (blk_cell BK501.out 1).trans rfl⟩ (fun hHeld => ?_); refine with_tabW impl_LeftReduced.tab10 impl_LeftReduced.bits10 (fun HT_ HW_ => ?_)
              generalize wr.drew = w32 at HO_6 HO_25 BK501 HB hHeld ⊢
              refine pl_ 0 31 (tb_ 10 1) ?_; refine pl_ 2 33 (tb_ 10 5) ?_; refine pl_ 3 34 (tb_ 10 13) ?_; refine pl_ 5 36 (tb_ 10 45) ?_; refine tk_ 1 32 (tb_ 10 47) hHeld ?_; refine pl_ 4 35 (tb_ 10 63) ?_; refine tk_ 6 37 (tb_ 10 127) hHeld ?_; refine pl_ 7 38 (tb_ 10 255) ?_
              refine on_ 8 11 (tb_ 10 511) (fun K hK => ?_)
              refine box_step ?hg (N := 11) ?hd (cs := #[.int .i64 0, .int .i64 0]) (t := 48) ?hr ?_; (case hd => rfl); (case hg => rfl); (case hr => first | (go_simp; done) | (go_simp; rfl))
              intro gb506 hg w33 hbox hb
              have n0_ := Aside0.mk (Kd.R_below (Kd.R_elderB s15_ gb506 (Nat.le_of_eq hg.symm)) hb); have n1_ := Aside0.mk (Kd.R_below q39_12 hb); have n2_ := Aside0.mk (blk_below (g := gb501) (o := .cells #[.int .i64 x502000_2, .int .i64 x502001_2] 48 (0, 0)) q39_11 hb); have n3_ := Aside0.mk (below_step q39_7 hb); have n4_ := Aside0.mk (hbox)
              have n5_ := Aside0.mk ((gz_ w hg q39_7))
              have n6_ := Aside0.mk ((gz_ w hg q39_7))
              have n7_ := Aside0.mk ((nl_ hg (blk_lt (g := gb501) (o := .cells #[.int .i64 x502000_2, .int .i64 x502001_2] 48 (0, 0)) q39_11)))
              have n8_ := Aside0.mk ((ng_ hg (blk_lt (g := gb501) (o := .cells #[.int .i64 x502000_2, .int .i64 x502001_2] 48 (0, 0)) q39_11)))
              clear HO_6; clear HO_25; clear BK501; clear HB; have HO_6 := n0_; have HO_25 := n1_; have BK501 := n2_; have HB := n3_; have BK506 := n4_; have GW506 := n5_; have GE506 := n6_; have NB501_506 := n7_; have NB506_501 := n8_; clear n0_ n1_ n2_ n3_ n4_ n5_ n6_ n7_ n8_; clear hb hbox hg
              refine hK.out _ _ ⟨(blk_cell BK501.out 0).trans rfl, (blk_cell BK501.out 1).trans rfl⟩ (fun hHeld => ?_)
              clear hK K
              refine norm_ (a' := ?_) ?_ ?_
              rotate_left
              ·
               show Act.put _ (some 11) _ = _
               simp only [Act.put, List.setIfInBounds_toArray, List.set_cons_zero, List.set_cons_succ, i64_w, i32_w]
               rfl
              refine one_ (i := 9) (N := none) (tb_ 10 1023) rfl rfl (one_of HT_.out (by kernel_rfl)) (by decide) (fun K hK => ?_)
              have hs34 : w33.cell? ⟨gb506, 0, none⟩ = some (.int .i64 0) := (blk_cell BK506.out 0).trans rfl; have hfs34 := blk_frozen BK506.out 0; have hns34_0 := NB501_506.out; have hms34_0 := NB506_501.out; have hs35 : w33.cell? ⟨gb506, 1, none⟩ = some (.int .i64 0) := (blk_cell BK506.out 1).trans rfl; have hfs35 := blk_frozen BK506.out 1; have hns35_0 := NB501_506.out; have hms35_0 := NB506_501.out
              refine skip_ (w1 := ?_) (by rfl) rfl ?_ ?_
              rotate_left
              ·
               go_simp
               rfl
              refine hK.out _ _ ⟨((cell_far (p := ⟨gb506, _, none⟩) NB501_506.out _).trans (((cell_far (p := ⟨gb506, _, none⟩) NB501_506.out _).trans (hHeld.1)))), ((cell_far (p := ⟨gb506, _, none⟩) NB501_506.out _).trans (((cell_far (p := ⟨gb506, _, none⟩) NB501_506.out _).trans (hHeld.2))))⟩ (fun hHeld => ?_)
              clear hK K
              refine done_ (done_of HT_.out (by kernel_rfl)) ?_
              have hnb36 := NB506_501.out; have hnc36 := NB501_506.out; have hcz37_0 : w33.cell? ⟨gb506, 0, none⟩ = some (.int .i64 0) := (blk_cell BK506.out 0).trans rfl; have hcz37_1 : w33.cell? ⟨gb506, 1, none⟩ = some (.int .i64 0) := (blk_cell BK506.out 1).trans rfl; have hfz37_0 := blk_frozen BK506.out 0; have hfz37_1 := blk_frozen BK506.out 1
              try go_wp2_with (first | ((with_reducible refine gate_callee (f := 68) rfl ?_); refine goesL_ (some 41) rfl rfl Tryz.func68 (by kernel_rfl) rfl #[.slice (some ad500) l1.length c1, .agg #[.int .i64 (Go.bits .andNot .i64 x502000_2 (ji20)), .int .i64 x502001_2]] rfl q39_6 ?_; (with_reducible refine (impl_Follows.calls k2 _ _ l1 (Go.bits .andNot .i64 x502000_2 (ji20)) x502001_2 false _ ?side1 ?side2 A21.out).mono ?_); (case side1 => exact Kd.C_below HR1.out q39_5); (case side2 => exact HC1.out); rintro e w38 ⟨rfl, hb⟩; refine ⟨_, rfl, ?_⟩; have n_ := ac_ (Kd.R_below q39_3 hb) <| ac_ (Kd.R_below q39_4 hb) <| ac_ (blk_below (g := gb501) (o := .cells #[.int .i64 x502000_2, .int .i64 x502001_2] 48 (0, 0)) q39_2 hb) <| ac_ (blk_below (g := gb506) (o := .cells #[.int .i64 (Go.bits .andNot .i64 x502000_2 (ji20)), .int .i64 x502001_2] 48 (0, 0)) q39_1 hb) <| Aside0.mk (below_step q39_5 hb); clear HO_6 HO_25 BK501 BK506 HB; obtain ⟨HO_6, HO_25, BK501, BK506, HB⟩ := n_; (try clear hb)))
              go_roundg k2
              case measure => have := HK1.out; have := HK2.out; omega
              case rel => exact ⟨(wrap64 (x27_2 + 1)), (x502000_2), (x502001_2), s2_, H', ⟨by have := HK1.out; have := HK2.out; omega⟩, ⟨(by (with_reducible repeat (first | apply Kd.R_alloc | apply Kd.R_drewN | apply Kd.R_drew)); exact Kd.R_mono HO_6.out (fun _ hk => hk.1))⟩, ⟨q39_12⟩, ⟨q39_11⟩, ⟨q39_5⟩⟩
            ·
             rw [if_neg c19] at H
             exact absurd H (by simp)
           ·
            rw [if_neg c18] at H
            exact absurd H (by simp)
          ·
           rw [if_neg c17] at H
           exact absurd H (by simp)
         ·
          rw [if_neg c16] at H; have c16b0 : decide (x27_2 < (t502.length : Int)) = false := decide_eq_false c16; clear c16
          by_cases c39 : x6_1.length < 8796093022208
          ·
           rw [if_pos c39] at H; have LMc39 := Aside0.mk c39; clear c39; obtain ⟨y508, hy_⟩ : ∃ y_ : List (S48), y_ = (x6_1 ++ [(⟨x502000_2, x502001_2⟩ : S48)]) := ⟨_, rfl⟩
           replace H : (impl_LeftReduced.l0 k2 l1 y508 l1 (l1.length : Int) (wrap64 (x19_1 + 1))) = some (r1, r2) := rH_
           have Ny508 := Aside0.mk hy_; clear hy_; have H' := Aside0.mk H; clear H; have hcz40_0 : wr.cell? ⟨gb501, 0, none⟩ = some (.int .i64 x502000_2) := (blk_cell BK501.out 0).trans rfl; have hcz40_1 : wr.cell? ⟨gb501, 1, none⟩ = some (.int .i64 x502001_2) := (blk_cell BK501.out 1).trans rfl; have hfz40_0 := blk_frozen BK501.out 0; have hfz40_1 := blk_frozen BK501.out 1
           go_wp2_with (first | ((with_reducible refine gate_builtin (b := .append) (xs := #[.tmp 44, .tmp 46]) rfl ?_); at_builtin; refine Kd.R_append k48 (w0 := w) w.heap.size rfl (.tmp 44) (.tmp 46) 24 48 (.agg #[(.int .i64 0), (.int .i64 0)]) 16 rfl Tryz.underlying24 info48 rfl (by decide) (by omega) u6 x6_1 (⟨x502000_2, x502001_2⟩ : S48) [.int .i64 x502000_2, .int .i64 x502001_2] (fun k_ => k_ ≠ gb501) (fun _ => False) rfl rfl ?aP (fun _ hk => hk.elim) ?aF ?aO ?aB ?aS ?aL ?_; (case aP => exact k48_mkM _ _ _ (⟨x502000_2, x502001_2⟩ : S48)); (case aB => exact q39_7); (case aF => exact (fun k_ hk => Kd.freshB (g := gb501) (o := .cells #[.int .i64 x502000_2, .int .i64 x502001_2] 48 (0, 0)) q39_11 k_ hk)); (case aO => exact s15_); (case aS => exact (below_size q39_7)); (case aL => have := LMc39.out; omega); intro v509 w41 ho hb hg hat; rw [← Ny508.out] at ho; have n_ := ac_ (Kd.R_over' q39_12 (Kd.R_typed s15_) (by decide) hg) <| ac_ (blk_grown (g := gb501) (o := .cells #[.int .i64 x502000_2, .int .i64 x502001_2] 48 (0, 0)) q39_11 hg (Kd.R_away HO_6.out (fun _ hk => hk))) <| ac_ (hb) <| Aside0.mk (ho); clear HO_25 BK501 HB HO_6; obtain ⟨HO_25, BK501, HB, HO510⟩ := n_; clear ho hb hg hat))
           go_roundg k2
           case measure => have := HK1.out; have := HK2.out; omega
           case rel => exact ⟨(y508), (wrap64 (x19_1 + 1)), s2_, H', ⟨by have := HK1.out; have := HK2.out; omega⟩, ⟨(by (with_reducible repeat (first | apply Kd.R_alloc | apply Kd.R_drewN | apply Kd.R_drew)); exact Kd.R_mono HO510.out (fun _ hk => trivial))⟩, ⟨q39_7⟩⟩
          ·
           rw [if_neg c39] at H
           exact absurd H (by simp)
      ·
       rw [if_neg c10] at H
       exact absurd H (by simp)
     ·
      rw [if_neg c9] at H
      exact absurd H (by simp)
    ·
     rw [if_neg c8] at H; have c8b0 : decide (x19_1 < (l1.length : Int)) = false := decide_eq_false c8; clear c8
     simp only [Option.some.injEq, Prod.mk.injEq] at H
     obtain ⟨rfl, rfl⟩ := H
     go_wp2
     go_ret2
     exact ⟨_, (by first | rfl | (simp [errW_none, errW_some] <;> rfl) | (simp [*, errW_none, errW_some] <;> rfl)), s15_, s1_⟩
 ·
  replace c4 := Bool.eq_false_iff.mpr c4; subst c4
  rw [if_neg (show ¬ (false = true) by decide)] at H
  simp only [Option.some.injEq, Prod.mk.injEq] at H
  obtain ⟨rfl, rfl⟩ := H
  go_enter Tryz.func37, Tryz.ntmps37
  go_wp2_with ((with_reducible refine gw_ rfl ?_); (refine gL_ 81 14 Tryz.func81 #[.int .i64 a0, .slice A1 l1.length c1] ?_; (with_reducible refine (impl_AreRules.calls a0 _ _ l1 false _ ?side1 ?side2 A3.out).mono ?_); (case side1 => exact s18_); (case side2 => exact HC1.out); rintro e w42 ⟨rfl, hb⟩; refine ⟨_, rfl, ?_⟩; have n_ := Aside0.mk (below_step s1_ hb); clear HB; have HB := n_; clear n_; (try clear hb)))
  go_ret2
  exact ⟨_, (by first | rfl | (simp [errW_none, errW_some] <;> rfl) | (simp [*, errW_none, errW_some] <;> rfl)), (by first | exact Kd.R_nil _ _ _ _ _ | exact Kd.N_nil _ _ _ _ _ | exact Kd.V_nil _ _ _ _ _ | exact Kd.Q_nil _ _ _ _ _ | exact Kd.S_nil _ _ _ _ _), s1_⟩
theorem bnd30_ {α β : Type} {o : Option α} {f : α → Option β} {r : β} (h : o.bind f = some r) : ∃ a, Aside0 (o = some a) ∧ f a = some r := by
 obtain ⟨a, h1, h2⟩ := Option.bind_eq_some_iff.mp h
 exact ⟨a, ⟨h1⟩, h2⟩
theorem q30_1 {P : Prop} (h : P := by repeat (first | exact (Kd.R_reads' HO331.out).2.2 | (with_reducible refine Kd.C_alloc ?_ _) | (with_reducible refine Kd.C_drewN ?_ _) | (with_reducible refine Kd.C_drew ?_))) : P := h
theorem q30_2 {P : Prop} (h : P := by repeat (first | (with_reducible first | exact HB.out | apply below_alloc | apply pw_below_drewN | apply below_drew1 | refine below_set ?_ GE328.out) | exact HB.out)) : P := h
theorem q30_5 {P : Prop} (h : P := by (with_reducible repeat (first | refine blk_drewN ?_ _ | refine blk_drew ?_ | refine blk_alloc ?_ _)); exact BK328.out) : P := h
theorem q30_6 {P : Prop} (h : P := by (with_reducible repeat (first | apply Kd.R_alloc | apply Kd.R_drewN | apply Kd.R_drew)); exact HO331.out) : P := h
def impl_Respects.f (a0_0 : Int) (a0_1 : Int) (a1 : Int) : Option (Bool) := (impl_areAnyRules.f (([(⟨a0_0, a0_1⟩ : S48)] : List (S48)))).bind fun t332 => (if t332 = true then ((impl_isAnySet.f a1).bind fun t333 => (if t333 = true then ((impl_inSet.f a0_0 a1).bind fun t334 => (if t334 = true then ((impl_inSet.f a0_1 a1).bind fun t335 => (some t335)) else (some true))) else (some false))) else (some false))
set_option maxHeartbeats 40000000 in
set_option maxRecDepth 100000 in
theorem impl_Respects.calls (a0_0 : Int) (a0_1 : Int) (a1 : Int) (r : Bool) (w : World) (h : impl_Respects.f a0_0 a0_1 a1 = some r) :
  Calls Tryz.prog 79 #[.agg #[.int .i64 a0_0, .int .i64 a0_1], .int .i64 a1] w fun e w' => e = .returned (.bool r) ∧ Below w.heap.size w w' := by
 have hu48 := Tryz.underlying48; have HB := Aside0.mk (Below.refl w.heap.size w); have H := h; clear h; unfold impl_Respects.f at H; obtain ⟨y329, hy_⟩ : ∃ y_ : List (S48), y_ = (([(⟨a0_0, a0_1⟩ : S48)] : List (S48))) := ⟨_, rfl⟩
 replace H : ((impl_areAnyRules.f y329).bind fun t332 => (if t332 = true then ((impl_isAnySet.f a1).bind fun t333 => (if t333 = true then ((impl_inSet.f a0_0 a1).bind fun t334 => (if t334 = true then ((impl_inSet.f a0_1 a1).bind fun t335 => (some t335)) else (some true))) else (some false))) else (some false))) = some r := rH_
 have Ny329 := Aside0.mk hy_; clear hy_; obtain ⟨t332, A3, H⟩ := bnd30_ H
 by_cases c4 : t332 = true
 ·
  subst c4; rw [if_pos rfl] at H; obtain ⟨t333, A5, H⟩ := bnd30_ H
  by_cases c6 : t333 = true
  ·
   subst c6; rw [if_pos rfl] at H; obtain ⟨t334, A7, H⟩ := bnd30_ H
   by_cases c8 : t334 = true
   ·
    subst c8; rw [if_pos rfl] at H; obtain ⟨t335, A9, H⟩ := bnd30_ H; obtain rfl := Option.some.inj H
    go_enter Tryz.func79, Tryz.ntmps79
    go_wp2_with (first | ((with_reducible refine gw_ rfl ?_); first | (refine be_ 2 #[.int .i64 a0_0, .int .i64 a0_1] 48 ?_; intro gb328 hg w10 hbox hb; have n_ := ac_ (below_step s1_ hb) <| ac_ (hbox) <| ac_ ((gz_ w hg s1_)) <| Aside0.mk ((gz_ w hg s1_)); clear HB; obtain ⟨HB, BK328, GW328, GE328⟩ := n_; clear hb hbox hg; have hcz11_0 : w10.cell? ⟨gb328, 0, none⟩ = some (.int .i64 a0_0) := (blk_cell BK328.out 0).trans rfl; have hcz11_1 : w10.cell? ⟨gb328, 1, none⟩ = some (.int .i64 a0_1) := (blk_cell BK328.out 1).trans rfl; have hfz11_0 := blk_frozen BK328.out 0; have hfz11_1 := blk_frozen BK328.out 1) | (refine gL_ 149 7 Tryz.func149 #[.slice Ao14 y329.length co14] ?_; (with_reducible refine (impl_areAnyRules.calls _ _ y329 true _ ?side1 ?side2 A3.out).mono ?_); (case side1 => exact q30_1); (case side2 => exact (Kd.R_reads' HO331.out).2.1); rintro e w15 ⟨rfl, hb⟩; refine ⟨_, rfl, ?_⟩; have n_ := ac_ (Kd.R_below q30_6 hb) <| ac_ (blk_below (g := gb328) (o := .cells #[.int .i64 a0_0, .int .i64 a0_1] 48 (0, 0)) q30_5 hb) <| Aside0.mk (below_step q30_2 hb); clear HO331 BK328 HB; obtain ⟨HO331, BK328, HB⟩ := n_; (try clear hb))) | ((with_reducible refine gate_dst (N := 6) rfl ?_); refine Kd.R_lit k48 _ 48 ?hg (N := 6) ?hd (xs := ([(⟨a0_0, a0_1⟩ : S48)] : List (S48))) (inner := [.int .i64 a0_0, .int .i64 a0_1]) (ok := fun _ => True) (okp := fun _ => True) ?hr ?hp (fun _ hk => hk) trivial (Below.refl _ _) (Nat.le_refl _) (by simp) ?_; (case hd => rfl); (case hg => rfl); (case hr => first | (go_simp; done) | (go_simp; rfl)); (case hp => exact (Reps.c2 (show Kd.M k48 _ _ _ (⟨a0_0, a0_1⟩ : S48) [.int .i64 a0_0, .int .i64 a0_1] from (k48_mkM _ _ _ (⟨a0_0, a0_1⟩ : S48) )) (Reps.none _ _))); intro v330 w12 ho13 hb hg_ hnew_; clear hg_ hnew_; (first | rw [← Ny329.out] at ho13 | (simp only [Int.reduceToNat] at ho13; rw [← Ny329.out] at ho13)); have n_ := ac_ (Kd.R_lower (Kd.R_newB ho13 (g := gb328) (o := .cells #[.int .i64 a0_0, .int .i64 a0_1] 48 (0, 0)) q30_5) (below_size q30_2)) <| ac_ (blk_below (g := gb328) (o := .cells #[.int .i64 a0_0, .int .i64 a0_1] 48 (0, 0)) q30_5 hb) <| Aside0.mk (below_step q30_2 hb); clear BK328 HB; obtain ⟨HO331, BK328, HB⟩ := n_; clear hb ho13; obtain ⟨Ao14, co14, eo14⟩ := Kd.R_slice HO331.out; subst eo14) | (go_at_call 177; (with_reducible refine (impl_isAnySet.calls a1 true _ A5.out).mono ?_); rintro e w' ⟨rfl, ⟨nd, rfl⟩⟩; have hcz16_0 : w15.cell? ⟨gb328, 0, none⟩ = some (.int .i64 a0_0) := (blk_cell BK328.out 0).trans rfl; have hcz16_1 : w15.cell? ⟨gb328, 1, none⟩ = some (.int .i64 a0_1) := (blk_cell BK328.out 1).trans rfl; have hfz16_0 := blk_frozen BK328.out 0; have hfz16_1 := blk_frozen BK328.out 1) | (go_at_call 141; (with_reducible refine (impl_inSet.calls a0_0 a1 true _ A7.out).mono ?_); rintro e w' ⟨rfl, ⟨nd, rfl⟩⟩) | (go_at_call 141; (with_reducible refine (impl_inSet.calls a0_1 a1 t335 _ A9.out).mono ?_); rintro e w' ⟨rfl, ⟨nd, rfl⟩⟩))
    go_ret
    exact ⟨s4_, q30_2⟩
   ·
    replace c8 := Bool.eq_false_iff.mpr c8; subst c8
    rw [if_neg (show ¬ (false = true) by decide)] at H
    obtain rfl := Option.some.inj H
    go_enter Tryz.func79, Tryz.ntmps79
    go_wp2_with (first | ((with_reducible refine gw_ rfl ?_); first | (refine be_ 2 #[.int .i64 a0_0, .int .i64 a0_1] 48 ?_; intro gb328 hg w17 hbox hb; have n_ := ac_ (below_step s1_ hb) <| ac_ (hbox) <| ac_ ((gz_ w hg s1_)) <| Aside0.mk ((gz_ w hg s1_)); clear HB; obtain ⟨HB, BK328, GW328, GE328⟩ := n_; clear hb hbox hg; have hcz18_0 : w17.cell? ⟨gb328, 0, none⟩ = some (.int .i64 a0_0) := (blk_cell BK328.out 0).trans rfl; have hcz18_1 : w17.cell? ⟨gb328, 1, none⟩ = some (.int .i64 a0_1) := (blk_cell BK328.out 1).trans rfl; have hfz18_0 := blk_frozen BK328.out 0; have hfz18_1 := blk_frozen BK328.out 1) | (refine gL_ 149 7 Tryz.func149 #[.slice Ao21 y329.length co21] ?_; (with_reducible refine (impl_areAnyRules.calls _ _ y329 true _ ?side1 ?side2 A3.out).mono ?_); (case side1 => exact q30_1); (case side2 => exact (Kd.R_reads' HO331.out).2.1); rintro e w22 ⟨rfl, hb⟩; refine ⟨_, rfl, ?_⟩; have n_ := ac_ (Kd.R_below q30_6 hb) <| ac_ (blk_below (g := gb328) (o := .cells #[.int .i64 a0_0, .int .i64 a0_1] 48 (0, 0)) q30_5 hb) <| Aside0.mk (below_step q30_2 hb); clear HO331 BK328 HB; obtain ⟨HO331, BK328, HB⟩ := n_; (try clear hb))) | ((with_reducible refine gate_dst (N := 6) rfl ?_); refine Kd.R_lit k48 _ 48 ?hg (N := 6) ?hd (xs := ([(⟨a0_0, a0_1⟩ : S48)] : List (S48))) (inner := [.int .i64 a0_0, .int .i64 a0_1]) (ok := fun _ => True) (okp := fun _ => True) ?hr ?hp (fun _ hk => hk) trivial (Below.refl _ _) (Nat.le_refl _) (by simp) ?_; (case hd => rfl); (case hg => rfl); (case hr => first | (go_simp; done) | (go_simp; rfl)); (case hp => exact (Reps.c2 (show Kd.M k48 _ _ _ (⟨a0_0, a0_1⟩ : S48) [.int .i64 a0_0, .int .i64 a0_1] from (k48_mkM _ _ _ (⟨a0_0, a0_1⟩ : S48) )) (Reps.none _ _))); intro v330 w19 ho20 hb hg_ hnew_; clear hg_ hnew_; (first | rw [← Ny329.out] at ho20 | (simp only [Int.reduceToNat] at ho20; rw [← Ny329.out] at ho20)); have n_ := ac_ (Kd.R_lower (Kd.R_newB ho20 (g := gb328) (o := .cells #[.int .i64 a0_0, .int .i64 a0_1] 48 (0, 0)) q30_5) (below_size q30_2)) <| ac_ (blk_below (g := gb328) (o := .cells #[.int .i64 a0_0, .int .i64 a0_1] 48 (0, 0)) q30_5 hb) <| Aside0.mk (below_step q30_2 hb); clear BK328 HB; obtain ⟨HO331, BK328, HB⟩ := n_; clear hb ho20; obtain ⟨Ao21, co21, eo21⟩ := Kd.R_slice HO331.out; subst eo21) | (go_at_call 177; (with_reducible refine (impl_isAnySet.calls a1 true _ A5.out).mono ?_); rintro e w' ⟨rfl, ⟨nd, rfl⟩⟩; have hcz23_0 : w22.cell? ⟨gb328, 0, none⟩ = some (.int .i64 a0_0) := (blk_cell BK328.out 0).trans rfl; have hcz23_1 : w22.cell? ⟨gb328, 1, none⟩ = some (.int .i64 a0_1) := (blk_cell BK328.out 1).trans rfl; have hfz23_0 := blk_frozen BK328.out 0; have hfz23_1 := blk_frozen BK328.out 1) | (go_at_call 141; (with_reducible refine (impl_inSet.calls a0_0 a1 false _ A7.out).mono ?_); rintro e w' ⟨rfl, ⟨nd, rfl⟩⟩))
    go_ret
    exact ⟨s4_, q30_2⟩
  ·
   replace c6 := Bool.eq_false_iff.mpr c6; subst c6
   rw [if_neg (show ¬ (false = true) by decide)] at H
   obtain rfl := Option.some.inj H
   go_enter Tryz.func79, Tryz.ntmps79
   go_wp2_with (first | ((with_reducible refine gw_ rfl ?_); first | (refine be_ 2 #[.int .i64 a0_0, .int .i64 a0_1] 48 ?_; intro gb328 hg w24 hbox hb; have n_ := ac_ (below_step s1_ hb) <| ac_ (hbox) <| ac_ ((gz_ w hg s1_)) <| Aside0.mk ((gz_ w hg s1_)); clear HB; obtain ⟨HB, BK328, GW328, GE328⟩ := n_; clear hb hbox hg; have hcz25_0 : w24.cell? ⟨gb328, 0, none⟩ = some (.int .i64 a0_0) := (blk_cell BK328.out 0).trans rfl; have hcz25_1 : w24.cell? ⟨gb328, 1, none⟩ = some (.int .i64 a0_1) := (blk_cell BK328.out 1).trans rfl; have hfz25_0 := blk_frozen BK328.out 0; have hfz25_1 := blk_frozen BK328.out 1) | (refine gL_ 149 7 Tryz.func149 #[.slice Ao28 y329.length co28] ?_; (with_reducible refine (impl_areAnyRules.calls _ _ y329 true _ ?side1 ?side2 A3.out).mono ?_); (case side1 => exact q30_1); (case side2 => exact (Kd.R_reads' HO331.out).2.1); rintro e w29 ⟨rfl, hb⟩; refine ⟨_, rfl, ?_⟩; have n_ := ac_ (Kd.R_below q30_6 hb) <| ac_ (blk_below (g := gb328) (o := .cells #[.int .i64 a0_0, .int .i64 a0_1] 48 (0, 0)) q30_5 hb) <| Aside0.mk (below_step q30_2 hb); clear HO331 BK328 HB; obtain ⟨HO331, BK328, HB⟩ := n_; (try clear hb))) | ((with_reducible refine gate_dst (N := 6) rfl ?_); refine Kd.R_lit k48 _ 48 ?hg (N := 6) ?hd (xs := ([(⟨a0_0, a0_1⟩ : S48)] : List (S48))) (inner := [.int .i64 a0_0, .int .i64 a0_1]) (ok := fun _ => True) (okp := fun _ => True) ?hr ?hp (fun _ hk => hk) trivial (Below.refl _ _) (Nat.le_refl _) (by simp) ?_; (case hd => rfl); (case hg => rfl); (case hr => first | (go_simp; done) | (go_simp; rfl)); (case hp => exact (Reps.c2 (show Kd.M k48 _ _ _ (⟨a0_0, a0_1⟩ : S48) [.int .i64 a0_0, .int .i64 a0_1] from (k48_mkM _ _ _ (⟨a0_0, a0_1⟩ : S48) )) (Reps.none _ _))); intro v330 w26 ho27 hb hg_ hnew_; clear hg_ hnew_; (first | rw [← Ny329.out] at ho27 | (simp only [Int.reduceToNat] at ho27; rw [← Ny329.out] at ho27)); have n_ := ac_ (Kd.R_lower (Kd.R_newB ho27 (g := gb328) (o := .cells #[.int .i64 a0_0, .int .i64 a0_1] 48 (0, 0)) q30_5) (below_size q30_2)) <| ac_ (blk_below (g := gb328) (o := .cells #[.int .i64 a0_0, .int .i64 a0_1] 48 (0, 0)) q30_5 hb) <| Aside0.mk (below_step q30_2 hb); clear BK328 HB; obtain ⟨HO331, BK328, HB⟩ := n_; clear hb ho27; obtain ⟨Ao28, co28, eo28⟩ := Kd.R_slice HO331.out; subst eo28) | (go_at_call 177; (with_reducible refine (impl_isAnySet.calls a1 false _ A5.out).mono ?_); rintro e w' ⟨rfl, ⟨nd, rfl⟩⟩))
   go_ret
   exact ⟨s4_, q30_2⟩
 ·
  replace c4 := Bool.eq_false_iff.mpr c4; subst c4
  rw [if_neg (show ¬ (false = true) by decide)] at H
  obtain rfl := Option.some.inj H
  go_enter Tryz.func79, Tryz.ntmps79
  go_wp2_with (first | ((with_reducible refine gw_ rfl ?_); first | (refine be_ 2 #[.int .i64 a0_0, .int .i64 a0_1] 48 ?_; intro gb328 hg w30 hbox hb; have n_ := ac_ (below_step s1_ hb) <| ac_ (hbox) <| ac_ ((gz_ w hg s1_)) <| Aside0.mk ((gz_ w hg s1_)); clear HB; obtain ⟨HB, BK328, GW328, GE328⟩ := n_; clear hb hbox hg; have hcz31_0 : w30.cell? ⟨gb328, 0, none⟩ = some (.int .i64 a0_0) := (blk_cell BK328.out 0).trans rfl; have hcz31_1 : w30.cell? ⟨gb328, 1, none⟩ = some (.int .i64 a0_1) := (blk_cell BK328.out 1).trans rfl; have hfz31_0 := blk_frozen BK328.out 0; have hfz31_1 := blk_frozen BK328.out 1) | (refine gL_ 149 7 Tryz.func149 #[.slice Ao34 y329.length co34] ?_; (with_reducible refine (impl_areAnyRules.calls _ _ y329 false _ ?side1 ?side2 A3.out).mono ?_); (case side1 => exact q30_1); (case side2 => exact (Kd.R_reads' HO331.out).2.1); rintro e w35 ⟨rfl, hb⟩; refine ⟨_, rfl, ?_⟩; have n_ := ac_ (Kd.R_below q30_6 hb) <| ac_ (blk_below (g := gb328) (o := .cells #[.int .i64 a0_0, .int .i64 a0_1] 48 (0, 0)) q30_5 hb) <| Aside0.mk (below_step q30_2 hb); clear HO331 BK328 HB; obtain ⟨HO331, BK328, HB⟩ := n_; (try clear hb))) | ((with_reducible refine gate_dst (N := 6) rfl ?_); refine Kd.R_lit k48 _ 48 ?hg (N := 6) ?hd (xs := ([(⟨a0_0, a0_1⟩ : S48)] : List (S48))) (inner := [.int .i64 a0_0, .int .i64 a0_1]) (ok := fun _ => True) (okp := fun _ => True) ?hr ?hp (fun _ hk => hk) trivial (Below.refl _ _) (Nat.le_refl _) (by simp) ?_; (case hd => rfl); (case hg => rfl); (case hr => first | (go_simp; done) | (go_simp; rfl)); (case hp => exact (Reps.c2 (show Kd.M k48 _ _ _ (⟨a0_0, a0_1⟩ : S48) [.int .i64 a0_0, .int .i64 a0_1] from (k48_mkM _ _ _ (⟨a0_0, a0_1⟩ : S48) )) (Reps.none _ _))); intro v330 w32 ho33 hb hg_ hnew_; clear hg_ hnew_; (first | rw [← Ny329.out] at ho33 | (simp only [Int.reduceToNat] at ho33; rw [← Ny329.out] at ho33)); have n_ := ac_ (Kd.R_lower (Kd.R_newB ho33 (g := gb328) (o := .cells #[.int .i64 a0_0, .int .i64 a0_1] 48 (0, 0)) q30_5) (below_size q30_2)) <| ac_ (blk_below (g := gb328) (o := .cells #[.int .i64 a0_0, .int .i64 a0_1] 48 (0, 0)) q30_5 hb) <| Aside0.mk (below_step q30_2 hb); clear BK328 HB; obtain ⟨HO331, BK328, HB⟩ := n_; clear hb ho33; obtain ⟨Ao34, co34, eo34⟩ := Kd.R_slice HO331.out; subst eo34))
  go_ret
  exact ⟨s4_, q30_2⟩
set_option maxHeartbeats 40000000
set_option maxRecDepth 100000
theorem bnd45_ {α β : Type} {o : Option α} {f : α → Option β} {r : β} (h : o.bind f = some r) : ∃ a, Aside0 (o = some a) ∧ f a = some r := by
 obtain ⟨a, h1, h2⟩ := Option.bind_eq_some_iff.mp h
 exact ⟨a, ⟨h1⟩, h2⟩
def impl_IsRedundant.f (k : Nat) (l0 : List (S48)) (a1 : Int) : Option (Bool) := (impl_within.f a1 0 (wrap64 ((l0.length : Int) - 1))).bind fun t416 => (if t416 = true then ((impl_others.f l0 a1).bind fun t417 => (if 0 ≤ a1 then (if a1 < (l0.length : Int) then ((impl_Follows.f k t417 ((rd_T48 l0 a1).f0) ((rd_T48 l0 a1).f1)).bind fun t421 => (some t421)) else (none)) else (none))) else (some false))
def impl_IsRedundant.T1 : Bool × List (List Nat × List Nat) := (true, [([], []), ([], []), ([1], [1]), ([2], [2]), ([0, 3], [0, 3]), ([4, 4], [4]), ([5], [5]), ([5], [5]), ([6, 7, 5, 5], [5, 6, 7]), ([5], [5]), ([5], [5]), ([9, 10, 5], [5, 9, 10]), ([11, 5], [5, 11]), ([8, 12, 8, 5], [5, 8, 12]), ([5, 13], [5, 13]), ([14, 13, 0, 1, 2, 3, 4, 5, 6, 7, 8, 9, 10, 11, 12, 13, 14], [14])])
def impl_IsRedundant.B1 : List Nat := [0, 0, 2, 6, 15, 31, 63, 63, 255, 63, 63, 1599, 3647, 8191, 16383, 32767]
theorem impl_IsRedundant.tab1 : rtab .any (opsOf Tryz.f47 1) = impl_IsRedundant.T1 := by kernel_rfl
theorem impl_IsRedundant.bits1 : waitsOk impl_IsRedundant.T1.2 impl_IsRedundant.B1 = true := by kernel_rfl
theorem impl_IsRedundant.calls (k : Nat) (A0 : Option Addr) (c0 : Nat) (l0 : List (S48)) (a1 : Int) (r : Bool) (w : World) (hr0 : Kd.C k48 w A0 l0.length l0) (hc0 : l0.length ≤ c0) (h : impl_IsRedundant.f k l0 a1 = some r) :
  Calls Tryz.prog 47 #[.slice A0 l0.length c0, .int .i64 a1] w fun e w' => e = .returned (.bool r) ∧ Below w.heap.size w w' := by
 have hu48 := Tryz.underlying48; have HR0 := Aside0.mk hr0; have HC0 := Aside0.mk hc0; clear hr0 hc0; have HB := Aside0.mk (Below.refl w.heap.size w); have H := h; clear h; unfold impl_IsRedundant.f at H; obtain ⟨t416, A3, H⟩ := bnd45_ H
 by_cases c4 : t416 = true
 ·
  subst c4; rw [if_pos rfl] at H; obtain ⟨t417, A5, H⟩ := bnd45_ H
  by_cases c6 : 0 ≤ a1
  ·
   rw [if_pos c6] at H; have c6b0 : decide (0 ≤ a1) = true := decide_eq_true c6; clear c6
   by_cases c7 : a1 < (l0.length : Int)
   ·
    rw [if_pos c7] at H; have c7b0 : decide (a1 < (l0.length : Int)) = true := decide_eq_true c7; clear c7; obtain ⟨t421, A8, H⟩ := bnd45_ H; obtain rfl := Option.some.inj H
    go_enter Tryz.func47, Tryz.ntmps47
    try go_wp2
    have n0_ := Aside0.mk (below_drew1 HB.out); clear HB; have HB := n0_; clear n0_
    have p420 : 0 ≤ (a1 : Int) := of_decide_eq_true (by first | (with_reducible assumption) | assumption)
    have q420 : a1 < (l0.length : Int) := of_decide_eq_true (by first | (with_reducible assumption) | assumption)
    obtain ⟨ad420, e420, hx420_0, hx420_1⟩ := at_T48 HR0.out a1 p420 q420; have hw420_1 := hx420_1; have hw420_0 := hx420_0
    cases e420
    replace hx420_0 := (HB.out.cell (World.block_lt_of_cell? w _ hx420_0)).trans hx420_0; replace hx420_1 := (HB.out.cell (World.block_lt_of_cell? w _ hx420_1)).trans hx420_1; replace p420 := eq_true p420; replace q420 := eq_true q420
    refine start_ (n := 16) (S := fun w' => w'.cell? (ad420.add ((a1).toNat * 2)) = some (.int .i64 ((rd_T48 l0 a1).f0)) ∧ w'.cell? ⟨(ad420.add ((a1).toNat * 2)).block, (ad420.add ((a1).toNat * 2)).off + 1, none⟩ = some (.int .i64 ((rd_T48 l0 a1).f1))) (ds := []) (tb_ 16 0) (by kernel_rfl) rfl rfl ⟨((HB.out.cell (World.block_lt_of_cell? w _ hw420_0)).trans hw420_0), ((HB.out.cell (World.block_lt_of_cell? w _ hw420_1)).trans hw420_1)⟩ (fun hHeld => ?_); refine with_tabW impl_IsRedundant.tab1 impl_IsRedundant.bits1 (fun HT_ HW_ => ?_)
    generalize w.drew = w9 at HB hx420_0 hx420_1 hHeld ⊢
    refine pl_ 0 5 (tb_ 16 1) ?_; refine pl_ 1 6 (tb_ 16 3) ?_; refine pl_ 2 7 (tb_ 16 7) ?_; refine pl_ 3 8 (tb_ 16 15) ?_
    refine on_ 4 9 (tb_ 16 31) (fun K hK => ?_)
    refine goes_ Tryz.func127 (by kernel_rfl) rfl #[.int .i64 a1, .int .i64 0, .int .i64 (wrap64 ((l0.length : Int) - 1))] (by rfl) rfl rfl s0_ ?_
    with_reducible refine (impl_within.calls a1 0 (wrap64 ((l0.length : Int) - 1)) true _ A3.out).mono ?_
    rintro e w' ⟨rfl, ⟨nd, rfl⟩⟩
    refine ⟨_, rfl, ?_⟩
    refine hK.out _ _ ⟨((HB.out.cell (World.block_lt_of_cell? w _ hw420_0)).trans hw420_0), ((HB.out.cell (World.block_lt_of_cell? w _ hw420_1)).trans hw420_1)⟩ (fun hHeld => ?_)
    clear hK K
    refine norm_ (a' := ?_) ?_ ?_
    rotate_left
    ·
     show Act.put _ (some 9) _ = _
     exact s6_
    refine pl_ 5 10 (tb_ 16 63) ?_; refine pl_ 6 11 (tb_ 16 127) ?_; refine pl_ 7 12 (tb_ 16 255) ?_; refine pl_ 9 14 (tb_ 16 767) ?_; refine pl_ 10 15 (tb_ 16 1791) ?_; refine pl_ 11 16 (tb_ 16 3839) ?_; refine tk_ 12 17 (tb_ 16 7935) hHeld ?_
    refine on_ 8 13 (tb_ 16 8191) (fun K hK => ?_)
    refine goes_ Tryz.func151 (by kernel_rfl) rfl #[.slice (some ad420) l0.length c0, .int .i64 a1] (by rfl) rfl rfl s0_ ?_
    with_reducible refine (impl_others.calls _ _ l0 a1 t417 _ ?side1 ?side2 A5.out).mono ?_
    (case side1 => repeat (first | exact (Kd.C_below HR0.out s1_) | (with_reducible refine Kd.C_alloc ?_ _) | (with_reducible refine Kd.C_drewN ?_ _) | (with_reducible refine Kd.C_drew ?_)))
    (case side2 => exact HC0.out)
    rintro e w10 ⟨v418, rfl, ho0, hb⟩
    refine ⟨_, rfl, ?_⟩
    have n0_ := Aside0.mk (Kd.R_lower ho0 (below_size s1_)); have n1_ := Aside0.mk (below_step s1_ hb); clear HB; have HO419 := n0_; have HB := n1_; clear n0_ n1_
    (try clear hb)
    (try clear hb2)
    (try clear hk)
    (try clear hi)
    (try clear ho0)
    obtain ⟨Ao11, co11, eo11⟩ := Kd.R_slice HO419.out
    (first | subst eo11 | (injection eo11 with f1_ f2_ f3_; have f4_ := f1_.symm; have f5_ := f3_.symm; clear f1_ f2_ f3_; subst f4_; subst f5_))
    refine hK.out _ _ ⟨((HB.out.cell (World.block_lt_of_cell? w _ hw420_0)).trans hw420_0), ((HB.out.cell (World.block_lt_of_cell? w _ hw420_1)).trans hw420_1)⟩ (fun hHeld => ?_)
    clear hK K
    refine norm_ (a' := ?_) ?_ ?_
    rotate_left
    ·
     show Act.put _ (some 13) _ = _
     exact s6_
    refine on_ 13 18 (tb_ 16 16383) (fun K hK => ?_)
    refine goes_ Tryz.func68 (by kernel_rfl) rfl #[.slice Ao11 t417.length co11, .agg #[.int .i64 ((rd_T48 l0 a1).f0), .int .i64 ((rd_T48 l0 a1).f1)]] (by rfl) rfl rfl s0_ ?_
    with_reducible refine (impl_Follows.calls k _ _ t417 ((rd_T48 l0 a1).f0) ((rd_T48 l0 a1).f1) t421 _ ?side1 ?side2 A8.out).mono ?_
    (case side1 => repeat (first | exact (Kd.R_reads' HO419.out).2.2 | (with_reducible refine Kd.C_alloc ?_ _) | (with_reducible refine Kd.C_drewN ?_ _) | (with_reducible refine Kd.C_drew ?_)))
    (case side2 => exact (Kd.R_reads' HO419.out).2.1)
    rintro e w12 ⟨rfl, hb⟩
    refine ⟨_, rfl, ?_⟩
    have n0_ := Aside0.mk (Kd.R_below (by (with_reducible repeat (first | apply Kd.R_alloc | apply Kd.R_drewN | apply Kd.R_drew)); exact HO419.out) hb)
    have n1_ := Aside0.mk (below_step s1_ hb); clear HO419; clear HB; have HO419 := n0_; have HB := n1_; clear n0_ n1_
    (try clear hb)
    (try clear hb2)
    (try clear hk)
    (try clear hi)
    refine hK.out _ _ ⟨((HB.out.cell (World.block_lt_of_cell? w _ hw420_0)).trans hw420_0), ((HB.out.cell (World.block_lt_of_cell? w _ hw420_1)).trans hw420_1)⟩ (fun hHeld => ?_)
    clear hK K
    refine norm_ (a' := ?_) ?_ ?_
    rotate_left
    ·
     show Act.put _ (some 18) _ = _
     exact s6_
    refine pl_ 14 19 (tb_ 16 32767) ?_; refine pl_ 15 4 (tb_ 16 65535) ?_
    refine done_ (done_of HT_.out (by kernel_rfl)) ?_
    try go_wp2
    go_ret
    exact ⟨(by first | rfl | (simp [errW_none, errW_some] <;> rfl) | (simp [*, errW_none, errW_some] <;> rfl)), s1_⟩
   ·
    rw [if_neg c7] at H
    exact absurd H (by simp)
  ·
   rw [if_neg c6] at H
   exact absurd H (by simp)
 ·
  replace c4 := Bool.eq_false_iff.mpr c4; subst c4
  rw [if_neg (show ¬ (false = true) by decide)] at H
  obtain rfl := Option.some.inj H
  go_enter Tryz.func47, Tryz.ntmps47
  try go_wp2
  have n0_ := Aside0.mk (below_drew1 HB.out); clear HB; have HB := n0_; clear n0_
  refine start_ (n := 16) (S := fun w' => True) (ds := []) (tb_ 16 0) (by kernel_rfl) rfl rfl trivial (fun hHeld => ?_); refine with_tabW impl_IsRedundant.tab1 impl_IsRedundant.bits1 (fun HT_ HW_ => ?_)
  generalize w.drew = w13 at HB hHeld ⊢
  refine pl_ 0 5 (tb_ 16 1) ?_; refine pl_ 1 6 (tb_ 16 3) ?_; refine pl_ 2 7 (tb_ 16 7) ?_; refine pl_ 3 8 (tb_ 16 15) ?_
  refine on_ 4 9 (tb_ 16 31) (fun K hK => ?_)
  refine goes_ Tryz.func127 (by kernel_rfl) rfl #[.int .i64 a1, .int .i64 0, .int .i64 (wrap64 ((l0.length : Int) - 1))] (by rfl) rfl rfl s0_ ?_
  with_reducible refine (impl_within.calls a1 0 (wrap64 ((l0.length : Int) - 1)) false _ A3.out).mono ?_
  rintro e w' ⟨rfl, ⟨nd, rfl⟩⟩
  refine ⟨_, rfl, ?_⟩
  refine hK.out _ _ trivial (fun hHeld => ?_)
  clear hK K
  refine norm_ (a' := ?_) ?_ ?_
  rotate_left
  ·
   show Act.put _ (some 9) _ = _
   exact s6_
  refine pl_ 5 10 (tb_ 16 63) ?_; refine pr_ 6 11 (tb_ 16 127) ?_; refine pr_ 7 12 (tb_ 16 255) ?_; refine pr_ 8 13 (tb_ 16 511) ?_; refine pr_ 9 14 (tb_ 16 1023) ?_; refine pr_ 10 15 (tb_ 16 2047) ?_; refine pr_ 11 16 (tb_ 16 4095) ?_; refine pr_ 12 17 (tb_ 16 8191) ?_; refine pr_ 13 18 (tb_ 16 16383) ?_; refine pl_ 14 19 (tb_ 16 32767) ?_; refine pl_ 15 4 (tb_ 16 65535) ?_
  refine done_ (done_of HT_.out (by kernel_rfl)) ?_
  try go_wp2
  go_ret
  exact ⟨(by first | rfl | (simp [errW_none, errW_some] <;> rfl) | (simp [*, errW_none, errW_some] <;> rfl)), s1_⟩
def impl_MinimalRules.l0 : Nat → List (S48) → Int → Option ((List (S48)))
 | 0, _, _ => none
 | k + 1, x3, x4 => if x4 < (x3.length : Int) then ((impl_IsRedundant.f k x3 x4).bind fun t426 => (if t426 = true then ((impl_others.f x3 x4).bind fun t427 => (impl_MinimalRules.l0 k t427 x4)) else (impl_MinimalRules.l0 k x3 (wrap64 (x4 + 1))))) else (some x3)
def impl_MinimalRules.f (k : Nat) (l0 : List (S48)) : Option ((List (S48))) := (impl_areAnyRules.f l0).bind fun t422 => (if t422 = true then ((slices_Clone_impl_Rule.f l0).bind fun t423 => (impl_MinimalRules.l0 k t423 0)) else (some ([] : List (S48))))
theorem impl_MinimalRules.calls (k : Nat) (A0 : Option Addr) (c0 : Nat) (l0 : List (S48)) (r : List (S48)) (w : World) (hr0 : Kd.C k48 w A0 l0.length l0) (hc0 : l0.length ≤ c0) (h : impl_MinimalRules.f k l0 = some r) :
  Calls Tryz.prog 34 #[.slice A0 l0.length c0] w fun e w' => ∃ v0_ : Value, e = .returned (v0_) ∧ Kd.R k48 48 w' w.heap.size (fun _ => True) v0_ r ∧ Below w.heap.size w w' := by
 have HR0 := Aside0.mk hr0; have HC0 := Aside0.mk hc0; clear hr0 hc0; have HB := Aside0.mk (Below.refl w.heap.size w); have H := h; clear h; unfold impl_MinimalRules.f at H; obtain ⟨t422, A2, H⟩ := bnd45_ H
 by_cases c3 : t422 = true
 ·
  subst c3; rw [if_pos rfl] at H; obtain ⟨t423, A4, H⟩ := bnd45_ H; have H' := Aside0.mk H; clear H
  go_enter Tryz.func34, Tryz.ntmps34
  go_wp2_with ((with_reducible refine gw_ rfl ?_); first | (refine gL_ 149 6 Tryz.func149 #[.slice A0 l0.length c0] ?_; (with_reducible refine (impl_areAnyRules.calls _ _ l0 true _ ?side1 ?side2 A2.out).mono ?_); (case side1 => exact s13_); (case side2 => exact HC0.out); rintro e w5 ⟨rfl, hb⟩; refine ⟨_, rfl, ?_⟩; have n_ := Aside0.mk (below_step s1_ hb); clear HB; have HB := n_; clear n_; (try clear hb)) | (refine gL_ 150 9 Tryz.func150 #[.slice A0 l0.length c0] ?_; (with_reducible refine (slices_Clone_impl_Rule.calls _ _ l0 t423 _ ?side1 ?side2 A4.out).mono ?_); (case side1 => repeat (first | exact (Kd.C_below HR0.out HB.out) | (with_reducible refine Kd.C_alloc ?_ _) | (with_reducible refine Kd.C_drewN ?_ _) | (with_reducible refine Kd.C_drew ?_))); (case side2 => exact HC0.out); rintro e w6 ⟨v424, rfl, ho0, hb⟩; refine ⟨_, rfl, ?_⟩; have n_ := ac_ (Kd.R_lower ho0 (below_size s1_)) <| Aside0.mk (below_step s1_ hb); clear HB; obtain ⟨HO425, HB⟩ := n_; (try clear hb ho0)))
  go_loopg [3, 4] k (fun kq v3 v4 w' => ∃ (x3_1 : List (S48)) (x4_1 : Int), v4 = .int .i64 x4_1 ∧ Aside0 (impl_MinimalRules.l0 kq x3_1 x4_1 = some r) ∧ Aside0 (kq ≤ k) ∧ Aside0 (Kd.R k48 48 w' w.heap.size (fun _ => True) v3 x3_1) ∧ Aside0 (Below w.heap.size w w'))
  case atStart => exact ⟨(t423), (0), s2_, H', ⟨Nat.le_refl _⟩, ⟨(by (with_reducible repeat (first | apply Kd.R_alloc | apply Kd.R_drewN | apply Kd.R_drew)); exact HO425.out)⟩, ⟨s1_⟩⟩
  case round =>
   clear H'
   try clear c1
   try clear p2
   try clear c3
   obtain ⟨x3_1, x4_1, rfl, HA, HK1, HO_3, HB⟩ := hrel
   cases gk with
   | zero => exact absurd HA.out (by simp [impl_MinimalRules.l0])
   | succ k1 =>
    have H := HA.out; clear HA
    simp only [impl_MinimalRules.l0] at H
    by_cases c7 : x4_1 < (x3_1.length : Int)
    ·
     rw [if_pos c7] at H; have c7b0 : decide (x4_1 < (x3_1.length : Int)) = true := decide_eq_true c7; clear c7; obtain ⟨t426, A8, H⟩ := bnd45_ H
     by_cases c9 : t426 = true
     ·
      subst c9; rw [if_pos rfl] at H; obtain ⟨t427, A10, H⟩ := bnd45_ H; have H' := Aside0.mk H; clear H; obtain ⟨Ao11, co11, eo11⟩ := Kd.R_slice HO_3.out; subst eo11
      go_wp2_with ((with_reducible refine gw_ rfl ?_); first | (refine gL_ 47 16 Tryz.func47 #[.slice Ao11 x3_1.length co11, .int .i64 x4_1] ?_; (with_reducible refine (impl_IsRedundant.calls k1 _ _ x3_1 x4_1 true _ ?side1 ?side2 A8.out).mono ?_); (case side1 => exact s16_); (case side2 => exact (Kd.R_reads' HO_3.out).2.1); rintro e w12 ⟨rfl, hb⟩; refine ⟨_, rfl, ?_⟩; have n_ := ac_ (Kd.R_below s12_ hb) <| Aside0.mk (below_step s1_ hb); clear HO_3 HB; obtain ⟨HO_3, HB⟩ := n_; (try clear hb)) | (refine gL_ 151 19 Tryz.func151 #[.slice Ao11 x3_1.length co11, .int .i64 x4_1] ?_; (with_reducible refine (impl_others.calls _ _ x3_1 x4_1 t427 _ ?side1 ?side2 A10.out).mono ?_); (case side1 => exact s16_); (case side2 => exact (Kd.R_reads' HO_3.out).2.1); rintro e w13 ⟨v428, rfl, ho0, hb⟩; refine ⟨_, rfl, ?_⟩; have n_ := ac_ (Kd.R_elder' s12_ (Kd.R_base ho0) hb) <| ac_ (Kd.R_lower (Kd.R_new' ho0 (Kd.R_lt s12_)) (below_size s1_)) <| Aside0.mk (below_step s1_ hb); clear HO_3 HB; obtain ⟨HO_3, HO429, HB⟩ := n_; (try clear hb ho0)))
      go_roundg k1
      case measure => have := HK1.out; omega
      case rel => exact ⟨(t427), (x4_1), s2_, H', ⟨by have := HK1.out; omega⟩, ⟨(by (with_reducible repeat (first | apply Kd.R_alloc | apply Kd.R_drewN | apply Kd.R_drew)); exact Kd.R_mono HO429.out (fun _ hk => trivial))⟩, ⟨s1_⟩⟩
     ·
      replace c9 := Bool.eq_false_iff.mpr c9; subst c9
      rw [if_neg (show ¬ (false = true) by decide)] at H
      have H' := Aside0.mk H; clear H; obtain ⟨Ao14, co14, eo14⟩ := Kd.R_slice HO_3.out; subst eo14
      go_wp2_with ((with_reducible refine gw_ rfl ?_); (refine gL_ 47 16 Tryz.func47 #[.slice Ao14 x3_1.length co14, .int .i64 x4_1] ?_; (with_reducible refine (impl_IsRedundant.calls k1 _ _ x3_1 x4_1 false _ ?side1 ?side2 A8.out).mono ?_); (case side1 => exact s16_); (case side2 => exact (Kd.R_reads' HO_3.out).2.1); rintro e w15 ⟨rfl, hb⟩; refine ⟨_, rfl, ?_⟩; have n_ := ac_ (Kd.R_below s12_ hb) <| Aside0.mk (below_step s1_ hb); clear HO_3 HB; obtain ⟨HO_3, HB⟩ := n_; (try clear hb)))
      go_roundg k1
      case measure => have := HK1.out; omega
      case rel => exact ⟨(x3_1), (wrap64 (x4_1 + 1)), s2_, H', ⟨by have := HK1.out; omega⟩, ⟨s12_⟩, ⟨s1_⟩⟩
    ·
     rw [if_neg c7] at H; have c7b0 : decide (x4_1 < (x3_1.length : Int)) = false := decide_eq_false c7; clear c7; obtain rfl := Option.some.inj H; obtain ⟨Ao16, co16, eo16⟩ := Kd.R_slice HO_3.out; subst eo16
     go_wp2
     go_ret
     exact ⟨_, (by first | rfl | (simp [errW_none, errW_some] <;> rfl) | (simp [*, errW_none, errW_some] <;> rfl)), s12_, s1_⟩
 ·
  replace c3 := Bool.eq_false_iff.mpr c3; subst c3
  rw [if_neg (show ¬ (false = true) by decide)] at H
  obtain rfl := Option.some.inj H
  go_enter Tryz.func34, Tryz.ntmps34
  go_wp2_with ((with_reducible refine gw_ rfl ?_); (refine gL_ 149 6 Tryz.func149 #[.slice A0 l0.length c0] ?_; (with_reducible refine (impl_areAnyRules.calls _ _ l0 false _ ?side1 ?side2 A2.out).mono ?_); (case side1 => exact s13_); (case side2 => exact HC0.out); rintro e w17 ⟨rfl, hb⟩; refine ⟨_, rfl, ?_⟩; have n_ := Aside0.mk (below_step s1_ hb); clear HB; have HB := n_; clear n_; (try clear hb)))
  go_ret
  exact ⟨_, (by first | rfl | (simp [errW_none, errW_some] <;> rfl) | (simp [*, errW_none, errW_some] <;> rfl)), (by first | exact Kd.R_nil _ _ _ _ _ | exact Kd.N_nil _ _ _ _ _ | exact Kd.V_nil _ _ _ _ _ | exact Kd.Q_nil _ _ _ _ _ | exact Kd.S_nil _ _ _ _ _), s1_⟩
end Go.Proofs.YtafnamchckehmaaGreatDoor.Pr
namespace Go.Proofs.YtafnamchckehmaaGreatDoor.Pr
set_option maxHeartbeats 4000000
set_option maxRecDepth 100000
open Go.RowKit Go.Proofs.YtafnamchckehmaaGreatDoorW.PrintWords Go.Proofs.YtafnamchckehmaaGreatDoorW.PrintLast Go.Proofs.YtafnamchckehmaaGreatDoorW.PrintMore
open Go.Sort Go.Shelf
set_option linter.unusedVariables false
set_option linter.unusedSimpArgs false
theorem Reps_one {α : Type} (enc : α → Value) (xs : List α) (cs : List Value) : Reps (fun x c => c = [enc x]) 1 xs cs ↔ cs = xs.map enc := by
  constructor
  · rintro ⟨h1, h2⟩
    rw [Nat.mul_one] at h1
    refine List.ext_getElem? fun j => ?_
    rw [List.getElem?_map]
    rcases Nat.lt_or_ge j xs.length with h | h
    · have h3 := h2 j xs[j] (List.getElem?_eq_getElem h)
      rw [Nat.mul_one] at h3
      have h4 := congrArg (fun l => l[0]?) h3
      simp only [List.getElem?_take_of_succ, List.getElem?_drop, List.getElem?_cons_zero, Nat.add_zero] at h4
      rw [List.getElem?_eq_getElem h]
      exact h4
    · rw [List.getElem?_eq_none h, List.getElem?_eq_none (by omega)]; rfl
  · rintro rfl
    refine ⟨by simp, fun j p hp => ?_⟩
    rw [Nat.mul_one]
    obtain ⟨hj, rfl⟩ := List.getElem?_eq_some_iff.1 hp
    refine List.ext_getElem? fun i => ?_
    cases i with
    | zero => simp [List.getElem?_take, List.getElem?_drop, List.getElem?_eq_getElem hj]
    | succ i => simp [List.getElem?_take]
theorem R_int_out {e base g n c : Nat} {w : World} {xs : List Int} {ok : Nat → Prop} (h : (Kd.int .i64).R e w base ok (.slice (some ⟨g, 0, none⟩) n c) xs) (hx : 0 < xs.length) :
    base ≤ g ∧ n = xs.length ∧ xs.length ≤ c ∧ c ≤ maxLen ∧ ∃ cur : Array Value, w.heap[g]? = some (.cells cur e (0, 0)) ∧ cur.size = c ∧ cur.toList.take xs.length = xs.map (Value.int .i64) := by
  obtain ⟨_, inner, ho, hr⟩ := h
  obtain ⟨h1, h2⟩ := ho
  rcases h2 with ⟨h2, _⟩ | ⟨g', cap, cur, he, hb, hh, hn, hx, hs, ht⟩
  · cases h2
  · injection he with e1 e2 e3
    injection e1 with e1
    injection e1 with e1 _ _
    subst e1 e3
    refine ⟨hb, e2, hn, hx, cur, hh, by rw [hs]; exact Nat.mul_one _, ?_⟩
    have := (Reps_one (Value.int .i64) xs inner).1 hr
    rw [← this, ← ht, show xs.length * (Kd.int .i64).sz = xs.length from Nat.mul_one _]
theorem R_int_in {e base g c : Nat} {w : World} {xs : List Int} {cur : Array Value} (hb : base ≤ g) (hc : xs.length ≤ c) (hm : c ≤ maxLen) (hh : w.heap[g]? = some (.cells cur e (0, 0))) (hs : cur.size = c)
    (ht : cur.toList.take xs.length = xs.map (Value.int .i64)) : (Kd.int .i64).R e w base (fun _ => True) (.slice (some ⟨g, 0, none⟩) xs.length c) xs :=
  ⟨fun _ _ => trivial, xs.map (Value.int .i64), ⟨by rw [List.length_map]; exact (Nat.mul_one _).symm, .inr ⟨g, c, cur, rfl, hb, hh, hc, hm, by rw [hs]; exact (Nat.mul_one _).symm, by rw [show xs.length * (Kd.int .i64).sz = xs.length from Nat.mul_one _]; exact ht⟩⟩, (Reps_one (Value.int .i64) xs _).2 rfl⟩
theorem befV_nat {s t : Nat} (hs : s < 256) (ht : t < 256) : Pu.befV (s : Int) (t : Int) = Pu.bef s t := by
  unfold Pu.befV Pu.isAny
  rw [decide_eq_true (show 0 ≤ (s : Int) ∧ (s : Int) < 256 by omega), decide_eq_true (show 0 ≤ (t : Int) ∧ (t : Int) < 256 by omega), Int.toNat_natCast, Int.toNat_natCast]
  rfl
theorem cast_nodup {R : List Nat} (h : R.Nodup) : (Pu.cast R).Nodup := List.pairwise_map.2 (h.imp fun hne e => hne (by omega))
theorem nodup_cast {R : List Nat} (h : (Pu.cast R).Nodup) : R.Nodup := (List.pairwise_map.1 (show (R.map fun (x : Nat) => (x : Int)).Nodup from h)).imp fun hne e => hne (by rw [e])
theorem lecF_nodup (p : Nat → Bool) : (Pu.lecF p).Nodup := (Pu.lecF_sorted p).imp fun h e => by subst e; omega
def encF (x : Fin 256) : Value := .int .i64 ((x.val : Nat) : Int)
def cfF (x y : Fin 256) : Int := if x = y then 0 else if Pu.bef x.val y.val = true then -1 else 1
theorem lt_cfF (x y : Fin 256) : ltOf cfF x y = Pu.bef x.val y.val := by
  unfold ltOf cfF
  by_cases h : x = y
  · subst h
    rw [if_pos rfl, Pu.bef_irrefl]; rfl
  · rw [if_neg h]
    cases hb : Pu.bef x.val y.val with
    | true => rfl
    | false => rfl
theorem swoF : SWO (ltOf cfF) where
  irrefl := fun x => by rw [lt_cfF]; exact Pu.bef_irrefl _
  trans := fun x y z h1 h2 => by
    rw [lt_cfF] at h1 h2 ⊢
    unfold Pu.bef at h1 h2 ⊢
    rw [decide_eq_true_iff] at h1 h2 ⊢
    omega
  ntrans := fun x y z h1 h2 => by
    rw [lt_cfF] at h1 h2 ⊢
    unfold Pu.bef at h1 h2 ⊢
    rw [decide_eq_false_iff_not] at h1 h2 ⊢
    omega
theorem antiF (x y : Fin 256) (h1 : ltOf cfF x y = false) (h2 : ltOf cfF y x = false) : x = y := by
  rw [lt_cfF] at h1 h2
  unfold Pu.bef at h1 h2
  rw [decide_eq_false_iff_not] at h1 h2
  exact Fin.ext (Pu.rv_inj x.isLt y.isLt (by omega))
def fin8 (x : Nat) : Fin 256 := ⟨x % 256, Nat.mod_lt _ (by decide)⟩
def arrF (R : List Nat) : Array (Fin 256) := (R.map fin8).toArray
theorem arrF_size (R : List Nat) : (arrF R).size = R.length := by unfold arrF; rw [List.size_toArray, List.length_map]
theorem map_fin8 {R : List Nat} (hR : ∀ x ∈ R, x < 256) : (R.map fin8).map (fun x => x.val) = R := by
  rw [List.map_map]
  conv => rhs; rw [← List.map_id R]
  exact List.map_congr_left fun x hx => Nat.mod_eq_of_lt (hR x hx)
theorem map_encF (L : List (Fin 256)) : L.map encF = (Pu.cast (L.map fun x => x.val)).map (Value.int .i64) := by
  unfold Pu.cast
  rw [List.map_map, List.map_map]
  rfl
theorem holdsF {w : World} {g n e c : Nat} {cur : Array Value} {d : Array (Fin 256)} (hh : w.heap[g]? = some (.cells cur e (0, 0))) (hs : d.size ≤ cur.size) (ht : cur.toList.take d.size = d.toList.map encF) : Holds encF w g 0 d := by
  intro j hj
  have h1 : cur[j]? = some (encF d[j]!) := by
    have h2 := congrArg (fun l => l[j]?) ht
    simp only [List.getElem?_take, if_pos hj, List.getElem?_map, Array.getElem?_toList] at h2
    rw [h2, Array.getElem?_eq_getElem hj, getElem!_pos d j hj]; rfl
  refine ⟨?_, ?_⟩
  · rw [Nat.zero_add]
    simp [World.cell?, hh, h1]
  · simp [World.frozen?, hh]
theorem heap_sortWorld {α : Type} [Inhabited α] (enc : α → Value) {w : World} {g e m : Nat} {cur : Array Value} {d : Array α} {os : Array Obj} (hh : w.heap[g]? = some (.cells cur e (0, 0))) : (sortWorld enc w g 0 m d os).heap[g]? = some (.cells (putCells enc 0 d cur) e (0, 0)) := by
  have hlt : g < w.heap.size := (Array.getElem?_eq_some_iff.1 hh).1
  unfold sortWorld grow putRow mapBlock Sort.ahead
  dsimp only
  rw [Array.getElem?_append_left (by rw [Array.size_modify]; exact hlt), Array.getElem?_modify, if_pos rfl, hh]
  rfl
theorem putCells_take {α : Type} [Inhabited α] (enc : α → Value) {cur : Array Value} {d : Array α} (hs : d.size ≤ cur.size) : (putCells enc 0 d cur).toList.take d.size = d.toList.map enc := by
  refine List.ext_getElem? fun j => ?_
  rw [List.getElem?_take, List.getElem?_map]
  by_cases hj : j < d.size
  · rw [if_pos hj, Array.getElem?_toList, Array.getElem?_toList]
    unfold putCells
    rw [Array.getElem?_mapIdx, Array.getElem?_eq_getElem (show j < cur.size by omega), Option.map_some, if_pos ⟨Nat.zero_le _, by omega⟩, Array.getElem?_eq_getElem hj, Nat.sub_zero, getElem!_pos d j hj]
    rfl
  · rw [if_neg hj, Array.getElem?_toList, Array.getElem?_eq_none (by omega)]
    rfl
theorem putCells_size {α : Type} [Inhabited α] (enc : α → Value) (cur : Array Value) (d : Array α) : (putCells enc 0 d cur).size = cur.size := by unfold putCells; rw [Array.size_mapIdx]
theorem below_sortWorld {α : Type} [Inhabited α] (enc : α → Value) {w0 w : World} {base g m : Nat} {d : Array α} {os : Array Obj} (hb : Below base w0 w) (hg : base ≤ g) (hs : base ≤ w.heap.size) : Below base w0 (sortWorld enc w g 0 m d os) := by
  have e : (sortWorld enc w g 0 m d os).heap = w.heap.modify g (onCells (putCells enc 0 d)) ++ os := rfl
  refine ⟨hb.os, hb.tape, hb.output, ?_, fun j hj => ?_⟩
  · rw [e, Array.size_append, Array.size_modify]
    have := hb.size
    omega
  · rw [e, Array.getElem?_append_left (by rw [Array.size_modify]; omega), Array.getElem?_modify, if_neg (by omega)]
    exact hb.block j hj
def lecOf (R : List Nat) : List Nat := Pu.lecF fun s => decide (s ∈ R)
theorem sortedF {R : List Nat} (hR : ∀ x ∈ R, x < 256) (hnd : R.Nodup) {d' : Array (Fin 256)} (h : d'.toList = (arrF R).toList.mergeSort fun x y => !(ltOf cfF) y x) : d'.toList.map (fun x => x.val) = lecOf R := by
  have hperm : d'.toList.Perm (R.map fin8) := by
    rw [h]
    exact List.mergeSort_perm _ _
  have hp2 : (d'.toList.map fun x => x.val).Perm R := by
    have := hperm.map (fun x => x.val)
    rwa [map_fin8 hR] at this
  have hs : d'.toList.Pairwise fun x y => (!(ltOf cfF) y x) = true := by
    rw [h]
    refine List.pairwise_mergeSort (fun a b c h1 h2 => ?_) (fun a b => ?_) _
    · rw [lt_cfF] at h1 h2 ⊢
      unfold Pu.bef at h1 h2 ⊢
      simp only [Bool.not_eq_true', decide_eq_false_iff_not] at h1 h2 ⊢
      omega
    · rw [lt_cfF, lt_cfF]
      unfold Pu.bef
      simp only [Bool.or_eq_true, Bool.not_eq_true', decide_eq_false_iff_not]
      omega
  have hn : (d'.toList.map fun x => x.val).Nodup := hp2.nodup_iff.2 hnd
  have hl : Pu.lecS (d'.toList.map fun x => x.val) := by
    unfold Pu.lecS
    have h1 : (d'.toList.map fun x => x.val).Pairwise fun a b => a < 256 ∧ b < 256 ∧ Pu.rv a ≤ Pu.rv b := by
      rw [List.pairwise_map]
      refine hs.imp fun {a b} hab => ⟨a.isLt, b.isLt, ?_⟩
      rw [lt_cfF] at hab
      unfold Pu.bef at hab
      simp only [Bool.not_eq_true', decide_eq_false_iff_not] at hab
      omega
    refine (h1.and hn).imp fun {a b} hab => ?_
    obtain ⟨⟨ha, hb, hle⟩, hne⟩ := hab
    rcases Nat.lt_or_ge (Pu.rv a) (Pu.rv b) with hlt | hge
    · exact hlt
    · exact absurd (Pu.rv_inj ha hb (by omega)) hne
  have h2 := Pu.lec_unique hl fun x hx => hR x (hp2.mem_iff.1 hx)
  rw [h2]
  unfold lecOf
  refine Pu.lecF_congr fun s _ => ?_
  rw [decide_eq_decide]
  exact hp2.mem_iff
theorem cmp_val (x y : Fin 256) : Ev (fun k => impl_SortLectic_2.f k ((x.val : Nat) : Int) ((y.val : Nat) : Int)) (cfF x y) := by
  unfold impl_SortLectic_2.f cfF
  by_cases h : x = y
  · subst h
    rw [if_pos rfl]
    exact Ev.congr (fun k => by rw [if_pos rfl]) (Ev.now _)
  · have hne : ¬ ((x.val : Nat) : Int) = ((y.val : Nat) : Int) := fun e => h (Fin.ext (by omega))
    rw [if_neg h]
    refine Ev.congr (fun k => by rw [if_neg hne]) ?_
    refine Ev.bind (Pu.befI_val _ _) ?_
    rw [befV_nat x.isLt y.isLt]
    cases Pu.bef x.val y.val with
    | true => exact Ev.now _
    | false => exact Ev.now _
theorem lecOf_length {R : List Nat} (hR : ∀ x ∈ R, x < 256) (hnd : R.Nodup) : (lecOf R).length = R.length := by
  have hd : ((arrF R).toList.mergeSort fun x y => !(ltOf cfF) y x).toArray.toList = (arrF R).toList.mergeSort fun x y => !(ltOf cfF) y x := rfl
  have h := sortedF hR hnd hd
  have h2 := congrArg List.length h
  rw [List.length_map, List.length_mergeSort] at h2
  rw [← h2]
  unfold arrF
  rw [List.length_map]
theorem sort_at (g c : Nat) (R : List Nat) (hpos : 0 < R.length) (hR : ∀ x ∈ R, x < 256) (hnd : R.Nodup) (w0 w : World) (htab : Tab64 w0) (hb : Below w0.heap.size w0 w)
    (ho : (Kd.int .i64).R 3 w w0.heap.size (fun _ => True) (.slice (some ⟨g, 0, none⟩) R.length c) (Pu.cast R)) :
    Calls Tryz.prog 248 #[.slice (some ⟨g, 0, none⟩) R.length c, .func (.func 249) #[] #[]] w fun e w' => e = .returned (.tuple #[]) ∧ (Kd.int .i64).R 3 w' w0.heap.size (fun _ => True) (.slice (some ⟨g, 0, none⟩) R.length c) (Pu.cast (lecOf R)) ∧ Below w0.heap.size w0 w' := by
  have hlenC : (Pu.cast R).length = R.length := Pu.cast_length R
  obtain ⟨hg, _, hc, hm, cur, hh, hs, ht⟩ := R_int_out ho (by omega)
  rw [hlenC] at hc ht
  have hD : (arrF R).size = R.length := arrF_size R
  have ht2 : cur.toList.take (arrF R).size = (arrF R).toList.map encF := by
    rw [hD, ht, map_encF]
    unfold arrF
    rw [map_fin8 hR]
  have hH : Holds encF w g 0 (arrF R) := holdsF (n := 0) (c := 0) hh (by omega) ht2
  have hblk : g < w.heap.size := (Array.getElem?_eq_some_iff.1 hh).1
  have eg : ∀ args w, (callFunc 249 args).run Tryz.prog w = .ok (.enter 249 args) w := enters_of Tryz.func249 (by kernel_rfl) rfl
  have hcmp : CmpLays1 Tryz.prog 249 #[] encF cfF g 0 (arrF R).size w := by
    intro m os dk _ x y
    obtain ⟨k, hk⟩ := Ev.rounds (cmp_val x y)
    refine (impl_SortLectic_2.calls k _ _ _ _ (htab.below (below_sortWorld encF hb hg hb.size)) hk).mono ?_
    rintro e w' ⟨he, q, rfl⟩
    exact ⟨he, q, #[], by rw [grow_empty]⟩
  have hlen : R.length ≤ 256 := Pu.nodup_le 256 R hnd hR
  have h := Tryz.slices_SortFunc encF (fun _ => rfl) cfF swoF 249 #[] g 0 c (arrF R) w eg hcmp hH hblk (by omega)
  rw [hD] at h
  refine h.mono ?_
  rintro e w' ⟨rfl, d', m, os, hp, hso, rfl⟩
  rw [← hD] at hp hso
  have hL := sortedF hR hnd (sorted_unique_holds swoF antiF (arrF R) d' hp hso)
  have hd' : d'.size = R.length := by
    have := congrArg List.length hL
    rw [List.length_map, lecOf_length hR hnd] at this
    simpa using this
  refine ⟨rfl, ?_, below_sortWorld encF hb hg hb.size⟩
  have hlenL : (Pu.cast (lecOf R)).length = R.length := by rw [Pu.cast_length, lecOf_length hR hnd]
  rw [← hlenL]
  refine R_int_in hg (by omega) hm (heap_sortWorld encF hh) (by rw [putCells_size]; exact hs) ?_
  rw [hlenL, ← hd', putCells_take encF (by omega), map_encF, hL]
theorem compact_lec {L : List Int} (hn : L.Nodup) : Lib.compact L = L := by
  unfold Lib.compact
  rw [Lib.compactUpTo_all]
  · refine List.ext_getElem? fun j => ?_
    rw [List.getElem?_map]
    rcases Nat.lt_or_ge j L.length with h | h
    · rw [List.getElem?_range h, Option.map_some, List.getElem?_eq_getElem h, getElem!_pos L.toArray j (by simpa using h)]
      simp
    · rw [List.getElem?_eq_none (by simpa using h), List.getElem?_eq_none h]; rfl
  · intro j hj
    unfold Lib.keeps
    rw [decide_eq_true_iff]
    by_cases h0 : j = 0
    · exact Or.inl h0
    · refine Or.inr fun e => ?_
      rw [getElem!_pos L.toArray j (by simpa using hj), getElem!_pos L.toArray (j - 1) (by simp; omega)] at e
      have e' : L[j] = L[j - 1]'(by omega) := by simpa using e
      exact List.pairwise_iff_getElem.1 hn (j - 1) j (by omega) hj (by omega) e'.symm
theorem compact_at (g c : Nat) (L : List Int) (hpos : 0 < L.length) (hn : L.Nodup) (hl : L.length ≤ 1048576) (w0 w : World) (hb : Below w0.heap.size w0 w)
    (ho : (Kd.int .i64).R 3 w w0.heap.size (fun _ => True) (.slice (some ⟨g, 0, none⟩) L.length c) L) :
    Calls Tryz.prog 250 #[.slice (some ⟨g, 0, none⟩) L.length c] w fun e w' => e = .returned (.slice (some ⟨g, 0, none⟩) L.length c) ∧ (Kd.int .i64).R 3 w' w0.heap.size (fun _ => True) (.slice (some ⟨g, 0, none⟩) L.length c) L ∧ Below w0.heap.size w0 w' := by
  obtain ⟨hg, _, hc, hm, cur, hh, hs, ht⟩ := R_int_out ho hpos
  have hH : Holds (Value.int .i64) w g 0 L.toArray := by
    intro j hj
    have hj' : j < L.length := by simpa using hj
    have h1 : cur[j]? = some (Value.int .i64 L.toArray[j]!) := by
      have h2 := congrArg (fun l => l[j]?) ht
      simp only [List.getElem?_take, if_pos hj', List.getElem?_map, Array.getElem?_toList] at h2
      rw [h2, List.getElem?_eq_getElem hj', getElem!_pos L.toArray j hj]; rfl
    refine ⟨?_, ?_⟩
    · rw [Nat.zero_add]
      simp only [World.cell?, hh, h1]
      simp [h1]
    · simp [World.frozen?, hh]
  refine (Tryz.slices_Compact_int g 0 c L w hH (by omega) hc).mono ?_
  rintro e w' ⟨rfl, q, rfl⟩
  rw [compact_lec hn, Nat.sub_self, List.replicate_zero, List.append_nil, putRow_self _ _ _ _ _ (holds_ahead _ _ _ _ _ _ hH)]
  exact ⟨rfl, Kd.R_drewN ho q, pw_below_drewN hb q⟩
def impl_SortLectic.f (l0 : List Int) : Option (List Int) :=
  if l0.all Pu.isAny = true ∧ l0.Nodup ∧ 0 < l0.length then some (Pu.cast (lecOf (l0.map Int.toNat))) else none
theorem sl1_val (x : Int) : impl_SortLectic_1.f x = some (!Pu.isAny x) := by
  unfold impl_SortLectic_1.f
  rw [Pu.any_val, Option.bind_some]
theorem R_form_int {e base : Nat} {w : World} {ok : Nat → Prop} {v : Value} {xs : List Int} (h : (Kd.int .i64).R e w base ok v xs) (hx : 0 < xs.length) : ∃ g c, v = .slice (some ⟨g, 0, none⟩) xs.length c ∧ xs.length ≤ c := by
  obtain ⟨_, inner, ⟨h1, h2⟩, _⟩ := h
  rcases h2 with ⟨_, h2⟩ | ⟨g, cap, cur, he, _, _, hn, _⟩
  · omega
  · exact ⟨g, cap, he, hn⟩
theorem impl_SortLectic.calls (A0 : Option Addr) (c0 : Nat) (l0 : List Int) (r : List Int) (w : World) (hr0 : Kd.C (Kd.int .i64) w A0 l0.length l0) (hc0 : l0.length ≤ c0) (htab : Tab64 w) (h : impl_SortLectic.f l0 = some r) :
    Calls Tryz.prog 208 #[.slice A0 l0.length c0] w fun e w' => ∃ v0_ : Value, e = .returned (v0_) ∧ Kd.R (Kd.int .i64) 3 w' w.heap.size (fun _ => True) v0_ r ∧ Below w.heap.size w w' := by
  unfold impl_SortLectic.f at h
  by_cases hq : l0.all Pu.isAny = true ∧ l0.Nodup ∧ 0 < l0.length
  · rw [if_pos hq] at h
    obtain rfl := Option.some.inj h
    obtain ⟨hall, hnd, hpos⟩ := hq
    rw [List.all_eq_true] at hall
    have hcast : l0 = Pu.cast (l0.map Int.toNat) := Pu.cast_of fun x hx => by have := hall x hx; unfold Pu.isAny at this; rw [decide_eq_true_iff] at this; exact this.1
    generalize l0.map Int.toNat = R at hcast ⊢
    subst hcast
    rw [Pu.cast_length] at hr0 hc0 hpos ⊢
    have hR : ∀ x ∈ R, x < 256 := fun x hx => by
      have := hall (x : Int) (List.mem_map.2 ⟨x, hx, rfl⟩)
      unfold Pu.isAny at this
      rw [decide_eq_true_iff] at this
      omega
    have hndR : R.Nodup := nodup_cast hnd
    have hlen : R.length ≤ 256 := Pu.nodup_le 256 R hndR hR
    have eg : ∀ args w, (callFunc 246 args).run Tryz.prog w = .ok (.enter 246 args) w := enters_of Tryz.func246 (by kernel_rfl) rfl
    have hany : (Pu.cast R).any (fun x => !Pu.isAny x) = false := by
      rw [List.any_eq_false]
      intro x hx
      rw [hall x hx]; decide
    have h0 := ContainsFunc_int 246 #[] eg A0 c0 (Pu.cast R) (fun x => !Pu.isAny x) w (by rw [Pu.cast_length]; exact hr0) (fun W x hb => (impl_SortLectic_1.calls x _ W (sl1_val x)).mono fun e w' ⟨he, q, hw⟩ => ⟨he, by rw [hw]; exact pw_below_drewN (Below.refl _ _) q⟩)
    rw [hany, Pu.cast_length] at h0
    have hcl : slices_Clone_int.f (Pu.cast R) = some (Pu.cast R) := by unfold slices_Clone_int.f; rw [if_pos (by rw [Pu.cast_length]; omega)]
    have hclone := fun W hr => slices_Clone_int.calls A0 c0 (Pu.cast R) (Pu.cast R) W (by rw [Pu.cast_length]; exact hr) (by rw [Pu.cast_length]; exact hc0) hcl
    rw [Pu.cast_length] at hclone
    have hlecL : (Pu.cast (lecOf R)).length = R.length := by rw [Pu.cast_length, lecOf_length hR hndR]
    have hndL : (Pu.cast (lecOf R)).Nodup := cast_nodup (lecF_nodup _)
    have hcompact := fun g c W hb ho => compact_at g c (Pu.cast (lecOf R)) (by omega) hndL (by omega) w W hb ho
    rw [hlecL] at hcompact
    have hsort := fun g c W hb ho => sort_at g c R hpos hR hndR w W htab hb ho
    have HR0 := Aside0.mk hr0
    have HS := Aside0.mk hsort
    have HCP := Aside0.mk hcompact
    have HCL := Aside0.mk hclone
    have HPOS : Aside0 (0 < (Pu.cast R).length) := ⟨by rw [Pu.cast_length]; exact hpos⟩
    have HLEN : Aside0 ((Pu.cast R).length = R.length) := ⟨Pu.cast_length R⟩
    clear hr0 hsort hcompact hclone hcl hlecL hndL hlen hR hndR hall hnd hany hpos htab hc0
    go_enter Tryz.func208, Tryz.ntmps208
    go_wp2_with (first | (go_at_call 223; refine h0.mono ?_; rintro e w1 ⟨rfl, hb1⟩; have HB1 := Aside0.mk hb1; clear hb1) | (go_at_call 247; refine (HCL.out _ (Kd.C_below HR0.out HB1.out)).mono ?_; rintro e w2 ⟨v, rfl, hR2, hB2⟩; obtain ⟨g, c, hv, hgc⟩ := R_form_int hR2 HPOS.out; rw [HLEN.out] at hv hgc; subst hv; have HO2 := Aside0.mk (Kd.R_lower hR2 (below_size HB1.out)); have HB2 := Aside0.mk (below_step HB1.out hB2); clear hR2 hB2 hgc) | (go_at_call 248; refine (HS.out _ _ _ HB2.out HO2.out).mono ?_; rintro e w3 ⟨rfl, hR3, hB3⟩; have HO3 := Aside0.mk hR3; have HB3 := Aside0.mk hB3; clear hR3 hB3) | (go_at_call 250; refine (HCP.out _ _ _ HB3.out HO3.out).mono ?_; rintro e w4 ⟨rfl, hR4, hB4⟩; have HO4 := Aside0.mk hR4; have HB4 := Aside0.mk hB4; clear hR4 hB4))
    go_ret
    exact ⟨_, rfl, HO4.out, HB4.out⟩
  · rw [if_neg hq] at h
    cases h
end Go.Proofs.YtafnamchckehmaaGreatDoor.Pr
namespace Go.Proofs.YtafnamchckehmaaGreatDoor.Pr
open Go.RowKit Go.Proofs.YtafnamchckehmaaGreatDoorW.PrintWords Go.Proofs.YtafnamchckehmaaGreatDoorW.PrintLast Go.Proofs.YtafnamchckehmaaGreatDoorW.PrintMore
attribute [local go_sem] max2_int min2_int max_two min_two max_three min_three max_four min_four
set_option linter.unusedVariables false
set_option linter.unusedSimpArgs false
theorem bnd44_ {α β : Type} {o : Option α} {f : α → Option β} {r : β} (h : o.bind f = some r) : ∃ a, Aside0 (o = some a) ∧ f a = some r := by
 obtain ⟨a, h1, h2⟩ := Option.bind_eq_some_iff.mp h
 exact ⟨a, ⟨h1⟩, h2⟩
def impl_allSets.l0 : Nat → List Int → Int → Int → Option (List Int)
 | 0, _, _, _ => none
 | k + 1, x3, x7, x8 => if x8 < x7 then (if x3.length < 17592186044416 then (impl_allSets.l0 k (x3 ++ [x8]) x7 (wrap64 (x8 + 1))) else (none)) else ((impl_SortLectic.f x3).bind fun t473 => (some t473))
def impl_allSets.f (k : Nat) (a0 : Int) : Option (List Int) := if 0 ≤ a0 then (impl_allSets.l0 k (([] : List Int)) (shl .i64 1 a0) 0) else (none)
set_option maxHeartbeats 40000000 in
set_option maxRecDepth 100000 in
theorem impl_allSets.calls (k : Nat) (a0 : Int) (r : List Int) (w : World) (htab : Tab64 w) (h : impl_allSets.f k a0 = some r) :
  Calls Tryz.prog 121 #[.int .i64 a0] w fun e w' => ∃ v0_ : Value, e = .returned (v0_) ∧ Kd.R (Kd.int .i64) 3 w' w.heap.size (fun _ => True) v0_ r ∧ Below w.heap.size w w' := by
 have HTB := Aside0.mk htab; clear htab; have HB := Aside0.mk (Below.refl w.heap.size w); have H := h; clear h; unfold impl_allSets.f at H; obtain ⟨y467, hy_⟩ : ∃ y_ : List Int, y_ = (([] : List Int)) := ⟨_, rfl⟩
 replace H : (if 0 ≤ a0 then (impl_allSets.l0 k y467 (shl .i64 1 a0) 0) else (none)) = some r := rH_
 have Ny467 := Aside0.mk hy_; clear hy_
 by_cases c2 : 0 ≤ a0
 ·
  rw [if_pos c2] at H; have c2b0 := eq_true c2; have c2b1 : decide (0 ≤ a0) = true := decide_eq_true c2; clear c2; obtain ⟨ji3, hji3⟩ : ∃ j_ : Int, (shl .i64 1 a0) = j_ := ⟨_, rfl⟩
  replace H : (impl_allSets.l0 k y467 ji3 0) = some r := by first | (rw [hji3] at H; exact H) | (simp only [hji3] at H ⊢; exact H)
  have hji3_ : (IntKind.i64.wrap (1 * 2 ^ min a0.toNat 64)) = ji3 := hji3; have hji3z : a0 ≤ 64 → (IntKind.i64.wrap (1 * 2 ^ a0.toNat)) = ji3 := shl_small hji3
  have hji3u : (IntKind.i64.wrap (2 ^ min a0.toNat 64)) = ji3 := by have h_ := hji3_; rw [Int.one_mul] at h_; exact h_
  have hji3v : a0 ≤ 64 → (IntKind.i64.wrap (2 ^ a0.toNat)) = ji3 := fun hle_ => by have h_ := hji3z hle_; rw [Int.one_mul] at h_; exact h_
  have hji3y : (wrap64 (1 * 2 ^ min a0.toNat 64)) = ji3 := (i64_w _).symm.trans hji3_
  have hji3x : a0 ≤ 64 → (wrap64 (1 * 2 ^ a0.toNat)) = ji3 := fun h_ => (i64_w _).symm.trans (hji3z h_)
  have H' := Aside0.mk H; clear H
  go_enter Tryz.func121, Tryz.ntmps121
  go_wp2_with ((with_reducible refine gw_ rfl ?_); (refine rl_ (Kd.int .i64) 3 5 ?_; intro v468 w4 ho5 hb hg_ hnew_; clear hg_ hnew_; (first | rw [← Ny467.out] at ho5 | (simp only [Int.reduceToNat] at ho5; rw [← Ny467.out] at ho5)); have n_ := ac_ (Kd.R_lower ho5 (below_size s1_)) <| Aside0.mk (below_step s1_ hb); clear HB; obtain ⟨HO469, HB⟩ := n_; clear hb ho5))
  go_loopg [3, 8] k (fun kq v3 v8 w' => ∃ (x3_1 : List Int) (x8_1 : Int), v8 = .int .i64 x8_1 ∧ Aside0 (impl_allSets.l0 kq x3_1 ji3 x8_1 = some r) ∧ Aside0 (kq ≤ k) ∧ Aside0 (Kd.R (Kd.int .i64) 3 w' w.heap.size (fun _ => True) v3 x3_1) ∧ Aside0 (Below w.heap.size w w'))
  case atStart => exact ⟨(y467), (0), rf_, H', ⟨Nat.le_refl _⟩, ⟨(by (with_reducible repeat (first | apply Kd.R_alloc | apply Kd.R_drewN | apply Kd.R_drew)); exact HO469.out)⟩, ⟨s1_⟩⟩
  case round =>
   clear H'
   try clear c1
   try clear c2
   try clear c2b0
   try clear c2b1
   try clear p2
   obtain ⟨x3_1, x8_1, rfl, HA, HK1, HO_3, HB⟩ := hrel
   cases gk with
   | zero => exact absurd HA.out (by simp [impl_allSets.l0])
   | succ k1 =>
    have H := HA.out; clear HA
    simp only [impl_allSets.l0] at H
    by_cases c6 : x8_1 < ji3
    ·
     rw [if_pos c6] at H; have c6b0 : decide (x8_1 < ji3) = true := decide_eq_true c6; clear c6
     by_cases c7 : x3_1.length < 17592186044416
     ·
      rw [if_pos c7] at H; have LMc7 := Aside0.mk c7; clear c7; obtain ⟨y470, hy_⟩ : ∃ y_ : List Int, y_ = (x3_1 ++ [x8_1]) := ⟨_, rfl⟩
      replace H : (impl_allSets.l0 k1 y470 ji3 (wrap64 (x8_1 + 1))) = some r := rH_
      have Ny470 := Aside0.mk hy_; clear hy_; have H' := Aside0.mk H; clear H
      go_wp2_with (first | ((with_reducible refine gate_builtin (b := .append) (xs := #[.tmp 11, .tmp 13]) rfl ?_); at_builtin; refine Kd.R_append (Kd.int .i64) (w0 := w) w.heap.size rfl (.tmp 11) (.tmp 13) 27 3 (.int .i64 0) 8 rfl Tryz.underlying27 info3 rfl (by decide) (by omega) u3 x3_1 x8_1 [.int .i64 x8_1] (fun _ => True) (fun _ => False) rfl rfl ?aP (fun _ hk => hk.elim) ?aF ?aO ?aB ?aS ?aL ?_; (case aP => exact rfl); (case aB => exact s1_); (case aF => exact (fun _ _ => trivial)); (case aO => exact s12_); (case aS => exact (below_size s1_)); (case aL => have := LMc7.out; omega); intro v471 w8 ho hb hg hat; rw [← Ny470.out] at ho; have n_ := ac_ (hb) <| Aside0.mk (ho); clear HB HO_3; obtain ⟨HB, HO472⟩ := n_; clear ho hb hg hat))
      go_roundg k1
      case measure => have := HK1.out; omega
      case rel => exact ⟨(y470), (wrap64 (x8_1 + 1)), rf_, H', ⟨by have := HK1.out; omega⟩, ⟨(by (with_reducible repeat (first | apply Kd.R_alloc | apply Kd.R_drewN | apply Kd.R_drew)); exact HO472.out)⟩, ⟨s1_⟩⟩
     ·
      rw [if_neg c7] at H
      exact absurd H (by simp)
    ·
     rw [if_neg c6] at H; have c6b0 : decide (x8_1 < ji3) = false := decide_eq_false c6; clear c6; obtain ⟨t473, A9, H⟩ := bnd44_ H; obtain rfl := Option.some.inj H; obtain ⟨Ao10, co10, eo10⟩ := Kd.R_slice HO_3.out; subst eo10
     go_wp2_with (first | ((with_reducible refine gate_callee (f := 208) rfl ?_); refine goesL_ (some 17) rfl rfl Tryz.func208 (by kernel_rfl) rfl #[.slice Ao10 x3_1.length co10] rfl (by (try simp only [List.map_toArray, List.map_cons, List.map_nil]); first | done | rfl | (simp only [List.length_drop, List.length_take]; rfl)) ?_; (with_reducible refine (impl_SortLectic.calls _ _ x3_1 t473 _ ?side1 ?side2 ?tab A9.out).mono ?_); (case tab => first | exact HTB.out | (refine Tab64.below HTB.out ?_; repeat (first | (with_reducible first | exact HB.out | apply below_alloc | apply pw_below_drewN | apply below_drew1) | exact HB.out)) | (repeat (first | exact HTB.out | apply Tab64.drewN | apply Tab64.drew | apply Tab64.alloc))); (case side1 => repeat (first | exact (Kd.R_reads' HO_3.out).2.2 | (with_reducible refine Kd.C_alloc ?_ _) | (with_reducible refine Kd.C_drewN ?_ _) | (with_reducible refine Kd.C_drew ?_))); (case side2 => exact (Kd.R_reads' HO_3.out).2.1); rintro e w11 ⟨v474, rfl, ho0, hb⟩; refine ⟨_, rfl, ?_⟩; have n_ := ac_ (Kd.R_elder' s12_ (Kd.R_base ho0) hb) <| ac_ (Kd.R_lower (Kd.R_new' ho0 (Kd.R_lt s12_)) (below_size s1_)) <| Aside0.mk (below_step s1_ hb); clear HO_3 HB; obtain ⟨HO_3, HO475, HB⟩ := n_; (try clear hb ho0)))
     go_ret
     exact ⟨_, (by first | rfl | (simp [errW_none, errW_some] <;> rfl) | (simp only [← hji3]; first | rfl | (simp [errW_none, errW_some] <;> rfl)) | (simp [*, errW_none, errW_some] <;> rfl)), (by (with_reducible repeat (first | apply Kd.R_alloc | apply Kd.R_drewN | apply Kd.R_drew)); exact Kd.R_mono HO475.out (fun _ hk => trivial)), s1_⟩
 ·
  rw [if_neg c2] at H
  exact absurd H (by simp)
end Go.Proofs.YtafnamchckehmaaGreatDoor.Pr
namespace Go.Proofs.YtafnamchckehmaaGreatDoor.Pr
open Go.RowKit Go.Proofs.YtafnamchckehmaaGreatDoorW.PrintWords Go.Proofs.YtafnamchckehmaaGreatDoorW.PrintLast Go.Proofs.YtafnamchckehmaaGreatDoorW.PrintMore
open Go.Sort Go.Shelf Go.Lib
set_option linter.unusedVariables false
set_option linter.unusedSimpArgs false
variable {α : Type} [Inhabited α]
theorem symM_s (enc : α → Value) (cf : α → α → Int) (g : Nat) (cb : Array Value) (blk off cap : Nat) (d0 : Array α) (w0 : World)
    (eg : ∀ args w, (callFunc g args).run Tryz.prog w = .ok (.enter g args) w) (hcmp : CmpLays1 Tryz.prog g cb enc cf blk off d0.size w0) (R : Row1 enc w0 blk off d0) (hsz : d0.size < 4611686018427387904) :
    ∀ (k a m b : Nat) (d : Array α) (w : World), d0.size = d.size → SW enc w0 blk off d w → b - a ≤ k → a < m → m < b → b ≤ d.size →
    Calls Tryz.prog 271 #[.slice (some ⟨blk, off, none⟩) d.size cap, .int .i64 (a : Int), .int .i64 (m : Int), .int .i64 (b : Int), .func (.func g) #[] cb] w fun e w' => e = .returned (.tuple #[]) ∧ SW enc w0 blk off (symM (ltOf cf) k a m b d) w' := by
  intro k
  induction k with
  | zero => intro a m b d w hs S h1 h2 h3 h4; omega
  | succ k ih =>
    intro a m b d w hs S h1 h2 h3 h4
    rw [symM]
    by_cases c1 : m = a + 1
    · rw [if_pos c1]
      exact symL_s enc cf g cb blk off cap a m b c1 d0 d w0 w eg hcmp R hs S h3 h4 (by omega)
    · rw [if_neg c1]
      by_cases c2 : b = m + 1
      · rw [if_pos c2]
        exact symR_s enc cf g cb blk off cap a m b c2 d0 d w0 w eg hcmp R hs S (by omega) h4 (by omega)
      · rw [if_neg c2]
        refine symG_s enc cf g cb blk off cap a m b ((a + b) / 2) ((a + b) / 2 + m) ((a + b) / 2 + m - 1) _ _ (symM (ltOf cf) k) (fun a m b D => symM_size _ k a m b D) d0 d w0 w eg hcmp R hs S ?_ (by omega) (by omega) h4 (by omega) rfl rfl rfl rfl rfl
        show ∀ _, _
        intro a' m' b' D W hD hS hlt e1 e2 e3
        have := ih a' m' b' D W (by omega) hS (by omega) e1 e2 (by omega)
        rwa [hD] at this
def insF (lt : α → α → Bool) (a b : Nat) : Nat → Nat → Array α → Array α
  | 0, _, d => d
  | k + 1, i, d => if i < b then insF lt a b k (i + 1) (insInner lt a i d) else d
theorem insF_eq (lt : α → α → Bool) (a b : Nat) : ∀ (k i : Nat) (d : Array α), b ≤ i + k → insOuter lt a b i d = insF lt a b k i d := by
  intro k
  induction k with
  | zero => intro i d h; rw [insF, insOuter_stop _ _ _ _ _ (by omega)]
  | succ k ih =>
    intro i d h
    rw [insF]
    by_cases hi : i < b
    · rw [if_pos hi, insOuter_go _ _ _ _ _ hi]
      exact ih (i + 1) _ (by omega)
    · rw [if_neg hi, insOuter_stop _ _ _ _ _ hi]
def insS (lt : α → α → Bool) (d : Array α) (a b : Nat) : Array α := insF lt a b b (a + 1) d
theorem insS_eq (lt : α → α → Bool) (d : Array α) (a b : Nat) : Sort.insertionSort lt d a b = insS lt d a b := insF_eq lt a b b (a + 1) d (by omega)
theorem insInner_size (lt : α → α → Bool) (a : Nat) : ∀ (j : Nat) (d : Array α), (insInner lt a j d).size = d.size
  | 0, d => by rw [insInner]
  | j + 1, d => by
    rw [insInner]
    split
    · rw [insInner_size lt a j, size_swp]
    · rfl
theorem insF_size (lt : α → α → Bool) (a b : Nat) : ∀ (k i : Nat) (d : Array α), (insF lt a b k i d).size = d.size
  | 0, _, _ => rfl
  | k + 1, i, d => by
    rw [insF]
    split
    · rw [insF_size lt a b k, insInner_size]
    · rfl
theorem insS_size (lt : α → α → Bool) (d : Array α) (a b : Nat) : (insS lt d a b).size = d.size := insF_size _ _ _ _ _ _
def stA (lt : α → α → Bool) (n : Nat) : Nat → Nat → Array α → Nat × Array α
  | 0, a, d => (a, d)
  | k + 1, a, d => if a + 20 ≤ n then stA lt n k (a + 20) (insS lt d a (a + 20)) else (a, d)
def stB (lt : α → α → Bool) (n bs : Nat) : Nat → Nat → Array α → Nat × Array α
  | 0, a, d => (a, d)
  | k + 1, a, d => if a + 2 * bs ≤ n then stB lt n bs k (a + 2 * bs) (symM lt (2 * bs) a (a + bs) (a + 2 * bs) d) else (a, d)
def stC (lt : α → α → Bool) (n : Nat) : Nat → Nat → Array α → Array α
  | 0, _, d => d
  | k + 1, bs, d => if bs < n then stC lt n k (2 * bs) (if (stB lt n bs n 0 d).1 + bs < n then symM lt (n - (stB lt n bs n 0 d).1) (stB lt n bs n 0 d).1 ((stB lt n bs n 0 d).1 + bs) n (stB lt n bs n 0 d).2 else (stB lt n bs n 0 d).2) else d
def stab (lt : α → α → Bool) (d : Array α) : Array α := stC lt d.size d.size 20 (insS lt (stA lt d.size d.size 0 d).2 (stA lt d.size d.size 0 d).1 d.size)
set_option maxHeartbeats 40000000 in
set_option maxRecDepth 1000000 in
theorem stable_s (enc : α → Value) (cf : α → α → Int) (g : Nat) (cb : Array Value) (blk off cap : Nat) (d0 d : Array α) (w0 w : World)
    (eg : ∀ args w, (callFunc g args).run Tryz.prog w = .ok (.enter g args) w) (hcmp : CmpLays1 Tryz.prog g cb enc cf blk off d0.size w0) (R : Row1 enc w0 blk off d0) (hs : d0.size = d.size) (S : SW enc w0 blk off d w) (hsz : d.size < 1099511627776) :
    Calls Tryz.prog 253 #[.slice (some ⟨blk, off, none⟩) d.size cap, .int .i64 (d.size : Int), .func (.func g) #[] cb] w fun e w' => e = .returned (.tuple #[]) ∧ SW enc w0 blk off (stab (ltOf cf) d) w' := by
  have HINS : Aside (∀ (a b : Nat) (D : Array α) (W : World), D.size = d.size → SW enc w0 blk off D W → a ≤ b → b ≤ d.size → Calls Tryz.prog 270 #[.slice (some ⟨blk, off, none⟩) d.size cap, .int .i64 (a : Int), .int .i64 (b : Int), .func (.func g) #[] cb] W fun e w' => e = .returned (.tuple #[]) ∧ SW enc w0 blk off (insS (ltOf cf) D a b) w') := by
    show ∀ _, _
    intro a b D W hD hS h1 h2
    have := Tryz.insertionSortCmpFunc_s enc cf g cb blk off cap a b d0 D w0 W eg hcmp R (by omega) hS h1 (by omega) (by omega)
    rw [hD, insS_eq] at this
    exact this
  have HSYM : Aside (∀ (k a m b : Nat) (D : Array α) (W : World), D.size = d.size → SW enc w0 blk off D W → b - a ≤ k → a < m → m < b → b ≤ d.size → Calls Tryz.prog 271 #[.slice (some ⟨blk, off, none⟩) d.size cap, .int .i64 (a : Int), .int .i64 (m : Int), .int .i64 (b : Int), .func (.func g) #[] cb] W fun e w' => e = .returned (.tuple #[]) ∧ SW enc w0 blk off (symM (ltOf cf) k a m b D) w') := by
    show ∀ _, _
    intro k a m b D W hD hS h0 h1 h2 h3
    have := symM_s enc cf g cb blk off cap d0 w0 eg hcmp R (by omega) k a m b D W (by omega) hS h0 h1 h2 (by omega)
    rw [hD] at this
    exact this
  have S0 : Aside (SW enc w0 blk off d w) := S
  clear S hcmp
  obtain ⟨n, hn⟩ : ∃ n, n = d.size := ⟨_, rfl⟩
  have HN : Aside (n = d.size) := hn
  have HE : Aside (stab (ltOf cf) d = stC (ltOf cf) n n 20 (insS (ltOf cf) (stA (ltOf cf) n n 0 d).2 (stA (ltOf cf) n n 0 d).1 n)) := by
    show _ = _
    rw [hn]
    rfl
  rw [← hn] at hsz ⊢
  have hd1 : n ≤ d.size := by omega
  have hd2 : d.size ≤ n := by omega
  rw [← hn] at HINS HSYM
  clear hn
  go_enter Tryz.func253, Tryz.ntmps253
  go_wp2
  go_loopg [7, 8] n (fun kx s7 s8 wr => ∃ (a b kk : Nat) (dk : Array α), s7 = .int .i64 (a : Int) ∧ s8 = .int .i64 (b : Int) ∧ a + 20 ≤ b ∧ b ≤ a + 20 ∧ a ≤ n ∧ n - a ≤ kx ∧ n - a ≤ kk ∧ Aside (dk.size = n) ∧ Aside (SW enc w0 blk off dk wr) ∧ Hid (stA (ltOf cf) n kk a dk = stA (ltOf cf) n n 0 d))
  case atStart => exact ⟨0, 20, n, d, rfl, rfl, by omega, by omega, Nat.zero_le _, Nat.le_refl _, Nat.le_refl _, HN.out.symm, S0, rfl⟩
  case round =>
    clear S0
    obtain ⟨a, b, kk, dk, rfl, rfl, hb1, hb2, han, hkx, hkk, hds, S1, heq⟩ := hrel
    by_cases hlt : b ≤ n
    · have hltz : (b : Int) ≤ (n : Int) := by omega
      go_wp2_with fail
      refine (HINS.out a b dk _ hds.out S1.out (by omega) hlt).mono ?_
      rintro e w2 ⟨rfl, hS2⟩
      have S2 : Aside (SW enc w0 blk off (insS (ltOf cf) dk a b) w2) := hS2
      clear hS2 S1
      go_wp2
      go_roundg (n - b)
      case measure => omega
      case rel => exact ⟨b, b + 20, kk - 1, insS (ltOf cf) dk a b, rfl, by first | rfl | go_num | (congr 1; omega), by omega, by omega, hlt, Nat.le_refl _, by omega, (show _ = _ from by rw [insS_size]; exact hds.out), S2, (show Hid _ from by
        obtain rfl : b = a + 20 := by omega
        obtain ⟨k', rfl⟩ : ∃ k', kk = k' + 1 := ⟨kk - 1, by omega⟩
        have h := heq.out
        rw [stA, if_pos hlt] at h
        exact h)⟩
    · have hltz : ¬ (b : Int) ≤ (n : Int) := by omega
      have hA : stA (ltOf cf) n n 0 d = (a, dk) := by
        rw [← heq.out]
        cases kk with
        | zero => rfl
        | succ k' => rw [stA, if_neg (by omega)]
      have HA : Aside (stab (ltOf cf) d = stC (ltOf cf) n n 20 (insS (ltOf cf) dk a n)) := by
        show _ = _
        rw [HE.out, hA]
      clear heq hA HE
      go_wp2_with fail
      refine (HINS.out a n dk _ hds.out S1.out han (Nat.le_refl _)).mono ?_
      rintro e w2 ⟨rfl, hS2⟩
      have S2 : Aside (SW enc w0 blk off (insS (ltOf cf) dk a n) w2) := hS2
      have Z2 : Aside ((insS (ltOf cf) dk a n).size = n) := (insS_size _ _ _ _).trans hds.out
      generalize insS (ltOf cf) dk a n = d2 at HA S2 Z2
      clear hS2 S1 hds hltz hlt hb1 hb2 hkx hkk
      go_wp2
      go_loopg [6, 7, 8, 9] n (fun kx s6 s7 s8 s9 wr => ∃ (bs kk : Nat) (dk : Array α), s6 = .int .i64 (bs : Int) ∧ 20 ≤ bs ∧ bs ≤ 2 * n + 20 ∧ n - bs ≤ kx ∧ n - bs ≤ kk ∧ Aside (dk.size = n) ∧ Aside (SW enc w0 blk off dk wr) ∧ Hid (stC (ltOf cf) n kk bs dk = stC (ltOf cf) n n 20 d2))
      case atStart => exact ⟨20, n, d2, rfl, by omega, by omega, by omega, by omega, Z2, S2, rfl⟩
      case round =>
        clear S2 Z2
        obtain ⟨bs, kk, dk, rfl, h20, hbn, hkx, hkk, hds, S1, heq⟩ := hrel
        by_cases hlt : bs < n
        · have hltz : (bs : Int) < (n : Int) := by omega
          obtain ⟨k', hk'⟩ : ∃ k', kk = k' + 1 := ⟨kk - 1, by omega⟩
          have HB : Aside (stC (ltOf cf) n k' (2 * bs) (if (stB (ltOf cf) n bs n 0 dk).1 + bs < n then symM (ltOf cf) (n - (stB (ltOf cf) n bs n 0 dk).1) (stB (ltOf cf) n bs n 0 dk).1 ((stB (ltOf cf) n bs n 0 dk).1 + bs) n (stB (ltOf cf) n bs n 0 dk).2 else (stB (ltOf cf) n bs n 0 dk).2) = stC (ltOf cf) n n 20 d2) := by
            show _ = _
            have h := heq.out
            rw [hk', stC, if_pos hlt] at h
            exact h
          have hkk2 : n - bs ≤ k' + 1 := by omega
          clear heq hk' hkk
          go_wp2
          go_loopg [7, 8] n (fun kx s7 s8 wr => ∃ (a b kk : Nat) (de : Array α), s7 = .int .i64 (a : Int) ∧ s8 = .int .i64 (b : Int) ∧ a + 2 * bs ≤ b ∧ b ≤ a + 2 * bs ∧ a ≤ n ∧ n - a ≤ kx ∧ n - a ≤ kk ∧ Aside (de.size = n) ∧ Aside (SW enc w0 blk off de wr) ∧ Hid (stB (ltOf cf) n bs kk a de = stB (ltOf cf) n bs n 0 dk))
          case atStart => exact ⟨0, 2 * bs, n, dk, rfl, by first | rfl | go_num | (congr 1; omega), by omega, by omega, Nat.zero_le _, Nat.le_refl _, Nat.le_refl _, hds, S1, rfl⟩
          case round =>
            clear S1 hds
            obtain ⟨a, b, kk, de, rfl, rfl, hb1, hb2, han, hkx2, hkk3, hds, S1, heq⟩ := hrel
            by_cases hlt2 : b ≤ n
            · have hltz2 : (b : Int) ≤ (n : Int) := by omega
              obtain ⟨m, hm⟩ : ∃ m, m = a + bs := ⟨_, rfl⟩
              have hmz : (a : Int) + (bs : Int) = (m : Int) := by omega
              have hm1 : a < m := by omega
              have hm2 : m < b := by omega
              have HM : Aside (m = a + bs) := hm
              clear hm
              go_wp2_with fail
              refine (HSYM.out (2 * bs) a m b de _ hds.out S1.out (by omega) hm1 hm2 hlt2).mono ?_
              rintro e w3 ⟨rfl, hS2⟩
              have S2 : Aside (SW enc w0 blk off (symM (ltOf cf) (2 * bs) a m b de) w3) := hS2
              clear hS2 S1 hmz
              go_wp2
              go_roundg (n - b)
              case measure => omega
              case rel => exact ⟨b, b + 2 * bs, kk - 1, symM (ltOf cf) (2 * bs) a m b de, rfl, by first | rfl | go_num | (congr 1; omega), by omega, by omega, hlt2, Nat.le_refl _, by omega, (show _ = _ from by rw [symM_size]; exact hds.out), S2, (show Hid _ from by
                obtain rfl : b = a + 2 * bs := by omega
                obtain ⟨k'', rfl⟩ : ∃ k'', kk = k'' + 1 := ⟨kk - 1, by omega⟩
                have h := heq.out
                rw [stB, if_pos hlt2] at h
                rw [HM.out]
                exact h)⟩
            · have hltz2 : ¬ (b : Int) ≤ (n : Int) := by omega
              have hA : stB (ltOf cf) n bs n 0 dk = (a, de) := by
                rw [← heq.out]
                cases kk with
                | zero => rfl
                | succ k'' => rw [stB, if_neg (by omega)]
              rw [hA] at HB
              clear heq hA
              obtain ⟨m, hm⟩ : ∃ m, m = a + bs := ⟨_, rfl⟩
              have hmz : (a : Int) + (bs : Int) = (m : Int) := by omega
              have hm1 : a < m := by omega
              have HM : Aside (m = a + bs) := hm
              by_cases hmn : m < n
              · have hmnz : (m : Int) < (n : Int) := by omega
                have HB2 : Aside (stC (ltOf cf) n k' (2 * bs) (symM (ltOf cf) (n - a) a m n de) = stC (ltOf cf) n n 20 d2) := by
                  show _ = _
                  have h := HB.out
                  rw [← hm, if_pos hmn] at h
                  exact h
                clear hm HB
                go_wp2_with fail
                refine (HSYM.out (n - a) a m n de _ hds.out S1.out (Nat.le_refl _) hm1 hmn (Nat.le_refl _)).mono ?_
                rintro e w3 ⟨rfl, hS2⟩
                have S2 : Aside (SW enc w0 blk off (symM (ltOf cf) (n - a) a m n de) w3) := hS2
                clear hS2 S1
                go_wp2
                go_roundg (n - 2 * bs)
                case measure => omega
                case rel => exact ⟨2 * bs, k', symM (ltOf cf) (n - a) a m n de, by first | rfl | go_num | (congr 1; omega), by omega, by omega, Nat.le_refl _, by omega, (show _ = _ from by rw [symM_size]; exact hds.out), S2, HB2.out⟩
              · have hmnz : ¬ (m : Int) < (n : Int) := by omega
                have HB2 : Aside (stC (ltOf cf) n k' (2 * bs) de = stC (ltOf cf) n n 20 d2) := by
                  show _ = _
                  have h := HB.out
                  rw [← hm, if_neg hmn] at h
                  exact h
                clear hm HB
                go_wp2
                go_roundg (n - 2 * bs)
                case measure => omega
                case rel => exact ⟨2 * bs, k', de, by first | rfl | go_num | (congr 1; omega), by omega, by omega, Nat.le_refl _, by omega, hds, S1, HB2.out⟩
        · have hltz : ¬ (bs : Int) < (n : Int) := by omega
          have hF : stab (ltOf cf) d = dk := by
            rw [HA.out, ← heq.out]
            cases kk with
            | zero => rfl
            | succ k' => rw [stC, if_neg hlt]
          clear heq
          go_wp2
          go_end0
          exact ⟨rfl, by first | exact S1.out | (rw [hF]; exact S1.out)⟩
set_option maxHeartbeats 1000000 in
theorem sortStable_s (enc : α → Value) (cf : α → α → Int) (g : Nat) (cb : Array Value) (blk off cap : Nat) (d : Array α) (w : World)
    (eg : ∀ args w, (callFunc g args).run Tryz.prog w = .ok (.enter g args) w) (hcmp : CmpLays1 Tryz.prog g cb enc cf blk off d.size w) (R : Row1 enc w blk off d) (hsz : d.size < 1099511627776) :
    Calls Tryz.prog 220 #[.slice (some ⟨blk, off, none⟩) d.size cap, .func (.func g) #[] cb] w fun e w' => e = .returned (.tuple #[]) ∧ ∃ n os, w' = sortWorld enc w blk off n (stab (ltOf cf) d) os := by
  have H := Aside0.mk (stable_s enc cf g cb blk off cap d d w w eg hcmp R rfl (SW.start R.hH) hsz)
  clear hcmp R
  go_enter Tryz.func220, Tryz.ntmps220
  go_wp2_with fail
  refine H.out.mono ?_
  rintro e w2 ⟨rfl, hS⟩
  have HS := Aside0.mk hS
  clear hS
  go_wp2
  go_end0
  exact ⟨rfl, HS.out⟩
end Go.Proofs.YtafnamchckehmaaGreatDoor.Pr
namespace Go.Proofs.YtafnamchckehmaaGreatDoor.Pr
open Go.RowKit Go.Proofs.YtafnamchckehmaaGreatDoorW.PrintWords Go.Proofs.YtafnamchckehmaaGreatDoorW.PrintLast Go.Proofs.YtafnamchckehmaaGreatDoorW.PrintMore
set_option linter.unusedVariables false
set_option linter.unusedSimpArgs false
set_option maxHeartbeats 4000000 in
set_option maxRecDepth 100000 in
theorem SortLectic_nil (A0 : Option Addr) (c0 : Nat) (w : World) (hr0 : Kd.C (Kd.int .i64) w A0 ([] : List Int).length []) :
    Calls Tryz.prog 208 #[.slice A0 ([] : List Int).length c0] w fun e w' => ∃ v0_ : Value, e = .returned (v0_) ∧ Kd.R (Kd.int .i64) 3 w' w.heap.size (fun _ => True) v0_ [] ∧ Below w.heap.size w w' := by
  have eg : ∀ args w, (callFunc 246 args).run Tryz.prog w = .ok (.enter 246 args) w := enters_of Tryz.func246 (by kernel_rfl) rfl
  have h0 := ContainsFunc_int 246 #[] eg A0 c0 [] (fun x => !Pu.isAny x) w hr0 (fun W x hb => (impl_SortLectic_1.calls x _ W (sl1_val x)).mono fun e w' ⟨he, q, hw⟩ => ⟨he, by rw [hw]; exact pw_below_drewN (Below.refl _ _) q⟩)
  have hcl : slices_Clone_int.f ([] : List Int) = some [] := rfl
  have hclone := fun W hr => slices_Clone_int.calls A0 c0 [] [] W hr (Nat.zero_le _) hcl
  have HR0 := Aside0.mk hr0
  have HCL := Aside0.mk hclone
  clear hr0 hclone hcl
  go_enter Tryz.func208, Tryz.ntmps208
  go_wp2_with (first | (go_at_call 223; refine h0.mono ?_; rintro e w1 ⟨rfl, hb1⟩; have HB1 := Aside0.mk hb1; clear hb1) | (go_at_call 247; refine (HCL.out _ (Kd.C_below HR0.out HB1.out)).mono ?_; rintro e w2 ⟨v, rfl, hR2, hB2⟩; obtain ⟨A, c, hv⟩ := Kd.R_slice hR2; subst hv; have HO2 := Aside0.mk (Kd.R_lower hR2 (below_size HB1.out)); have HB2 := Aside0.mk (below_step HB1.out hB2); clear hR2 hB2) | (go_at_call 248; refine (Tryz.slices_SortFunc_none (α := Int) A c _ _).mono ?_; rintro e w3 ⟨rfl, rfl⟩) | (go_at_call 250; refine (Tryz.slices_Compact_int_empty A c _).mono ?_; rintro e w4 ⟨rfl, rfl⟩))
  go_ret
  exact ⟨_, rfl, HO2.out, HB2.out⟩
theorem sortLec_all (A : Option Addr) (c : Nat) (q : List Nat) (w : World) {w5 : World} (hq : ∀ x ∈ q, x < 256) (hn : q.Nodup) (hR : (Kd.int .i64).R 3 w w5.heap.size (fun _ => True) (.slice A (Pu.cast q).length c) (Pu.cast q)) (htab : Tab64 w) :
    Calls Tryz.prog 208 #[.slice A (Pu.cast q).length c] w fun e w' => ∃ v0_ : Value, e = .returned (v0_) ∧ Kd.R (Kd.int .i64) 3 w' w.heap.size (fun _ => True) v0_ (Pu.cast (Pu.lecR q)) ∧ Below w.heap.size w w' := by
  have hr := (Kd.R_reads' hR).2.2
  cases q with
  | nil =>
    have e : Pu.lecR [] = [] := by
      refine List.eq_nil_iff_forall_not_mem.2 fun x hx => ?_
      have := (Pu.mem_lecR (fun _ h => by cases h)).1 hx
      cases this
    rw [e]
    exact SortLectic_nil A c w hr
  | cons x q =>
    refine impl_SortLectic.calls A c _ _ w hr (Kd.R_reads' hR).2.1 htab ?_
    unfold impl_SortLectic.f
    rw [if_pos ⟨Pu.cast_any hq, cast_nodup hn, by rw [Pu.cast_length, List.length_cons]; omega⟩]
    have e : (Pu.cast (x :: q)).map Int.toNat = x :: q := by
      unfold Pu.cast
      rw [List.map_map]
      exact List.map_id _
    rw [e]
    rfl
end Go.Proofs.YtafnamchckehmaaGreatDoor.Pr
