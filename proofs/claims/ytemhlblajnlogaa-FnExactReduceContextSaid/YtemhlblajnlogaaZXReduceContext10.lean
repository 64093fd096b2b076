/- What the law needs of the program's functions as plain functions, of the proofs that their calls answer so, and of plain laws: gathered by a program of this place (pack.py) out of its printed texts. No condition beyond what each statement says. -/
import Derived.Test.YtemhlblajnlogaaZXReduceContext2
import Derived.Test.YtemhlblajnlogaaZXReduceContext5
import Derived.Test.YtemhlblajnlogaaZXReduceContext6
import Derived.Test.YtemhlblajnlogaaZXReduceContext7
import Derived.Test.YtemhlblajnlogaaZXReduceContext8
import Derived.Test.YtemhlblajnlogaaZXReduceContext9
namespace Go.Proofs.Ytemhlblajnlogaa.Pr
open Go.RowKit Go.Proofs.YtemhlblajnlogaaW.PrintWords Go.Proofs.YtemhlblajnlogaaW.PrintLast Go.Proofs.YtemhlblajnlogaaW.PrintMore
attribute [local go_sem] max2_int min2_int max_two min_two max_three min_three max_four min_four   -- for this text's walks alone
set_option linter.unusedVariables false
set_option linter.unusedSimpArgs false
theorem q18_1 {P : Prop} (h : P := by repeat (first | (with_reducible first | exact HB.out | apply below_alloc | apply pw_below_drewN | apply below_drew1 | refine below_set ?_ GE686.out | refine below_set ?_ GE687.out | refine below_set ?_ GE693.out | refine below_set ?_ GE700.out) | exact HB.out)) : P := h
theorem q18_2 {P : Prop} (h : P := by repeat (first | (with_reducible first | exact HB.out | apply below_alloc | apply pw_below_drewN | apply below_drew1 | refine below_set ?_ GE686.out | refine below_set ?_ GE687.out | refine below_set ?_ GE693.out) | exact HB.out)) : P := h
theorem q18_3 {P : Prop} (h : P := by repeat (first | (with_reducible first | exact HB.out | apply below_alloc | apply pw_below_drewN | apply below_drew1 | refine below_set ?_ GE686.out | refine below_set ?_ GE687.out) | exact HB.out)) : P := h
theorem q18_4 {P : Prop} (h : P := by repeat (first | exact (Kd.R_reads' HO_694001.out).2.2 | (with_reducible refine Kd.C_alloc ?_ _) | (with_reducible refine Kd.C_drewN ?_ _) | (with_reducible refine Kd.C_drew ?_))) : P := h
theorem q18_5 {P : Prop} (h : P := by repeat (first | exact (Kd.R_reads' HO_701001.out).2.2 | (with_reducible refine Kd.C_alloc ?_ _) | (with_reducible refine Kd.C_drewN ?_ _) | (with_reducible refine Kd.C_drew ?_))) : P := h
theorem q18_6 {P : Prop} (h : P := by repeat (first | exact (Kd.C_below HR0_1.out HB.out) | (with_reducible refine Kd.C_alloc ?_ _) | (with_reducible refine Kd.C_drewN ?_ _) | (with_reducible refine Kd.C_drew ?_))) : P := h
theorem q18_7 {P : Prop} (h : P := by repeat (first | (with_reducible first | exact HB.out | apply below_alloc | apply pw_below_drewN | apply below_drew1 | refine below_set ?_ GE686.out) | exact HB.out)) : P := h
theorem q18_8 {P : Prop} (h : P := by (try simp only [List.map_toArray, List.map_cons, List.map_nil]); first | done | rfl | (simp only [List.length_drop, List.length_take]; rfl)) : P := h
theorem q18_9 {P : Prop} (h : P := by repeat (first | (with_reducible first | exact HB.out | apply below_alloc | apply pw_below_drewN | apply below_drew1) | exact HB.out)) : P := h
theorem q18_10 {P : Prop} (h : P := by (with_reducible repeat (first | refine blk_drewN ?_ _ | refine blk_drew ?_ | refine blk_alloc ?_ _)); exact BK686.out) : P := h
theorem q18_11 {P : Prop} (h : P := by (with_reducible repeat (first | refine blk_drewN ?_ _ | refine blk_drew ?_ | refine blk_alloc ?_ _)); exact BK687.out) : P := h
theorem q18_12 {P : Prop} (h : P := by (with_reducible repeat (first | refine blk_drewN ?_ _ | refine blk_drew ?_ | refine blk_alloc ?_ _)); exact BK693.out) : P := h
theorem q18_13 {P : Prop} (h : P := by (with_reducible repeat (first | refine blk_drewN ?_ _ | refine blk_drew ?_ | refine blk_alloc ?_ _)); exact BK700.out) : P := h
theorem q18_14 {P : Prop} (h : P := by (with_reducible repeat (first | apply Kd.R_alloc | apply Kd.R_drewN | apply Kd.R_drew)); exact HO_694001.out) : P := h
theorem q18_15 {P : Prop} (h : P := by (with_reducible repeat (first | apply Kd.R_alloc | apply Kd.R_drewN | apply Kd.R_drew)); exact HO_701001.out) : P := h
theorem q18_16 {P : Prop} (h : P := by first | rfl | (simp; done) | (simp [*]; done) | (simp [i64_w, i32_w]; done)) : P := h
theorem q18_17 {P : Prop} (h : P := by rw [if_neg (show ¬ (false = true) by decide)] at H; exact H) : P := h
mutual
def spec_ReduceContext.l0 : Nat → Int → Int → Int → List Int → Option (Int × List Int × Bool)
 | 0, _, _, _, _ => none
 | k + 1, x6, x7, x694000, x694001 => if x7 < (x694001.length : Int) then ((spec_IsReducibleObject.f k x694000 x694001 x7).bind fun t694 => (if t694 = true then (if 0 ≤ (IntKind.u64.wrap (x7)) then (spec_ReduceContext.l0 k (Go.bits .or .i64 x6 (shl .i64 1 (IntKind.u64.wrap (x7)))) (wrap64 (x7 + 1)) x694000 x694001) else (none)) else (spec_ReduceContext.l0 k x6 (wrap64 (x7 + 1)) x694000 x694001))) else ((spec_DropObjects.f k x694000 x694001 x6).bind fun bt695 => (spec_ReduceContext.l1 k 0 0 bt695.1 bt695.2.1))
def spec_ReduceContext.l1 : Nat → Int → Int → Int → List Int → Option (Int × List Int × Bool)
 | 0, _, _, _, _ => none
 | k + 1, x6, x10, x701000, x701001 => if x10 < x701000 then ((spec_IsReducibleAttribute.f k x701000 x701001 x10).bind fun t701 => (if t701 = true then (if 0 ≤ (IntKind.u64.wrap (x10)) then (spec_ReduceContext.l1 k (Go.bits .or .i64 x6 (shl .i64 1 (IntKind.u64.wrap (x10)))) (wrap64 (x10 + 1)) x701000 x701001) else (none)) else (spec_ReduceContext.l1 k x6 (wrap64 (x10 + 1)) x701000 x701001))) else ((spec_DropAttributes.f k x701000 x701001 x6).bind fun bt702 => (some (bt702.1, bt702.2.1, bt702.2.2)))
end
def spec_ReduceContext.f (k : Nat) (a0_0 : Int) (l0_1 : List Int) : Option (Int × List Int × Bool) := (spec_Clarify.f k a0_0 l0_1).bind fun bt688 => (if bt688.2.2 = true then (spec_ReduceContext.l0 k 0 0 bt688.1 bt688.2.1) else (some (0, ([] : List Int), false)))
set_option maxHeartbeats 8000000 in
set_option maxRecDepth 100000 in
theorem spec_ReduceContext.calls (k : Nat) (a0_0 : Int) (A0_1 : Option Addr) (c0_1 : Nat) (l0_1 : List Int) (r1 : Int) (r2 : List Int) (r3 : Bool) (w : World) (hr0_1 : Kd.C (Kd.int .i64) w A0_1 l0_1.length l0_1) (hc0_1 : l0_1.length ≤ c0_1) (h : spec_ReduceContext.f k a0_0 l0_1 = some (r1, r2, r3)) :
  Calls Try.prog 43 #[.agg #[.int .i64 a0_0, .slice A0_1 l0_1.length c0_1]] w fun e w' => ∃ v1_ : Value, e = .returned (.tuple #[.agg #[.int .i64 r1, v1_], .bool r3]) ∧ Kd.R (Kd.int .i64) 3 w' w.heap.size (fun _ => True) v1_ r2 ∧ Below w.heap.size w w' := by
 have hu27 := Try.underlying27
 have HR0_1 := Aside0.mk hr0_1
 have HC0_1 := Aside0.mk hc0_1
 clear hr0_1 hc0_1
 have HB := Aside0.mk (Below.refl w.heap.size w)
 have H : ((spec_Clarify.f k a0_0 l0_1).bind fun bt688 => (if bt688.2.2 = true then (spec_ReduceContext.l0 k 0 0 bt688.1 bt688.2.1) else (some (0, ([] : List Int), false)))) = some (r1, r2, r3) := h
 clear h
 replace H := Option.bind_eq_some_iff.mp H
 obtain ⟨⟨t688, t689, t692⟩, A20, H⟩ := H
 replace H : (if t692 = true then (spec_ReduceContext.l0 k 0 0 t688 t689) else (some (0, ([] : List Int), false))) = some (r1, r2, r3) := H
 have A2 := Aside0.mk A20
 clear A20
 by_cases c3 : t692 = true
 ·
  subst c3
  have H1 : (spec_ReduceContext.l0 k 0 0 t688 t689) = some (r1, r2, r3) := by rw [if_pos rfl] at H; exact H
  clear H
  have H := H1
  clear H1
  have H' := Aside0.mk H
  clear H
  go_enter Try.func43, Try.ntmps43
  go_wp2_with (first | ((with_reducible refine gate_dst (N := 1) rfl ?_); refine box_event ?hg (N := 1) ?hd (cs := #[.int .i64 a0_0, .slice A0_1 l0_1.length c0_1]) (t := 27) ?hr ?_; (case hd => rfl); (case hg => rfl); (case hr => first | (go_simp; done) | (go_simp; rfl)); intro gb686 hg w4 hbox hb; have n0_ := Aside0.mk (below_step q18_9 hb); have n1_ := Aside0.mk (hbox); have n2_ := Aside0.mk ((by rw [hg]; exact (below_size q18_9) : w.heap.size ≤ gb686)); have n3_ := Aside0.mk ((by rw [hg]; exact (below_size q18_9) : w.heap.size ≤ gb686)); clear HB; have HB := n0_; have BK686 := n1_; have GW686 := n2_; have GE686 := n3_; clear n0_ n1_ n2_ n3_; clear hb hbox hg) | ((with_reducible refine gate_dst (N := 2) rfl ?_); refine box_event ?hg (N := 2) ?hd (cs := #[.int .i64 0, .slice none 0 0]) (t := 27) ?hr ?_; (case hd => rfl); (case hg => rfl); (case hr => first | (go_simp; done) | (go_simp; rfl)); intro gb687 hg w5 hbox hb; have n0_ := Aside0.mk (blk_below (g := gb686) (o := .cells #[.int .i64 a0_0, .slice A0_1 l0_1.length c0_1] 27 (0, 0)) q18_10 hb); have n1_ := Aside0.mk (below_step q18_7 hb); have n2_ := Aside0.mk (hbox); have n3_ := Aside0.mk ((by rw [hg]; exact (below_size q18_7) : w.heap.size ≤ gb687)); have n4_ := Aside0.mk ((by rw [hg]; exact (below_size q18_7) : w.heap.size ≤ gb687)); have n5_ := Aside0.mk ((by rw [hg]; exact Nat.ne_of_lt (blk_lt (g := gb686) (o := .cells #[.int .i64 a0_0, .slice A0_1 l0_1.length c0_1] 27 (0, 0)) q18_10) : gb686 ≠ gb687)); have n6_ := Aside0.mk ((by rw [hg]; exact Nat.ne_of_gt (blk_lt (g := gb686) (o := .cells #[.int .i64 a0_0, .slice A0_1 l0_1.length c0_1] 27 (0, 0)) q18_10) : gb687 ≠ gb686)); clear BK686; clear HB; have BK686 := n0_; have HB := n1_; have BK687 := n2_; have GW687 := n3_; have GE687 := n4_; have NB686_687 := n5_; have NB687_686 := n6_; clear n0_ n1_ n2_ n3_ n4_ n5_ n6_; clear hb hbox hg; have hnb6 := NB686_687.out; have hnc6 := NB687_686.out; have hcz7_0 : w5.cell? ⟨gb686, 0, none⟩ = some (.int .i64 a0_0) := (blk_cell BK686.out 0).trans rfl; have hcz7_1 : w5.cell? ⟨gb686, 1, none⟩ = some (.slice A0_1 l0_1.length c0_1) := (blk_cell BK686.out 1).trans rfl; have hfz7_0 := blk_frozen BK686.out 0; have hfz7_1 := blk_frozen BK686.out 1) | ((with_reducible refine gate_callee (f := 41) rfl ?_); refine goesL_ (some 15) rfl rfl Try.func41 (by kernel_rfl) rfl #[.agg #[.int .i64 a0_0, .slice A0_1 l0_1.length c0_1]] rfl q18_8 ?_; (with_reducible refine (spec_Clarify.calls k a0_0 _ _ l0_1 t688 t689 true _ ?side1 ?side2 A2.out).mono ?_); (case side1 => exact q18_6); (case side2 => exact HC0_1.out); rintro e w8 ⟨v690, rfl, ho0, hb⟩; refine ⟨_, rfl, ?_⟩; have n0_ := Aside0.mk (Kd.R_lower ho0 (below_size q18_3)); have n1_ := Aside0.mk (blk_below (g := gb686) (o := .cells #[.int .i64 a0_0, .slice A0_1 l0_1.length c0_1] 27 (0, 0)) q18_10 hb); have n2_ := Aside0.mk (blk_below (g := gb687) (o := .cells #[.int .i64 0, .slice none 0 0] 27 (0, 0)) q18_11 hb); have n3_ := Aside0.mk (below_step q18_3 hb); clear BK686; clear BK687; clear HB; have HO691 := n0_; have BK686 := n1_; have BK687 := n2_; have HB := n3_; clear n0_ n1_ n2_ n3_; (try clear hb); (try clear hb2); (try clear hk); (try clear hi); (try clear ho0)) | ((with_reducible refine gate_dst (N := 4) rfl ?_); refine box_event ?hg (N := 4) ?hd (cs := #[.int .i64 0, .slice none 0 0]) (t := 27) ?hr ?_; (case hd => rfl); (case hg => rfl); (case hr => first | (go_simp; done) | (go_simp; rfl)); intro gb693 hg w9 hbox hb; have n0_ := Aside0.mk (Kd.R_below (by (with_reducible repeat (first | apply Kd.R_alloc | apply Kd.R_drewN | apply Kd.R_drew)); exact HO691.out) hb); have n1_ := Aside0.mk (blk_below (g := gb686) (o := .cells #[.int .i64 a0_0, .slice A0_1 l0_1.length c0_1] 27 (0, 0)) q18_10 hb); have n2_ := Aside0.mk (blk_below (g := gb687) (o := .cells #[.int .i64 0, .slice none 0 0] 27 (0, 0)) q18_11 hb); have n3_ := Aside0.mk (below_step q18_3 hb); have n4_ := Aside0.mk (hbox); have n5_ := Aside0.mk ((by rw [hg]; exact (below_size q18_3) : w.heap.size ≤ gb693)); have n6_ := Aside0.mk ((by rw [hg]; exact (below_size q18_3) : w.heap.size ≤ gb693)); have n7_ := Aside0.mk ((by rw [hg]; exact Nat.ne_of_lt (blk_lt (g := gb686) (o := .cells #[.int .i64 a0_0, .slice A0_1 l0_1.length c0_1] 27 (0, 0)) q18_10) : gb686 ≠ gb693)); have n8_ := Aside0.mk ((by rw [hg]; exact Nat.ne_of_gt (blk_lt (g := gb686) (o := .cells #[.int .i64 a0_0, .slice A0_1 l0_1.length c0_1] 27 (0, 0)) q18_10) : gb693 ≠ gb686)); have n9_ := Aside0.mk ((by rw [hg]; exact Nat.ne_of_lt (blk_lt (g := gb687) (o := .cells #[.int .i64 0, .slice none 0 0] 27 (0, 0)) q18_11) : gb687 ≠ gb693)); have n10_ := Aside0.mk ((by rw [hg]; exact Nat.ne_of_gt (blk_lt (g := gb687) (o := .cells #[.int .i64 0, .slice none 0 0] 27 (0, 0)) q18_11) : gb693 ≠ gb687)); clear HO691; clear BK686; clear BK687; clear HB; have HO691 := n0_; have BK686 := n1_; have BK687 := n2_; have HB := n3_; have BK693 := n4_; have GW693 := n5_; have GE693 := n6_; have NB686_693 := n7_; have NB693_686 := n8_; have NB687_693 := n9_; have NB693_687 := n10_; clear n0_ n1_ n2_ n3_ n4_ n5_ n6_ n7_ n8_ n9_ n10_; clear hb hbox hg; have hnb10 := NB693_686.out; have hnc10 := NB686_693.out; have hnb11 := NB693_687.out; have hnc11 := NB687_693.out; have hcz12_0 : w9.cell? ⟨gb693, 0, none⟩ = some (.int .i64 0) := (blk_cell BK693.out 0).trans rfl; have hcz12_1 : w9.cell? ⟨gb693, 1, none⟩ = some (.slice none 0 0) := (blk_cell BK693.out 1).trans rfl; have hfz12_0 := blk_frozen BK693.out 0; have hfz12_1 := blk_frozen BK693.out 1; obtain ⟨Ao13, co13, eo13⟩ := Kd.R_slice HO691.out; subst eo13))
  go_loopg [6, 7] k (fun kq v6 v7 w' => ∃ (x6_1 : Int) (x7_1 : Int), v6 = .int .i64 x6_1 ∧ v7 = .int .i64 x7_1 ∧ Aside0 (spec_ReduceContext.l0 kq x6_1 x7_1 t688 t689 = some (r1, r2, r3)) ∧ Aside0 (kq ≤ k) ∧ Aside0 (Kd.R (Kd.int .i64) 3 w' w.heap.size (fun _ => True) (.slice Ao13 t689.length co13) t689) ∧ Aside0 (w'.heap[gb686]? = some (.cells #[.int .i64 a0_0, (.slice A0_1 l0_1.length c0_1)] 27 (0, 0))) ∧ Aside0 (w'.heap[gb687]? = some (.cells #[.int .i64 0, (.slice none 0 0)] 27 (0, 0))) ∧ Aside0 (w'.heap[gb693]? = some (.cells #[.int .i64 t688, (.slice Ao13 t689.length co13)] 27 (0, 0))) ∧ Aside0 (Below w.heap.size w w'))
  case atStart => exact ⟨(0), (0), q18_16, q18_16, H', ⟨Nat.le_refl _⟩, ⟨by (with_reducible repeat (first | apply Kd.R_alloc | apply Kd.R_drewN | apply Kd.R_drew)); exact Kd.R_mono (Kd.R_far (p := ⟨gb693, 1, none⟩) (Kd.R_far (p := ⟨gb693, 0, none⟩) (Kd.R_types HO691.out BK693.out (by decide)) (fun _ hk => hk.2) (.int .i64 t688)) (fun _ hk => hk.2) (.slice Ao13 t689.length co13)) (fun _ hk => trivial)⟩, ⟨by (with_reducible repeat (first | refine blk_drewN ?_ _ | refine blk_drew ?_ | refine blk_alloc ?_ _)); refine blk_far ?_ NB686_693.out _; (with_reducible repeat (first | refine blk_drewN ?_ _ | refine blk_drew ?_ | refine blk_alloc ?_ _)); refine blk_far ?_ NB686_693.out _; (with_reducible repeat (first | refine blk_drewN ?_ _ | refine blk_drew ?_ | refine blk_alloc ?_ _)); exact BK686.out⟩, ⟨by (with_reducible repeat (first | refine blk_drewN ?_ _ | refine blk_drew ?_ | refine blk_alloc ?_ _)); refine blk_far ?_ NB687_693.out _; (with_reducible repeat (first | refine blk_drewN ?_ _ | refine blk_drew ?_ | refine blk_alloc ?_ _)); refine blk_far ?_ NB687_693.out _; (with_reducible repeat (first | refine blk_drewN ?_ _ | refine blk_drew ?_ | refine blk_alloc ?_ _)); exact BK687.out⟩, ⟨by (with_reducible repeat (first | refine blk_drewN ?_ _ | refine blk_drew ?_ | refine blk_alloc ?_ _)); refine blk_put (cs := #[.int .i64 t688, .slice none 0 0]) ?_ 1 _ rfl; (with_reducible repeat (first | refine blk_drewN ?_ _ | refine blk_drew ?_ | refine blk_alloc ?_ _)); refine blk_put (cs := #[.int .i64 0, .slice none 0 0]) ?_ 0 _ rfl; (with_reducible repeat (first | refine blk_drewN ?_ _ | refine blk_drew ?_ | refine blk_alloc ?_ _)); exact BK693.out⟩, ⟨by repeat (first | (with_reducible first | exact HB.out | apply below_alloc | apply pw_below_drewN | apply below_drew1 | refine below_set ?_ GE686.out | refine below_set ?_ GE687.out | refine below_set ?_ GE693.out) | exact HB.out)⟩⟩
  case round =>
   clear H'
   try clear c1
   try clear p2
   try clear c3
   try clear c4
   try clear c6
   try clear c10
   try clear c11
   try clear hcz12_0
   try clear hcz12_1
   try clear hcz7_0
   try clear hcz7_1
   try clear hfz12_0
   try clear hfz12_1
   try clear hfz7_0
   try clear hfz7_1
   obtain ⟨x6_1, x7_1, rfl, rfl, HA, HK1, HO_694001, BK686, BK687, BK693, HB⟩ := hrel
   cases gk with
   | zero => exact absurd HA.out (by simp [spec_ReduceContext.l0])
   | succ k1 =>
    have H := HA.out
    clear HA
    simp only [spec_ReduceContext.l0] at H
    by_cases c14 : x7_1 < (t689.length : Int)
    ·
     rw [if_pos c14] at H
     have c14b0 : decide (x7_1 < (t689.length : Int)) = true := decide_eq_true c14
     clear c14
     replace H := Option.bind_eq_some_iff.mp H
     obtain ⟨t694, A150, H⟩ := H
     replace H : (if t694 = true then (if 0 ≤ (IntKind.u64.wrap (x7_1)) then (spec_ReduceContext.l0 k1 (Go.bits .or .i64 x6_1 (shl .i64 1 (IntKind.u64.wrap (x7_1)))) (wrap64 (x7_1 + 1)) t688 t689) else (none)) else (spec_ReduceContext.l0 k1 x6_1 (wrap64 (x7_1 + 1)) t688 t689)) = some (r1, r2, r3) := H
     have A15 := Aside0.mk A150
     clear A150
     by_cases c16 : t694 = true
     ·
      subst c16
      have H1 : (if 0 ≤ (IntKind.u64.wrap (x7_1)) then (spec_ReduceContext.l0 k1 (Go.bits .or .i64 x6_1 (shl .i64 1 (IntKind.u64.wrap (x7_1)))) (wrap64 (x7_1 + 1)) t688 t689) else (none)) = some (r1, r2, r3) := by rw [if_pos rfl] at H; exact H
      clear H
      have H := H1
      clear H1
      obtain ⟨ji17, hji17⟩ : ∃ j_ : Int, (IntKind.u64.wrap (x7_1)) = j_ := ⟨_, rfl⟩
      replace H : (if 0 ≤ (ji17) then (spec_ReduceContext.l0 k1 (Go.bits .or .i64 x6_1 (shl .i64 1 (ji17))) (wrap64 (x7_1 + 1)) t688 t689) else (none)) = some (r1, r2, r3) := by first | (rw [hji17] at H; exact H) | (simp only [hji17] at H ⊢; exact H)
      (try rw [hji17] at A15)
      by_cases c18 : 0 ≤ (ji17)
      ·
       rw [if_pos c18] at H
       have c18b0 := eq_true c18
       have c18b1 : decide (0 ≤ (ji17)) = true := decide_eq_true c18
       clear c18
       obtain ⟨ji19, hji19⟩ : ∃ j_ : Int, (shl .i64 1 (ji17)) = j_ := ⟨_, rfl⟩
       replace H : (spec_ReduceContext.l0 k1 (Go.bits .or .i64 x6_1 (ji19)) (wrap64 (x7_1 + 1)) t688 t689) = some (r1, r2, r3) := by first | (rw [hji19] at H; exact H) | (simp only [hji19] at H ⊢; exact H)
       (try rw [hji19] at A15)
       have hji19_ : (IntKind.i64.wrap (1 * 2 ^ min (ji17).toNat 64)) = ji19 := hji19
       have hji19z : (ji17) ≤ 64 → (IntKind.i64.wrap (1 * 2 ^ (ji17).toNat)) = ji19 := shl_small hji19
       have hji19u : (IntKind.i64.wrap (2 ^ min (ji17).toNat 64)) = ji19 := by have h_ := hji19_; rw [Int.one_mul] at h_; exact h_
       have hji19v : (ji17) ≤ 64 → (IntKind.i64.wrap (2 ^ (ji17).toNat)) = ji19 := fun hle_ => by have h_ := hji19z hle_; rw [Int.one_mul] at h_; exact h_
       have hji19y : (wrap64 (1 * 2 ^ min (ji17).toNat 64)) = ji19 := (i64_w _).symm.trans hji19_
       have hji19x : (ji17) ≤ 64 → (wrap64 (1 * 2 ^ (ji17).toNat)) = ji19 := fun h_ => (i64_w _).symm.trans (hji19z h_)
       have H' := Aside0.mk H
       clear H
       have hnb20 := NB693_686.out
       have hnc20 := NB686_693.out
       have hnb21 := NB693_687.out
       have hnc21 := NB687_693.out
       have hcz22_0 : wr.cell? ⟨gb693, 0, none⟩ = some (.int .i64 t688) := (blk_cell BK693.out 0).trans rfl
       have hcz22_1 : wr.cell? ⟨gb693, 1, none⟩ = some (.slice Ao13 t689.length co13) := (blk_cell BK693.out 1).trans rfl
       have hfz22_0 := blk_frozen BK693.out 0
       have hfz22_1 := blk_frozen BK693.out 1
       go_wp2_with (first | ((with_reducible refine gate_callee (f := 16) rfl ?_); refine goesL_ (some 30) rfl rfl Try.func16 (by kernel_rfl) rfl #[.agg #[.int .i64 t688, .slice Ao13 t689.length co13], .int .i64 x7_1] rfl q18_8 ?_; (with_reducible refine (spec_IsReducibleObject.calls k1 t688 _ _ t689 x7_1 true _ ?side1 ?side2 A15.out).mono ?_); (case side1 => exact q18_4); (case side2 => exact (Kd.R_reads' HO_694001.out).2.1); rintro e w23 ⟨rfl, hb⟩; refine ⟨_, rfl, ?_⟩; have n0_ := Aside0.mk (Kd.R_below q18_14 hb); have n1_ := Aside0.mk (blk_below (g := gb686) (o := .cells #[.int .i64 a0_0, .slice A0_1 l0_1.length c0_1] 27 (0, 0)) q18_10 hb); have n2_ := Aside0.mk (blk_below (g := gb687) (o := .cells #[.int .i64 0, .slice none 0 0] 27 (0, 0)) q18_11 hb); have n3_ := Aside0.mk (blk_below (g := gb693) (o := .cells #[.int .i64 t688, .slice Ao13 t689.length co13] 27 (0, 0)) q18_12 hb); have n4_ := Aside0.mk (below_step q18_2 hb); clear HO_694001; clear BK686; clear BK687; clear BK693; clear HB; have HO_694001 := n0_; have BK686 := n1_; have BK687 := n2_; have BK693 := n3_; have HB := n4_; clear n0_ n1_ n2_ n3_ n4_; (try clear hb); (try clear hb2); (try clear hk); (try clear hi)))
       go_roundg k1
       case measure => have := HK1.out; omega
       case rel => exact ⟨(Go.bits .or .i64 x6_1 (ji19)), (wrap64 (x7_1 + 1)), (by first | rfl | (simp; done) | (simp only [← hji19] <;> (first | rfl | simp)) | (simp [*]; done)), q18_16, H', ⟨by have := HK1.out; omega⟩, ⟨by (with_reducible repeat (first | apply Kd.R_alloc | apply Kd.R_drewN | apply Kd.R_drew)); exact HO_694001.out⟩, ⟨by (with_reducible repeat (first | refine blk_drewN ?_ _ | refine blk_drew ?_ | refine blk_alloc ?_ _)); exact BK686.out⟩, ⟨by (with_reducible repeat (first | refine blk_drewN ?_ _ | refine blk_drew ?_ | refine blk_alloc ?_ _)); exact BK687.out⟩, ⟨by (with_reducible repeat (first | refine blk_drewN ?_ _ | refine blk_drew ?_ | refine blk_alloc ?_ _)); exact BK693.out⟩, ⟨by repeat (first | (with_reducible first | exact HB.out | apply below_alloc | apply pw_below_drewN | apply below_drew1 | refine below_set ?_ GE686.out | refine below_set ?_ GE687.out | refine below_set ?_ GE693.out) | exact HB.out)⟩⟩
      ·
       rw [if_neg c18] at H
       exact absurd H (by simp)
     ·
      replace c16 := Bool.eq_false_iff.mpr c16
      subst c16
      have H1 : (spec_ReduceContext.l0 k1 x6_1 (wrap64 (x7_1 + 1)) t688 t689) = some (r1, r2, r3) := q18_17
      clear H
      have H := H1
      clear H1
      have H' := Aside0.mk H
      clear H
      have hnb24 := NB693_686.out
      have hnc24 := NB686_693.out
      have hnb25 := NB693_687.out
      have hnc25 := NB687_693.out
      have hcz26_0 : wr.cell? ⟨gb693, 0, none⟩ = some (.int .i64 t688) := (blk_cell BK693.out 0).trans rfl
      have hcz26_1 : wr.cell? ⟨gb693, 1, none⟩ = some (.slice Ao13 t689.length co13) := (blk_cell BK693.out 1).trans rfl
      have hfz26_0 := blk_frozen BK693.out 0
      have hfz26_1 := blk_frozen BK693.out 1
      go_wp2_with (first | ((with_reducible refine gate_callee (f := 16) rfl ?_); refine goesL_ (some 30) rfl rfl Try.func16 (by kernel_rfl) rfl #[.agg #[.int .i64 t688, .slice Ao13 t689.length co13], .int .i64 x7_1] rfl q18_8 ?_; (with_reducible refine (spec_IsReducibleObject.calls k1 t688 _ _ t689 x7_1 false _ ?side1 ?side2 A15.out).mono ?_); (case side1 => exact q18_4); (case side2 => exact (Kd.R_reads' HO_694001.out).2.1); rintro e w27 ⟨rfl, hb⟩; refine ⟨_, rfl, ?_⟩; have n0_ := Aside0.mk (Kd.R_below q18_14 hb); have n1_ := Aside0.mk (blk_below (g := gb686) (o := .cells #[.int .i64 a0_0, .slice A0_1 l0_1.length c0_1] 27 (0, 0)) q18_10 hb); have n2_ := Aside0.mk (blk_below (g := gb687) (o := .cells #[.int .i64 0, .slice none 0 0] 27 (0, 0)) q18_11 hb); have n3_ := Aside0.mk (blk_below (g := gb693) (o := .cells #[.int .i64 t688, .slice Ao13 t689.length co13] 27 (0, 0)) q18_12 hb); have n4_ := Aside0.mk (below_step q18_2 hb); clear HO_694001; clear BK686; clear BK687; clear BK693; clear HB; have HO_694001 := n0_; have BK686 := n1_; have BK687 := n2_; have BK693 := n3_; have HB := n4_; clear n0_ n1_ n2_ n3_ n4_; (try clear hb); (try clear hb2); (try clear hk); (try clear hi)))
      go_roundg k1
      case measure => have := HK1.out; omega
      case rel => exact ⟨(x6_1), (wrap64 (x7_1 + 1)), q18_16, q18_16, H', ⟨by have := HK1.out; omega⟩, ⟨by (with_reducible repeat (first | apply Kd.R_alloc | apply Kd.R_drewN | apply Kd.R_drew)); exact HO_694001.out⟩, ⟨by (with_reducible repeat (first | refine blk_drewN ?_ _ | refine blk_drew ?_ | refine blk_alloc ?_ _)); exact BK686.out⟩, ⟨by (with_reducible repeat (first | refine blk_drewN ?_ _ | refine blk_drew ?_ | refine blk_alloc ?_ _)); exact BK687.out⟩, ⟨by (with_reducible repeat (first | refine blk_drewN ?_ _ | refine blk_drew ?_ | refine blk_alloc ?_ _)); exact BK693.out⟩, ⟨by repeat (first | (with_reducible first | exact HB.out | apply below_alloc | apply pw_below_drewN | apply below_drew1 | refine below_set ?_ GE686.out | refine below_set ?_ GE687.out | refine below_set ?_ GE693.out) | exact HB.out)⟩⟩
    ·
     rw [if_neg c14] at H
     have c14b0 : decide (x7_1 < (t689.length : Int)) = false := decide_eq_false c14
     clear c14
     replace H := Option.bind_eq_some_iff.mp H
     obtain ⟨⟨t695, t696, t699⟩, A280, H⟩ := H
     replace H : (spec_ReduceContext.l1 k1 0 0 t695 t696) = some (r1, r2, r3) := H
     have A28 := Aside0.mk A280
     clear A280
     have H' := Aside0.mk H
     clear H
     have hnb29 := NB693_686.out
     have hnc29 := NB686_693.out
     have hnb30 := NB693_687.out
     have hnc30 := NB687_693.out
     have hcz31_0 : wr.cell? ⟨gb693, 0, none⟩ = some (.int .i64 t688) := (blk_cell BK693.out 0).trans rfl
     have hcz31_1 : wr.cell? ⟨gb693, 1, none⟩ = some (.slice Ao13 t689.length co13) := (blk_cell BK693.out 1).trans rfl
     have hfz31_0 := blk_frozen BK693.out 0
     have hfz31_1 := blk_frozen BK693.out 1
     go_wp2_with (first | ((with_reducible refine gate_callee (f := 35) rfl ?_); refine goesL_ (some 39) rfl rfl Try.func35 (by kernel_rfl) rfl #[.agg #[.int .i64 t688, .slice Ao13 t689.length co13], .int .i64 x6_1] rfl q18_8 ?_; (with_reducible refine (spec_DropObjects.calls k1 t688 _ _ t689 x6_1 t695 t696 t699 _ ?side1 ?side2 A28.out).mono ?_); (case side1 => exact q18_4); (case side2 => exact (Kd.R_reads' HO_694001.out).2.1); rintro e w32 ⟨v697, rfl, ho0, hb⟩; refine ⟨_, rfl, ?_⟩; have n0_ := Aside0.mk (Kd.R_elder' q18_14 (Kd.R_base ho0) hb); have n1_ := Aside0.mk (Kd.R_lower (Kd.R_new' ho0 (Kd.R_lt q18_14)) (below_size q18_2)); have n2_ := Aside0.mk (blk_below (g := gb686) (o := .cells #[.int .i64 a0_0, .slice A0_1 l0_1.length c0_1] 27 (0, 0)) q18_10 hb); have n3_ := Aside0.mk (blk_below (g := gb687) (o := .cells #[.int .i64 0, .slice none 0 0] 27 (0, 0)) q18_11 hb); have n4_ := Aside0.mk (blk_below (g := gb693) (o := .cells #[.int .i64 t688, .slice Ao13 t689.length co13] 27 (0, 0)) q18_12 hb); have n5_ := Aside0.mk (below_step q18_2 hb); clear HO_694001; clear BK686; clear BK687; clear BK693; clear HB; have HO_694001 := n0_; have HO698 := n1_; have BK686 := n2_; have BK687 := n3_; have BK693 := n4_; have HB := n5_; clear n0_ n1_ n2_ n3_ n4_ n5_; (try clear hb); (try clear hb2); (try clear hk); (try clear hi); (try clear ho0)) | ((with_reducible refine gate_dst (N := 8) rfl ?_); refine box_event ?hg (N := 8) ?hd (cs := #[.int .i64 0, .slice none 0 0]) (t := 27) ?hr ?_; (case hd => rfl); (case hg => rfl); (case hr => first | (go_simp; done) | (go_simp; rfl)); intro gb700 hg w33 hbox hb; have n0_ := Aside0.mk (Kd.R_below q18_14 hb); have n1_ := Aside0.mk (Kd.R_below (by (with_reducible repeat (first | apply Kd.R_alloc | apply Kd.R_drewN | apply Kd.R_drew)); exact HO698.out) hb); have n2_ := Aside0.mk (blk_below (g := gb686) (o := .cells #[.int .i64 a0_0, .slice A0_1 l0_1.length c0_1] 27 (0, 0)) q18_10 hb); have n3_ := Aside0.mk (blk_below (g := gb687) (o := .cells #[.int .i64 0, .slice none 0 0] 27 (0, 0)) q18_11 hb); have n4_ := Aside0.mk (blk_below (g := gb693) (o := .cells #[.int .i64 t688, .slice Ao13 t689.length co13] 27 (0, 0)) q18_12 hb); have n5_ := Aside0.mk (below_step q18_2 hb); have n6_ := Aside0.mk (hbox); have n7_ := Aside0.mk ((by rw [hg]; exact (below_size q18_2) : w.heap.size ≤ gb700)); have n8_ := Aside0.mk ((by rw [hg]; exact (below_size q18_2) : w.heap.size ≤ gb700)); have n9_ := Aside0.mk ((by rw [hg]; exact Nat.ne_of_lt (blk_lt (g := gb686) (o := .cells #[.int .i64 a0_0, .slice A0_1 l0_1.length c0_1] 27 (0, 0)) q18_10) : gb686 ≠ gb700)); have n10_ := Aside0.mk ((by rw [hg]; exact Nat.ne_of_gt (blk_lt (g := gb686) (o := .cells #[.int .i64 a0_0, .slice A0_1 l0_1.length c0_1] 27 (0, 0)) q18_10) : gb700 ≠ gb686)); have n11_ := Aside0.mk ((by rw [hg]; exact Nat.ne_of_lt (blk_lt (g := gb687) (o := .cells #[.int .i64 0, .slice none 0 0] 27 (0, 0)) q18_11) : gb687 ≠ gb700)); have n12_ := Aside0.mk ((by rw [hg]; exact Nat.ne_of_gt (blk_lt (g := gb687) (o := .cells #[.int .i64 0, .slice none 0 0] 27 (0, 0)) q18_11) : gb700 ≠ gb687)); have n13_ := Aside0.mk ((by rw [hg]; exact Nat.ne_of_lt (blk_lt (g := gb693) (o := .cells #[.int .i64 t688, .slice Ao13 t689.length co13] 27 (0, 0)) q18_12) : gb693 ≠ gb700)); have n14_ := Aside0.mk ((by rw [hg]; exact Nat.ne_of_gt (blk_lt (g := gb693) (o := .cells #[.int .i64 t688, .slice Ao13 t689.length co13] 27 (0, 0)) q18_12) : gb700 ≠ gb693)); clear HO_694001; clear HO698; clear BK686; clear BK687; clear BK693; clear HB; have HO_694001 := n0_; have HO698 := n1_; have BK686 := n2_; have BK687 := n3_; have BK693 := n4_; have HB := n5_; have BK700 := n6_; have GW700 := n7_; have GE700 := n8_; have NB686_700 := n9_; have NB700_686 := n10_; have NB687_700 := n11_; have NB700_687 := n12_; have NB693_700 := n13_; have NB700_693 := n14_; clear n0_ n1_ n2_ n3_ n4_ n5_ n6_ n7_ n8_ n9_ n10_ n11_ n12_ n13_ n14_; clear hb hbox hg; have hnb34 := NB700_686.out; have hnc34 := NB686_700.out; have hnb35 := NB700_687.out; have hnc35 := NB687_700.out; have hnb36 := NB700_693.out; have hnc36 := NB693_700.out; have hcz37_0 : w33.cell? ⟨gb700, 0, none⟩ = some (.int .i64 0) := (blk_cell BK700.out 0).trans rfl; have hcz37_1 : w33.cell? ⟨gb700, 1, none⟩ = some (.slice none 0 0) := (blk_cell BK700.out 1).trans rfl; have hfz37_0 := blk_frozen BK700.out 0; have hfz37_1 := blk_frozen BK700.out 1; obtain ⟨Ao38, co38, eo38⟩ := Kd.R_slice HO698.out; subst eo38))
     go_loopg [6, 10] k1 (fun kq v6 v10 w' => ∃ (x6_2 : Int) (x10_2 : Int), v6 = .int .i64 x6_2 ∧ v10 = .int .i64 x10_2 ∧ Aside0 (spec_ReduceContext.l1 kq x6_2 x10_2 t695 t696 = some (r1, r2, r3)) ∧ Aside0 (kq ≤ k1) ∧ Aside0 (Kd.R (Kd.int .i64) 3 w' w.heap.size (fun k_ => some k_ ≠ ((.slice Ao38 t696.length co38) : Value).ownBlock) (.slice Ao13 t689.length co13) t689) ∧ Aside0 (Kd.R (Kd.int .i64) 3 w' w.heap.size (fun k_ => some k_ ≠ ((.slice Ao13 t689.length co13) : Value).ownBlock) (.slice Ao38 t696.length co38) t696) ∧ Aside0 (w'.heap[gb686]? = some (.cells #[.int .i64 a0_0, (.slice A0_1 l0_1.length c0_1)] 27 (0, 0))) ∧ Aside0 (w'.heap[gb687]? = some (.cells #[.int .i64 0, (.slice none 0 0)] 27 (0, 0))) ∧ Aside0 (w'.heap[gb693]? = some (.cells #[.int .i64 t688, (.slice Ao13 t689.length co13)] 27 (0, 0))) ∧ Aside0 (w'.heap[gb700]? = some (.cells #[.int .i64 t695, (.slice Ao38 t696.length co38)] 27 (0, 0))) ∧ Aside0 (Below w.heap.size w w'))
     case atStart => exact ⟨(0), (0), q18_16, q18_16, H', ⟨Nat.le_refl _⟩, ⟨by (with_reducible repeat (first | apply Kd.R_alloc | apply Kd.R_drewN | apply Kd.R_drew)); exact Kd.R_mono (Kd.R_far (p := ⟨gb700, 1, none⟩) (Kd.R_far (p := ⟨gb700, 0, none⟩) (Kd.R_types HO_694001.out BK700.out (by decide)) (fun _ hk => hk.2) (.int .i64 t695)) (fun _ hk => hk.2) (.slice Ao38 t696.length co38)) (fun _ hk => hk.1.2)⟩, ⟨by (with_reducible repeat (first | apply Kd.R_alloc | apply Kd.R_drewN | apply Kd.R_drew)); exact Kd.R_mono (Kd.R_far (p := ⟨gb700, 1, none⟩) (Kd.R_far (p := ⟨gb700, 0, none⟩) (Kd.R_types HO698.out BK700.out (by decide)) (fun _ hk => hk.2) (.int .i64 t695)) (fun _ hk => hk.2) (.slice Ao38 t696.length co38)) (fun _ hk => hk.1.2)⟩, ⟨by (with_reducible repeat (first | refine blk_drewN ?_ _ | refine blk_drew ?_ | refine blk_alloc ?_ _)); refine blk_far ?_ NB686_700.out _; (with_reducible repeat (first | refine blk_drewN ?_ _ | refine blk_drew ?_ | refine blk_alloc ?_ _)); refine blk_far ?_ NB686_700.out _; (with_reducible repeat (first | refine blk_drewN ?_ _ | refine blk_drew ?_ | refine blk_alloc ?_ _)); exact BK686.out⟩, ⟨by (with_reducible repeat (first | refine blk_drewN ?_ _ | refine blk_drew ?_ | refine blk_alloc ?_ _)); refine blk_far ?_ NB687_700.out _; (with_reducible repeat (first | refine blk_drewN ?_ _ | refine blk_drew ?_ | refine blk_alloc ?_ _)); refine blk_far ?_ NB687_700.out _; (with_reducible repeat (first | refine blk_drewN ?_ _ | refine blk_drew ?_ | refine blk_alloc ?_ _)); exact BK687.out⟩, ⟨by (with_reducible repeat (first | refine blk_drewN ?_ _ | refine blk_drew ?_ | refine blk_alloc ?_ _)); refine blk_far ?_ NB693_700.out _; (with_reducible repeat (first | refine blk_drewN ?_ _ | refine blk_drew ?_ | refine blk_alloc ?_ _)); refine blk_far ?_ NB693_700.out _; (with_reducible repeat (first | refine blk_drewN ?_ _ | refine blk_drew ?_ | refine blk_alloc ?_ _)); exact BK693.out⟩, ⟨by (with_reducible repeat (first | refine blk_drewN ?_ _ | refine blk_drew ?_ | refine blk_alloc ?_ _)); refine blk_put (cs := #[.int .i64 t695, .slice none 0 0]) ?_ 1 _ rfl; (with_reducible repeat (first | refine blk_drewN ?_ _ | refine blk_drew ?_ | refine blk_alloc ?_ _)); refine blk_put (cs := #[.int .i64 0, .slice none 0 0]) ?_ 0 _ rfl; (with_reducible repeat (first | refine blk_drewN ?_ _ | refine blk_drew ?_ | refine blk_alloc ?_ _)); exact BK700.out⟩, ⟨by repeat (first | (with_reducible first | exact HB.out | apply below_alloc | apply pw_below_drewN | apply below_drew1 | refine below_set ?_ GE686.out | refine below_set ?_ GE687.out | refine below_set ?_ GE693.out | refine below_set ?_ GE700.out) | exact HB.out)⟩⟩
     case round =>
      clear H'
      try clear c1
      try clear c2
      try clear p2
      try clear c3
      try clear c4
      try clear c6
      try clear p6
      try clear c10
      try clear c11
      try clear c14
      try clear c14b0
      try clear c16
      try clear c18
      try clear c18b0
      try clear c18b1
      try clear c20
      try clear c21
      try clear c24
      try clear c25
      try clear c29
      try clear c30
      try clear c34
      try clear c35
      try clear c36
      try clear hcz12_0
      try clear hcz12_1
      try clear hcz22_0
      try clear hcz22_1
      try clear hcz26_0
      try clear hcz26_1
      try clear hcz31_0
      try clear hcz31_1
      try clear hcz37_0
      try clear hcz37_1
      try clear hcz7_0
      try clear hcz7_1
      try clear hfz12_0
      try clear hfz12_1
      try clear hfz22_0
      try clear hfz22_1
      try clear hfz26_0
      try clear hfz26_1
      try clear hfz31_0
      try clear hfz31_1
      try clear hfz37_0
      try clear hfz37_1
      try clear hfz7_0
      try clear hfz7_1
      try clear p2
      obtain ⟨x6_2, x10_2, rfl, rfl, HA, HK2, HO_694001, HO_701001, BK686, BK687, BK693, BK700, HB⟩ := hrel
      cases gk with
      | zero => exact absurd HA.out (by simp [spec_ReduceContext.l1])
      | succ k2 =>
       have H := HA.out
       clear HA
       simp only [spec_ReduceContext.l1] at H
       by_cases c39 : x10_2 < t695
       ·
        rw [if_pos c39] at H
        have c39b0 : decide (x10_2 < t695) = true := decide_eq_true c39
        clear c39
        replace H := Option.bind_eq_some_iff.mp H
        obtain ⟨t701, A400, H⟩ := H
        replace H : (if t701 = true then (if 0 ≤ (IntKind.u64.wrap (x10_2)) then (spec_ReduceContext.l1 k2 (Go.bits .or .i64 x6_2 (shl .i64 1 (IntKind.u64.wrap (x10_2)))) (wrap64 (x10_2 + 1)) t695 t696) else (none)) else (spec_ReduceContext.l1 k2 x6_2 (wrap64 (x10_2 + 1)) t695 t696)) = some (r1, r2, r3) := H
        have A40 := Aside0.mk A400
        clear A400
        by_cases c41 : t701 = true
        ·
         subst c41
         have H1 : (if 0 ≤ (IntKind.u64.wrap (x10_2)) then (spec_ReduceContext.l1 k2 (Go.bits .or .i64 x6_2 (shl .i64 1 (IntKind.u64.wrap (x10_2)))) (wrap64 (x10_2 + 1)) t695 t696) else (none)) = some (r1, r2, r3) := by rw [if_pos rfl] at H; exact H
         clear H
         have H := H1
         clear H1
         obtain ⟨ji42, hji42⟩ : ∃ j_ : Int, (IntKind.u64.wrap (x10_2)) = j_ := ⟨_, rfl⟩
         replace H : (if 0 ≤ (ji42) then (spec_ReduceContext.l1 k2 (Go.bits .or .i64 x6_2 (shl .i64 1 (ji42))) (wrap64 (x10_2 + 1)) t695 t696) else (none)) = some (r1, r2, r3) := by first | (rw [hji42] at H; exact H) | (simp only [hji42] at H ⊢; exact H)
         (try rw [hji42] at A40)
         by_cases c43 : 0 ≤ (ji42)
         ·
          rw [if_pos c43] at H
          have c43b0 := eq_true c43
          have c43b1 : decide (0 ≤ (ji42)) = true := decide_eq_true c43
          clear c43
          obtain ⟨ji44, hji44⟩ : ∃ j_ : Int, (shl .i64 1 (ji42)) = j_ := ⟨_, rfl⟩
          replace H : (spec_ReduceContext.l1 k2 (Go.bits .or .i64 x6_2 (ji44)) (wrap64 (x10_2 + 1)) t695 t696) = some (r1, r2, r3) := by first | (rw [hji44] at H; exact H) | (simp only [hji44] at H ⊢; exact H)
          (try rw [hji44] at A40)
          have hji44_ : (IntKind.i64.wrap (1 * 2 ^ min (ji42).toNat 64)) = ji44 := hji44
          have hji44z : (ji42) ≤ 64 → (IntKind.i64.wrap (1 * 2 ^ (ji42).toNat)) = ji44 := shl_small hji44
          have hji44u : (IntKind.i64.wrap (2 ^ min (ji42).toNat 64)) = ji44 := by have h_ := hji44_; rw [Int.one_mul] at h_; exact h_
          have hji44v : (ji42) ≤ 64 → (IntKind.i64.wrap (2 ^ (ji42).toNat)) = ji44 := fun hle_ => by have h_ := hji44z hle_; rw [Int.one_mul] at h_; exact h_
          have hji44y : (wrap64 (1 * 2 ^ min (ji42).toNat 64)) = ji44 := (i64_w _).symm.trans hji44_
          have hji44x : (ji42) ≤ 64 → (wrap64 (1 * 2 ^ (ji42).toNat)) = ji44 := fun h_ => (i64_w _).symm.trans (hji44z h_)
          have H' := Aside0.mk H
          clear H
          have hnb45 := NB700_686.out
          have hnc45 := NB686_700.out
          have hnb46 := NB700_687.out
          have hnc46 := NB687_700.out
          have hnb47 := NB700_693.out
          have hnc47 := NB693_700.out
          have hcz48_0 : wr.cell? ⟨gb700, 0, none⟩ = some (.int .i64 t695) := (blk_cell BK700.out 0).trans rfl
          have hcz48_1 : wr.cell? ⟨gb700, 1, none⟩ = some (.slice Ao38 t696.length co38) := (blk_cell BK700.out 1).trans rfl
          have hfz48_0 := blk_frozen BK700.out 0
          have hfz48_1 := blk_frozen BK700.out 1
          go_wp2_with (first | ((with_reducible refine gate_callee (f := 24) rfl ?_); refine goesL_ (some 50) rfl rfl Try.func24 (by kernel_rfl) rfl #[.agg #[.int .i64 t695, .slice Ao38 t696.length co38], .int .i64 x10_2] rfl q18_8 ?_; (with_reducible refine (spec_IsReducibleAttribute.calls k2 t695 _ _ t696 x10_2 true _ ?side1 ?side2 A40.out).mono ?_); (case side1 => exact q18_5); (case side2 => exact (Kd.R_reads' HO_701001.out).2.1); rintro e w49 ⟨rfl, hb⟩; refine ⟨_, rfl, ?_⟩; have n0_ := Aside0.mk (Kd.R_below q18_14 hb); have n1_ := Aside0.mk (Kd.R_below q18_15 hb); have n2_ := Aside0.mk (blk_below (g := gb686) (o := .cells #[.int .i64 a0_0, .slice A0_1 l0_1.length c0_1] 27 (0, 0)) q18_10 hb); have n3_ := Aside0.mk (blk_below (g := gb687) (o := .cells #[.int .i64 0, .slice none 0 0] 27 (0, 0)) q18_11 hb); have n4_ := Aside0.mk (blk_below (g := gb693) (o := .cells #[.int .i64 t688, .slice Ao13 t689.length co13] 27 (0, 0)) q18_12 hb); have n5_ := Aside0.mk (blk_below (g := gb700) (o := .cells #[.int .i64 t695, .slice Ao38 t696.length co38] 27 (0, 0)) q18_13 hb); have n6_ := Aside0.mk (below_step q18_1 hb); clear HO_694001; clear HO_701001; clear BK686; clear BK687; clear BK693; clear BK700; clear HB; have HO_694001 := n0_; have HO_701001 := n1_; have BK686 := n2_; have BK687 := n3_; have BK693 := n4_; have BK700 := n5_; have HB := n6_; clear n0_ n1_ n2_ n3_ n4_ n5_ n6_; (try clear hb); (try clear hb2); (try clear hk); (try clear hi)))
          go_roundg k2
          case measure => have := HK1.out; have := HK2.out; omega
          case rel => exact ⟨(Go.bits .or .i64 x6_2 (ji44)), (wrap64 (x10_2 + 1)), (by first | rfl | (simp; done) | (simp only [← hji44] <;> (first | rfl | simp)) | (simp [*]; done)), q18_16, H', ⟨by have := HK1.out; have := HK2.out; omega⟩, ⟨by (with_reducible repeat (first | apply Kd.R_alloc | apply Kd.R_drewN | apply Kd.R_drew)); exact HO_694001.out⟩, ⟨by (with_reducible repeat (first | apply Kd.R_alloc | apply Kd.R_drewN | apply Kd.R_drew)); exact HO_701001.out⟩, ⟨by (with_reducible repeat (first | refine blk_drewN ?_ _ | refine blk_drew ?_ | refine blk_alloc ?_ _)); exact BK686.out⟩, ⟨by (with_reducible repeat (first | refine blk_drewN ?_ _ | refine blk_drew ?_ | refine blk_alloc ?_ _)); exact BK687.out⟩, ⟨by (with_reducible repeat (first | refine blk_drewN ?_ _ | refine blk_drew ?_ | refine blk_alloc ?_ _)); exact BK693.out⟩, ⟨by (with_reducible repeat (first | refine blk_drewN ?_ _ | refine blk_drew ?_ | refine blk_alloc ?_ _)); exact BK700.out⟩, ⟨by repeat (first | (with_reducible first | exact HB.out | apply below_alloc | apply pw_below_drewN | apply below_drew1 | refine below_set ?_ GE686.out | refine below_set ?_ GE687.out | refine below_set ?_ GE693.out | refine below_set ?_ GE700.out) | exact HB.out)⟩⟩
         ·
          rw [if_neg c43] at H
          exact absurd H (by simp)
        ·
         replace c41 := Bool.eq_false_iff.mpr c41
         subst c41
         have H1 : (spec_ReduceContext.l1 k2 x6_2 (wrap64 (x10_2 + 1)) t695 t696) = some (r1, r2, r3) := q18_17
         clear H
         have H := H1
         clear H1
         have H' := Aside0.mk H
         clear H
         have hnb50 := NB700_686.out
         have hnc50 := NB686_700.out
         have hnb51 := NB700_687.out
         have hnc51 := NB687_700.out
         have hnb52 := NB700_693.out
         have hnc52 := NB693_700.out
         have hcz53_0 : wr.cell? ⟨gb700, 0, none⟩ = some (.int .i64 t695) := (blk_cell BK700.out 0).trans rfl
         have hcz53_1 : wr.cell? ⟨gb700, 1, none⟩ = some (.slice Ao38 t696.length co38) := (blk_cell BK700.out 1).trans rfl
         have hfz53_0 := blk_frozen BK700.out 0
         have hfz53_1 := blk_frozen BK700.out 1
         go_wp2_with (first | ((with_reducible refine gate_callee (f := 24) rfl ?_); refine goesL_ (some 50) rfl rfl Try.func24 (by kernel_rfl) rfl #[.agg #[.int .i64 t695, .slice Ao38 t696.length co38], .int .i64 x10_2] rfl q18_8 ?_; (with_reducible refine (spec_IsReducibleAttribute.calls k2 t695 _ _ t696 x10_2 false _ ?side1 ?side2 A40.out).mono ?_); (case side1 => exact q18_5); (case side2 => exact (Kd.R_reads' HO_701001.out).2.1); rintro e w54 ⟨rfl, hb⟩; refine ⟨_, rfl, ?_⟩; have n0_ := Aside0.mk (Kd.R_below q18_14 hb); have n1_ := Aside0.mk (Kd.R_below q18_15 hb); have n2_ := Aside0.mk (blk_below (g := gb686) (o := .cells #[.int .i64 a0_0, .slice A0_1 l0_1.length c0_1] 27 (0, 0)) q18_10 hb); have n3_ := Aside0.mk (blk_below (g := gb687) (o := .cells #[.int .i64 0, .slice none 0 0] 27 (0, 0)) q18_11 hb); have n4_ := Aside0.mk (blk_below (g := gb693) (o := .cells #[.int .i64 t688, .slice Ao13 t689.length co13] 27 (0, 0)) q18_12 hb); have n5_ := Aside0.mk (blk_below (g := gb700) (o := .cells #[.int .i64 t695, .slice Ao38 t696.length co38] 27 (0, 0)) q18_13 hb); have n6_ := Aside0.mk (below_step q18_1 hb); clear HO_694001; clear HO_701001; clear BK686; clear BK687; clear BK693; clear BK700; clear HB; have HO_694001 := n0_; have HO_701001 := n1_; have BK686 := n2_; have BK687 := n3_; have BK693 := n4_; have BK700 := n5_; have HB := n6_; clear n0_ n1_ n2_ n3_ n4_ n5_ n6_; (try clear hb); (try clear hb2); (try clear hk); (try clear hi)))
         go_roundg k2
         case measure => have := HK1.out; have := HK2.out; omega
         case rel => exact ⟨(x6_2), (wrap64 (x10_2 + 1)), q18_16, q18_16, H', ⟨by have := HK1.out; have := HK2.out; omega⟩, ⟨by (with_reducible repeat (first | apply Kd.R_alloc | apply Kd.R_drewN | apply Kd.R_drew)); exact HO_694001.out⟩, ⟨by (with_reducible repeat (first | apply Kd.R_alloc | apply Kd.R_drewN | apply Kd.R_drew)); exact HO_701001.out⟩, ⟨by (with_reducible repeat (first | refine blk_drewN ?_ _ | refine blk_drew ?_ | refine blk_alloc ?_ _)); exact BK686.out⟩, ⟨by (with_reducible repeat (first | refine blk_drewN ?_ _ | refine blk_drew ?_ | refine blk_alloc ?_ _)); exact BK687.out⟩, ⟨by (with_reducible repeat (first | refine blk_drewN ?_ _ | refine blk_drew ?_ | refine blk_alloc ?_ _)); exact BK693.out⟩, ⟨by (with_reducible repeat (first | refine blk_drewN ?_ _ | refine blk_drew ?_ | refine blk_alloc ?_ _)); exact BK700.out⟩, ⟨by repeat (first | (with_reducible first | exact HB.out | apply below_alloc | apply pw_below_drewN | apply below_drew1 | refine below_set ?_ GE686.out | refine below_set ?_ GE687.out | refine below_set ?_ GE693.out | refine below_set ?_ GE700.out) | exact HB.out)⟩⟩
       ·
        rw [if_neg c39] at H
        have c39b0 : decide (x10_2 < t695) = false := decide_eq_false c39
        clear c39
        replace H := Option.bind_eq_some_iff.mp H
        obtain ⟨⟨t702, t703, t706⟩, A550, H⟩ := H
        replace H : (some (t702, t703, t706)) = some (r1, r2, r3) := H
        have A55 := Aside0.mk A550
        clear A550
        simp only [Option.some.injEq, Prod.mk.injEq] at H
        obtain ⟨rfl, rfl, rfl⟩ := H
        have hnb56 := NB700_686.out
        have hnc56 := NB686_700.out
        have hnb57 := NB700_687.out
        have hnc57 := NB687_700.out
        have hnb58 := NB700_693.out
        have hnc58 := NB693_700.out
        have hcz59_0 : wr.cell? ⟨gb700, 0, none⟩ = some (.int .i64 t695) := (blk_cell BK700.out 0).trans rfl
        have hcz59_1 : wr.cell? ⟨gb700, 1, none⟩ = some (.slice Ao38 t696.length co38) := (blk_cell BK700.out 1).trans rfl
        have hfz59_0 := blk_frozen BK700.out 0
        have hfz59_1 := blk_frozen BK700.out 1
        go_wp2_with (first | ((with_reducible refine gate_callee (f := 39) rfl ?_); refine goesL_ (some 59) rfl rfl Try.func39 (by kernel_rfl) rfl #[.agg #[.int .i64 t695, .slice Ao38 t696.length co38], .int .i64 x6_2] rfl q18_8 ?_; (with_reducible refine (spec_DropAttributes.calls k2 t695 _ _ t696 x6_2 t702 t703 t706 _ ?side1 ?side2 A55.out).mono ?_); (case side1 => exact q18_5); (case side2 => exact (Kd.R_reads' HO_701001.out).2.1); rintro e w60 ⟨v704, rfl, ho0, hb⟩; refine ⟨_, rfl, ?_⟩; have n0_ := Aside0.mk (Kd.R_elder' q18_14 (Kd.R_base ho0) hb); have n1_ := Aside0.mk (Kd.R_elder' q18_15 (Kd.R_base ho0) hb); have n2_ := Aside0.mk (Kd.R_lower (Kd.R_new' (Kd.R_new' ho0 (Kd.R_lt q18_14)) (Kd.R_lt q18_15)) (below_size q18_1)); have n3_ := Aside0.mk (blk_below (g := gb686) (o := .cells #[.int .i64 a0_0, .slice A0_1 l0_1.length c0_1] 27 (0, 0)) q18_10 hb); have n4_ := Aside0.mk (blk_below (g := gb687) (o := .cells #[.int .i64 0, .slice none 0 0] 27 (0, 0)) q18_11 hb); have n5_ := Aside0.mk (blk_below (g := gb693) (o := .cells #[.int .i64 t688, .slice Ao13 t689.length co13] 27 (0, 0)) q18_12 hb); have n6_ := Aside0.mk (blk_below (g := gb700) (o := .cells #[.int .i64 t695, .slice Ao38 t696.length co38] 27 (0, 0)) q18_13 hb); have n7_ := Aside0.mk (below_step q18_1 hb); clear HO_694001; clear HO_701001; clear BK686; clear BK687; clear BK693; clear BK700; clear HB; have HO_694001 := n0_; have HO_701001 := n1_; have HO705 := n2_; have BK686 := n3_; have BK687 := n4_; have BK693 := n5_; have BK700 := n6_; have HB := n7_; clear n0_ n1_ n2_ n3_ n4_ n5_ n6_ n7_; (try clear hb); (try clear hb2); (try clear hk); (try clear hi); (try clear ho0)) | ((with_reducible refine gate_dst (N := 11) rfl ?_); refine box_event ?hg (N := 11) ?hd (cs := #[.int .i64 0, .slice none 0 0]) (t := 27) ?hr ?_; (case hd => rfl); (case hg => rfl); (case hr => first | (go_simp; done) | (go_simp; rfl)); intro gb707 hg w61 hbox hb; have n0_ := Aside0.mk (Kd.R_below q18_14 hb); have n1_ := Aside0.mk (Kd.R_below q18_15 hb); have n2_ := Aside0.mk (Kd.R_below (by (with_reducible repeat (first | apply Kd.R_alloc | apply Kd.R_drewN | apply Kd.R_drew)); exact HO705.out) hb); have n3_ := Aside0.mk (blk_below (g := gb686) (o := .cells #[.int .i64 a0_0, .slice A0_1 l0_1.length c0_1] 27 (0, 0)) q18_10 hb); have n4_ := Aside0.mk (blk_below (g := gb687) (o := .cells #[.int .i64 0, .slice none 0 0] 27 (0, 0)) q18_11 hb); have n5_ := Aside0.mk (blk_below (g := gb693) (o := .cells #[.int .i64 t688, .slice Ao13 t689.length co13] 27 (0, 0)) q18_12 hb); have n6_ := Aside0.mk (blk_below (g := gb700) (o := .cells #[.int .i64 t695, .slice Ao38 t696.length co38] 27 (0, 0)) q18_13 hb); have n7_ := Aside0.mk (below_step q18_1 hb); have n8_ := Aside0.mk (hbox); have n9_ := Aside0.mk ((by rw [hg]; exact (below_size q18_1) : w.heap.size ≤ gb707)); have n10_ := Aside0.mk ((by rw [hg]; exact (below_size q18_1) : w.heap.size ≤ gb707)); have n11_ := Aside0.mk ((by rw [hg]; exact Nat.ne_of_lt (blk_lt (g := gb686) (o := .cells #[.int .i64 a0_0, .slice A0_1 l0_1.length c0_1] 27 (0, 0)) q18_10) : gb686 ≠ gb707)); have n12_ := Aside0.mk ((by rw [hg]; exact Nat.ne_of_gt (blk_lt (g := gb686) (o := .cells #[.int .i64 a0_0, .slice A0_1 l0_1.length c0_1] 27 (0, 0)) q18_10) : gb707 ≠ gb686)); have n13_ := Aside0.mk ((by rw [hg]; exact Nat.ne_of_lt (blk_lt (g := gb687) (o := .cells #[.int .i64 0, .slice none 0 0] 27 (0, 0)) q18_11) : gb687 ≠ gb707)); have n14_ := Aside0.mk ((by rw [hg]; exact Nat.ne_of_gt (blk_lt (g := gb687) (o := .cells #[.int .i64 0, .slice none 0 0] 27 (0, 0)) q18_11) : gb707 ≠ gb687)); have n15_ := Aside0.mk ((by rw [hg]; exact Nat.ne_of_lt (blk_lt (g := gb693) (o := .cells #[.int .i64 t688, .slice Ao13 t689.length co13] 27 (0, 0)) q18_12) : gb693 ≠ gb707)); have n16_ := Aside0.mk ((by rw [hg]; exact Nat.ne_of_gt (blk_lt (g := gb693) (o := .cells #[.int .i64 t688, .slice Ao13 t689.length co13] 27 (0, 0)) q18_12) : gb707 ≠ gb693)); have n17_ := Aside0.mk ((by rw [hg]; exact Nat.ne_of_lt (blk_lt (g := gb700) (o := .cells #[.int .i64 t695, .slice Ao38 t696.length co38] 27 (0, 0)) q18_13) : gb700 ≠ gb707)); have n18_ := Aside0.mk ((by rw [hg]; exact Nat.ne_of_gt (blk_lt (g := gb700) (o := .cells #[.int .i64 t695, .slice Ao38 t696.length co38] 27 (0, 0)) q18_13) : gb707 ≠ gb700)); clear HO_694001; clear HO_701001; clear HO705; clear BK686; clear BK687; clear BK693; clear BK700; clear HB; have HO_694001 := n0_; have HO_701001 := n1_; have HO705 := n2_; have BK686 := n3_; have BK687 := n4_; have BK693 := n5_; have BK700 := n6_; have HB := n7_; have BK707 := n8_; have GW707 := n9_; have GE707 := n10_; have NB686_707 := n11_; have NB707_686 := n12_; have NB687_707 := n13_; have NB707_687 := n14_; have NB693_707 := n15_; have NB707_693 := n16_; have NB700_707 := n17_; have NB707_700 := n18_; clear n0_ n1_ n2_ n3_ n4_ n5_ n6_ n7_ n8_ n9_ n10_ n11_ n12_ n13_ n14_ n15_ n16_ n17_ n18_; clear hb hbox hg; have hnb62 := NB707_686.out; have hnc62 := NB686_707.out; have hnb63 := NB707_687.out; have hnc63 := NB687_707.out; have hnb64 := NB707_693.out; have hnc64 := NB693_707.out; have hnb65 := NB707_700.out; have hnc65 := NB700_707.out; have hcz66_0 : w61.cell? ⟨gb707, 0, none⟩ = some (.int .i64 0) := (blk_cell BK707.out 0).trans rfl; have hcz66_1 : w61.cell? ⟨gb707, 1, none⟩ = some (.slice none 0 0) := (blk_cell BK707.out 1).trans rfl; have hfz66_0 := blk_frozen BK707.out 0; have hfz66_1 := blk_frozen BK707.out 1; obtain ⟨Ao67, co67, eo67⟩ := Kd.R_slice HO705.out; subst eo67; have hnb68 := NB687_686.out; have hnc68 := NB686_687.out; have hnb69 := NB687_693.out; have hnc69 := NB693_687.out; have hcz70_0 : w61.cell? ⟨gb687, 0, none⟩ = some (.int .i64 0) := (blk_cell BK687.out 0).trans rfl; have hcz70_1 : w61.cell? ⟨gb687, 1, none⟩ = some (.slice none 0 0) := (blk_cell BK687.out 1).trans rfl; have hfz70_0 := blk_frozen BK687.out 0; have hfz70_1 := blk_frozen BK687.out 1))
        refine bodyPost_ret (results_ct rfl _ _ gb687 27 #[.int .i64 t702, .slice Ao67 t703.length co67] (0, 0) _ rfl (by (with_reducible repeat (first | refine blk_drewN ?_ _ | refine blk_drew ?_ | refine blk_alloc ?_ _)); refine blk_put (cs := #[.int .i64 t702, .slice none 0 0]) ?_ 1 _ rfl; (with_reducible repeat (first | refine blk_drewN ?_ _ | refine blk_drew ?_ | refine blk_alloc ?_ _)); refine blk_put (cs := #[.int .i64 0, .slice none 0 0]) ?_ 0 _ rfl; (with_reducible repeat (first | refine blk_drewN ?_ _ | refine blk_drew ?_ | refine blk_alloc ?_ _)); refine blk_far ?_ NB687_707.out _; (with_reducible repeat (first | refine blk_drewN ?_ _ | refine blk_drew ?_ | refine blk_alloc ?_ _)); refine blk_far ?_ NB687_707.out _; (with_reducible repeat (first | refine blk_drewN ?_ _ | refine blk_drew ?_ | refine blk_alloc ?_ _)); exact BK687.out) Try.underlying27 rfl (by kernel_rfl)) rfl ?_
        exact ⟨_, by first | rfl | (simp [errW_none, errW_some] <;> rfl) | (simp [*, errW_none, errW_some] <;> rfl), by (with_reducible repeat (first | apply Kd.R_alloc | apply Kd.R_drewN | apply Kd.R_drew)); exact Kd.R_mono (Kd.R_far (p := ⟨gb687, 1, none⟩) (Kd.R_far (p := ⟨gb687, 0, none⟩) (Kd.R_far (p := ⟨gb707, 1, none⟩) (Kd.R_far (p := ⟨gb707, 0, none⟩) (Kd.R_types (Kd.R_types HO705.out BK707.out (by decide)) BK687.out (by decide)) (fun _ hk => hk.1.2) (.int .i64 t702)) (fun _ hk => hk.1.2) (.slice Ao67 t703.length co67)) (fun _ hk => hk.2) (.int .i64 t702)) (fun _ hk => hk.2) (.slice Ao67 t703.length co67)) (fun _ hk => trivial), by repeat (first | (with_reducible first | exact HB.out | apply below_alloc | apply pw_below_drewN | apply below_drew1 | refine below_set ?_ GE686.out | refine below_set ?_ GE687.out | refine below_set ?_ GE693.out | refine below_set ?_ GE700.out | refine below_set ?_ GE707.out) | exact HB.out)⟩
 ·
  replace c3 := Bool.eq_false_iff.mpr c3
  subst c3
  have H1 : (some (0, ([] : List Int), false)) = some (r1, r2, r3) := q18_17
  clear H
  have H := H1
  clear H1
  simp only [Option.some.injEq, Prod.mk.injEq] at H
  obtain ⟨rfl, rfl, rfl⟩ := H
  go_enter Try.func43, Try.ntmps43
  go_wp2_with (first | ((with_reducible refine gate_dst (N := 1) rfl ?_); refine box_event ?hg (N := 1) ?hd (cs := #[.int .i64 a0_0, .slice A0_1 l0_1.length c0_1]) (t := 27) ?hr ?_; (case hd => rfl); (case hg => rfl); (case hr => first | (go_simp; done) | (go_simp; rfl)); intro gb686 hg w71 hbox hb; have n0_ := Aside0.mk (below_step q18_9 hb); have n1_ := Aside0.mk (hbox); have n2_ := Aside0.mk ((by rw [hg]; exact (below_size q18_9) : w.heap.size ≤ gb686)); have n3_ := Aside0.mk ((by rw [hg]; exact (below_size q18_9) : w.heap.size ≤ gb686)); clear HB; have HB := n0_; have BK686 := n1_; have GW686 := n2_; have GE686 := n3_; clear n0_ n1_ n2_ n3_; clear hb hbox hg) | ((with_reducible refine gate_dst (N := 2) rfl ?_); refine box_event ?hg (N := 2) ?hd (cs := #[.int .i64 0, .slice none 0 0]) (t := 27) ?hr ?_; (case hd => rfl); (case hg => rfl); (case hr => first | (go_simp; done) | (go_simp; rfl)); intro gb687 hg w72 hbox hb; have n0_ := Aside0.mk (blk_below (g := gb686) (o := .cells #[.int .i64 a0_0, .slice A0_1 l0_1.length c0_1] 27 (0, 0)) q18_10 hb); have n1_ := Aside0.mk (below_step q18_7 hb); have n2_ := Aside0.mk (hbox); have n3_ := Aside0.mk ((by rw [hg]; exact (below_size q18_7) : w.heap.size ≤ gb687)); have n4_ := Aside0.mk ((by rw [hg]; exact (below_size q18_7) : w.heap.size ≤ gb687)); have n5_ := Aside0.mk ((by rw [hg]; exact Nat.ne_of_lt (blk_lt (g := gb686) (o := .cells #[.int .i64 a0_0, .slice A0_1 l0_1.length c0_1] 27 (0, 0)) q18_10) : gb686 ≠ gb687)); have n6_ := Aside0.mk ((by rw [hg]; exact Nat.ne_of_gt (blk_lt (g := gb686) (o := .cells #[.int .i64 a0_0, .slice A0_1 l0_1.length c0_1] 27 (0, 0)) q18_10) : gb687 ≠ gb686)); clear BK686; clear HB; have BK686 := n0_; have HB := n1_; have BK687 := n2_; have GW687 := n3_; have GE687 := n4_; have NB686_687 := n5_; have NB687_686 := n6_; clear n0_ n1_ n2_ n3_ n4_ n5_ n6_; clear hb hbox hg; have hnb73 := NB686_687.out; have hnc73 := NB687_686.out; have hcz74_0 : w72.cell? ⟨gb686, 0, none⟩ = some (.int .i64 a0_0) := (blk_cell BK686.out 0).trans rfl; have hcz74_1 : w72.cell? ⟨gb686, 1, none⟩ = some (.slice A0_1 l0_1.length c0_1) := (blk_cell BK686.out 1).trans rfl; have hfz74_0 := blk_frozen BK686.out 0; have hfz74_1 := blk_frozen BK686.out 1) | ((with_reducible refine gate_callee (f := 41) rfl ?_); refine goesL_ (some 15) rfl rfl Try.func41 (by kernel_rfl) rfl #[.agg #[.int .i64 a0_0, .slice A0_1 l0_1.length c0_1]] rfl q18_8 ?_; (with_reducible refine (spec_Clarify.calls k a0_0 _ _ l0_1 t688 t689 false _ ?side1 ?side2 A2.out).mono ?_); (case side1 => exact q18_6); (case side2 => exact HC0_1.out); rintro e w75 ⟨v690, rfl, ho0, hb⟩; refine ⟨_, rfl, ?_⟩; have n0_ := Aside0.mk (Kd.R_lower ho0 (below_size q18_3)); have n1_ := Aside0.mk (blk_below (g := gb686) (o := .cells #[.int .i64 a0_0, .slice A0_1 l0_1.length c0_1] 27 (0, 0)) q18_10 hb); have n2_ := Aside0.mk (blk_below (g := gb687) (o := .cells #[.int .i64 0, .slice none 0 0] 27 (0, 0)) q18_11 hb); have n3_ := Aside0.mk (below_step q18_3 hb); clear BK686; clear BK687; clear HB; have HO691 := n0_; have BK686 := n1_; have BK687 := n2_; have HB := n3_; clear n0_ n1_ n2_ n3_; (try clear hb); (try clear hb2); (try clear hk); (try clear hi); (try clear ho0)) | ((with_reducible refine gate_dst (N := 4) rfl ?_); refine box_event ?hg (N := 4) ?hd (cs := #[.int .i64 0, .slice none 0 0]) (t := 27) ?hr ?_; (case hd => rfl); (case hg => rfl); (case hr => first | (go_simp; done) | (go_simp; rfl)); intro gb693 hg w76 hbox hb; have n0_ := Aside0.mk (Kd.R_below (by (with_reducible repeat (first | apply Kd.R_alloc | apply Kd.R_drewN | apply Kd.R_drew)); exact HO691.out) hb); have n1_ := Aside0.mk (blk_below (g := gb686) (o := .cells #[.int .i64 a0_0, .slice A0_1 l0_1.length c0_1] 27 (0, 0)) q18_10 hb); have n2_ := Aside0.mk (blk_below (g := gb687) (o := .cells #[.int .i64 0, .slice none 0 0] 27 (0, 0)) q18_11 hb); have n3_ := Aside0.mk (below_step q18_3 hb); have n4_ := Aside0.mk (hbox); have n5_ := Aside0.mk ((by rw [hg]; exact (below_size q18_3) : w.heap.size ≤ gb693)); have n6_ := Aside0.mk ((by rw [hg]; exact (below_size q18_3) : w.heap.size ≤ gb693)); have n7_ := Aside0.mk ((by rw [hg]; exact Nat.ne_of_lt (blk_lt (g := gb686) (o := .cells #[.int .i64 a0_0, .slice A0_1 l0_1.length c0_1] 27 (0, 0)) q18_10) : gb686 ≠ gb693)); have n8_ := Aside0.mk ((by rw [hg]; exact Nat.ne_of_gt (blk_lt (g := gb686) (o := .cells #[.int .i64 a0_0, .slice A0_1 l0_1.length c0_1] 27 (0, 0)) q18_10) : gb693 ≠ gb686)); have n9_ := Aside0.mk ((by rw [hg]; exact Nat.ne_of_lt (blk_lt (g := gb687) (o := .cells #[.int .i64 0, .slice none 0 0] 27 (0, 0)) q18_11) : gb687 ≠ gb693)); have n10_ := Aside0.mk ((by rw [hg]; exact Nat.ne_of_gt (blk_lt (g := gb687) (o := .cells #[.int .i64 0, .slice none 0 0] 27 (0, 0)) q18_11) : gb693 ≠ gb687)); clear HO691; clear BK686; clear BK687; clear HB; have HO691 := n0_; have BK686 := n1_; have BK687 := n2_; have HB := n3_; have BK693 := n4_; have GW693 := n5_; have GE693 := n6_; have NB686_693 := n7_; have NB693_686 := n8_; have NB687_693 := n9_; have NB693_687 := n10_; clear n0_ n1_ n2_ n3_ n4_ n5_ n6_ n7_ n8_ n9_ n10_; clear hb hbox hg; have hnb77 := NB693_686.out; have hnc77 := NB686_693.out; have hnb78 := NB693_687.out; have hnc78 := NB687_693.out; have hcz79_0 : w76.cell? ⟨gb693, 0, none⟩ = some (.int .i64 0) := (blk_cell BK693.out 0).trans rfl; have hcz79_1 : w76.cell? ⟨gb693, 1, none⟩ = some (.slice none 0 0) := (blk_cell BK693.out 1).trans rfl; have hfz79_0 := blk_frozen BK693.out 0; have hfz79_1 := blk_frozen BK693.out 1; obtain ⟨Ao80, co80, eo80⟩ := Kd.R_slice HO691.out; subst eo80; have hcz81_0 : w76.cell? ⟨gb687, 0, none⟩ = some (.int .i64 0) := (blk_cell BK687.out 0).trans rfl; have hcz81_1 : w76.cell? ⟨gb687, 1, none⟩ = some (.slice none 0 0) := (blk_cell BK687.out 1).trans rfl; have hfz81_0 := blk_frozen BK687.out 0; have hfz81_1 := blk_frozen BK687.out 1))
  refine bodyPost_ret (results_ct rfl _ _ gb687 27 #[.int .i64 0, .slice none 0 0] (0, 0) _ rfl (by (with_reducible repeat (first | refine blk_drewN ?_ _ | refine blk_drew ?_ | refine blk_alloc ?_ _)); refine blk_put (cs := #[.int .i64 0, .slice none 0 0]) ?_ 1 _ rfl; (with_reducible repeat (first | refine blk_drewN ?_ _ | refine blk_drew ?_ | refine blk_alloc ?_ _)); refine blk_put (cs := #[.int .i64 0, .slice none 0 0]) ?_ 0 _ rfl; (with_reducible repeat (first | refine blk_drewN ?_ _ | refine blk_drew ?_ | refine blk_alloc ?_ _)); refine blk_far ?_ NB687_693.out _; (with_reducible repeat (first | refine blk_drewN ?_ _ | refine blk_drew ?_ | refine blk_alloc ?_ _)); refine blk_far ?_ NB687_693.out _; (with_reducible repeat (first | refine blk_drewN ?_ _ | refine blk_drew ?_ | refine blk_alloc ?_ _)); exact BK687.out) Try.underlying27 rfl (by kernel_rfl)) rfl ?_
  exact ⟨_, by first | rfl | (simp [errW_none, errW_some] <;> rfl) | (simp [*, errW_none, errW_some] <;> rfl), by first | exact Kd.R_nil _ _ _ _ _ | exact Kd.N_nil _ _ _ _ _ | exact Kd.V_nil _ _ _ _ _ | exact Kd.Q_nil _ _ _ _ _ | exact Kd.S_nil _ _ _ _ _, by repeat (first | (with_reducible first | exact HB.out | apply below_alloc | apply pw_below_drewN | apply below_drew1 | refine below_set ?_ GE686.out | refine below_set ?_ GE687.out | refine below_set ?_ GE693.out) | exact HB.out)⟩
end Go.Proofs.Ytemhlblajnlogaa.Pr
