/- What the law needs of the program's functions as plain functions, of the proofs that their calls answer so, and of plain laws: gathered by a program of this place (pack.py) out of its printed texts. No condition beyond what each statement says. -/
import Derived.Test.YtemhlblajnlogaaZXReduceContext2
import Derived.Test.YtemhlblajnlogaaZXReduceContext4
import Derived.Test.YtemhlblajnlogaaZXReduceContext11
import Derived.Test.YtemhlblajnlogaaZXReduceContext13
namespace Go.Proofs.Ytemhlblajnlogaa.Pr
open Go.RowKit Go.Proofs.YtemhlblajnlogaaW.PrintWords Go.Proofs.YtemhlblajnlogaaW.PrintLast Go.Proofs.YtemhlblajnlogaaW.PrintMore
attribute [local go_sem] max2_int min2_int max_two min_two max_three min_three max_four min_four   -- for this text's walks alone
set_option linter.unusedVariables false
set_option linter.unusedSimpArgs false
theorem put23_ {P : Prop} (h : P := by simp only [Act.put, List.setIfInBounds_toArray, List.set_cons_zero, List.set_cons_succ, i64_w, i32_w]; rfl) : P := h
theorem q23_1 {P : Prop} (h : P := by repeat (first | (with_reducible first | exact HB.out | apply below_alloc | apply pw_below_drewN | apply below_drew1 | refine below_set ?_ GE622.out | refine below_set ?_ GE623.out | refine below_set ?_ GE630.out) | exact HB.out)) : P := h
theorem q23_2 {P : Prop} (h : P := by repeat (first | (with_reducible first | exact HB.out | apply below_alloc | apply pw_below_drewN | apply below_drew1 | refine below_set ?_ GE622.out | refine below_set ?_ GE623.out) | exact HB.out)) : P := h
theorem q23_3 {P : Prop} (h : P := by repeat (first | exact (Kd.C_below HR0_1.out HB.out) | (with_reducible refine Kd.C_alloc ?_ _) | (with_reducible refine Kd.C_drewN ?_ _) | (with_reducible refine Kd.C_drew ?_))) : P := h
theorem q23_4 {P : Prop} (h : P := by repeat (first | exact (Kd.R_reads' HO629.out).2.2 | (with_reducible refine Kd.C_alloc ?_ _) | (with_reducible refine Kd.C_drewN ?_ _) | (with_reducible refine Kd.C_drew ?_))) : P := h
theorem q23_5 {P : Prop} (h : P := by repeat (first | (with_reducible first | exact HB.out | apply below_alloc | apply pw_below_drewN | apply below_drew1 | refine below_set ?_ GE622.out) | exact HB.out)) : P := h
theorem q23_6 {P : Prop} (h : P := by (try simp only [List.map_toArray, List.map_cons, List.map_nil]); first | done | rfl | (simp only [List.length_drop, List.length_take]; rfl)) : P := h
theorem q23_7 {P : Prop} (h : P := by repeat (first | (with_reducible first | exact HB.out | apply below_alloc | apply pw_below_drewN | apply below_drew1) | exact HB.out)) : P := h
theorem q23_8 {P : Prop} (h : P := by (with_reducible repeat (first | refine blk_drewN ?_ _ | refine blk_drew ?_ | refine blk_alloc ?_ _)); exact BK622.out) : P := h
theorem q23_9 {P : Prop} (h : P := by (with_reducible repeat (first | refine blk_drewN ?_ _ | refine blk_drew ?_ | refine blk_alloc ?_ _)); exact BK623.out) : P := h
theorem q23_10 {P : Prop} (h : P := by (with_reducible repeat (first | refine blk_drewN ?_ _ | refine blk_drew ?_ | refine blk_alloc ?_ _)); exact BK630.out) : P := h
theorem q23_11 {P : Prop} (h : P := by (with_reducible repeat (first | apply Kd.R_alloc | apply Kd.R_drewN | apply Kd.R_drew)); exact HO629.out) : P := h
theorem q23_12 {P : Prop} (h : P := by simp only [putAll, Act.put, List.setIfInBounds_toArray, List.set_cons_zero, List.set_cons_succ]) : P := h
theorem q23_13 {P : Prop} (h : P := by kernel_rfl) : P := h
def impl_Clarify.f (k : Nat) (a0_0 : Int) (l0_1 : List Int) : Option (Int × List Int × Bool) := (impl_IsContext.f a0_0 l0_1).bind fun t624 => (if t624 = true then ((impl_repeated.f k l0_1).bind fun t625 => ((impl_without.f k a0_0 l0_1 t625 0).bind fun bt626 => ((impl_columns.f k bt626.1 bt626.2).bind fun t631 => ((impl_repeated.f k t631).bind fun t634 => ((impl_without.f k bt626.1 bt626.2 0 t634).bind fun bt635 => (some (bt635.1, bt635.2, true))))))) else (some (0, ([] : List Int), false)))
set_option maxHeartbeats 8000000 in
set_option maxRecDepth 100000 in
theorem impl_Clarify.calls (k : Nat) (a0_0 : Int) (A0_1 : Option Addr) (c0_1 : Nat) (l0_1 : List Int) (r1 : Int) (r2 : List Int) (r3 : Bool) (w : World) (hr0_1 : Kd.C (Kd.int .i64) w A0_1 l0_1.length l0_1) (hc0_1 : l0_1.length ≤ c0_1) (h : impl_Clarify.f k a0_0 l0_1 = some (r1, r2, r3)) :
  Calls Try.prog 42 #[.agg #[.int .i64 a0_0, .slice A0_1 l0_1.length c0_1]] w fun e w' => ∃ v1_ : Value, e = .returned (.tuple #[.agg #[.int .i64 r1, v1_], .bool r3]) ∧ Kd.R (Kd.int .i64) 3 w' w.heap.size (fun _ => True) v1_ r2 ∧ Below w.heap.size w w' := by
 have hu27 := Try.underlying27
 have HR0_1 := Aside0.mk hr0_1
 have HC0_1 := Aside0.mk hc0_1
 clear hr0_1 hc0_1
 have HB := Aside0.mk (Below.refl w.heap.size w)
 have H : ((impl_IsContext.f a0_0 l0_1).bind fun t624 => (if t624 = true then ((impl_repeated.f k l0_1).bind fun t625 => ((impl_without.f k a0_0 l0_1 t625 0).bind fun bt626 => ((impl_columns.f k bt626.1 bt626.2).bind fun t631 => ((impl_repeated.f k t631).bind fun t634 => ((impl_without.f k bt626.1 bt626.2 0 t634).bind fun bt635 => (some (bt635.1, bt635.2, true))))))) else (some (0, ([] : List Int), false)))) = some (r1, r2, r3) := h
 clear h
 replace H := Option.bind_eq_some_iff.mp H
 obtain ⟨t624, A20, H⟩ := H
 replace H : (if t624 = true then ((impl_repeated.f k l0_1).bind fun t625 => ((impl_without.f k a0_0 l0_1 t625 0).bind fun bt626 => ((impl_columns.f k bt626.1 bt626.2).bind fun t631 => ((impl_repeated.f k t631).bind fun t634 => ((impl_without.f k bt626.1 bt626.2 0 t634).bind fun bt635 => (some (bt635.1, bt635.2, true))))))) else (some (0, ([] : List Int), false))) = some (r1, r2, r3) := H
 have A2 := Aside0.mk A20
 clear A20
 by_cases c3 : t624 = true
 ·
  subst c3
  have H1 : ((impl_repeated.f k l0_1).bind fun t625 => ((impl_without.f k a0_0 l0_1 t625 0).bind fun bt626 => ((impl_columns.f k bt626.1 bt626.2).bind fun t631 => ((impl_repeated.f k t631).bind fun t634 => ((impl_without.f k bt626.1 bt626.2 0 t634).bind fun bt635 => (some (bt635.1, bt635.2, true))))))) = some (r1, r2, r3) := by rw [if_pos rfl] at H; exact H
  clear H
  have H := H1
  clear H1
  replace H := Option.bind_eq_some_iff.mp H
  obtain ⟨t625, A40, H⟩ := H
  replace H : ((impl_without.f k a0_0 l0_1 t625 0).bind fun bt626 => ((impl_columns.f k bt626.1 bt626.2).bind fun t631 => ((impl_repeated.f k t631).bind fun t634 => ((impl_without.f k bt626.1 bt626.2 0 t634).bind fun bt635 => (some (bt635.1, bt635.2, true)))))) = some (r1, r2, r3) := H
  have A4 := Aside0.mk A40
  clear A40
  replace H := Option.bind_eq_some_iff.mp H
  obtain ⟨⟨t626, t627⟩, A50, H⟩ := H
  replace H : ((impl_columns.f k t626 t627).bind fun t631 => ((impl_repeated.f k t631).bind fun t634 => ((impl_without.f k t626 t627 0 t634).bind fun bt635 => (some (bt635.1, bt635.2, true))))) = some (r1, r2, r3) := H
  have A5 := Aside0.mk A50
  clear A50
  replace H := Option.bind_eq_some_iff.mp H
  obtain ⟨t631, A60, H⟩ := H
  replace H : ((impl_repeated.f k t631).bind fun t634 => ((impl_without.f k t626 t627 0 t634).bind fun bt635 => (some (bt635.1, bt635.2, true)))) = some (r1, r2, r3) := H
  have A6 := Aside0.mk A60
  clear A60
  replace H := Option.bind_eq_some_iff.mp H
  obtain ⟨t634, A70, H⟩ := H
  replace H : ((impl_without.f k t626 t627 0 t634).bind fun bt635 => (some (bt635.1, bt635.2, true))) = some (r1, r2, r3) := H
  have A7 := Aside0.mk A70
  clear A70
  replace H := Option.bind_eq_some_iff.mp H
  obtain ⟨⟨t635, t636⟩, A80, H⟩ := H
  replace H : (some (t635, t636, true)) = some (r1, r2, r3) := H
  have A8 := Aside0.mk A80
  clear A80
  simp only [Option.some.injEq, Prod.mk.injEq] at H
  obtain ⟨rfl, rfl, rfl⟩ := H
  go_enter Try.func42, Try.ntmps42
  try go_wp2_with (first | ((with_reducible refine gate_dst (N := 1) rfl ?_); refine box_event ?hg (N := 1) ?hd (cs := #[.int .i64 a0_0, .slice A0_1 l0_1.length c0_1]) (t := 27) ?hr ?_; (case hd => rfl); (case hg => rfl); (case hr => first | (go_simp; done) | (go_simp; rfl)); intro gb622 hg w9 hbox hb; have n0_ := Aside0.mk (below_step q23_7 hb); have n1_ := Aside0.mk (hbox); have n2_ := Aside0.mk ((by rw [hg]; exact (below_size q23_7) : w.heap.size ≤ gb622)); have n3_ := Aside0.mk ((by rw [hg]; exact (below_size q23_7) : w.heap.size ≤ gb622)); clear HB; have HB := n0_; have BK622 := n1_; have GW622 := n2_; have GE622 := n3_; clear n0_ n1_ n2_ n3_; clear hb hbox hg) | ((with_reducible refine gate_dst (N := 2) rfl ?_); refine box_event ?hg (N := 2) ?hd (cs := #[.int .i64 0, .slice none 0 0]) (t := 27) ?hr ?_; (case hd => rfl); (case hg => rfl); (case hr => first | (go_simp; done) | (go_simp; rfl)); intro gb623 hg w10 hbox hb; have n0_ := Aside0.mk (blk_below (g := gb622) (o := .cells #[.int .i64 a0_0, .slice A0_1 l0_1.length c0_1] 27 (0, 0)) q23_8 hb); have n1_ := Aside0.mk (below_step q23_5 hb); have n2_ := Aside0.mk (hbox); have n3_ := Aside0.mk ((by rw [hg]; exact (below_size q23_5) : w.heap.size ≤ gb623)); have n4_ := Aside0.mk ((by rw [hg]; exact (below_size q23_5) : w.heap.size ≤ gb623)); have n5_ := Aside0.mk ((by rw [hg]; exact Nat.ne_of_lt (blk_lt (g := gb622) (o := .cells #[.int .i64 a0_0, .slice A0_1 l0_1.length c0_1] 27 (0, 0)) q23_8) : gb622 ≠ gb623)); have n6_ := Aside0.mk ((by rw [hg]; exact Nat.ne_of_gt (blk_lt (g := gb622) (o := .cells #[.int .i64 a0_0, .slice A0_1 l0_1.length c0_1] 27 (0, 0)) q23_8) : gb623 ≠ gb622)); clear BK622; clear HB; have BK622 := n0_; have HB := n1_; have BK623 := n2_; have GW623 := n3_; have GE623 := n4_; have NB622_623 := n5_; have NB623_622 := n6_; clear n0_ n1_ n2_ n3_ n4_ n5_ n6_; clear hb hbox hg; have hnb11 := NB622_623.out; have hnc11 := NB623_622.out; have hcz12_0 : w10.cell? ⟨gb622, 0, none⟩ = some (.int .i64 a0_0) := (blk_cell BK622.out 0).trans rfl; have hcz12_1 : w10.cell? ⟨gb622, 1, none⟩ = some (.slice A0_1 l0_1.length c0_1) := (blk_cell BK622.out 1).trans rfl; have hfz12_0 := blk_frozen BK622.out 0; have hfz12_1 := blk_frozen BK622.out 1) | ((with_reducible refine gate_callee (f := 78) rfl ?_); refine goesL_ (some 6) rfl rfl Try.func78 q23_13 rfl #[.agg #[.int .i64 a0_0, .slice A0_1 l0_1.length c0_1]] rfl q23_6 ?_; (with_reducible refine (impl_IsContext.calls a0_0 _ _ l0_1 true _ ?side1 ?side2 A2.out).mono ?_); (case side1 => exact q23_3); (case side2 => exact HC0_1.out); rintro e w13 ⟨rfl, hb⟩; refine ⟨_, rfl, ?_⟩; have n0_ := Aside0.mk (blk_below (g := gb622) (o := .cells #[.int .i64 a0_0, .slice A0_1 l0_1.length c0_1] 27 (0, 0)) q23_8 hb); have n1_ := Aside0.mk (blk_below (g := gb623) (o := .cells #[.int .i64 0, .slice none 0 0] 27 (0, 0)) q23_9 hb); have n2_ := Aside0.mk (below_step q23_2 hb); clear BK622; clear BK623; clear HB; have BK622 := n0_; have BK623 := n1_; have HB := n2_; clear n0_ n1_ n2_; (try clear hb); (try clear hb2); (try clear hk); (try clear hi)))
  have n0_ := Aside0.mk (blk_drew BK622.out)
  have n1_ := Aside0.mk (blk_drew BK623.out)
  have n2_ := Aside0.mk (below_drew1 HB.out)
  clear BK622
  clear BK623
  clear HB
  have BK622 := n0_
  have BK623 := n1_
  have HB := n2_
  clear n0_ n1_ n2_
  refine start_ (n := 7) (S := fun w' => w'.cell? ⟨gb622, 0, none⟩ = some (.int .i64 a0_0) ∧ w'.cell? ⟨gb622, 1, none⟩ = some (.slice A0_1 l0_1.length c0_1)) (ds := []) #[false, false, false, false, false, false, false] q23_13 rfl rfl ⟨(blk_cell BK622.out 0).trans rfl, (blk_cell BK622.out 1).trans rfl⟩ (fun hHeld => ?_)
  generalize w13.drew = w14 at BK622 BK623 HB hHeld ⊢
  refine pure_ (i := 1) (N := some 10) (v := ?_) (a' := ?_) #[false, true, false, false, false, false, false] rfl rfl q23_13 (fun _ _ _ h => h) (Or.inl ⟨by rfl, ?_⟩) ?_ ?_
  rotate_left
  ·
   intro w'
   go_simp
   with_reducible rfl
  rotate_left
  ·
   exact put23_
  refine take_ (i := 0) (N := some 9) (v := ?_) (a' := ?_) #[true, true, false, false, false, false, false] rfl rfl q23_13 (fun _ _ _ h => h) (Or.inl ⟨by rfl, ?_⟩) hHeld ?_ ?_
  rotate_left
  ·
   rintro w' ⟨s0, s1⟩
   go_simp
   with_reducible rfl
  rotate_left
  ·
   exact put23_
  refine take_ (i := 2) (N := some 11) (v := ?_) (a' := ?_) #[true, true, true, false, false, false, false] rfl rfl q23_13 (fun _ _ _ h => h) (Or.inl ⟨by rfl, ?_⟩) hHeld ?_ ?_
  rotate_left
  ·
   rintro w' ⟨s0, s1⟩
   go_simp
   with_reducible rfl
  rotate_left
  ·
   exact put23_
  refine join_ (σ := Value × Nat) 1 #[true, true, true, true, true, true, false] (fun s_ => [(12, .int .i64 t625), (13, .agg #[.int .i64 t626, s_.1]), (4, .pointer (some ⟨s_.2, 0, none⟩))]) (fun s_ w' => (w'.cell? ⟨gb622, 0, none⟩ = some (.int .i64 a0_0) ∧ w'.cell? ⟨gb622, 1, none⟩ = some (.slice A0_1 l0_1.length c0_1)) ∧ (Kd.R (Kd.int .i64) 3 w' w.heap.size (fun _ => True) s_.1 t627) ∧ (w'.heap[gb622]? = some (.cells #[.int .i64 a0_0, .slice A0_1 l0_1.length c0_1] 27 (0, 0))) ∧ (w'.heap[gb623]? = some (.cells #[.int .i64 0, .slice none 0 0] 27 (0, 0))) ∧ (w'.heap[s_.2]? = some (.cells #[.int .i64 0, .slice none 0 0] 27 (0, 0))) ∧ (w.heap.size ≤ s_.2) ∧ (w.heap.size ≤ s_.2) ∧ (gb622 ≠ s_.2) ∧ (s_.2 ≠ gb622) ∧ (gb623 ≠ s_.2) ∧ (s_.2 ≠ gb623) ∧ (Below w.heap.size w w')) ?_ ?_
  rotate_left
  ·
   intro hCont
   refine two_ (i := 3) (j := 5) (Ni := some 12) (Nj := some 4) #[true, true, true, true, false, false, false] #[true, true, true, false, false, true, false] rfl rfl rfl rfl q23_13 (by decide) (by decide) (fun K hK => ?_) (fun K hK => ?_)
   ·
    skip
    refine goes_ Try.func79 q23_13 rfl #[.slice A0_1 l0_1.length c0_1] (by rfl) rfl rfl q23_6 ?_
    with_reducible refine (impl_repeated.calls k _ _ l0_1 t625 _ ?side1 ?side2 A4.out).mono ?_
    (case side1 => exact q23_3)
    (case side2 => exact HC0_1.out)
    rintro e w' ⟨rfl, ⟨nd, rfl⟩⟩
    refine ⟨_, rfl, ?_⟩
    refine hK.out _ _ ⟨(blk_cell BK622.out 0).trans rfl, (blk_cell BK622.out 1).trans rfl⟩ (fun hHeld => ?_)
    clear hK K
    refine norm_ (a' := ?_) ?_ ?_
    rotate_left
    ·
     show Act.put _ (some 12) _ = _
     exact put23_
    refine two_ (i := 4) (j := 5) (Ni := some 13) (Nj := some 4) #[true, true, true, true, true, false, false] #[true, true, true, true, false, true, false] rfl rfl rfl rfl q23_13 (by decide) (by decide) (fun K hK => ?_) (fun K hK => ?_)
    ·
     skip
     refine goes_ Try.func72 q23_13 rfl #[.agg #[.int .i64 a0_0, .slice A0_1 l0_1.length c0_1], .int .i64 t625, .int .i64 0] (by rfl) rfl rfl q23_6 ?_
     with_reducible refine (impl_without.calls k a0_0 _ _ l0_1 t625 0 t626 t627 _ ?side1 ?side2 A5.out).mono ?_
     (case side1 => repeat (first | exact (Kd.C_below HR0_1.out q23_2) | (with_reducible refine Kd.C_alloc ?_ _) | (with_reducible refine Kd.C_drewN ?_ _) | (with_reducible refine Kd.C_drew ?_)))
     (case side2 => exact HC0_1.out)
     rintro e w15 ⟨v628, rfl, ho0, hb⟩
     refine ⟨_, rfl, ?_⟩
     have n0_ := Aside0.mk (Kd.R_lower ho0 (below_size q23_2))
     have n1_ := Aside0.mk (blk_below (g := gb622) (o := .cells #[.int .i64 a0_0, .slice A0_1 l0_1.length c0_1] 27 (0, 0)) q23_8 hb)
     have n2_ := Aside0.mk (blk_below (g := gb623) (o := .cells #[.int .i64 0, .slice none 0 0] 27 (0, 0)) q23_9 hb)
     have n3_ := Aside0.mk (below_step q23_2 hb)
     clear BK622
     clear BK623
     clear HB
     have HO629 := n0_
     have BK622 := n1_
     have BK623 := n2_
     have HB := n3_
     clear n0_ n1_ n2_ n3_
     (try clear hb)
     (try clear hb2)
     (try clear hk)
     (try clear hi)
     (try clear ho0)
     refine hK.out _ _ ⟨(blk_cell BK622.out 0).trans rfl, (blk_cell BK622.out 1).trans rfl⟩ (fun hHeld => ?_)
     clear hK K
     refine norm_ (a' := ?_) ?_ ?_
     rotate_left
     ·
      show Act.put _ (some 13) _ = _
      exact put23_
     refine one_ (i := 5) (N := some 4) #[true, true, true, true, true, true, false] rfl rfl q23_13 (by decide) (fun K hK => ?_)
     refine box_step ?hg (N := 4) ?hd (cs := #[.int .i64 0, .slice none 0 0]) (t := 27) ?hr ?_; (case hd => rfl); (case hg => rfl); (case hr => first | (go_simp; done) | (go_simp; rfl))
     intro gb630 hg w16 hbox hb
     have n0_ := Aside0.mk (Kd.R_below q23_11 hb)
     have n1_ := Aside0.mk (blk_below (g := gb622) (o := .cells #[.int .i64 a0_0, .slice A0_1 l0_1.length c0_1] 27 (0, 0)) q23_8 hb)
     have n2_ := Aside0.mk (blk_below (g := gb623) (o := .cells #[.int .i64 0, .slice none 0 0] 27 (0, 0)) q23_9 hb)
     have n3_ := Aside0.mk (below_step q23_2 hb)
     have n4_ := Aside0.mk (hbox)
     have n5_ := Aside0.mk ((by rw [hg]; exact (below_size q23_2) : w.heap.size ≤ gb630))
     have n6_ := Aside0.mk ((by rw [hg]; exact (below_size q23_2) : w.heap.size ≤ gb630))
     have n7_ := Aside0.mk ((by rw [hg]; exact Nat.ne_of_lt (blk_lt (g := gb622) (o := .cells #[.int .i64 a0_0, .slice A0_1 l0_1.length c0_1] 27 (0, 0)) q23_8) : gb622 ≠ gb630))
     have n8_ := Aside0.mk ((by rw [hg]; exact Nat.ne_of_gt (blk_lt (g := gb622) (o := .cells #[.int .i64 a0_0, .slice A0_1 l0_1.length c0_1] 27 (0, 0)) q23_8) : gb630 ≠ gb622))
     have n9_ := Aside0.mk ((by rw [hg]; exact Nat.ne_of_lt (blk_lt (g := gb623) (o := .cells #[.int .i64 0, .slice none 0 0] 27 (0, 0)) q23_9) : gb623 ≠ gb630))
     have n10_ := Aside0.mk ((by rw [hg]; exact Nat.ne_of_gt (blk_lt (g := gb623) (o := .cells #[.int .i64 0, .slice none 0 0] 27 (0, 0)) q23_9) : gb630 ≠ gb623))
     clear HO629
     clear BK622
     clear BK623
     clear HB
     have HO629 := n0_
     have BK622 := n1_
     have BK623 := n2_
     have HB := n3_
     have BK630 := n4_
     have GW630 := n5_
     have GE630 := n6_
     have NB622_630 := n7_
     have NB630_622 := n8_
     have NB623_630 := n9_
     have NB630_623 := n10_
     clear n0_ n1_ n2_ n3_ n4_ n5_ n6_ n7_ n8_ n9_ n10_
     clear hb hbox hg
     refine hK.out _ _ ⟨(blk_cell BK622.out 0).trans rfl, (blk_cell BK622.out 1).trans rfl⟩ (fun hHeld => ?_)
     clear hK K
     refine norm_ (a' := ?_) ?_ ?_
     rotate_left
     ·
      show Act.put _ (some 4) _ = _
      exact put23_
     exact norm_ q23_12 (hCont (v628, gb630) _ ⟨hHeld, q23_11, q23_8, q23_9, q23_10, GW630.out, GE630.out, NB622_630.out, NB630_622.out, NB623_630.out, NB630_623.out, q23_1⟩)
    ·
     skip
     refine box_step ?hg (N := 4) ?hd (cs := #[.int .i64 0, .slice none 0 0]) (t := 27) ?hr ?_; (case hd => rfl); (case hg => rfl); (case hr => first | (go_simp; done) | (go_simp; rfl))
     intro gb630 hg w15 hbox hb
     have n0_ := Aside0.mk (blk_below (g := gb622) (o := .cells #[.int .i64 a0_0, .slice A0_1 l0_1.length c0_1] 27 (0, 0)) q23_8 hb)
     have n1_ := Aside0.mk (blk_below (g := gb623) (o := .cells #[.int .i64 0, .slice none 0 0] 27 (0, 0)) q23_9 hb)
     have n2_ := Aside0.mk (below_step q23_2 hb)
     have n3_ := Aside0.mk (hbox)
     have n4_ := Aside0.mk ((by rw [hg]; exact (below_size q23_2) : w.heap.size ≤ gb630))
     have n5_ := Aside0.mk ((by rw [hg]; exact (below_size q23_2) : w.heap.size ≤ gb630))
     have n6_ := Aside0.mk ((by rw [hg]; exact Nat.ne_of_lt (blk_lt (g := gb622) (o := .cells #[.int .i64 a0_0, .slice A0_1 l0_1.length c0_1] 27 (0, 0)) q23_8) : gb622 ≠ gb630))
     have n7_ := Aside0.mk ((by rw [hg]; exact Nat.ne_of_gt (blk_lt (g := gb622) (o := .cells #[.int .i64 a0_0, .slice A0_1 l0_1.length c0_1] 27 (0, 0)) q23_8) : gb630 ≠ gb622))
     have n8_ := Aside0.mk ((by rw [hg]; exact Nat.ne_of_lt (blk_lt (g := gb623) (o := .cells #[.int .i64 0, .slice none 0 0] 27 (0, 0)) q23_9) : gb623 ≠ gb630))
     have n9_ := Aside0.mk ((by rw [hg]; exact Nat.ne_of_gt (blk_lt (g := gb623) (o := .cells #[.int .i64 0, .slice none 0 0] 27 (0, 0)) q23_9) : gb630 ≠ gb623))
     clear BK622
     clear BK623
     clear HB
     have BK622 := n0_
     have BK623 := n1_
     have HB := n2_
     have BK630 := n3_
     have GW630 := n4_
     have GE630 := n5_
     have NB622_630 := n6_
     have NB630_622 := n7_
     have NB623_630 := n8_
     have NB630_623 := n9_
     clear n0_ n1_ n2_ n3_ n4_ n5_ n6_ n7_ n8_ n9_
     clear hb hbox hg
     refine hK.out _ _ ⟨(blk_cell BK622.out 0).trans rfl, (blk_cell BK622.out 1).trans rfl⟩ (fun hHeld => ?_)
     clear hK K
     refine norm_ (a' := ?_) ?_ ?_
     rotate_left
     ·
      show Act.put _ (some 4) _ = _
      exact put23_
     refine one_ (i := 4) (N := some 13) #[true, true, true, true, true, true, false] rfl rfl q23_13 (by decide) (fun K hK => ?_)
     refine goes_ Try.func72 q23_13 rfl #[.agg #[.int .i64 a0_0, .slice A0_1 l0_1.length c0_1], .int .i64 t625, .int .i64 0] (by rfl) rfl rfl q23_6 ?_
     with_reducible refine (impl_without.calls k a0_0 _ _ l0_1 t625 0 t626 t627 _ ?side1 ?side2 A5.out).mono ?_
     (case side1 => exact q23_3)
     (case side2 => exact HC0_1.out)
     rintro e w16 ⟨v628, rfl, ho0, hb⟩
     refine ⟨_, rfl, ?_⟩
     have n0_ := Aside0.mk (Kd.R_lower ho0 (below_size q23_1))
     have n1_ := Aside0.mk (blk_below (g := gb622) (o := .cells #[.int .i64 a0_0, .slice A0_1 l0_1.length c0_1] 27 (0, 0)) q23_8 hb)
     have n2_ := Aside0.mk (blk_below (g := gb623) (o := .cells #[.int .i64 0, .slice none 0 0] 27 (0, 0)) q23_9 hb)
     have n3_ := Aside0.mk (blk_below (g := gb630) (o := .cells #[.int .i64 0, .slice none 0 0] 27 (0, 0)) q23_10 hb)
     have n4_ := Aside0.mk (below_step q23_1 hb)
     clear BK622
     clear BK623
     clear BK630
     clear HB
     have HO629 := n0_
     have BK622 := n1_
     have BK623 := n2_
     have BK630 := n3_
     have HB := n4_
     clear n0_ n1_ n2_ n3_ n4_
     (try clear hb)
     (try clear hb2)
     (try clear hk)
     (try clear hi)
     (try clear ho0)
     refine hK.out _ _ ⟨(blk_cell BK622.out 0).trans rfl, (blk_cell BK622.out 1).trans rfl⟩ (fun hHeld => ?_)
     clear hK K
     refine norm_ (a' := ?_) ?_ ?_
     rotate_left
     ·
      show Act.put _ (some 13) _ = _
      exact put23_
     exact norm_ q23_12 (hCont (v628, gb630) _ ⟨hHeld, q23_11, q23_8, q23_9, q23_10, GW630.out, GE630.out, NB622_630.out, NB630_622.out, NB623_630.out, NB630_623.out, q23_1⟩)
   ·
    skip
    refine box_step ?hg (N := 4) ?hd (cs := #[.int .i64 0, .slice none 0 0]) (t := 27) ?hr ?_; (case hd => rfl); (case hg => rfl); (case hr => first | (go_simp; done) | (go_simp; rfl))
    intro gb630 hg w15 hbox hb
    have n0_ := Aside0.mk (blk_below (g := gb622) (o := .cells #[.int .i64 a0_0, .slice A0_1 l0_1.length c0_1] 27 (0, 0)) q23_8 hb)
    have n1_ := Aside0.mk (blk_below (g := gb623) (o := .cells #[.int .i64 0, .slice none 0 0] 27 (0, 0)) q23_9 hb)
    have n2_ := Aside0.mk (below_step q23_2 hb)
    have n3_ := Aside0.mk (hbox)
    have n4_ := Aside0.mk ((by rw [hg]; exact (below_size q23_2) : w.heap.size ≤ gb630))
    have n5_ := Aside0.mk ((by rw [hg]; exact (below_size q23_2) : w.heap.size ≤ gb630))
    have n6_ := Aside0.mk ((by rw [hg]; exact Nat.ne_of_lt (blk_lt (g := gb622) (o := .cells #[.int .i64 a0_0, .slice A0_1 l0_1.length c0_1] 27 (0, 0)) q23_8) : gb622 ≠ gb630))
    have n7_ := Aside0.mk ((by rw [hg]; exact Nat.ne_of_gt (blk_lt (g := gb622) (o := .cells #[.int .i64 a0_0, .slice A0_1 l0_1.length c0_1] 27 (0, 0)) q23_8) : gb630 ≠ gb622))
    have n8_ := Aside0.mk ((by rw [hg]; exact Nat.ne_of_lt (blk_lt (g := gb623) (o := .cells #[.int .i64 0, .slice none 0 0] 27 (0, 0)) q23_9) : gb623 ≠ gb630))
    have n9_ := Aside0.mk ((by rw [hg]; exact Nat.ne_of_gt (blk_lt (g := gb623) (o := .cells #[.int .i64 0, .slice none 0 0] 27 (0, 0)) q23_9) : gb630 ≠ gb623))
    clear BK622
    clear BK623
    clear HB
    have BK622 := n0_
    have BK623 := n1_
    have HB := n2_
    have BK630 := n3_
    have GW630 := n4_
    have GE630 := n5_
    have NB622_630 := n6_
    have NB630_622 := n7_
    have NB623_630 := n8_
    have NB630_623 := n9_
    clear n0_ n1_ n2_ n3_ n4_ n5_ n6_ n7_ n8_ n9_
    clear hb hbox hg
    refine hK.out _ _ ⟨(blk_cell BK622.out 0).trans rfl, (blk_cell BK622.out 1).trans rfl⟩ (fun hHeld => ?_)
    clear hK K
    refine norm_ (a' := ?_) ?_ ?_
    rotate_left
    ·
     show Act.put _ (some 4) _ = _
     exact put23_
    refine one_ (i := 3) (N := some 12) #[true, true, true, true, false, true, false] rfl rfl q23_13 (by decide) (fun K hK => ?_)
    refine goes_ Try.func79 q23_13 rfl #[.slice A0_1 l0_1.length c0_1] (by rfl) rfl rfl q23_6 ?_
    with_reducible refine (impl_repeated.calls k _ _ l0_1 t625 _ ?side1 ?side2 A4.out).mono ?_
    (case side1 => exact q23_3)
    (case side2 => exact HC0_1.out)
    rintro e w' ⟨rfl, ⟨nd, rfl⟩⟩
    refine ⟨_, rfl, ?_⟩
    refine hK.out _ _ ⟨(blk_cell BK622.out 0).trans rfl, (blk_cell BK622.out 1).trans rfl⟩ (fun hHeld => ?_)
    clear hK K
    refine norm_ (a' := ?_) ?_ ?_
    rotate_left
    ·
     show Act.put _ (some 12) _ = _
     exact put23_
    refine one_ (i := 4) (N := some 13) #[true, true, true, true, true, true, false] rfl rfl q23_13 (by decide) (fun K hK => ?_)
    refine goes_ Try.func72 q23_13 rfl #[.agg #[.int .i64 a0_0, .slice A0_1 l0_1.length c0_1], .int .i64 t625, .int .i64 0] (by rfl) rfl rfl q23_6 ?_
    with_reducible refine (impl_without.calls k a0_0 _ _ l0_1 t625 0 t626 t627 _ ?side1 ?side2 A5.out).mono ?_
    (case side1 => repeat (first | exact (Kd.C_below HR0_1.out q23_1) | (with_reducible refine Kd.C_alloc ?_ _) | (with_reducible refine Kd.C_drewN ?_ _) | (with_reducible refine Kd.C_drew ?_)))
    (case side2 => exact HC0_1.out)
    rintro e w16 ⟨v628, rfl, ho0, hb⟩
    refine ⟨_, rfl, ?_⟩
    have n0_ := Aside0.mk (Kd.R_lower ho0 (below_size q23_1))
    have n1_ := Aside0.mk (blk_below (g := gb622) (o := .cells #[.int .i64 a0_0, .slice A0_1 l0_1.length c0_1] 27 (0, 0)) q23_8 hb)
    have n2_ := Aside0.mk (blk_below (g := gb623) (o := .cells #[.int .i64 0, .slice none 0 0] 27 (0, 0)) q23_9 hb)
    have n3_ := Aside0.mk (blk_below (g := gb630) (o := .cells #[.int .i64 0, .slice none 0 0] 27 (0, 0)) q23_10 hb)
    have n4_ := Aside0.mk (below_step q23_1 hb)
    clear BK622
    clear BK623
    clear BK630
    clear HB
    have HO629 := n0_
    have BK622 := n1_
    have BK623 := n2_
    have BK630 := n3_
    have HB := n4_
    clear n0_ n1_ n2_ n3_ n4_
    (try clear hb)
    (try clear hb2)
    (try clear hk)
    (try clear hi)
    (try clear ho0)
    refine hK.out _ _ ⟨(blk_cell BK622.out 0).trans rfl, (blk_cell BK622.out 1).trans rfl⟩ (fun hHeld => ?_)
    clear hK K
    refine norm_ (a' := ?_) ?_ ?_
    rotate_left
    ·
     show Act.put _ (some 13) _ = _
     exact put23_
    exact norm_ q23_12 (hCont (v628, gb630) _ ⟨hHeld, q23_11, q23_8, q23_9, q23_10, GW630.out, GE630.out, NB622_630.out, NB630_622.out, NB623_630.out, NB630_623.out, q23_1⟩)
  rintro ⟨v628, gb630⟩ w17 ⟨hS_, h0_, h1_, h2_, h3_, h4_, h5_, h6_, h7_, h8_, h9_, h10_⟩
  have n0_ : Aside0 (Kd.R (Kd.int .i64) 3 w17 w.heap.size (fun _ => True) v628 t627) := ⟨h0_⟩
  have n1_ : Aside0 (w17.heap[gb622]? = some (.cells #[.int .i64 a0_0, .slice A0_1 l0_1.length c0_1] 27 (0, 0))) := ⟨h1_⟩
  have n2_ : Aside0 (w17.heap[gb623]? = some (.cells #[.int .i64 0, .slice none 0 0] 27 (0, 0))) := ⟨h2_⟩
  have n3_ : Aside0 (w17.heap[gb630]? = some (.cells #[.int .i64 0, .slice none 0 0] 27 (0, 0))) := ⟨h3_⟩
  have n4_ : Aside0 (w.heap.size ≤ gb630) := ⟨h4_⟩
  have n5_ : Aside0 (w.heap.size ≤ gb630) := ⟨h5_⟩
  have n6_ : Aside0 (gb622 ≠ gb630) := ⟨h6_⟩
  have n7_ : Aside0 (gb630 ≠ gb622) := ⟨h7_⟩
  have n8_ : Aside0 (gb623 ≠ gb630) := ⟨h8_⟩
  have n9_ : Aside0 (gb630 ≠ gb623) := ⟨h9_⟩
  have n10_ : Aside0 (Below w.heap.size w w17) := ⟨h10_⟩
  clear BK622
  clear BK623
  clear HB
  clear h0_ h1_ h2_ h3_ h4_ h5_ h6_ h7_ h8_ h9_ h10_
  have HO629 := n0_
  have BK622 := n1_
  have BK623 := n2_
  have BK630 := n3_
  have GW630 := n4_
  have GE630 := n5_
  have NB622_630 := n6_
  have NB630_622 := n7_
  have NB623_630 := n8_
  have NB630_623 := n9_
  have HB := n10_
  clear n0_ n1_ n2_ n3_ n4_ n5_ n6_ n7_ n8_ n9_ n10_
  have hHeld : w17.cell? ⟨gb622, 0, none⟩ = some (.int .i64 a0_0) ∧ w17.cell? ⟨gb622, 1, none⟩ = some (.slice A0_1 l0_1.length c0_1) := hS_
  obtain ⟨Ao19, co19, eo19⟩ := Kd.R_slice HO629.out
  (first | subst eo19 | (injection eo19 with f1_ f2_ f3_; have f4_ := f1_.symm; have f5_ := f3_.symm; clear f1_ f2_ f3_; subst f4_; subst f5_))
  refine norm_ (a' := ?_) ?_ ?_
  rotate_left
  ·
   simp only [putAll, Act.put, List.setIfInBounds_toArray, List.set_cons_zero, List.set_cons_succ]
   rfl
  refine one_ (i := 6) (N := none) #[true, true, true, true, true, true, true] rfl rfl q23_13 (by decide) (fun K hK => ?_)
  have hs18 : w17.cell? ⟨gb630, 0, none⟩ = some (.int .i64 0) := (blk_cell BK630.out 0).trans rfl
  have hfs18 := blk_frozen BK630.out 0
  have hns18_0 := NB622_630.out
  have hns18_1 := NB623_630.out
  have hms18_0 := NB630_622.out
  have hms18_1 := NB630_623.out
  have hs20 : w17.cell? ⟨gb630, 1, none⟩ = some (.slice none 0 0) := (blk_cell BK630.out 1).trans rfl
  have hfs20 := blk_frozen BK630.out 1
  have hns20_0 := NB622_630.out
  have hns20_1 := NB623_630.out
  have hms20_0 := NB630_622.out
  have hms20_1 := NB630_623.out
  refine skip_ (w1 := ?_) (by rfl) rfl ?_ ?_
  rotate_left
  ·
   go_simp
   rfl
  refine hK.out _ _ ⟨((cell_far (p := ⟨gb630, _, none⟩) NB622_630.out _).trans (((cell_far (p := ⟨gb630, _, none⟩) NB622_630.out _).trans (hHeld.1)))), ((cell_far (p := ⟨gb630, _, none⟩) NB622_630.out _).trans (((cell_far (p := ⟨gb630, _, none⟩) NB622_630.out _).trans (hHeld.2))))⟩ (fun hHeld => ?_)
  clear hK K
  refine done_ q23_13 ?_
  try go_wp2
  have n0_ : Aside0 (Kd.R (Kd.int .i64) 3 ((w17.setCell ⟨gb630, 0, none⟩ (.int .i64 t626)).setCell ⟨gb630, 1, none⟩ (.slice Ao19 t627.length co19)) w.heap.size (fun _ => True) (.slice Ao19 t627.length co19) t627) := ⟨by (with_reducible repeat (first | apply Kd.R_alloc | apply Kd.R_drewN | apply Kd.R_drew)); exact Kd.R_mono (Kd.R_far (p := ⟨gb630, 1, none⟩) (Kd.R_far (p := ⟨gb630, 0, none⟩) (Kd.R_types HO629.out BK630.out (by decide)) (fun _ hk => hk.2) (.int .i64 t626)) (fun _ hk => hk.2) (.slice Ao19 t627.length co19)) (fun _ hk => trivial)⟩
  have n1_ : Aside0 (((w17.setCell ⟨gb630, 0, none⟩ (.int .i64 t626)).setCell ⟨gb630, 1, none⟩ (.slice Ao19 t627.length co19)).heap[gb622]? = some (.cells #[.int .i64 a0_0, .slice A0_1 l0_1.length c0_1] 27 (0, 0))) := ⟨by (with_reducible repeat (first | refine blk_drewN ?_ _ | refine blk_drew ?_ | refine blk_alloc ?_ _)); refine blk_far ?_ NB622_630.out _; (with_reducible repeat (first | refine blk_drewN ?_ _ | refine blk_drew ?_ | refine blk_alloc ?_ _)); refine blk_far ?_ NB622_630.out _; (with_reducible repeat (first | refine blk_drewN ?_ _ | refine blk_drew ?_ | refine blk_alloc ?_ _)); exact BK622.out⟩
  have n2_ : Aside0 (((w17.setCell ⟨gb630, 0, none⟩ (.int .i64 t626)).setCell ⟨gb630, 1, none⟩ (.slice Ao19 t627.length co19)).heap[gb623]? = some (.cells #[.int .i64 0, .slice none 0 0] 27 (0, 0))) := ⟨by (with_reducible repeat (first | refine blk_drewN ?_ _ | refine blk_drew ?_ | refine blk_alloc ?_ _)); refine blk_far ?_ NB623_630.out _; (with_reducible repeat (first | refine blk_drewN ?_ _ | refine blk_drew ?_ | refine blk_alloc ?_ _)); refine blk_far ?_ NB623_630.out _; (with_reducible repeat (first | refine blk_drewN ?_ _ | refine blk_drew ?_ | refine blk_alloc ?_ _)); exact BK623.out⟩
  have n3_ : Aside0 (((w17.setCell ⟨gb630, 0, none⟩ (.int .i64 t626)).setCell ⟨gb630, 1, none⟩ (.slice Ao19 t627.length co19)).heap[gb630]? = some (.cells #[.int .i64 t626, .slice Ao19 t627.length co19] 27 (0, 0))) := ⟨by (with_reducible repeat (first | refine blk_drewN ?_ _ | refine blk_drew ?_ | refine blk_alloc ?_ _)); refine blk_put (cs := #[.int .i64 t626, .slice none 0 0]) ?_ 1 _ rfl; (with_reducible repeat (first | refine blk_drewN ?_ _ | refine blk_drew ?_ | refine blk_alloc ?_ _)); refine blk_put (cs := #[.int .i64 0, .slice none 0 0]) ?_ 0 _ rfl; (with_reducible repeat (first | refine blk_drewN ?_ _ | refine blk_drew ?_ | refine blk_alloc ?_ _)); exact BK630.out⟩
  have n4_ : Aside0 (Below w.heap.size w ((w17.setCell ⟨gb630, 0, none⟩ (.int .i64 t626)).setCell ⟨gb630, 1, none⟩ (.slice Ao19 t627.length co19))) := ⟨by repeat (first | (with_reducible first | exact HB.out | apply below_alloc | apply pw_below_drewN | apply below_drew1 | refine below_set ?_ GE622.out | refine below_set ?_ GE623.out | refine below_set ?_ GE630.out) | exact HB.out)⟩
  (try clear HO629)
  (try clear BK622)
  (try clear BK623)
  (try clear BK630)
  (try clear HB)
  generalize ((w17.setCell ⟨gb630, 0, none⟩ (.int .i64 t626)).setCell ⟨gb630, 1, none⟩ (.slice Ao19 t627.length co19)) = w21 at n0_ n1_ n2_ n3_ n4_ ⊢
  have HO629 := n0_
  have BK622 := n1_
  have BK623 := n2_
  have BK630 := n3_
  have HB := n4_
  clear n0_ n1_ n2_ n3_ n4_
  have n0_ := Aside0.mk (Kd.R_drew HO629.out)
  have n1_ := Aside0.mk (blk_drew BK622.out)
  have n2_ := Aside0.mk (blk_drew BK623.out)
  have n3_ := Aside0.mk (blk_drew BK630.out)
  have n4_ := Aside0.mk (below_drew1 HB.out)
  clear HO629
  clear BK622
  clear BK623
  clear BK630
  clear HB
  have HO629 := n0_
  have BK622 := n1_
  have BK623 := n2_
  have BK630 := n3_
  have HB := n4_
  clear n0_ n1_ n2_ n3_ n4_
  refine start_ (n := 7) (S := fun w' => w'.cell? ⟨gb630, 0, none⟩ = some (.int .i64 t626) ∧ w'.cell? ⟨gb630, 1, none⟩ = some (.slice Ao19 t627.length co19)) (ds := []) #[false, false, false, false, false, false, false] q23_13 rfl rfl ⟨(blk_cell BK630.out 0).trans rfl, (blk_cell BK630.out 1).trans rfl⟩ (fun hHeld => ?_)
  generalize w21.drew = w22 at HO629 BK622 BK623 BK630 HB hHeld ⊢
  refine take_ (i := 0) (N := some 14) (v := ?_) (a' := ?_) #[true, false, false, false, false, false, false] rfl rfl q23_13 (fun _ _ _ h => h) (Or.inl ⟨by rfl, ?_⟩) hHeld ?_ ?_
  rotate_left
  ·
   rintro w' ⟨s0, s1⟩
   go_simp
   with_reducible rfl
  rotate_left
  ·
   exact put23_
  refine take_ (i := 1) (N := some 15) (v := ?_) (a' := ?_) #[true, true, false, false, false, false, false] rfl rfl q23_13 (fun _ _ _ h => h) (Or.inl ⟨by rfl, ?_⟩) hHeld ?_ ?_
  rotate_left
  ·
   rintro w' ⟨s0, s1⟩
   go_simp
   with_reducible rfl
  rotate_left
  ·
   exact put23_
  refine one_ (i := 2) (N := some 16) #[true, true, true, false, false, false, false] rfl rfl q23_13 (by decide) (fun K hK => ?_)
  refine goes_ Try.func57 q23_13 rfl #[.agg #[.int .i64 t626, .slice Ao19 t627.length co19]] (by rfl) rfl rfl q23_6 ?_
  with_reducible refine (impl_columns.calls k t626 _ _ t627 t631 _ ?side1 ?side2 A6.out).mono ?_
  (case side1 => exact q23_4)
  (case side2 => exact (Kd.R_reads' HO629.out).2.1)
  rintro e w23 ⟨v632, rfl, ho0, hb⟩
  refine ⟨_, rfl, ?_⟩
  have n0_ := Aside0.mk (Kd.R_elder' q23_11 (Kd.R_base ho0) hb)
  have n1_ := Aside0.mk (Kd.R_lower (Kd.R_new' ho0 (Kd.R_lt q23_11)) (below_size q23_1))
  have n2_ := Aside0.mk (blk_below (g := gb622) (o := .cells #[.int .i64 a0_0, .slice A0_1 l0_1.length c0_1] 27 (0, 0)) q23_8 hb)
  have n3_ := Aside0.mk (blk_below (g := gb623) (o := .cells #[.int .i64 0, .slice none 0 0] 27 (0, 0)) q23_9 hb)
  have n4_ := Aside0.mk (blk_below (g := gb630) (o := .cells #[.int .i64 t626, .slice Ao19 t627.length co19] 27 (0, 0)) q23_10 hb)
  have n5_ := Aside0.mk (below_step q23_1 hb)
  clear HO629
  clear BK622
  clear BK623
  clear BK630
  clear HB
  have HO629 := n0_
  have HO633 := n1_
  have BK622 := n2_
  have BK623 := n3_
  have BK630 := n4_
  have HB := n5_
  clear n0_ n1_ n2_ n3_ n4_ n5_
  (try clear hb)
  (try clear hb2)
  (try clear hk)
  (try clear hi)
  (try clear ho0)
  obtain ⟨Ao24, co24, eo24⟩ := Kd.R_slice HO633.out
  (first | subst eo24 | (injection eo24 with f1_ f2_ f3_; have f4_ := f1_.symm; have f5_ := f3_.symm; clear f1_ f2_ f3_; subst f4_; subst f5_))
  refine hK.out _ _ ⟨(blk_cell BK630.out 0).trans rfl, (blk_cell BK630.out 1).trans rfl⟩ (fun hHeld => ?_)
  clear hK K
  refine norm_ (a' := ?_) ?_ ?_
  rotate_left
  ·
   show Act.put _ (some 16) _ = _
   exact put23_
  refine one_ (i := 3) (N := some 17) #[true, true, true, true, false, false, false] rfl rfl q23_13 (by decide) (fun K hK => ?_)
  refine goes_ Try.func79 q23_13 rfl #[.slice Ao24 t631.length co24] (by rfl) rfl rfl q23_6 ?_
  with_reducible refine (impl_repeated.calls k _ _ t631 t634 _ ?side1 ?side2 A7.out).mono ?_
  (case side1 => repeat (first | exact (Kd.R_reads' HO633.out).2.2 | (with_reducible refine Kd.C_alloc ?_ _) | (with_reducible refine Kd.C_drewN ?_ _) | (with_reducible refine Kd.C_drew ?_)))
  (case side2 => exact (Kd.R_reads' HO633.out).2.1)
  rintro e w' ⟨rfl, ⟨nd, rfl⟩⟩
  refine ⟨_, rfl, ?_⟩
  refine hK.out _ _ ⟨(blk_cell BK630.out 0).trans rfl, (blk_cell BK630.out 1).trans rfl⟩ (fun hHeld => ?_)
  clear hK K
  refine norm_ (a' := ?_) ?_ ?_
  rotate_left
  ·
   show Act.put _ (some 17) _ = _
   exact put23_
  refine one_ (i := 4) (N := some 18) #[true, true, true, true, true, false, false] rfl rfl q23_13 (by decide) (fun K hK => ?_)
  refine goes_ Try.func72 q23_13 rfl #[.agg #[.int .i64 t626, .slice Ao19 t627.length co19], .int .i64 0, .int .i64 t634] (by rfl) rfl rfl q23_6 ?_
  with_reducible refine (impl_without.calls k t626 _ _ t627 0 t634 t635 t636 _ ?side1 ?side2 A8.out).mono ?_
  (case side1 => exact q23_4)
  (case side2 => exact (Kd.R_reads' HO629.out).2.1)
  rintro e w25 ⟨v637, rfl, ho0, hb⟩
  refine ⟨_, rfl, ?_⟩
  have n0_ := Aside0.mk (Kd.R_elder' q23_11 (Kd.R_base ho0) hb)
  have n1_ := Aside0.mk (Kd.R_elder' (by (with_reducible repeat (first | apply Kd.R_alloc | apply Kd.R_drewN | apply Kd.R_drew)); exact HO633.out) (Kd.R_base ho0) hb)
  have n2_ := Aside0.mk (Kd.R_lower (Kd.R_new' (Kd.R_new' ho0 (Kd.R_lt q23_11)) (Kd.R_lt (by (with_reducible repeat (first | apply Kd.R_alloc | apply Kd.R_drewN | apply Kd.R_drew)); exact HO633.out))) (below_size q23_1))
  have n3_ := Aside0.mk (blk_below (g := gb622) (o := .cells #[.int .i64 a0_0, .slice A0_1 l0_1.length c0_1] 27 (0, 0)) q23_8 hb)
  have n4_ := Aside0.mk (blk_below (g := gb623) (o := .cells #[.int .i64 0, .slice none 0 0] 27 (0, 0)) q23_9 hb)
  have n5_ := Aside0.mk (blk_below (g := gb630) (o := .cells #[.int .i64 t626, .slice Ao19 t627.length co19] 27 (0, 0)) q23_10 hb)
  have n6_ := Aside0.mk (below_step q23_1 hb)
  clear HO629
  clear HO633
  clear BK622
  clear BK623
  clear BK630
  clear HB
  have HO629 := n0_
  have HO633 := n1_
  have HO638 := n2_
  have BK622 := n3_
  have BK623 := n4_
  have BK630 := n5_
  have HB := n6_
  clear n0_ n1_ n2_ n3_ n4_ n5_ n6_
  (try clear hb)
  (try clear hb2)
  (try clear hk)
  (try clear hi)
  (try clear ho0)
  obtain ⟨Ao27, co27, eo27⟩ := Kd.R_slice HO638.out
  (first | subst eo27 | (injection eo27 with f1_ f2_ f3_; have f4_ := f1_.symm; have f5_ := f3_.symm; clear f1_ f2_ f3_; subst f4_; subst f5_))
  refine hK.out _ _ ⟨(blk_cell BK630.out 0).trans rfl, (blk_cell BK630.out 1).trans rfl⟩ (fun hHeld => ?_)
  clear hK K
  refine norm_ (a' := ?_) ?_ ?_
  rotate_left
  ·
   show Act.put _ (some 18) _ = _
   exact put23_
  refine one_ (i := 5) (N := none) #[true, true, true, true, true, true, false] rfl rfl q23_13 (by decide) (fun K hK => ?_)
  have hs26 : w25.cell? ⟨gb623, 0, none⟩ = some (.int .i64 0) := (blk_cell BK623.out 0).trans rfl
  have hfs26 := blk_frozen BK623.out 0
  have hns26_0 := NB622_623.out
  have hns26_2 := NB630_623.out
  have hms26_0 := NB623_622.out
  have hms26_2 := NB623_630.out
  have hs28 : w25.cell? ⟨gb623, 1, none⟩ = some (.slice none 0 0) := (blk_cell BK623.out 1).trans rfl
  have hfs28 := blk_frozen BK623.out 1
  have hns28_0 := NB622_623.out
  have hns28_2 := NB630_623.out
  have hms28_0 := NB623_622.out
  have hms28_2 := NB623_630.out
  refine skip_ (w1 := ?_) (by rfl) rfl ?_ ?_
  rotate_left
  ·
   go_simp
   rfl
  refine hK.out _ _ ⟨((cell_far (p := ⟨gb623, _, none⟩) NB630_623.out _).trans (((cell_far (p := ⟨gb623, _, none⟩) NB630_623.out _).trans (hHeld.1)))), ((cell_far (p := ⟨gb623, _, none⟩) NB630_623.out _).trans (((cell_far (p := ⟨gb623, _, none⟩) NB630_623.out _).trans (hHeld.2))))⟩ (fun hHeld => ?_)
  clear hK K
  refine pure_ (i := 6) (N := some 3) (v := ?_) (a' := ?_) #[true, true, true, true, true, true, true] rfl rfl q23_13 (fun _ _ _ h => h) (Or.inl ⟨by rfl, ?_⟩) ?_ ?_
  rotate_left
  ·
   intro w'
   go_simp
   with_reducible rfl
  rotate_left
  ·
   exact put23_
  refine done_ q23_13 ?_
  try go_wp2
  refine bodyPost_ret (results_ct rfl _ _ gb623 27 #[.int .i64 t635, .slice Ao27 t636.length co27] (0, 0) _ rfl (by (with_reducible repeat (first | refine blk_drewN ?_ _ | refine blk_drew ?_ | refine blk_alloc ?_ _)); refine blk_put (cs := #[.int .i64 t635, .slice none 0 0]) ?_ 1 _ rfl; (with_reducible repeat (first | refine blk_drewN ?_ _ | refine blk_drew ?_ | refine blk_alloc ?_ _)); refine blk_put (cs := #[.int .i64 0, .slice none 0 0]) ?_ 0 _ rfl; (with_reducible repeat (first | refine blk_drewN ?_ _ | refine blk_drew ?_ | refine blk_alloc ?_ _)); exact BK623.out) Try.underlying27 rfl q23_13) rfl ?_
  exact ⟨_, by first | rfl | (simp [errW_none, errW_some] <;> rfl) | (simp [*, errW_none, errW_some] <;> rfl), by (with_reducible repeat (first | apply Kd.R_alloc | apply Kd.R_drewN | apply Kd.R_drew)); exact Kd.R_mono (Kd.R_far (p := ⟨gb623, 1, none⟩) (Kd.R_far (p := ⟨gb623, 0, none⟩) (Kd.R_types HO638.out BK623.out (by decide)) (fun _ hk => hk.2) (.int .i64 t635)) (fun _ hk => hk.2) (.slice Ao27 t636.length co27)) (fun _ hk => trivial), by repeat (first | (with_reducible first | exact HB.out | apply below_alloc | apply pw_below_drewN | apply below_drew1 | refine below_set ?_ GE622.out | refine below_set ?_ GE623.out | refine below_set ?_ GE630.out) | exact HB.out)⟩
 ·
  replace c3 := Bool.eq_false_iff.mpr c3
  subst c3
  have H1 : (some (0, ([] : List Int), false)) = some (r1, r2, r3) := by rw [if_neg (show ¬ (false = true) by decide)] at H; exact H
  clear H
  have H := H1
  clear H1
  simp only [Option.some.injEq, Prod.mk.injEq] at H
  obtain ⟨rfl, rfl, rfl⟩ := H
  go_enter Try.func42, Try.ntmps42
  go_wp2_with (first | ((with_reducible refine gate_dst (N := 1) rfl ?_); refine box_event ?hg (N := 1) ?hd (cs := #[.int .i64 a0_0, .slice A0_1 l0_1.length c0_1]) (t := 27) ?hr ?_; (case hd => rfl); (case hg => rfl); (case hr => first | (go_simp; done) | (go_simp; rfl)); intro gb622 hg w29 hbox hb; have n0_ := Aside0.mk (below_step q23_7 hb); have n1_ := Aside0.mk (hbox); have n2_ := Aside0.mk ((by rw [hg]; exact (below_size q23_7) : w.heap.size ≤ gb622)); have n3_ := Aside0.mk ((by rw [hg]; exact (below_size q23_7) : w.heap.size ≤ gb622)); clear HB; have HB := n0_; have BK622 := n1_; have GW622 := n2_; have GE622 := n3_; clear n0_ n1_ n2_ n3_; clear hb hbox hg) | ((with_reducible refine gate_dst (N := 2) rfl ?_); refine box_event ?hg (N := 2) ?hd (cs := #[.int .i64 0, .slice none 0 0]) (t := 27) ?hr ?_; (case hd => rfl); (case hg => rfl); (case hr => first | (go_simp; done) | (go_simp; rfl)); intro gb623 hg w30 hbox hb; have n0_ := Aside0.mk (blk_below (g := gb622) (o := .cells #[.int .i64 a0_0, .slice A0_1 l0_1.length c0_1] 27 (0, 0)) q23_8 hb); have n1_ := Aside0.mk (below_step q23_5 hb); have n2_ := Aside0.mk (hbox); have n3_ := Aside0.mk ((by rw [hg]; exact (below_size q23_5) : w.heap.size ≤ gb623)); have n4_ := Aside0.mk ((by rw [hg]; exact (below_size q23_5) : w.heap.size ≤ gb623)); have n5_ := Aside0.mk ((by rw [hg]; exact Nat.ne_of_lt (blk_lt (g := gb622) (o := .cells #[.int .i64 a0_0, .slice A0_1 l0_1.length c0_1] 27 (0, 0)) q23_8) : gb622 ≠ gb623)); have n6_ := Aside0.mk ((by rw [hg]; exact Nat.ne_of_gt (blk_lt (g := gb622) (o := .cells #[.int .i64 a0_0, .slice A0_1 l0_1.length c0_1] 27 (0, 0)) q23_8) : gb623 ≠ gb622)); clear BK622; clear HB; have BK622 := n0_; have HB := n1_; have BK623 := n2_; have GW623 := n3_; have GE623 := n4_; have NB622_623 := n5_; have NB623_622 := n6_; clear n0_ n1_ n2_ n3_ n4_ n5_ n6_; clear hb hbox hg; have hnb31 := NB622_623.out; have hnc31 := NB623_622.out; have hcz32_0 : w30.cell? ⟨gb622, 0, none⟩ = some (.int .i64 a0_0) := (blk_cell BK622.out 0).trans rfl; have hcz32_1 : w30.cell? ⟨gb622, 1, none⟩ = some (.slice A0_1 l0_1.length c0_1) := (blk_cell BK622.out 1).trans rfl; have hfz32_0 := blk_frozen BK622.out 0; have hfz32_1 := blk_frozen BK622.out 1) | ((with_reducible refine gate_callee (f := 78) rfl ?_); refine goesL_ (some 6) rfl rfl Try.func78 q23_13 rfl #[.agg #[.int .i64 a0_0, .slice A0_1 l0_1.length c0_1]] rfl q23_6 ?_; (with_reducible refine (impl_IsContext.calls a0_0 _ _ l0_1 false _ ?side1 ?side2 A2.out).mono ?_); (case side1 => exact q23_3); (case side2 => exact HC0_1.out); rintro e w33 ⟨rfl, hb⟩; refine ⟨_, rfl, ?_⟩; have n0_ := Aside0.mk (blk_below (g := gb622) (o := .cells #[.int .i64 a0_0, .slice A0_1 l0_1.length c0_1] 27 (0, 0)) q23_8 hb); have n1_ := Aside0.mk (blk_below (g := gb623) (o := .cells #[.int .i64 0, .slice none 0 0] 27 (0, 0)) q23_9 hb); have n2_ := Aside0.mk (below_step q23_2 hb); clear BK622; clear BK623; clear HB; have BK622 := n0_; have BK623 := n1_; have HB := n2_; clear n0_ n1_ n2_; (try clear hb); (try clear hb2); (try clear hk); (try clear hi); have hcz34_0 : w33.cell? ⟨gb623, 0, none⟩ = some (.int .i64 0) := (blk_cell BK623.out 0).trans rfl; have hcz34_1 : w33.cell? ⟨gb623, 1, none⟩ = some (.slice none 0 0) := (blk_cell BK623.out 1).trans rfl; have hfz34_0 := blk_frozen BK623.out 0; have hfz34_1 := blk_frozen BK623.out 1))
  refine bodyPost_ret (results_ct rfl _ _ gb623 27 #[.int .i64 0, .slice none 0 0] (0, 0) _ rfl (by (with_reducible repeat (first | refine blk_drewN ?_ _ | refine blk_drew ?_ | refine blk_alloc ?_ _)); refine blk_put (cs := #[.int .i64 0, .slice none 0 0]) ?_ 1 _ rfl; (with_reducible repeat (first | refine blk_drewN ?_ _ | refine blk_drew ?_ | refine blk_alloc ?_ _)); refine blk_put (cs := #[.int .i64 0, .slice none 0 0]) ?_ 0 _ rfl; (with_reducible repeat (first | refine blk_drewN ?_ _ | refine blk_drew ?_ | refine blk_alloc ?_ _)); exact BK623.out) Try.underlying27 rfl q23_13) rfl ?_
  exact ⟨_, by first | rfl | (simp [errW_none, errW_some] <;> rfl) | (simp [*, errW_none, errW_some] <;> rfl), by first | exact Kd.R_nil _ _ _ _ _ | exact Kd.N_nil _ _ _ _ _ | exact Kd.V_nil _ _ _ _ _ | exact Kd.Q_nil _ _ _ _ _ | exact Kd.S_nil _ _ _ _ _, by repeat (first | (with_reducible first | exact HB.out | apply below_alloc | apply pw_below_drewN | apply below_drew1 | refine below_set ?_ GE622.out | refine below_set ?_ GE623.out) | exact HB.out)⟩
end Go.Proofs.Ytemhlblajnlogaa.Pr
