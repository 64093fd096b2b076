/- What the law needs of the program's functions as plain functions, of the proofs that their calls answer so, and of plain laws: gathered by a program of this place (pack.py) out of its printed texts. No condition beyond what each statement says. -/
import Derived.Test.YtemhlblajnlogaaZXReduceContext15
import Derived.Test.YtemhlblajnlogaaZXReduceContext16
import Derived.Test.YtemhlblajnlogaaZXReduceContext17
import Derived.Test.YtemhlblajnlogaaZXReduceContext2
import Derived.Test.YtemhlblajnlogaaZXReduceContext4
import Derived.Test.YtemhlblajnlogaaZXReduceContext14
namespace Go.Proofs.Ytemhlblajnlogaa.Pr
open Go.RowKit Go.Proofs.YtemhlblajnlogaaW.PrintWords Go.Proofs.YtemhlblajnlogaaW.PrintLast Go.Proofs.YtemhlblajnlogaaW.PrintMore
set_option linter.unusedVariables false
def impl_ReduceContext_accepted0.f (a0 a1_0 : Int) (l1_1 : List Int) : Option Int :=
  if 0 ≤ a0 ∧ a0 ≤ 8 ∧ l1_1.length ≤ 1048576 then some ((Pu.ofBits (fun g => Pu.redObjV a1_0 l1_1 (g : Int)) a0.toNat : Nat) : Int) else none
def impl_ReduceContext_accepted1.f (a0 a1_0 : Int) (l1_1 : List Int) : Option Int :=
  if 0 ≤ a0 ∧ a0 ≤ 8 ∧ l1_1.length ≤ 1048576 then some ((Pu.ofBits (fun g => Pu.redAttrV a1_0 l1_1 (g : Int)) a0.toNat : Nat) : Int) else none
theorem box_cells {w w1 : World} {g : Nat} {cs : Array Value} {t : TypeId} (h : w.heap[g]? = some (.cells cs t (0, 0))) (hb : Below w.heap.size w w1) (i : Nat) : w1.cell? ⟨g, i, none⟩ = cs[i]? := blk_cell (blk_below h hb) i
set_option maxHeartbeats 4000000 in
set_option maxRecDepth 100000 in
theorem impl_ReduceContext_accepted0.calls (a0 a1_0 : Int) (A1_1 : Option Addr) (c1_1 : Nat) (l1_1 : List Int) (r : Int) (w : World) (hr1_1 : Kd.C (Kd.int .i64) w A1_1 l1_1.length l1_1) (hc1_1 : l1_1.length ≤ c1_1) (h : impl_ReduceContext_accepted0.f a0 a1_0 l1_1 = some r)
    {g : Nat} (hg : w.heap[g]? = some (.cells #[.int .i64 a1_0, .slice A1_1 l1_1.length c1_1] 27 (0, 0))) :
    Calls Try.prog 60 #[.int .i64 a0, .func (.func 80) #[] #[.pointer (some ⟨g, 0, none⟩)]] w fun e w' => e = .returned (.int .i64 r) ∧ Below w.heap.size w w' := by
  unfold impl_ReduceContext_accepted0.f at h
  by_cases hn : 0 ≤ a0 ∧ a0 ≤ 8 ∧ l1_1.length ≤ 1048576
  · rw [if_pos hn] at h
    obtain rfl := Option.some.inj h
    obtain ⟨n, rfl⟩ : ∃ n : Nat, a0 = (n : Int) := ⟨a0.toNat, by omega⟩
    rw [Int.toNat_natCast]
    have eg : ∀ args w, (callFunc 80 args).run Try.prog w = .ok (.enter 80 args) w := enters_of Try.func80 (by kernel_rfl) rfl
    refine accepted_calls 80 #[.pointer (some ⟨g, 0, none⟩)] eg n (by omega) (fun g => Pu.redObjV a1_0 l1_1 (g : Int)) w ?_
    intro W x _ hb
    rw [show (#[.int .i64 (x : Int)] ++ #[.pointer (some ⟨g, 0, none⟩)] : Array Value) = #[.int .i64 (x : Int), .pointer (some ⟨g, 0, none⟩)] from rfl]
    obtain ⟨k, hk⟩ := Ev.rounds (Pu.redObjI_val a1_0 l1_1 hn.2.2 (x : Int))
    have hu := Try.underlying27
    have hc0 : W.cell? ⟨g, 0, none⟩ = some (.int .i64 a1_0) := (box_cells hg hb 0).trans rfl
    have hc1 : W.cell? ⟨g, 1, none⟩ = some (.slice A1_1 l1_1.length c1_1) := (box_cells hg hb 1).trans rfl
    have HR := Aside0.mk (Kd.C_below hr1_1 hb)
    have HC := Aside0.mk hc1_1
    have HK := Aside0.mk hk
    clear hr1_1 hc1_1 hk hn hg h
    show Calls _ _ _ W fun e w' => e = .returned (.bool (Pu.redObjV a1_0 l1_1 (x : Int))) ∧ _
    generalize Pu.redObjV a1_0 l1_1 (x : Int) = q at *
    go_enter Try.func80, Try.ntmps80
    go_wp2_with (go_at_call 18; refine (impl_IsReducibleObject.calls k a1_0 A1_1 c1_1 l1_1 (x : Int) q _ (by first | exact HR.out | exact Kd.C_drewN HR.out _) HC.out HK.out).mono ?_; rintro e w' ⟨rfl, hb2⟩; have HB := Aside0.mk hb2; clear hb2)
    go_ret
    exact ⟨rfl, below_step (by repeat (first | exact Below.refl _ _ | apply below_alloc | apply pw_below_drewN | apply below_drew1)) HB.out⟩
  · rw [if_neg hn] at h
    cases h
set_option maxHeartbeats 4000000 in
set_option maxRecDepth 100000 in
theorem impl_ReduceContext_accepted1.calls (a0 a1_0 : Int) (A1_1 : Option Addr) (c1_1 : Nat) (l1_1 : List Int) (r : Int) (w : World) (hr1_1 : Kd.C (Kd.int .i64) w A1_1 l1_1.length l1_1) (hc1_1 : l1_1.length ≤ c1_1) (h : impl_ReduceContext_accepted1.f a0 a1_0 l1_1 = some r)
    {g : Nat} (hg : w.heap[g]? = some (.cells #[.int .i64 a1_0, .slice A1_1 l1_1.length c1_1] 27 (0, 0))) :
    Calls Try.prog 60 #[.int .i64 a0, .func (.func 81) #[] #[.pointer (some ⟨g, 0, none⟩)]] w fun e w' => e = .returned (.int .i64 r) ∧ Below w.heap.size w w' := by
  unfold impl_ReduceContext_accepted1.f at h
  by_cases hn : 0 ≤ a0 ∧ a0 ≤ 8 ∧ l1_1.length ≤ 1048576
  · rw [if_pos hn] at h
    obtain rfl := Option.some.inj h
    obtain ⟨n, rfl⟩ : ∃ n : Nat, a0 = (n : Int) := ⟨a0.toNat, by omega⟩
    rw [Int.toNat_natCast]
    have eg : ∀ args w, (callFunc 81 args).run Try.prog w = .ok (.enter 81 args) w := enters_of Try.func81 (by kernel_rfl) rfl
    refine accepted_calls 81 #[.pointer (some ⟨g, 0, none⟩)] eg n (by omega) (fun g => Pu.redAttrV a1_0 l1_1 (g : Int)) w ?_
    intro W x _ hb
    rw [show (#[.int .i64 (x : Int)] ++ #[.pointer (some ⟨g, 0, none⟩)] : Array Value) = #[.int .i64 (x : Int), .pointer (some ⟨g, 0, none⟩)] from rfl]
    obtain ⟨k, hk⟩ := Ev.rounds (Pu.redAttrI_val a1_0 l1_1 hn.2.2 (x : Int))
    have hu := Try.underlying27
    have hc0 : W.cell? ⟨g, 0, none⟩ = some (.int .i64 a1_0) := (box_cells hg hb 0).trans rfl
    have hc1 : W.cell? ⟨g, 1, none⟩ = some (.slice A1_1 l1_1.length c1_1) := (box_cells hg hb 1).trans rfl
    have HR := Aside0.mk (Kd.C_below hr1_1 hb)
    have HC := Aside0.mk hc1_1
    have HK := Aside0.mk hk
    clear hr1_1 hc1_1 hk hn hg h
    show Calls _ _ _ W fun e w' => e = .returned (.bool (Pu.redAttrV a1_0 l1_1 (x : Int))) ∧ _
    generalize Pu.redAttrV a1_0 l1_1 (x : Int) = q at *
    go_enter Try.func81, Try.ntmps81
    go_wp2_with (go_at_call 25; refine (impl_IsReducibleAttribute.calls k a1_0 A1_1 c1_1 l1_1 (x : Int) q _ (by first | exact HR.out | exact Kd.C_drewN HR.out _) HC.out HK.out).mono ?_; rintro e w' ⟨rfl, hb2⟩; have HB := Aside0.mk hb2; clear hb2)
    go_ret
    exact ⟨rfl, below_step (by repeat (first | exact Below.refl _ _ | apply below_alloc | apply pw_below_drewN | apply below_drew1)) HB.out⟩
  · rw [if_neg hn] at h
    cases h
end Go.Proofs.Ytemhlblajnlogaa.Pr
namespace Go.Proofs.Ytemhlblajnlogaa.Pr
open Go.RowKit Go.Proofs.YtemhlblajnlogaaW.PrintWords Go.Proofs.YtemhlblajnlogaaW.PrintLast Go.Proofs.YtemhlblajnlogaaW.PrintMore
attribute [local go_sem] max2_int min2_int max_two min_two max_three min_three max_four min_four   -- for this text's walks alone
set_option linter.unusedVariables false
set_option linter.unusedSimpArgs false
theorem put33_ {P : Prop} (h : P := by simp only [Act.put, List.setIfInBounds_toArray, List.set_cons_zero, List.set_cons_succ, i64_w, i32_w]; rfl) : P := h
theorem q33_1 {P : Prop} (h : P := by repeat (first | (with_reducible first | exact HB.out | apply below_alloc | apply pw_below_drewN | apply below_drew1 | refine below_set ?_ GE708.out | refine below_set ?_ GE709.out) | exact HB.out)) : P := h
theorem q33_2 {P : Prop} (h : P := by repeat (first | exact (Kd.C_below HR0_1.out HB.out) | (with_reducible refine Kd.C_alloc ?_ _) | (with_reducible refine Kd.C_drewN ?_ _) | (with_reducible refine Kd.C_drew ?_))) : P := h
theorem q33_3 {P : Prop} (h : P := by repeat (first | exact (Kd.R_reads' HO713.out).2.2 | (with_reducible refine Kd.C_alloc ?_ _) | (with_reducible refine Kd.C_drewN ?_ _) | (with_reducible refine Kd.C_drew ?_))) : P := h
theorem q33_4 {P : Prop} (h : P := by repeat (first | exact (Kd.R_reads' HO719.out).2.2 | (with_reducible refine Kd.C_alloc ?_ _) | (with_reducible refine Kd.C_drewN ?_ _) | (with_reducible refine Kd.C_drew ?_))) : P := h
theorem q33_5 {P : Prop} (h : P := by repeat (first | (with_reducible first | exact HB.out | apply below_alloc | apply pw_below_drewN | apply below_drew1 | refine below_set ?_ GE708.out) | exact HB.out)) : P := h
theorem q33_6 {P : Prop} (h : P := by (try simp only [List.map_toArray, List.map_cons, List.map_nil]); first | done | rfl | (simp only [List.length_drop, List.length_take]; rfl)) : P := h
theorem q33_7 {P : Prop} (h : P := by repeat (first | (with_reducible first | exact HB.out | apply below_alloc | apply pw_below_drewN | apply below_drew1) | exact HB.out)) : P := h
theorem q33_8 {P : Prop} (h : P := by (with_reducible repeat (first | refine blk_drewN ?_ _ | refine blk_drew ?_ | refine blk_alloc ?_ _)); exact BK708.out) : P := h
theorem q33_9 {P : Prop} (h : P := by (with_reducible repeat (first | refine blk_drewN ?_ _ | refine blk_drew ?_ | refine blk_alloc ?_ _)); exact BK709.out) : P := h
theorem q33_10 {P : Prop} (h : P := by (with_reducible repeat (first | apply Kd.R_alloc | apply Kd.R_drewN | apply Kd.R_drew)); exact HO713.out) : P := h
theorem q33_11 {P : Prop} (h : P := by (with_reducible repeat (first | apply Kd.R_alloc | apply Kd.R_drewN | apply Kd.R_drew)); exact HO719.out) : P := h
theorem q33_12 {P : Prop} (h : P := by kernel_rfl) : P := h
def impl_ReduceContext.f (k : Nat) (a0_0 : Int) (l0_1 : List Int) : Option (Int × List Int × Bool) := (impl_Clarify.f k a0_0 l0_1).bind fun bt710 => (if bt710.2.2 = true then ((impl_ReduceContext_accepted0.f (bt710.2.1.length : Int) bt710.1 bt710.2.1).bind fun t715 => ((impl_without.f k bt710.1 bt710.2.1 t715 0).bind fun bt716 => ((impl_ReduceContext_accepted1.f bt716.1 bt716.1 bt716.2).bind fun t720 => ((impl_without.f k bt716.1 bt716.2 0 t720).bind fun bt721 => (some (bt721.1, bt721.2, true)))))) else (some (0, ([] : List Int), false)))
def impl_ReduceContext.T4 : Bool × List (List Nat × List Nat) := (true, [([], []), ([], []), ([1], [1]), ([2], [2]), ([], []), ([3, 4], [3, 4]), ([0, 5, 5], [0, 5]), ([6, 6, 0, 1, 2, 3, 4, 5, 6], [6])])
def impl_ReduceContext.B4 : List Nat := [0, 0, 2, 6, 0, 30, 63, 127]
theorem impl_ReduceContext.tab4 : rtab .any (opsOf Try.f44 4) = impl_ReduceContext.T4 := q33_12
theorem impl_ReduceContext.bits4 : waitsOk impl_ReduceContext.T4.2 impl_ReduceContext.B4 = true := q33_12
def impl_ReduceContext.T5 : Bool × List (List Nat × List Nat) := (true, [([], []), ([], []), ([1], [1]), ([], []), ([2, 3], [2, 3]), ([0, 4, 4], [0, 4]), ([5, 5, 0, 1, 2, 3, 4, 5], [5]), ([6, 0, 1, 2, 3, 4, 5, 6], [])])
def impl_ReduceContext.B5 : List Nat := [0, 0, 2, 0, 14, 31, 63, 127]
theorem impl_ReduceContext.tab5 : rtab .any (opsOf Try.f44 5) = impl_ReduceContext.T5 := q33_12
theorem impl_ReduceContext.bits5 : waitsOk impl_ReduceContext.T5.2 impl_ReduceContext.B5 = true := q33_12
set_option maxHeartbeats 8000000 in
set_option maxRecDepth 100000 in
theorem impl_ReduceContext.calls (k : Nat) (a0_0 : Int) (A0_1 : Option Addr) (c0_1 : Nat) (l0_1 : List Int) (r1 : Int) (r2 : List Int) (r3 : Bool) (w : World) (hr0_1 : Kd.C (Kd.int .i64) w A0_1 l0_1.length l0_1) (hc0_1 : l0_1.length ≤ c0_1) (h : impl_ReduceContext.f k a0_0 l0_1 = some (r1, r2, r3)) :
  Calls Try.prog 44 #[.agg #[.int .i64 a0_0, .slice A0_1 l0_1.length c0_1]] w fun e w' => ∃ v1_ : Value, e = .returned (.tuple #[.agg #[.int .i64 r1, v1_], .bool r3]) ∧ Kd.R (Kd.int .i64) 3 w' w.heap.size (fun _ => True) v1_ r2 ∧ Below w.heap.size w w' := by
 have hu27 := Try.underlying27
 have HR0_1 := Aside0.mk hr0_1
 have HC0_1 := Aside0.mk hc0_1
 clear hr0_1 hc0_1
 have HB := Aside0.mk (Below.refl w.heap.size w)
 have H : ((impl_Clarify.f k a0_0 l0_1).bind fun bt710 => (if bt710.2.2 = true then ((impl_ReduceContext_accepted0.f (bt710.2.1.length : Int) bt710.1 bt710.2.1).bind fun t715 => ((impl_without.f k bt710.1 bt710.2.1 t715 0).bind fun bt716 => ((impl_ReduceContext_accepted1.f bt716.1 bt716.1 bt716.2).bind fun t720 => ((impl_without.f k bt716.1 bt716.2 0 t720).bind fun bt721 => (some (bt721.1, bt721.2, true)))))) else (some (0, ([] : List Int), false)))) = some (r1, r2, r3) := h
 clear h
 replace H := Option.bind_eq_some_iff.mp H
 obtain ⟨⟨t710, t711, t714⟩, A20, H⟩ := H
 replace H : (if t714 = true then ((impl_ReduceContext_accepted0.f (t711.length : Int) t710 t711).bind fun t715 => ((impl_without.f k t710 t711 t715 0).bind fun bt716 => ((impl_ReduceContext_accepted1.f bt716.1 bt716.1 bt716.2).bind fun t720 => ((impl_without.f k bt716.1 bt716.2 0 t720).bind fun bt721 => (some (bt721.1, bt721.2, true)))))) else (some (0, ([] : List Int), false))) = some (r1, r2, r3) := H
 have A2 := Aside0.mk A20
 clear A20
 by_cases c3 : t714 = true
 ·
  subst c3
  have H1 : ((impl_ReduceContext_accepted0.f (t711.length : Int) t710 t711).bind fun t715 => ((impl_without.f k t710 t711 t715 0).bind fun bt716 => ((impl_ReduceContext_accepted1.f bt716.1 bt716.1 bt716.2).bind fun t720 => ((impl_without.f k bt716.1 bt716.2 0 t720).bind fun bt721 => (some (bt721.1, bt721.2, true)))))) = some (r1, r2, r3) := by rw [if_pos rfl] at H; exact H
  clear H
  have H := H1
  clear H1
  replace H := Option.bind_eq_some_iff.mp H
  obtain ⟨t715, A40, H⟩ := H
  replace H : ((impl_without.f k t710 t711 t715 0).bind fun bt716 => ((impl_ReduceContext_accepted1.f bt716.1 bt716.1 bt716.2).bind fun t720 => ((impl_without.f k bt716.1 bt716.2 0 t720).bind fun bt721 => (some (bt721.1, bt721.2, true))))) = some (r1, r2, r3) := H
  have A4 := Aside0.mk A40
  clear A40
  replace H := Option.bind_eq_some_iff.mp H
  obtain ⟨⟨t716, t717⟩, A50, H⟩ := H
  replace H : ((impl_ReduceContext_accepted1.f t716 t716 t717).bind fun t720 => ((impl_without.f k t716 t717 0 t720).bind fun bt721 => (some (bt721.1, bt721.2, true)))) = some (r1, r2, r3) := H
  have A5 := Aside0.mk A50
  clear A50
  replace H := Option.bind_eq_some_iff.mp H
  obtain ⟨t720, A60, H⟩ := H
  replace H : ((impl_without.f k t716 t717 0 t720).bind fun bt721 => (some (bt721.1, bt721.2, true))) = some (r1, r2, r3) := H
  have A6 := Aside0.mk A60
  clear A60
  replace H := Option.bind_eq_some_iff.mp H
  obtain ⟨⟨t721, t722⟩, A70, H⟩ := H
  replace H : (some (t721, t722, true)) = some (r1, r2, r3) := H
  have A7 := Aside0.mk A70
  clear A70
  simp only [Option.some.injEq, Prod.mk.injEq] at H
  obtain ⟨rfl, rfl, rfl⟩ := H
  go_enter Try.func44, Try.ntmps44
  try go_wp2_with (first | ((with_reducible refine gate_dst (N := 1) rfl ?_); refine box_event ?hg (N := 1) ?hd (cs := #[.int .i64 a0_0, .slice A0_1 l0_1.length c0_1]) (t := 27) ?hr ?_; (case hd => rfl); (case hg => rfl); (case hr => first | (go_simp; done) | (go_simp; rfl)); intro gb708 hg w8 hbox hb; have n0_ := Aside0.mk (below_step q33_7 hb); have n1_ := Aside0.mk (hbox); have n2_ := Aside0.mk ((by rw [hg]; exact (below_size q33_7) : w.heap.size ≤ gb708)); have n3_ := Aside0.mk ((by rw [hg]; exact (below_size q33_7) : w.heap.size ≤ gb708)); clear HB; have HB := n0_; have BK708 := n1_; have GW708 := n2_; have GE708 := n3_; clear n0_ n1_ n2_ n3_; clear hb hbox hg) | ((with_reducible refine gate_dst (N := 2) rfl ?_); refine box_event ?hg (N := 2) ?hd (cs := #[.int .i64 0, .slice none 0 0]) (t := 27) ?hr ?_; (case hd => rfl); (case hg => rfl); (case hr => first | (go_simp; done) | (go_simp; rfl)); intro gb709 hg w9 hbox hb; have n0_ := Aside0.mk (blk_below (g := gb708) (o := .cells #[.int .i64 a0_0, .slice A0_1 l0_1.length c0_1] 27 (0, 0)) q33_8 hb); have n1_ := Aside0.mk (below_step q33_5 hb); have n2_ := Aside0.mk (hbox); have n3_ := Aside0.mk ((by rw [hg]; exact (below_size q33_5) : w.heap.size ≤ gb709)); have n4_ := Aside0.mk ((by rw [hg]; exact (below_size q33_5) : w.heap.size ≤ gb709)); have n5_ := Aside0.mk ((by rw [hg]; exact Nat.ne_of_lt (blk_lt (g := gb708) (o := .cells #[.int .i64 a0_0, .slice A0_1 l0_1.length c0_1] 27 (0, 0)) q33_8) : gb708 ≠ gb709)); have n6_ := Aside0.mk ((by rw [hg]; exact Nat.ne_of_gt (blk_lt (g := gb708) (o := .cells #[.int .i64 a0_0, .slice A0_1 l0_1.length c0_1] 27 (0, 0)) q33_8) : gb709 ≠ gb708)); clear BK708; clear HB; have BK708 := n0_; have HB := n1_; have BK709 := n2_; have GW709 := n3_; have GE709 := n4_; have NB708_709 := n5_; have NB709_708 := n6_; clear n0_ n1_ n2_ n3_ n4_ n5_ n6_; clear hb hbox hg; have hnb10 := NB708_709.out; have hnc10 := NB709_708.out; have hcz11_0 : w9.cell? ⟨gb708, 0, none⟩ = some (.int .i64 a0_0) := (blk_cell BK708.out 0).trans rfl; have hcz11_1 : w9.cell? ⟨gb708, 1, none⟩ = some (.slice A0_1 l0_1.length c0_1) := (blk_cell BK708.out 1).trans rfl; have hfz11_0 := blk_frozen BK708.out 0; have hfz11_1 := blk_frozen BK708.out 1) | ((with_reducible refine gate_callee (f := 42) rfl ?_); refine goesL_ (some 7) rfl rfl Try.func42 q33_12 rfl #[.agg #[.int .i64 a0_0, .slice A0_1 l0_1.length c0_1]] rfl q33_6 ?_; (with_reducible refine (impl_Clarify.calls k a0_0 _ _ l0_1 t710 t711 true _ ?side1 ?side2 A2.out).mono ?_); (case side1 => exact q33_2); (case side2 => exact HC0_1.out); rintro e w12 ⟨v712, rfl, ho0, hb⟩; refine ⟨_, rfl, ?_⟩; have n0_ := Aside0.mk (Kd.R_lower ho0 (below_size q33_1)); have n1_ := Aside0.mk (blk_below (g := gb708) (o := .cells #[.int .i64 a0_0, .slice A0_1 l0_1.length c0_1] 27 (0, 0)) q33_8 hb); have n2_ := Aside0.mk (blk_below (g := gb709) (o := .cells #[.int .i64 0, .slice none 0 0] 27 (0, 0)) q33_9 hb); have n3_ := Aside0.mk (below_step q33_1 hb); clear BK708; clear BK709; clear HB; have HO713 := n0_; have BK708 := n1_; have BK709 := n2_; have HB := n3_; clear n0_ n1_ n2_ n3_; (try clear hb); (try clear hb2); (try clear hk); (try clear hi); (try clear ho0); have hcz13_0 : w12.cell? ⟨gb708, 0, none⟩ = some (.int .i64 a0_0) := (blk_cell BK708.out 0).trans rfl; have hcz13_1 : w12.cell? ⟨gb708, 1, none⟩ = some (.slice A0_1 l0_1.length c0_1) := (blk_cell BK708.out 1).trans rfl; have hfz13_0 := blk_frozen BK708.out 0; have hfz13_1 := blk_frozen BK708.out 1; obtain ⟨Ao14, co14, eo14⟩ := Kd.R_slice HO713.out; subst eo14))
  have n0_ : Aside0 (Kd.R (Kd.int .i64) 3 ((w12.setCell ⟨gb708, 0, none⟩ (.int .i64 t710)).setCell ⟨gb708, 1, none⟩ (.slice Ao14 t711.length co14)) w.heap.size (fun _ => True) (.slice Ao14 t711.length co14) t711) := ⟨by (with_reducible repeat (first | apply Kd.R_alloc | apply Kd.R_drewN | apply Kd.R_drew)); exact Kd.R_mono (Kd.R_far (p := ⟨gb708, 1, none⟩) (Kd.R_far (p := ⟨gb708, 0, none⟩) (Kd.R_types HO713.out BK708.out (by decide)) (fun _ hk => hk.2) (.int .i64 t710)) (fun _ hk => hk.2) (.slice Ao14 t711.length co14)) (fun _ hk => trivial)⟩
  have n1_ : Aside0 (((w12.setCell ⟨gb708, 0, none⟩ (.int .i64 t710)).setCell ⟨gb708, 1, none⟩ (.slice Ao14 t711.length co14)).heap[gb708]? = some (.cells #[.int .i64 t710, .slice Ao14 t711.length co14] 27 (0, 0))) := ⟨by (with_reducible repeat (first | refine blk_drewN ?_ _ | refine blk_drew ?_ | refine blk_alloc ?_ _)); refine blk_put (cs := #[.int .i64 t710, .slice A0_1 l0_1.length c0_1]) ?_ 1 _ rfl; (with_reducible repeat (first | refine blk_drewN ?_ _ | refine blk_drew ?_ | refine blk_alloc ?_ _)); refine blk_put (cs := #[.int .i64 a0_0, .slice A0_1 l0_1.length c0_1]) ?_ 0 _ rfl; (with_reducible repeat (first | refine blk_drewN ?_ _ | refine blk_drew ?_ | refine blk_alloc ?_ _)); exact BK708.out⟩
  have n2_ : Aside0 (((w12.setCell ⟨gb708, 0, none⟩ (.int .i64 t710)).setCell ⟨gb708, 1, none⟩ (.slice Ao14 t711.length co14)).heap[gb709]? = some (.cells #[.int .i64 0, .slice none 0 0] 27 (0, 0))) := ⟨by (with_reducible repeat (first | refine blk_drewN ?_ _ | refine blk_drew ?_ | refine blk_alloc ?_ _)); refine blk_far ?_ NB709_708.out _; (with_reducible repeat (first | refine blk_drewN ?_ _ | refine blk_drew ?_ | refine blk_alloc ?_ _)); refine blk_far ?_ NB709_708.out _; (with_reducible repeat (first | refine blk_drewN ?_ _ | refine blk_drew ?_ | refine blk_alloc ?_ _)); exact BK709.out⟩
  have n3_ : Aside0 (Below w.heap.size w ((w12.setCell ⟨gb708, 0, none⟩ (.int .i64 t710)).setCell ⟨gb708, 1, none⟩ (.slice Ao14 t711.length co14))) := ⟨by repeat (first | (with_reducible first | exact HB.out | apply below_alloc | apply pw_below_drewN | apply below_drew1 | refine below_set ?_ GE708.out | refine below_set ?_ GE709.out) | exact HB.out)⟩
  (try clear HO713)
  (try clear BK708)
  (try clear BK709)
  (try clear HB)
  generalize ((w12.setCell ⟨gb708, 0, none⟩ (.int .i64 t710)).setCell ⟨gb708, 1, none⟩ (.slice Ao14 t711.length co14)) = w15 at n0_ n1_ n2_ n3_ ⊢
  have HO713 := n0_
  have BK708 := n1_
  have BK709 := n2_
  have HB := n3_
  clear n0_ n1_ n2_ n3_
  have n0_ := Aside0.mk (Kd.R_drew HO713.out)
  have n1_ := Aside0.mk (blk_drew BK708.out)
  have n2_ := Aside0.mk (blk_drew BK709.out)
  have n3_ := Aside0.mk (below_drew1 HB.out)
  clear HO713
  clear BK708
  clear BK709
  clear HB
  have HO713 := n0_
  have BK708 := n1_
  have BK709 := n2_
  have HB := n3_
  clear n0_ n1_ n2_ n3_
  refine start_ (n := 8) (S := fun w' => w'.cell? ⟨gb708, 0, none⟩ = some (.int .i64 t710) ∧ w'.cell? ⟨gb708, 1, none⟩ = some (.slice Ao14 t711.length co14)) (ds := [7]) #[false, false, false, false, false, false, false, false] q33_12 rfl rfl ⟨(blk_cell BK708.out 0).trans rfl, (blk_cell BK708.out 1).trans rfl⟩ (fun hHeld => ?_); refine with_tabW impl_ReduceContext.tab4 impl_ReduceContext.bits4 (fun HT_ HW_ => ?_)
  generalize w15.drew = w16 at HO713 BK708 BK709 HB hHeld ⊢
  refine pure_ (i := 1) (N := some 14) (v := ?_) (a' := ?_) #[false, true, false, false, false, false, false, false] rfl rfl (any_of HT_.out q33_12) (fun _ _ _ h => h) (Or.inl ⟨by rfl, ?_⟩) ?_ ?_
  rotate_left
  ·
   intro w'
   go_simp
   with_reducible rfl
  rotate_left
  ·
   exact put33_
  refine take_ (i := 0) (N := some 13) (v := ?_) (a' := ?_) #[true, true, false, false, false, false, false, false] rfl rfl (take_ofW HT_.out HW_.out q33_12) (fun _ _ _ h => h) (Or.inl ⟨by rfl, ?_⟩) hHeld ?_ ?_
  rotate_left
  ·
   rintro w' ⟨s0, s1⟩
   go_simp
   with_reducible rfl
  rotate_left
  ·
   exact put33_
  refine take_ (i := 2) (N := some 15) (v := ?_) (a' := ?_) #[true, true, true, false, false, false, false, false] rfl rfl (take_ofW HT_.out HW_.out q33_12) (fun _ _ _ h => h) (Or.inl ⟨by rfl, ?_⟩) hHeld ?_ ?_
  rotate_left
  ·
   rintro w' ⟨s0, s1⟩
   go_simp
   with_reducible rfl
  rotate_left
  ·
   exact put33_
  refine pure_ (i := 3) (N := some 16) (v := ?_) (a' := ?_) #[true, true, true, true, false, false, false, false] rfl rfl (any_of HT_.out q33_12) (fun _ _ _ h => h) (Or.inl ⟨by rfl, ?_⟩) ?_ ?_
  rotate_left
  ·
   intro w'
   go_simp
   with_reducible rfl
  rotate_left
  ·
   exact put33_
  refine take_ (i := 4) (N := some 17) (v := ?_) (a' := ?_) #[true, true, true, true, true, false, false, false] rfl rfl (take_ofW HT_.out HW_.out q33_12) (fun _ _ _ h => h) (Or.inl ⟨by rfl, ?_⟩) hHeld ?_ ?_
  rotate_left
  ·
   rintro w' ⟨s0, s1⟩
   go_simp
   with_reducible rfl
  rotate_left
  ·
   exact put33_
  refine one_ (i := 5) (N := some 18) #[true, true, true, true, true, true, false, false] rfl rfl (one_of HT_.out q33_12) (by decide) (fun K hK => ?_)
  refine goes_ Try.func60 q33_12 rfl #[.int .i64 (t711.length : Int), .func (.func 80) #[] #[.pointer (some ⟨gb708, 0, none⟩)]] (by rfl) rfl rfl q33_6 ?_
  with_reducible refine (impl_ReduceContext_accepted0.calls (t711.length : Int) t710 ?sa1_ ?sc1_ t711 t715 _ ?side1 ?side2 A4.out ?side9).mono ?_
  (case side9 => exact q33_8)
  (case side1 => exact q33_3)
  (case side2 => exact (Kd.R_reads' HO713.out).2.1)
  rintro e w17 ⟨rfl, hb⟩
  refine ⟨_, rfl, ?_⟩
  have n0_ := Aside0.mk (Kd.R_below q33_10 hb)
  have n1_ := Aside0.mk (blk_below (g := gb708) (o := .cells #[.int .i64 t710, .slice Ao14 t711.length co14] 27 (0, 0)) q33_8 hb)
  have n2_ := Aside0.mk (blk_below (g := gb709) (o := .cells #[.int .i64 0, .slice none 0 0] 27 (0, 0)) q33_9 hb)
  have n3_ := Aside0.mk (below_step q33_1 hb)
  clear HO713
  clear BK708
  clear BK709
  clear HB
  have HO713 := n0_
  have BK708 := n1_
  have BK709 := n2_
  have HB := n3_
  clear n0_ n1_ n2_ n3_
  (try clear hb)
  (try clear hb2)
  (try clear hk)
  (try clear hi)
  refine hK.out _ _ ⟨(blk_cell BK708.out 0).trans rfl, (blk_cell BK708.out 1).trans rfl⟩ (fun hHeld => ?_)
  clear hK K
  refine norm_ (a' := ?_) ?_ ?_
  rotate_left
  ·
   show Act.put _ (some 18) _ = _
   exact put33_
  refine one_ (i := 6) (N := some 19) #[true, true, true, true, true, true, true, false] rfl rfl (one_of HT_.out q33_12) (by decide) (fun K hK => ?_)
  refine goes_ Try.func72 q33_12 rfl #[.agg #[.int .i64 t710, .slice Ao14 t711.length co14], .int .i64 t715, .int .i64 0] (by rfl) rfl rfl q33_6 ?_
  with_reducible refine (impl_without.calls k t710 _ _ t711 t715 0 t716 t717 _ ?side1 ?side2 A5.out).mono ?_
  (case side1 => exact q33_3)
  (case side2 => exact (Kd.R_reads' HO713.out).2.1)
  rintro e w18 ⟨v718, rfl, ho0, hb⟩
  refine ⟨_, rfl, ?_⟩
  have n0_ := Aside0.mk (Kd.R_elder' q33_10 (Kd.R_base ho0) hb)
  have n1_ := Aside0.mk (Kd.R_lower (Kd.R_new' ho0 (Kd.R_lt q33_10)) (below_size q33_1))
  have n2_ := Aside0.mk (blk_below (g := gb708) (o := .cells #[.int .i64 t710, .slice Ao14 t711.length co14] 27 (0, 0)) q33_8 hb)
  have n3_ := Aside0.mk (blk_below (g := gb709) (o := .cells #[.int .i64 0, .slice none 0 0] 27 (0, 0)) q33_9 hb)
  have n4_ := Aside0.mk (below_step q33_1 hb)
  clear HO713
  clear BK708
  clear BK709
  clear HB
  have HO713 := n0_
  have HO719 := n1_
  have BK708 := n2_
  have BK709 := n3_
  have HB := n4_
  clear n0_ n1_ n2_ n3_ n4_
  (try clear hb)
  (try clear hb2)
  (try clear hk)
  (try clear hi)
  (try clear ho0)
  obtain ⟨Ao20, co20, eo20⟩ := Kd.R_slice HO719.out
  (first | subst eo20 | (injection eo20 with f1_ f2_ f3_; have f4_ := f1_.symm; have f5_ := f3_.symm; clear f1_ f2_ f3_; subst f4_; subst f5_))
  refine hK.out _ _ ⟨(blk_cell BK708.out 0).trans rfl, (blk_cell BK708.out 1).trans rfl⟩ (fun hHeld => ?_)
  clear hK K
  refine norm_ (a' := ?_) ?_ ?_
  rotate_left
  ·
   show Act.put _ (some 19) _ = _
   exact put33_
  refine last_ (i := 7) (N := none) #[true, true, true, true, true, true, true, true] rfl rfl (one_of HT_.out q33_12) (by decide) (fun K hK => ?_)
  have hs19 : w18.cell? ⟨gb708, 0, none⟩ = some (.int .i64 t710) := (blk_cell BK708.out 0).trans rfl
  have hfs19 := blk_frozen BK708.out 0
  have hns19_1 := NB709_708.out
  have hms19_1 := NB708_709.out
  have hs21 : w18.cell? ⟨gb708, 1, none⟩ = some (.slice Ao14 t711.length co14) := (blk_cell BK708.out 1).trans rfl
  have hfs21 := blk_frozen BK708.out 1
  have hns21_1 := NB709_708.out
  have hms21_1 := NB708_709.out
  refine skip_ (w1 := ?_) (by rfl) rfl ?_ ?_
  rotate_left
  ·
   go_simp
   rfl
  refine hK.out _ _ ?_
  clear hK K
  refine done_ (done_of HT_.out q33_12) ?_
  try go_wp2
  have n0_ : Aside0 (Kd.R (Kd.int .i64) 3 ((w18.setCell ⟨gb708, 0, none⟩ (.int .i64 t716)).setCell ⟨gb708, 1, none⟩ (.slice Ao20 t717.length co20)) w.heap.size (fun k_ => some k_ ≠ (.slice Ao20 t717.length co20 : Value).ownBlock) (.slice Ao14 t711.length co14) t711) := ⟨by (with_reducible repeat (first | apply Kd.R_alloc | apply Kd.R_drewN | apply Kd.R_drew)); exact Kd.R_mono (Kd.R_far (p := ⟨gb708, 1, none⟩) (Kd.R_far (p := ⟨gb708, 0, none⟩) (Kd.R_types HO713.out BK708.out (by decide)) (fun _ hk => hk.2) (.int .i64 t716)) (fun _ hk => hk.2) (.slice Ao20 t717.length co20)) (fun _ hk => hk.1.2)⟩
  have n1_ : Aside0 (Kd.R (Kd.int .i64) 3 ((w18.setCell ⟨gb708, 0, none⟩ (.int .i64 t716)).setCell ⟨gb708, 1, none⟩ (.slice Ao20 t717.length co20)) w.heap.size (fun k_ => some k_ ≠ (.slice Ao14 t711.length co14 : Value).ownBlock) (.slice Ao20 t717.length co20) t717) := ⟨by (with_reducible repeat (first | apply Kd.R_alloc | apply Kd.R_drewN | apply Kd.R_drew)); exact Kd.R_mono (Kd.R_far (p := ⟨gb708, 1, none⟩) (Kd.R_far (p := ⟨gb708, 0, none⟩) (Kd.R_types HO719.out BK708.out (by decide)) (fun _ hk => hk.2) (.int .i64 t716)) (fun _ hk => hk.2) (.slice Ao20 t717.length co20)) (fun _ hk => hk.1.2)⟩
  have n2_ : Aside0 (((w18.setCell ⟨gb708, 0, none⟩ (.int .i64 t716)).setCell ⟨gb708, 1, none⟩ (.slice Ao20 t717.length co20)).heap[gb708]? = some (.cells #[.int .i64 t716, .slice Ao20 t717.length co20] 27 (0, 0))) := ⟨by (with_reducible repeat (first | refine blk_drewN ?_ _ | refine blk_drew ?_ | refine blk_alloc ?_ _)); refine blk_put (cs := #[.int .i64 t716, .slice Ao14 t711.length co14]) ?_ 1 _ rfl; (with_reducible repeat (first | refine blk_drewN ?_ _ | refine blk_drew ?_ | refine blk_alloc ?_ _)); refine blk_put (cs := #[.int .i64 t710, .slice Ao14 t711.length co14]) ?_ 0 _ rfl; (with_reducible repeat (first | refine blk_drewN ?_ _ | refine blk_drew ?_ | refine blk_alloc ?_ _)); exact BK708.out⟩
  have n3_ : Aside0 (((w18.setCell ⟨gb708, 0, none⟩ (.int .i64 t716)).setCell ⟨gb708, 1, none⟩ (.slice Ao20 t717.length co20)).heap[gb709]? = some (.cells #[.int .i64 0, .slice none 0 0] 27 (0, 0))) := ⟨by (with_reducible repeat (first | refine blk_drewN ?_ _ | refine blk_drew ?_ | refine blk_alloc ?_ _)); refine blk_far ?_ NB709_708.out _; (with_reducible repeat (first | refine blk_drewN ?_ _ | refine blk_drew ?_ | refine blk_alloc ?_ _)); refine blk_far ?_ NB709_708.out _; (with_reducible repeat (first | refine blk_drewN ?_ _ | refine blk_drew ?_ | refine blk_alloc ?_ _)); exact BK709.out⟩
  have n4_ : Aside0 (Below w.heap.size w ((w18.setCell ⟨gb708, 0, none⟩ (.int .i64 t716)).setCell ⟨gb708, 1, none⟩ (.slice Ao20 t717.length co20))) := ⟨by repeat (first | (with_reducible first | exact HB.out | apply below_alloc | apply pw_below_drewN | apply below_drew1 | refine below_set ?_ GE708.out | refine below_set ?_ GE709.out) | exact HB.out)⟩
  (try clear HO713)
  (try clear HO719)
  (try clear BK708)
  (try clear BK709)
  (try clear HB)
  generalize ((w18.setCell ⟨gb708, 0, none⟩ (.int .i64 t716)).setCell ⟨gb708, 1, none⟩ (.slice Ao20 t717.length co20)) = w22 at n0_ n1_ n2_ n3_ n4_ ⊢
  have HO713 := n0_
  have HO719 := n1_
  have BK708 := n2_
  have BK709 := n3_
  have HB := n4_
  clear n0_ n1_ n2_ n3_ n4_
  have n0_ := Aside0.mk (Kd.R_drew HO713.out)
  have n1_ := Aside0.mk (Kd.R_drew HO719.out)
  have n2_ := Aside0.mk (blk_drew BK708.out)
  have n3_ := Aside0.mk (blk_drew BK709.out)
  have n4_ := Aside0.mk (below_drew1 HB.out)
  clear HO713
  clear HO719
  clear BK708
  clear BK709
  clear HB
  have HO713 := n0_
  have HO719 := n1_
  have BK708 := n2_
  have BK709 := n3_
  have HB := n4_
  clear n0_ n1_ n2_ n3_ n4_
  refine start_ (n := 8) (S := fun w' => w'.cell? ⟨gb708, 0, none⟩ = some (.int .i64 t716) ∧ w'.cell? ⟨gb708, 1, none⟩ = some (.slice Ao20 t717.length co20)) (ds := []) #[false, false, false, false, false, false, false, false] q33_12 rfl rfl ⟨(blk_cell BK708.out 0).trans rfl, (blk_cell BK708.out 1).trans rfl⟩ (fun hHeld => ?_); refine with_tabW impl_ReduceContext.tab5 impl_ReduceContext.bits5 (fun HT_ HW_ => ?_)
  generalize w22.drew = w23 at HO713 HO719 BK708 BK709 HB hHeld ⊢
  refine pure_ (i := 1) (N := some 21) (v := ?_) (a' := ?_) #[false, true, false, false, false, false, false, false] rfl rfl (any_of HT_.out q33_12) (fun _ _ _ h => h) (Or.inl ⟨by rfl, ?_⟩) ?_ ?_
  rotate_left
  ·
   intro w'
   go_simp
   with_reducible rfl
  rotate_left
  ·
   exact put33_
  refine take_ (i := 0) (N := some 20) (v := ?_) (a' := ?_) #[true, true, false, false, false, false, false, false] rfl rfl (take_ofW HT_.out HW_.out q33_12) (fun _ _ _ h => h) (Or.inl ⟨by rfl, ?_⟩) hHeld ?_ ?_
  rotate_left
  ·
   rintro w' ⟨s0, s1⟩
   go_simp
   with_reducible rfl
  rotate_left
  ·
   exact put33_
  refine take_ (i := 2) (N := some 22) (v := ?_) (a' := ?_) #[true, true, true, false, false, false, false, false] rfl rfl (take_ofW HT_.out HW_.out q33_12) (fun _ _ _ h => h) (Or.inl ⟨by rfl, ?_⟩) hHeld ?_ ?_
  rotate_left
  ·
   rintro w' ⟨s0, s1⟩
   go_simp
   with_reducible rfl
  rotate_left
  ·
   exact put33_
  refine take_ (i := 3) (N := some 23) (v := ?_) (a' := ?_) #[true, true, true, true, false, false, false, false] rfl rfl (take_ofW HT_.out HW_.out q33_12) (fun _ _ _ h => h) (Or.inl ⟨by rfl, ?_⟩) hHeld ?_ ?_
  rotate_left
  ·
   rintro w' ⟨s0, s1⟩
   go_simp
   with_reducible rfl
  rotate_left
  ·
   exact put33_
  refine one_ (i := 4) (N := some 24) #[true, true, true, true, true, false, false, false] rfl rfl (one_of HT_.out q33_12) (by decide) (fun K hK => ?_)
  refine goes_ Try.func60 q33_12 rfl #[.int .i64 t716, .func (.func 81) #[] #[.pointer (some ⟨gb708, 0, none⟩)]] (by rfl) rfl rfl q33_6 ?_
  with_reducible refine (impl_ReduceContext_accepted1.calls t716 t716 ?sa2_ ?sc2_ t717 t720 _ ?side1 ?side2 A6.out ?side9).mono ?_
  (case side9 => exact q33_8)
  (case side1 => exact q33_4)
  (case side2 => exact (Kd.R_reads' HO719.out).2.1)
  rintro e w24 ⟨rfl, hb⟩
  refine ⟨_, rfl, ?_⟩
  have n0_ := Aside0.mk (Kd.R_below q33_10 hb)
  have n1_ := Aside0.mk (Kd.R_below q33_11 hb)
  have n2_ := Aside0.mk (blk_below (g := gb708) (o := .cells #[.int .i64 t716, .slice Ao20 t717.length co20] 27 (0, 0)) q33_8 hb)
  have n3_ := Aside0.mk (blk_below (g := gb709) (o := .cells #[.int .i64 0, .slice none 0 0] 27 (0, 0)) q33_9 hb)
  have n4_ := Aside0.mk (below_step q33_1 hb)
  clear HO713
  clear HO719
  clear BK708
  clear BK709
  clear HB
  have HO713 := n0_
  have HO719 := n1_
  have BK708 := n2_
  have BK709 := n3_
  have HB := n4_
  clear n0_ n1_ n2_ n3_ n4_
  (try clear hb)
  (try clear hb2)
  (try clear hk)
  (try clear hi)
  refine hK.out _ _ ⟨(blk_cell BK708.out 0).trans rfl, (blk_cell BK708.out 1).trans rfl⟩ (fun hHeld => ?_)
  clear hK K
  refine norm_ (a' := ?_) ?_ ?_
  rotate_left
  ·
   show Act.put _ (some 24) _ = _
   exact put33_
  refine one_ (i := 5) (N := some 25) #[true, true, true, true, true, true, false, false] rfl rfl (one_of HT_.out q33_12) (by decide) (fun K hK => ?_)
  refine goes_ Try.func72 q33_12 rfl #[.agg #[.int .i64 t716, .slice Ao20 t717.length co20], .int .i64 0, .int .i64 t720] (by rfl) rfl rfl q33_6 ?_
  with_reducible refine (impl_without.calls k t716 _ _ t717 0 t720 t721 t722 _ ?side1 ?side2 A7.out).mono ?_
  (case side1 => exact q33_4)
  (case side2 => exact (Kd.R_reads' HO719.out).2.1)
  rintro e w25 ⟨v723, rfl, ho0, hb⟩
  refine ⟨_, rfl, ?_⟩
  have n0_ := Aside0.mk (Kd.R_elder' q33_10 (Kd.R_base ho0) hb)
  have n1_ := Aside0.mk (Kd.R_elder' q33_11 (Kd.R_base ho0) hb)
  have n2_ := Aside0.mk (Kd.R_lower (Kd.R_new' (Kd.R_new' ho0 (Kd.R_lt q33_10)) (Kd.R_lt q33_11)) (below_size q33_1))
  have n3_ := Aside0.mk (blk_below (g := gb708) (o := .cells #[.int .i64 t716, .slice Ao20 t717.length co20] 27 (0, 0)) q33_8 hb)
  have n4_ := Aside0.mk (blk_below (g := gb709) (o := .cells #[.int .i64 0, .slice none 0 0] 27 (0, 0)) q33_9 hb)
  have n5_ := Aside0.mk (below_step q33_1 hb)
  clear HO713
  clear HO719
  clear BK708
  clear BK709
  clear HB
  have HO713 := n0_
  have HO719 := n1_
  have HO724 := n2_
  have BK708 := n3_
  have BK709 := n4_
  have HB := n5_
  clear n0_ n1_ n2_ n3_ n4_ n5_
  (try clear hb)
  (try clear hb2)
  (try clear hk)
  (try clear hi)
  (try clear ho0)
  obtain ⟨Ao27, co27, eo27⟩ := Kd.R_slice HO724.out
  (first | subst eo27 | (injection eo27 with f1_ f2_ f3_; have f4_ := f1_.symm; have f5_ := f3_.symm; clear f1_ f2_ f3_; subst f4_; subst f5_))
  refine hK.out _ _ ⟨(blk_cell BK708.out 0).trans rfl, (blk_cell BK708.out 1).trans rfl⟩ (fun hHeld => ?_)
  clear hK K
  refine norm_ (a' := ?_) ?_ ?_
  rotate_left
  ·
   show Act.put _ (some 25) _ = _
   exact put33_
  refine one_ (i := 6) (N := none) #[true, true, true, true, true, true, true, false] rfl rfl (one_of HT_.out q33_12) (by decide) (fun K hK => ?_)
  have hs26 : w25.cell? ⟨gb709, 0, none⟩ = some (.int .i64 0) := (blk_cell BK709.out 0).trans rfl
  have hfs26 := blk_frozen BK709.out 0
  have hns26_0 := NB708_709.out
  have hms26_0 := NB709_708.out
  have hs28 : w25.cell? ⟨gb709, 1, none⟩ = some (.slice none 0 0) := (blk_cell BK709.out 1).trans rfl
  have hfs28 := blk_frozen BK709.out 1
  have hns28_0 := NB708_709.out
  have hms28_0 := NB709_708.out
  refine skip_ (w1 := ?_) (by rfl) rfl ?_ ?_
  rotate_left
  ·
   go_simp
   rfl
  refine hK.out _ _ ⟨((cell_far (p := ⟨gb709, _, none⟩) NB708_709.out _).trans (((cell_far (p := ⟨gb709, _, none⟩) NB708_709.out _).trans (hHeld.1)))), ((cell_far (p := ⟨gb709, _, none⟩) NB708_709.out _).trans (((cell_far (p := ⟨gb709, _, none⟩) NB708_709.out _).trans (hHeld.2))))⟩ (fun hHeld => ?_)
  clear hK K
  refine pure_ (i := 7) (N := some 3) (v := ?_) (a' := ?_) #[true, true, true, true, true, true, true, true] rfl rfl (any_of HT_.out q33_12) (fun _ _ _ h => h) (Or.inl ⟨by rfl, ?_⟩) ?_ ?_
  rotate_left
  ·
   intro w'
   go_simp
   with_reducible rfl
  rotate_left
  ·
   exact put33_
  refine done_ (done_of HT_.out q33_12) ?_
  try go_wp2
  refine bodyPost_ret (results_ct rfl _ _ gb709 27 #[.int .i64 t721, .slice Ao27 t722.length co27] (0, 0) _ rfl (by (with_reducible repeat (first | refine blk_drewN ?_ _ | refine blk_drew ?_ | refine blk_alloc ?_ _)); refine blk_put (cs := #[.int .i64 t721, .slice none 0 0]) ?_ 1 _ rfl; (with_reducible repeat (first | refine blk_drewN ?_ _ | refine blk_drew ?_ | refine blk_alloc ?_ _)); refine blk_put (cs := #[.int .i64 0, .slice none 0 0]) ?_ 0 _ rfl; (with_reducible repeat (first | refine blk_drewN ?_ _ | refine blk_drew ?_ | refine blk_alloc ?_ _)); exact BK709.out) Try.underlying27 rfl q33_12) rfl ?_
  exact ⟨_, by first | rfl | (simp [errW_none, errW_some] <;> rfl) | (simp [*, errW_none, errW_some] <;> rfl), by (with_reducible repeat (first | apply Kd.R_alloc | apply Kd.R_drewN | apply Kd.R_drew)); exact Kd.R_mono (Kd.R_far (p := ⟨gb709, 1, none⟩) (Kd.R_far (p := ⟨gb709, 0, none⟩) (Kd.R_types HO724.out BK709.out (by decide)) (fun _ hk => hk.2) (.int .i64 t721)) (fun _ hk => hk.2) (.slice Ao27 t722.length co27)) (fun _ hk => trivial), by repeat (first | (with_reducible first | exact HB.out | apply below_alloc | apply pw_below_drewN | apply below_drew1 | refine below_set ?_ GE708.out | refine below_set ?_ GE709.out) | exact HB.out)⟩
 ·
  replace c3 := Bool.eq_false_iff.mpr c3
  subst c3
  have H1 : (some (0, ([] : List Int), false)) = some (r1, r2, r3) := by rw [if_neg (show ¬ (false = true) by decide)] at H; exact H
  clear H
  have H := H1
  clear H1
  simp only [Option.some.injEq, Prod.mk.injEq] at H
  obtain ⟨rfl, rfl, rfl⟩ := H
  go_enter Try.func44, Try.ntmps44
  go_wp2_with (first | ((with_reducible refine gate_dst (N := 1) rfl ?_); refine box_event ?hg (N := 1) ?hd (cs := #[.int .i64 a0_0, .slice A0_1 l0_1.length c0_1]) (t := 27) ?hr ?_; (case hd => rfl); (case hg => rfl); (case hr => first | (go_simp; done) | (go_simp; rfl)); intro gb708 hg w29 hbox hb; have n0_ := Aside0.mk (below_step q33_7 hb); have n1_ := Aside0.mk (hbox); have n2_ := Aside0.mk ((by rw [hg]; exact (below_size q33_7) : w.heap.size ≤ gb708)); have n3_ := Aside0.mk ((by rw [hg]; exact (below_size q33_7) : w.heap.size ≤ gb708)); clear HB; have HB := n0_; have BK708 := n1_; have GW708 := n2_; have GE708 := n3_; clear n0_ n1_ n2_ n3_; clear hb hbox hg) | ((with_reducible refine gate_dst (N := 2) rfl ?_); refine box_event ?hg (N := 2) ?hd (cs := #[.int .i64 0, .slice none 0 0]) (t := 27) ?hr ?_; (case hd => rfl); (case hg => rfl); (case hr => first | (go_simp; done) | (go_simp; rfl)); intro gb709 hg w30 hbox hb; have n0_ := Aside0.mk (blk_below (g := gb708) (o := .cells #[.int .i64 a0_0, .slice A0_1 l0_1.length c0_1] 27 (0, 0)) q33_8 hb); have n1_ := Aside0.mk (below_step q33_5 hb); have n2_ := Aside0.mk (hbox); have n3_ := Aside0.mk ((by rw [hg]; exact (below_size q33_5) : w.heap.size ≤ gb709)); have n4_ := Aside0.mk ((by rw [hg]; exact (below_size q33_5) : w.heap.size ≤ gb709)); have n5_ := Aside0.mk ((by rw [hg]; exact Nat.ne_of_lt (blk_lt (g := gb708) (o := .cells #[.int .i64 a0_0, .slice A0_1 l0_1.length c0_1] 27 (0, 0)) q33_8) : gb708 ≠ gb709)); have n6_ := Aside0.mk ((by rw [hg]; exact Nat.ne_of_gt (blk_lt (g := gb708) (o := .cells #[.int .i64 a0_0, .slice A0_1 l0_1.length c0_1] 27 (0, 0)) q33_8) : gb709 ≠ gb708)); clear BK708; clear HB; have BK708 := n0_; have HB := n1_; have BK709 := n2_; have GW709 := n3_; have GE709 := n4_; have NB708_709 := n5_; have NB709_708 := n6_; clear n0_ n1_ n2_ n3_ n4_ n5_ n6_; clear hb hbox hg; have hnb31 := NB708_709.out; have hnc31 := NB709_708.out; have hcz32_0 : w30.cell? ⟨gb708, 0, none⟩ = some (.int .i64 a0_0) := (blk_cell BK708.out 0).trans rfl; have hcz32_1 : w30.cell? ⟨gb708, 1, none⟩ = some (.slice A0_1 l0_1.length c0_1) := (blk_cell BK708.out 1).trans rfl; have hfz32_0 := blk_frozen BK708.out 0; have hfz32_1 := blk_frozen BK708.out 1) | ((with_reducible refine gate_callee (f := 42) rfl ?_); refine goesL_ (some 7) rfl rfl Try.func42 q33_12 rfl #[.agg #[.int .i64 a0_0, .slice A0_1 l0_1.length c0_1]] rfl q33_6 ?_; (with_reducible refine (impl_Clarify.calls k a0_0 _ _ l0_1 t710 t711 false _ ?side1 ?side2 A2.out).mono ?_); (case side1 => exact q33_2); (case side2 => exact HC0_1.out); rintro e w33 ⟨v712, rfl, ho0, hb⟩; refine ⟨_, rfl, ?_⟩; have n0_ := Aside0.mk (Kd.R_lower ho0 (below_size q33_1)); have n1_ := Aside0.mk (blk_below (g := gb708) (o := .cells #[.int .i64 a0_0, .slice A0_1 l0_1.length c0_1] 27 (0, 0)) q33_8 hb); have n2_ := Aside0.mk (blk_below (g := gb709) (o := .cells #[.int .i64 0, .slice none 0 0] 27 (0, 0)) q33_9 hb); have n3_ := Aside0.mk (below_step q33_1 hb); clear BK708; clear BK709; clear HB; have HO713 := n0_; have BK708 := n1_; have BK709 := n2_; have HB := n3_; clear n0_ n1_ n2_ n3_; (try clear hb); (try clear hb2); (try clear hk); (try clear hi); (try clear ho0); have hcz34_0 : w33.cell? ⟨gb708, 0, none⟩ = some (.int .i64 a0_0) := (blk_cell BK708.out 0).trans rfl; have hcz34_1 : w33.cell? ⟨gb708, 1, none⟩ = some (.slice A0_1 l0_1.length c0_1) := (blk_cell BK708.out 1).trans rfl; have hfz34_0 := blk_frozen BK708.out 0; have hfz34_1 := blk_frozen BK708.out 1; obtain ⟨Ao35, co35, eo35⟩ := Kd.R_slice HO713.out; subst eo35; have hcz36_0 : w33.cell? ⟨gb709, 0, none⟩ = some (.int .i64 0) := (blk_cell BK709.out 0).trans rfl; have hcz36_1 : w33.cell? ⟨gb709, 1, none⟩ = some (.slice none 0 0) := (blk_cell BK709.out 1).trans rfl; have hfz36_0 := blk_frozen BK709.out 0; have hfz36_1 := blk_frozen BK709.out 1))
  refine bodyPost_ret (results_ct rfl _ _ gb709 27 #[.int .i64 0, .slice none 0 0] (0, 0) _ rfl (by (with_reducible repeat (first | refine blk_drewN ?_ _ | refine blk_drew ?_ | refine blk_alloc ?_ _)); refine blk_put (cs := #[.int .i64 0, .slice none 0 0]) ?_ 1 _ rfl; (with_reducible repeat (first | refine blk_drewN ?_ _ | refine blk_drew ?_ | refine blk_alloc ?_ _)); refine blk_put (cs := #[.int .i64 0, .slice none 0 0]) ?_ 0 _ rfl; (with_reducible repeat (first | refine blk_drewN ?_ _ | refine blk_drew ?_ | refine blk_alloc ?_ _)); refine blk_far ?_ NB709_708.out _; (with_reducible repeat (first | refine blk_drewN ?_ _ | refine blk_drew ?_ | refine blk_alloc ?_ _)); refine blk_far ?_ NB709_708.out _; (with_reducible repeat (first | refine blk_drewN ?_ _ | refine blk_drew ?_ | refine blk_alloc ?_ _)); exact BK709.out) Try.underlying27 rfl q33_12) rfl ?_
  exact ⟨_, by first | rfl | (simp [errW_none, errW_some] <;> rfl) | (simp [*, errW_none, errW_some] <;> rfl), by first | exact Kd.R_nil _ _ _ _ _ | exact Kd.N_nil _ _ _ _ _ | exact Kd.V_nil _ _ _ _ _ | exact Kd.Q_nil _ _ _ _ _ | exact Kd.S_nil _ _ _ _ _, by repeat (first | (with_reducible first | exact HB.out | apply below_alloc | apply pw_below_drewN | apply below_drew1 | refine below_set ?_ GE708.out | refine below_set ?_ GE709.out) | exact HB.out)⟩
end Go.Proofs.Ytemhlblajnlogaa.Pr
