/- What the law needs of the program's functions as plain functions, of the proofs that their calls answer so, and of plain laws: gathered by a program of this place (pack.py) out of its printed texts. No condition beyond what each statement says. -/
import Derived.Test.YtafnamchckehmaaZFnReduced11
import Derived.Test.YtafnamchckehmaaZFnReduced12
import Derived.Test.YtafnamchckehmaaZFnReduced13
import Derived.Test.YtafnamchckehmaaZFnReduced2
import Derived.Test.YtafnamchckehmaaZFnReduced5
namespace Go.Proofs.Ytafnamchckehmaa.Pr
open Go.RowKit Go.Proofs.YtafnamchckehmaaW.PrintWords Go.Proofs.YtafnamchckehmaaW.PrintLast Go.Proofs.YtafnamchckehmaaW.PrintMore
set_option linter.unusedVariables false
def impl_ReduceContext_accepted0.f (a0 a1_0 : Int) (l1_1 : List Int) : Option Int :=
  if 0 ≤ a0 ∧ a0 ≤ 8 ∧ l1_1.length ≤ 1048576 then some ((Pu.ofBits (fun g => Pu.redObjV a1_0 l1_1 (g : Int)) a0.toNat : Nat) : Int) else none
def impl_ReduceContext_accepted1.f (a0 a1_0 : Int) (l1_1 : List Int) : Option Int :=
  if 0 ≤ a0 ∧ a0 ≤ 8 ∧ l1_1.length ≤ 1048576 then some ((Pu.ofBits (fun g => Pu.redAttrV a1_0 l1_1 (g : Int)) a0.toNat : Nat) : Int) else none
theorem box_cells {w w1 : World} {g : Nat} {cs : Array Value} {t : TypeId} (h : w.heap[g]? = some (.cells cs t (0, 0))) (hb : Below w.heap.size w w1) (i : Nat) : w1.cell? ⟨g, i, none⟩ = cs[i]? := blk_cell (blk_below h hb) i
set_option maxHeartbeats 4000000 in
set_option maxRecDepth 100000 in
theorem impl_ReduceContext_accepted0.calls (a0 a1_0 : Int) (A1_1 : Option Addr) (c1_1 : Nat) (l1_1 : List Int) (r : Int) (w : World) (hr1_1 : Kd.C (Kd.int .i64) w A1_1 l1_1.length l1_1) (hc1_1 : l1_1.length ≤ c1_1) (h : impl_ReduceContext_accepted0.f a0 a1_0 l1_1 = some r)
    {g : Nat} (hg : w.heap[g]? = some (.cells #[.int .i64 a1_0, .slice A1_1 l1_1.length c1_1] 26 (0, 0))) :
    Calls Try.prog 46 #[.int .i64 a0, .func (.func 61) #[] #[.pointer (some ⟨g, 0, none⟩)]] w fun e w' => e = .returned (.int .i64 r) ∧ Below w.heap.size w w' := by
  unfold impl_ReduceContext_accepted0.f at h
  by_cases hn : 0 ≤ a0 ∧ a0 ≤ 8 ∧ l1_1.length ≤ 1048576
  · rw [if_pos hn] at h
    obtain rfl := Option.some.inj h
    obtain ⟨n, rfl⟩ : ∃ n : Nat, a0 = (n : Int) := ⟨a0.toNat, by omega⟩
    rw [Int.toNat_natCast]
    have eg : ∀ args w, (callFunc 61 args).run Try.prog w = .ok (.enter 61 args) w := enters_of Try.func61 (by kernel_rfl) rfl
    refine accepted_calls 61 #[.pointer (some ⟨g, 0, none⟩)] eg n (by omega) (fun g => Pu.redObjV a1_0 l1_1 (g : Int)) w ?_
    intro W x _ hb
    rw [show (#[.int .i64 (x : Int)] ++ #[.pointer (some ⟨g, 0, none⟩)] : Array Value) = #[.int .i64 (x : Int), .pointer (some ⟨g, 0, none⟩)] from rfl]
    obtain ⟨k, hk⟩ := Ev.rounds (Pu.redObjI_val a1_0 l1_1 hn.2.2 (x : Int))
    have hu := Try.underlying26
    have hc0 : W.cell? ⟨g, 0, none⟩ = some (.int .i64 a1_0) := (box_cells hg hb 0).trans rfl
    have hc1 : W.cell? ⟨g, 1, none⟩ = some (.slice A1_1 l1_1.length c1_1) := (box_cells hg hb 1).trans rfl
    have HR := Aside0.mk (Kd.C_below hr1_1 hb)
    have HC := Aside0.mk hc1_1
    have HK := Aside0.mk hk
    clear hr1_1 hc1_1 hk hn hg h
    show Calls _ _ _ W fun e w' => e = .returned (.bool (Pu.redObjV a1_0 l1_1 (x : Int))) ∧ _
    generalize Pu.redObjV a1_0 l1_1 (x : Int) = q at *
    go_enter Try.func61, Try.ntmps61
    go_wp2_with (go_at_call 36; refine (impl_IsReducibleObject.calls k a1_0 A1_1 c1_1 l1_1 (x : Int) q _ (by first | exact HR.out | exact Kd.C_drewN HR.out _) HC.out HK.out).mono ?_; rintro e w' ⟨rfl, hb2⟩; have HB := Aside0.mk hb2; clear hb2)
    go_ret
    exact ⟨rfl, below_step (by repeat (first | exact Below.refl _ _ | apply below_alloc | apply pw_below_drewN | apply below_drew1)) HB.out⟩
  · rw [if_neg hn] at h
    cases h
set_option maxHeartbeats 4000000 in
set_option maxRecDepth 100000 in
theorem impl_ReduceContext_accepted1.calls (a0 a1_0 : Int) (A1_1 : Option Addr) (c1_1 : Nat) (l1_1 : List Int) (r : Int) (w : World) (hr1_1 : Kd.C (Kd.int .i64) w A1_1 l1_1.length l1_1) (hc1_1 : l1_1.length ≤ c1_1) (h : impl_ReduceContext_accepted1.f a0 a1_0 l1_1 = some r)
    {g : Nat} (hg : w.heap[g]? = some (.cells #[.int .i64 a1_0, .slice A1_1 l1_1.length c1_1] 26 (0, 0))) :
    Calls Try.prog 46 #[.int .i64 a0, .func (.func 62) #[] #[.pointer (some ⟨g, 0, none⟩)]] w fun e w' => e = .returned (.int .i64 r) ∧ Below w.heap.size w w' := by
  unfold impl_ReduceContext_accepted1.f at h
  by_cases hn : 0 ≤ a0 ∧ a0 ≤ 8 ∧ l1_1.length ≤ 1048576
  · rw [if_pos hn] at h
    obtain rfl := Option.some.inj h
    obtain ⟨n, rfl⟩ : ∃ n : Nat, a0 = (n : Int) := ⟨a0.toNat, by omega⟩
    rw [Int.toNat_natCast]
    have eg : ∀ args w, (callFunc 62 args).run Try.prog w = .ok (.enter 62 args) w := enters_of Try.func62 (by kernel_rfl) rfl
    refine accepted_calls 62 #[.pointer (some ⟨g, 0, none⟩)] eg n (by omega) (fun g => Pu.redAttrV a1_0 l1_1 (g : Int)) w ?_
    intro W x _ hb
    rw [show (#[.int .i64 (x : Int)] ++ #[.pointer (some ⟨g, 0, none⟩)] : Array Value) = #[.int .i64 (x : Int), .pointer (some ⟨g, 0, none⟩)] from rfl]
    obtain ⟨k, hk⟩ := Ev.rounds (Pu.redAttrI_val a1_0 l1_1 hn.2.2 (x : Int))
    have hu := Try.underlying26
    have hc0 : W.cell? ⟨g, 0, none⟩ = some (.int .i64 a1_0) := (box_cells hg hb 0).trans rfl
    have hc1 : W.cell? ⟨g, 1, none⟩ = some (.slice A1_1 l1_1.length c1_1) := (box_cells hg hb 1).trans rfl
    have HR := Aside0.mk (Kd.C_below hr1_1 hb)
    have HC := Aside0.mk hc1_1
    have HK := Aside0.mk hk
    clear hr1_1 hc1_1 hk hn hg h
    show Calls _ _ _ W fun e w' => e = .returned (.bool (Pu.redAttrV a1_0 l1_1 (x : Int))) ∧ _
    generalize Pu.redAttrV a1_0 l1_1 (x : Int) = q at *
    go_enter Try.func62, Try.ntmps62
    go_wp2_with (go_at_call 38; refine (impl_IsReducibleAttribute.calls k a1_0 A1_1 c1_1 l1_1 (x : Int) q _ (by first | exact HR.out | exact Kd.C_drewN HR.out _) HC.out HK.out).mono ?_; rintro e w' ⟨rfl, hb2⟩; have HB := Aside0.mk hb2; clear hb2)
    go_ret
    exact ⟨rfl, below_step (by repeat (first | exact Below.refl _ _ | apply below_alloc | apply pw_below_drewN | apply below_drew1)) HB.out⟩
  · rw [if_neg hn] at h
    cases h
end Go.Proofs.Ytafnamchckehmaa.Pr
namespace Go.Proofs.Ytafnamchckehmaa.Pr
open Go.RowKit Go.Proofs.YtafnamchckehmaaW.PrintWords Go.Proofs.YtafnamchckehmaaW.PrintLast Go.Proofs.YtafnamchckehmaaW.PrintMore
attribute [local go_sem] max2_int min2_int max_two min_two max_three min_three max_four min_four
set_option linter.unusedVariables false
set_option linter.unusedSimpArgs false
theorem bnd15_ {α β : Type} {o : Option α} {f : α → Option β} {r : β} (h : o.bind f = some r) : ∃ a, Aside0 (o = some a) ∧ f a = some r := by
 obtain ⟨a, h1, h2⟩ := Option.bind_eq_some_iff.mp h
 exact ⟨a, ⟨h1⟩, h2⟩
theorem q15_1 {P : Prop} (h : P := by repeat (first | (with_reducible first | exact HB.out | apply below_alloc | apply pw_below_drewN | apply below_drew1 | refine below_set ?_ GE305.out | refine below_set ?_ GE306.out) | exact HB.out)) : P := h
theorem q15_3 {P : Prop} (h : P := by repeat (first | exact (Kd.R_reads' HO310.out).2.2 | (with_reducible refine Kd.C_alloc ?_ _) | (with_reducible refine Kd.C_drewN ?_ _) | (with_reducible refine Kd.C_drew ?_))) : P := h
theorem q15_4 {P : Prop} (h : P := by repeat (first | exact (Kd.R_reads' HO316.out).2.2 | (with_reducible refine Kd.C_alloc ?_ _) | (with_reducible refine Kd.C_drewN ?_ _) | (with_reducible refine Kd.C_drew ?_))) : P := h
theorem q15_5 {P : Prop} (h : P := by repeat (first | (with_reducible first | exact HB.out | apply below_alloc | apply pw_below_drewN | apply below_drew1 | refine below_set ?_ GE305.out) | exact HB.out)) : P := h
theorem q15_8 {P : Prop} (h : P := by (with_reducible repeat (first | refine blk_drewN ?_ _ | refine blk_drew ?_ | refine blk_alloc ?_ _)); exact BK305.out) : P := h
theorem q15_9 {P : Prop} (h : P := by (with_reducible repeat (first | refine blk_drewN ?_ _ | refine blk_drew ?_ | refine blk_alloc ?_ _)); exact BK306.out) : P := h
theorem q15_10 {P : Prop} (h : P := by (with_reducible repeat (first | apply Kd.R_alloc | apply Kd.R_drewN | apply Kd.R_drew)); exact HO310.out) : P := h
theorem q15_11 {P : Prop} (h : P := by (with_reducible repeat (first | apply Kd.R_alloc | apply Kd.R_drewN | apply Kd.R_drew)); exact HO316.out) : P := h
def impl_ReduceContext.f (k : Nat) (a0_0 : Int) (l0_1 : List Int) : Option (Int × List Int × Bool) := (impl_Clarify.f k a0_0 l0_1).bind fun bt307 => (if bt307.2.2 = true then ((impl_ReduceContext_accepted0.f (bt307.2.1.length : Int) bt307.1 bt307.2.1).bind fun t312 => ((impl_without.f k bt307.1 bt307.2.1 t312 0).bind fun bt313 => ((impl_ReduceContext_accepted1.f bt313.1 bt313.1 bt313.2).bind fun t317 => ((impl_without.f k bt313.1 bt313.2 0 t317).bind fun bt318 => (some (bt318.1, bt318.2, true)))))) else (some (0, ([] : List Int), false)))
def impl_ReduceContext.T4 : Bool × List (List Nat × List Nat) := (true, [([], []), ([], []), ([1], [1]), ([2], [2]), ([], []), ([3, 4], [3, 4]), ([0, 5, 5], [0, 5]), ([6, 6, 0, 1, 2, 3, 4, 5, 6], [6])])
def impl_ReduceContext.B4 : List Nat := [0, 0, 2, 6, 0, 30, 63, 127]
theorem impl_ReduceContext.tab4 : rtab .any (opsOf Try.f23 4) = impl_ReduceContext.T4 := s8_
theorem impl_ReduceContext.bits4 : waitsOk impl_ReduceContext.T4.2 impl_ReduceContext.B4 = true := s8_
def impl_ReduceContext.T5 : Bool × List (List Nat × List Nat) := (true, [([], []), ([], []), ([1], [1]), ([], []), ([2, 3], [2, 3]), ([0, 4, 4], [0, 4]), ([5, 5, 0, 1, 2, 3, 4, 5], [5]), ([6, 0, 1, 2, 3, 4, 5, 6], [])])
def impl_ReduceContext.B5 : List Nat := [0, 0, 2, 0, 14, 31, 63, 127]
theorem impl_ReduceContext.tab5 : rtab .any (opsOf Try.f23 5) = impl_ReduceContext.T5 := s8_
theorem impl_ReduceContext.bits5 : waitsOk impl_ReduceContext.T5.2 impl_ReduceContext.B5 = true := s8_
set_option maxHeartbeats 8000000 in
set_option maxRecDepth 100000 in
theorem impl_ReduceContext.calls (k : Nat) (a0_0 : Int) (A0_1 : Option Addr) (c0_1 : Nat) (l0_1 : List Int) (r1 : Int) (r2 : List Int) (r3 : Bool) (w : World) (hr0_1 : Kd.C (Kd.int .i64) w A0_1 l0_1.length l0_1) (hc0_1 : l0_1.length ≤ c0_1) (h : impl_ReduceContext.f k a0_0 l0_1 = some (r1, r2, r3)) :
  Calls Try.prog 23 #[.agg #[.int .i64 a0_0, .slice A0_1 l0_1.length c0_1]] w fun e w' => ∃ v1_ : Value, e = .returned (.tuple #[.agg #[.int .i64 r1, v1_], .bool r3]) ∧ Kd.R (Kd.int .i64) 3 w' w.heap.size (fun _ => True) v1_ r2 ∧ Below w.heap.size w w' := by
 have hu26 := Try.underlying26; have HR0_1 := Aside0.mk hr0_1; have HC0_1 := Aside0.mk hc0_1; clear hr0_1 hc0_1; have HB := Aside0.mk (Below.refl w.heap.size w); have H := h; clear h; unfold impl_ReduceContext.f at H; obtain ⟨⟨t307, t308, t311⟩, A2, H⟩ := bnd15_ H; dsimp only at H
 by_cases c3 : t311 = true
 ·
  subst c3; rw [if_pos rfl] at H; obtain ⟨t312, A4, H⟩ := bnd15_ H; obtain ⟨⟨t313, t314⟩, A5, H⟩ := bnd15_ H; dsimp only at H; obtain ⟨t317, A6, H⟩ := bnd15_ H; obtain ⟨⟨t318, t319⟩, A7, H⟩ := bnd15_ H; dsimp only at H
  simp only [Option.some.injEq, Prod.mk.injEq] at H
  obtain ⟨rfl, rfl, rfl⟩ := H
  go_enter Try.func23, Try.ntmps23
  try go_wp2_with (first | (refine be_ 1 #[.int .i64 a0_0, .slice A0_1 l0_1.length c0_1] 26 ?_; intro gb305 hg w8 hbox hb; have n_ := ac_ (below_step s1_ hb) <| ac_ (hbox) <| ac_ ((gz_ w hg s1_)) <| Aside0.mk ((gz_ w hg s1_)); clear HB; obtain ⟨HB, BK305, GW305, GE305⟩ := n_; clear hb hbox hg) | (refine be_ 2 #[.int .i64 0, .slice none 0 0] 26 ?_; intro gb306 hg w9 hbox hb; have n_ := ac_ (blk_below (g := gb305) (o := .cells #[.int .i64 a0_0, .slice A0_1 l0_1.length c0_1] 26 (0, 0)) q15_8 hb) <| ac_ (below_step q15_5 hb) <| ac_ (hbox) <| ac_ ((gz_ w hg q15_5)) <| ac_ ((gz_ w hg q15_5)) <| ac_ ((nl_ hg (blk_lt (g := gb305) (o := .cells #[.int .i64 a0_0, .slice A0_1 l0_1.length c0_1] 26 (0, 0)) q15_8))) <| Aside0.mk ((ng_ hg (blk_lt (g := gb305) (o := .cells #[.int .i64 a0_0, .slice A0_1 l0_1.length c0_1] 26 (0, 0)) q15_8))); clear BK305 HB; obtain ⟨BK305, HB, BK306, GW306, GE306, NB305_306, NB306_305⟩ := n_; clear hb hbox hg; have hnb10 := NB305_306.out; have hnc10 := NB306_305.out; have hcz11_0 : w9.cell? ⟨gb305, 0, none⟩ = some (.int .i64 a0_0) := (blk_cell BK305.out 0).trans rfl; have hcz11_1 : w9.cell? ⟨gb305, 1, none⟩ = some (.slice A0_1 l0_1.length c0_1) := (blk_cell BK305.out 1).trans rfl; have hfz11_0 := blk_frozen BK305.out 0; have hfz11_1 := blk_frozen BK305.out 1) | (refine gL_ 26 7 Try.func26 #[.agg #[.int .i64 a0_0, .slice A0_1 l0_1.length c0_1]] ?_; (with_reducible refine (impl_Clarify.calls k a0_0 _ _ l0_1 t307 t308 true _ ?side1 ?side2 A2.out).mono ?_); (case side1 => exact s3_); (case side2 => exact HC0_1.out); rintro e w12 ⟨v309, rfl, ho0, hb⟩; refine ⟨_, rfl, ?_⟩; have n_ := ac_ (Kd.R_lower ho0 (below_size q15_1)) <| ac_ (blk_below (g := gb305) (o := .cells #[.int .i64 a0_0, .slice A0_1 l0_1.length c0_1] 26 (0, 0)) q15_8 hb) <| ac_ (blk_below (g := gb306) (o := .cells #[.int .i64 0, .slice none 0 0] 26 (0, 0)) q15_9 hb) <| Aside0.mk (below_step q15_1 hb); clear BK305 BK306 HB; obtain ⟨HO310, BK305, BK306, HB⟩ := n_; (try clear hb ho0); have hcz13_0 : w12.cell? ⟨gb305, 0, none⟩ = some (.int .i64 a0_0) := (blk_cell BK305.out 0).trans rfl; have hcz13_1 : w12.cell? ⟨gb305, 1, none⟩ = some (.slice A0_1 l0_1.length c0_1) := (blk_cell BK305.out 1).trans rfl; have hfz13_0 := blk_frozen BK305.out 0; have hfz13_1 := blk_frozen BK305.out 1; obtain ⟨Ao14, co14, eo14⟩ := Kd.R_slice HO310.out; subst eo14))
  have n0_ : Aside0 (Kd.R (Kd.int .i64) 3 ((w12.setCell ⟨gb305, 0, none⟩ (.int .i64 t307)).setCell ⟨gb305, 1, none⟩ (.slice Ao14 t308.length co14)) w.heap.size (fun _ => True) (.slice Ao14 t308.length co14) t308) := ⟨by (with_reducible repeat (first | apply Kd.R_alloc | apply Kd.R_drewN | apply Kd.R_drew)); exact Kd.R_mono (Kd.R_far (p := ⟨gb305, 1, none⟩) (Kd.R_far (p := ⟨gb305, 0, none⟩) (Kd.R_types HO310.out BK305.out (by decide)) (fun _ hk => hk.2) (.int .i64 t307)) (fun _ hk => hk.2) (.slice Ao14 t308.length co14)) (fun _ hk => trivial)⟩
  have n1_ : Aside0 (((w12.setCell ⟨gb305, 0, none⟩ (.int .i64 t307)).setCell ⟨gb305, 1, none⟩ (.slice Ao14 t308.length co14)).heap[gb305]? = some (.cells #[.int .i64 t307, .slice Ao14 t308.length co14] 26 (0, 0))) := ⟨by (with_reducible repeat (first | refine blk_drewN ?_ _ | refine blk_drew ?_ | refine blk_alloc ?_ _)); refine blk_put (cs := #[.int .i64 t307, .slice A0_1 l0_1.length c0_1]) ?_ 1 _ rfl; (with_reducible repeat (first | refine blk_drewN ?_ _ | refine blk_drew ?_ | refine blk_alloc ?_ _)); refine blk_put (cs := #[.int .i64 a0_0, .slice A0_1 l0_1.length c0_1]) ?_ 0 _ rfl; (with_reducible repeat (first | refine blk_drewN ?_ _ | refine blk_drew ?_ | refine blk_alloc ?_ _)); exact BK305.out⟩
  have n2_ : Aside0 (((w12.setCell ⟨gb305, 0, none⟩ (.int .i64 t307)).setCell ⟨gb305, 1, none⟩ (.slice Ao14 t308.length co14)).heap[gb306]? = some (.cells #[.int .i64 0, .slice none 0 0] 26 (0, 0))) := ⟨by (with_reducible repeat (first | refine blk_drewN ?_ _ | refine blk_drew ?_ | refine blk_alloc ?_ _)); refine blk_far ?_ NB306_305.out _; (with_reducible repeat (first | refine blk_drewN ?_ _ | refine blk_drew ?_ | refine blk_alloc ?_ _)); refine blk_far ?_ NB306_305.out _; (with_reducible repeat (first | refine blk_drewN ?_ _ | refine blk_drew ?_ | refine blk_alloc ?_ _)); exact BK306.out⟩
  have n3_ : Aside0 (Below w.heap.size w ((w12.setCell ⟨gb305, 0, none⟩ (.int .i64 t307)).setCell ⟨gb305, 1, none⟩ (.slice Ao14 t308.length co14))) := ⟨by repeat (first | (with_reducible first | exact HB.out | apply below_alloc | apply pw_below_drewN | apply below_drew1 | refine below_set ?_ GE305.out | refine below_set ?_ GE306.out) | exact HB.out)⟩
  (try clear HO310)
  (try clear BK305)
  (try clear BK306)
  (try clear HB)
  generalize ((w12.setCell ⟨gb305, 0, none⟩ (.int .i64 t307)).setCell ⟨gb305, 1, none⟩ (.slice Ao14 t308.length co14)) = w15 at n0_ n1_ n2_ n3_ ⊢
  have HO310 := n0_; have BK305 := n1_; have BK306 := n2_; have HB := n3_; clear n0_ n1_ n2_ n3_; have n0_ := Aside0.mk (Kd.R_drew HO310.out); have n1_ := Aside0.mk (blk_drew BK305.out); have n2_ := Aside0.mk (blk_drew BK306.out); have n3_ := Aside0.mk (below_drew1 HB.out); clear HO310; clear BK305; clear BK306; clear HB; have HO310 := n0_; have BK305 := n1_; have BK306 := n2_; have HB := n3_; clear n0_ n1_ n2_ n3_
  refine start_ (n := 8) (S := fun w' => w'.cell? ⟨gb305, 0, none⟩ = some (.int .i64 t307) ∧ w'.cell? ⟨gb305, 1, none⟩ = some (.slice Ao14 t308.length co14)) (ds := [7]) (tb_ 8 0) s8_ rfl rfl ⟨(blk_cell BK305.out 0).trans rfl, (blk_cell BK305.out 1).trans rfl⟩ (fun hHeld => ?_); refine with_tabW impl_ReduceContext.tab4 impl_ReduceContext.bits4 (fun HT_ HW_ => ?_)
  generalize w15.drew = w16 at HO310 BK305 BK306 HB hHeld ⊢
  refine pl_ 1 14 (tb_ 8 2) ?_; refine tk_ 0 13 (tb_ 8 3) hHeld ?_; refine tk_ 2 15 (tb_ 8 7) hHeld ?_; refine pl_ 3 16 (tb_ 8 15) ?_; refine tk_ 4 17 (tb_ 8 31) hHeld ?_
  refine on_ 5 18 (tb_ 8 63) (fun K hK => ?_)
  refine goes_ Try.func46 s8_ rfl #[.int .i64 (t308.length : Int), .func (.func 61) #[] #[.pointer (some ⟨gb305, 0, none⟩)]] (by rfl) rfl rfl s0_ ?_
  with_reducible refine (impl_ReduceContext_accepted0.calls (t308.length : Int) t307 ?u1_1 ?u1_2 t308 t312 _ ?side1 ?side2 A4.out ?box0).mono ?_
  (case box0 => (with_reducible repeat (first | refine blk_drewN ?_ _ | refine blk_drew ?_ | refine blk_alloc ?_ _)); exact BK305.out)
  (case side1 => exact q15_3)
  (case side2 => exact (Kd.R_reads' HO310.out).2.1)
  rintro e w17 ⟨rfl, hb⟩
  refine ⟨_, rfl, ?_⟩
  have n0_ := Aside0.mk (Kd.R_below q15_10 hb); have n1_ := Aside0.mk (blk_below (g := gb305) (o := .cells #[.int .i64 t307, .slice Ao14 t308.length co14] 26 (0, 0)) q15_8 hb); have n2_ := Aside0.mk (blk_below (g := gb306) (o := .cells #[.int .i64 0, .slice none 0 0] 26 (0, 0)) q15_9 hb); have n3_ := Aside0.mk (below_step q15_1 hb); clear HO310; clear BK305; clear BK306; clear HB; have HO310 := n0_; have BK305 := n1_; have BK306 := n2_; have HB := n3_; clear n0_ n1_ n2_ n3_
  (try clear hb)
  (try clear hb2)
  (try clear hk)
  (try clear hi)
  refine hK.out _ _ ⟨(blk_cell BK305.out 0).trans rfl, (blk_cell BK305.out 1).trans rfl⟩ (fun hHeld => ?_)
  clear hK K
  refine norm_ (a' := ?_) ?_ ?_
  rotate_left
  ·
   show Act.put _ (some 18) _ = _
   exact s7_
  refine on_ 6 19 (tb_ 8 127) (fun K hK => ?_)
  refine goes_ Try.func60 s8_ rfl #[.agg #[.int .i64 t307, .slice Ao14 t308.length co14], .int .i64 t312, .int .i64 0] (by rfl) rfl rfl s0_ ?_
  with_reducible refine (impl_without.calls k t307 _ _ t308 t312 0 t313 t314 _ ?side1 ?side2 A5.out).mono ?_
  (case side1 => exact q15_3)
  (case side2 => exact (Kd.R_reads' HO310.out).2.1)
  rintro e w18 ⟨v315, rfl, ho0, hb⟩
  refine ⟨_, rfl, ?_⟩
  have n0_ := Aside0.mk (Kd.R_elder' q15_10 (Kd.R_base ho0) hb); have n1_ := Aside0.mk (Kd.R_lower (Kd.R_new' ho0 (Kd.R_lt q15_10)) (below_size q15_1)); have n2_ := Aside0.mk (blk_below (g := gb305) (o := .cells #[.int .i64 t307, .slice Ao14 t308.length co14] 26 (0, 0)) q15_8 hb); have n3_ := Aside0.mk (blk_below (g := gb306) (o := .cells #[.int .i64 0, .slice none 0 0] 26 (0, 0)) q15_9 hb); have n4_ := Aside0.mk (below_step q15_1 hb); clear HO310; clear BK305; clear BK306; clear HB; have HO310 := n0_; have HO316 := n1_; have BK305 := n2_; have BK306 := n3_; have HB := n4_; clear n0_ n1_ n2_ n3_ n4_
  (try clear hb)
  (try clear hb2)
  (try clear hk)
  (try clear hi)
  (try clear ho0)
  obtain ⟨Ao20, co20, eo20⟩ := Kd.R_slice HO316.out
  (first | subst eo20 | (injection eo20 with f1_ f2_ f3_; have f4_ := f1_.symm; have f5_ := f3_.symm; clear f1_ f2_ f3_; subst f4_; subst f5_))
  refine hK.out _ _ ⟨(blk_cell BK305.out 0).trans rfl, (blk_cell BK305.out 1).trans rfl⟩ (fun hHeld => ?_)
  clear hK K
  refine norm_ (a' := ?_) ?_ ?_
  rotate_left
  ·
   show Act.put _ (some 19) _ = _
   exact s7_
  refine last_ (i := 7) (N := none) (tb_ 8 255) rfl rfl (one_of HT_.out s8_) (by decide) (fun K hK => ?_)
  have hs19 : w18.cell? ⟨gb305, 0, none⟩ = some (.int .i64 t307) := (blk_cell BK305.out 0).trans rfl; have hfs19 := blk_frozen BK305.out 0; have hns19_1 := NB306_305.out; have hms19_1 := NB305_306.out; have hs21 : w18.cell? ⟨gb305, 1, none⟩ = some (.slice Ao14 t308.length co14) := (blk_cell BK305.out 1).trans rfl; have hfs21 := blk_frozen BK305.out 1; have hns21_1 := NB306_305.out; have hms21_1 := NB305_306.out
  refine skip_ (w1 := ?_) (by rfl) rfl ?_ ?_
  rotate_left
  ·
   go_simp
   rfl
  refine hK.out _ _ ?_
  clear hK K
  refine done_ (done_of HT_.out s8_) ?_
  try go_wp2
  have n0_ : Aside0 (Kd.R (Kd.int .i64) 3 ((w18.setCell ⟨gb305, 0, none⟩ (.int .i64 t313)).setCell ⟨gb305, 1, none⟩ (.slice Ao20 t314.length co20)) w.heap.size (fun k_ => some k_ ≠ (.slice Ao20 t314.length co20 : Value).ownBlock) (.slice Ao14 t308.length co14) t308) := ⟨by (with_reducible repeat (first | apply Kd.R_alloc | apply Kd.R_drewN | apply Kd.R_drew)); exact Kd.R_mono (Kd.R_far (p := ⟨gb305, 1, none⟩) (Kd.R_far (p := ⟨gb305, 0, none⟩) (Kd.R_types HO310.out BK305.out (by decide)) (fun _ hk => hk.2) (.int .i64 t313)) (fun _ hk => hk.2) (.slice Ao20 t314.length co20)) (fun _ hk => hk.1.2)⟩
  have n1_ : Aside0 (Kd.R (Kd.int .i64) 3 ((w18.setCell ⟨gb305, 0, none⟩ (.int .i64 t313)).setCell ⟨gb305, 1, none⟩ (.slice Ao20 t314.length co20)) w.heap.size (fun k_ => some k_ ≠ (.slice Ao14 t308.length co14 : Value).ownBlock) (.slice Ao20 t314.length co20) t314) := ⟨by (with_reducible repeat (first | apply Kd.R_alloc | apply Kd.R_drewN | apply Kd.R_drew)); exact Kd.R_mono (Kd.R_far (p := ⟨gb305, 1, none⟩) (Kd.R_far (p := ⟨gb305, 0, none⟩) (Kd.R_types HO316.out BK305.out (by decide)) (fun _ hk => hk.2) (.int .i64 t313)) (fun _ hk => hk.2) (.slice Ao20 t314.length co20)) (fun _ hk => hk.1.2)⟩
  have n2_ : Aside0 (((w18.setCell ⟨gb305, 0, none⟩ (.int .i64 t313)).setCell ⟨gb305, 1, none⟩ (.slice Ao20 t314.length co20)).heap[gb305]? = some (.cells #[.int .i64 t313, .slice Ao20 t314.length co20] 26 (0, 0))) := ⟨by (with_reducible repeat (first | refine blk_drewN ?_ _ | refine blk_drew ?_ | refine blk_alloc ?_ _)); refine blk_put (cs := #[.int .i64 t313, .slice Ao14 t308.length co14]) ?_ 1 _ rfl; (with_reducible repeat (first | refine blk_drewN ?_ _ | refine blk_drew ?_ | refine blk_alloc ?_ _)); refine blk_put (cs := #[.int .i64 t307, .slice Ao14 t308.length co14]) ?_ 0 _ rfl; (with_reducible repeat (first | refine blk_drewN ?_ _ | refine blk_drew ?_ | refine blk_alloc ?_ _)); exact BK305.out⟩
  have n3_ : Aside0 (((w18.setCell ⟨gb305, 0, none⟩ (.int .i64 t313)).setCell ⟨gb305, 1, none⟩ (.slice Ao20 t314.length co20)).heap[gb306]? = some (.cells #[.int .i64 0, .slice none 0 0] 26 (0, 0))) := ⟨by (with_reducible repeat (first | refine blk_drewN ?_ _ | refine blk_drew ?_ | refine blk_alloc ?_ _)); refine blk_far ?_ NB306_305.out _; (with_reducible repeat (first | refine blk_drewN ?_ _ | refine blk_drew ?_ | refine blk_alloc ?_ _)); refine blk_far ?_ NB306_305.out _; (with_reducible repeat (first | refine blk_drewN ?_ _ | refine blk_drew ?_ | refine blk_alloc ?_ _)); exact BK306.out⟩
  have n4_ : Aside0 (Below w.heap.size w ((w18.setCell ⟨gb305, 0, none⟩ (.int .i64 t313)).setCell ⟨gb305, 1, none⟩ (.slice Ao20 t314.length co20))) := ⟨by repeat (first | (with_reducible first | exact HB.out | apply below_alloc | apply pw_below_drewN | apply below_drew1 | refine below_set ?_ GE305.out | refine below_set ?_ GE306.out) | exact HB.out)⟩
  (try clear HO310)
  (try clear HO316)
  (try clear BK305)
  (try clear BK306)
  (try clear HB)
  generalize ((w18.setCell ⟨gb305, 0, none⟩ (.int .i64 t313)).setCell ⟨gb305, 1, none⟩ (.slice Ao20 t314.length co20)) = w22 at n0_ n1_ n2_ n3_ n4_ ⊢
  have HO310 := n0_; have HO316 := n1_; have BK305 := n2_; have BK306 := n3_; have HB := n4_; clear n0_ n1_ n2_ n3_ n4_; have n0_ := Aside0.mk (Kd.R_drew HO310.out); have n1_ := Aside0.mk (Kd.R_drew HO316.out); have n2_ := Aside0.mk (blk_drew BK305.out); have n3_ := Aside0.mk (blk_drew BK306.out); have n4_ := Aside0.mk (below_drew1 HB.out); clear HO310; clear HO316; clear BK305; clear BK306; clear HB; have HO310 := n0_; have HO316 := n1_; have BK305 := n2_; have BK306 := n3_; have HB := n4_; clear n0_ n1_ n2_ n3_ n4_
  refine start_ (n := 8) (S := fun w' => w'.cell? ⟨gb305, 0, none⟩ = some (.int .i64 t313) ∧ w'.cell? ⟨gb305, 1, none⟩ = some (.slice Ao20 t314.length co20)) (ds := []) (tb_ 8 0) s8_ rfl rfl ⟨(blk_cell BK305.out 0).trans rfl, (blk_cell BK305.out 1).trans rfl⟩ (fun hHeld => ?_); refine with_tabW impl_ReduceContext.tab5 impl_ReduceContext.bits5 (fun HT_ HW_ => ?_)
  generalize w22.drew = w23 at HO310 HO316 BK305 BK306 HB hHeld ⊢
  refine pl_ 1 21 (tb_ 8 2) ?_; refine tk_ 0 20 (tb_ 8 3) hHeld ?_; refine tk_ 2 22 (tb_ 8 7) hHeld ?_; refine tk_ 3 23 (tb_ 8 15) hHeld ?_
  refine on_ 4 24 (tb_ 8 31) (fun K hK => ?_)
  refine goes_ Try.func46 s8_ rfl #[.int .i64 t313, .func (.func 62) #[] #[.pointer (some ⟨gb305, 0, none⟩)]] (by rfl) rfl rfl s0_ ?_
  with_reducible refine (impl_ReduceContext_accepted1.calls t313 t313 ?u2_1 ?u2_2 t314 t317 _ ?side1 ?side2 A6.out ?box0).mono ?_
  (case box0 => (with_reducible repeat (first | refine blk_drewN ?_ _ | refine blk_drew ?_ | refine blk_alloc ?_ _)); exact BK305.out)
  (case side1 => exact q15_4)
  (case side2 => exact (Kd.R_reads' HO316.out).2.1)
  rintro e w24 ⟨rfl, hb⟩
  refine ⟨_, rfl, ?_⟩
  have n0_ := Aside0.mk (Kd.R_below q15_10 hb); have n1_ := Aside0.mk (Kd.R_below q15_11 hb); have n2_ := Aside0.mk (blk_below (g := gb305) (o := .cells #[.int .i64 t313, .slice Ao20 t314.length co20] 26 (0, 0)) q15_8 hb); have n3_ := Aside0.mk (blk_below (g := gb306) (o := .cells #[.int .i64 0, .slice none 0 0] 26 (0, 0)) q15_9 hb); have n4_ := Aside0.mk (below_step q15_1 hb); clear HO310; clear HO316; clear BK305; clear BK306; clear HB; have HO310 := n0_; have HO316 := n1_; have BK305 := n2_; have BK306 := n3_; have HB := n4_; clear n0_ n1_ n2_ n3_ n4_
  (try clear hb)
  (try clear hb2)
  (try clear hk)
  (try clear hi)
  refine hK.out _ _ ⟨(blk_cell BK305.out 0).trans rfl, (blk_cell BK305.out 1).trans rfl⟩ (fun hHeld => ?_)
  clear hK K
  refine norm_ (a' := ?_) ?_ ?_
  rotate_left
  ·
   show Act.put _ (some 24) _ = _
   exact s7_
  refine on_ 5 25 (tb_ 8 63) (fun K hK => ?_)
  refine goes_ Try.func60 s8_ rfl #[.agg #[.int .i64 t313, .slice Ao20 t314.length co20], .int .i64 0, .int .i64 t317] (by rfl) rfl rfl s0_ ?_
  with_reducible refine (impl_without.calls k t313 _ _ t314 0 t317 t318 t319 _ ?side1 ?side2 A7.out).mono ?_
  (case side1 => exact q15_4)
  (case side2 => exact (Kd.R_reads' HO316.out).2.1)
  rintro e w25 ⟨v320, rfl, ho0, hb⟩
  refine ⟨_, rfl, ?_⟩
  have n0_ := Aside0.mk (Kd.R_elder' q15_10 (Kd.R_base ho0) hb); have n1_ := Aside0.mk (Kd.R_elder' q15_11 (Kd.R_base ho0) hb); have n2_ := Aside0.mk (Kd.R_lower (Kd.R_new' (Kd.R_new' ho0 (Kd.R_lt q15_10)) (Kd.R_lt q15_11)) (below_size q15_1)); have n3_ := Aside0.mk (blk_below (g := gb305) (o := .cells #[.int .i64 t313, .slice Ao20 t314.length co20] 26 (0, 0)) q15_8 hb); have n4_ := Aside0.mk (blk_below (g := gb306) (o := .cells #[.int .i64 0, .slice none 0 0] 26 (0, 0)) q15_9 hb); have n5_ := Aside0.mk (below_step q15_1 hb); clear HO310; clear HO316; clear BK305; clear BK306; clear HB; have HO310 := n0_; have HO316 := n1_; have HO321 := n2_; have BK305 := n3_; have BK306 := n4_; have HB := n5_; clear n0_ n1_ n2_ n3_ n4_ n5_
  (try clear hb)
  (try clear hb2)
  (try clear hk)
  (try clear hi)
  (try clear ho0)
  obtain ⟨Ao27, co27, eo27⟩ := Kd.R_slice HO321.out
  (first | subst eo27 | (injection eo27 with f1_ f2_ f3_; have f4_ := f1_.symm; have f5_ := f3_.symm; clear f1_ f2_ f3_; subst f4_; subst f5_))
  refine hK.out _ _ ⟨(blk_cell BK305.out 0).trans rfl, (blk_cell BK305.out 1).trans rfl⟩ (fun hHeld => ?_)
  clear hK K
  refine norm_ (a' := ?_) ?_ ?_
  rotate_left
  ·
   show Act.put _ (some 25) _ = _
   exact s7_
  refine one_ (i := 6) (N := none) (tb_ 8 127) rfl rfl (one_of HT_.out s8_) (by decide) (fun K hK => ?_)
  have hs26 : w25.cell? ⟨gb306, 0, none⟩ = some (.int .i64 0) := (blk_cell BK306.out 0).trans rfl; have hfs26 := blk_frozen BK306.out 0; have hns26_0 := NB305_306.out; have hms26_0 := NB306_305.out; have hs28 : w25.cell? ⟨gb306, 1, none⟩ = some (.slice none 0 0) := (blk_cell BK306.out 1).trans rfl; have hfs28 := blk_frozen BK306.out 1; have hns28_0 := NB305_306.out; have hms28_0 := NB306_305.out
  refine skip_ (w1 := ?_) (by rfl) rfl ?_ ?_
  rotate_left
  ·
   go_simp
   rfl
  refine hK.out _ _ ⟨((cell_far (p := ⟨gb306, _, none⟩) NB305_306.out _).trans (((cell_far (p := ⟨gb306, _, none⟩) NB305_306.out _).trans (hHeld.1)))), ((cell_far (p := ⟨gb306, _, none⟩) NB305_306.out _).trans (((cell_far (p := ⟨gb306, _, none⟩) NB305_306.out _).trans (hHeld.2))))⟩ (fun hHeld => ?_)
  clear hK K; refine pl_ 7 3 (tb_ 8 255) ?_
  refine done_ (done_of HT_.out s8_) ?_
  try go_wp2
  refine bodyPost_ret (results_ct rfl _ _ gb306 26 #[.int .i64 t318, .slice Ao27 t319.length co27] (0, 0) _ rfl (by (with_reducible repeat (first | refine blk_drewN ?_ _ | refine blk_drew ?_ | refine blk_alloc ?_ _)); refine blk_put (cs := #[.int .i64 t318, .slice none 0 0]) ?_ 1 _ rfl; (with_reducible repeat (first | refine blk_drewN ?_ _ | refine blk_drew ?_ | refine blk_alloc ?_ _)); refine blk_put (cs := #[.int .i64 0, .slice none 0 0]) ?_ 0 _ rfl; (with_reducible repeat (first | refine blk_drewN ?_ _ | refine blk_drew ?_ | refine blk_alloc ?_ _)); exact BK306.out) Try.underlying26 rfl s8_) rfl ?_
  exact ⟨_, (by first | rfl | (simp [errW_none, errW_some] <;> rfl) | (simp [*, errW_none, errW_some] <;> rfl)), (by (with_reducible repeat (first | apply Kd.R_alloc | apply Kd.R_drewN | apply Kd.R_drew)); exact Kd.R_mono (Kd.R_far (p := ⟨gb306, 1, none⟩) (Kd.R_far (p := ⟨gb306, 0, none⟩) (Kd.R_types HO321.out BK306.out (by decide)) (fun _ hk => hk.2) (.int .i64 t318)) (fun _ hk => hk.2) (.slice Ao27 t319.length co27)) (fun _ hk => trivial)), q15_1⟩
 ·
  replace c3 := Bool.eq_false_iff.mpr c3; subst c3
  rw [if_neg (show ¬ (false = true) by decide)] at H
  simp only [Option.some.injEq, Prod.mk.injEq] at H
  obtain ⟨rfl, rfl, rfl⟩ := H
  go_enter Try.func23, Try.ntmps23
  go_wp2_with (first | (refine be_ 1 #[.int .i64 a0_0, .slice A0_1 l0_1.length c0_1] 26 ?_; intro gb305 hg w29 hbox hb; have n_ := ac_ (below_step s1_ hb) <| ac_ (hbox) <| ac_ ((gz_ w hg s1_)) <| Aside0.mk ((gz_ w hg s1_)); clear HB; obtain ⟨HB, BK305, GW305, GE305⟩ := n_; clear hb hbox hg) | (refine be_ 2 #[.int .i64 0, .slice none 0 0] 26 ?_; intro gb306 hg w30 hbox hb; have n_ := ac_ (blk_below (g := gb305) (o := .cells #[.int .i64 a0_0, .slice A0_1 l0_1.length c0_1] 26 (0, 0)) q15_8 hb) <| ac_ (below_step q15_5 hb) <| ac_ (hbox) <| ac_ ((gz_ w hg q15_5)) <| ac_ ((gz_ w hg q15_5)) <| ac_ ((nl_ hg (blk_lt (g := gb305) (o := .cells #[.int .i64 a0_0, .slice A0_1 l0_1.length c0_1] 26 (0, 0)) q15_8))) <| Aside0.mk ((ng_ hg (blk_lt (g := gb305) (o := .cells #[.int .i64 a0_0, .slice A0_1 l0_1.length c0_1] 26 (0, 0)) q15_8))); clear BK305 HB; obtain ⟨BK305, HB, BK306, GW306, GE306, NB305_306, NB306_305⟩ := n_; clear hb hbox hg; have hnb31 := NB305_306.out; have hnc31 := NB306_305.out; have hcz32_0 : w30.cell? ⟨gb305, 0, none⟩ = some (.int .i64 a0_0) := (blk_cell BK305.out 0).trans rfl; have hcz32_1 : w30.cell? ⟨gb305, 1, none⟩ = some (.slice A0_1 l0_1.length c0_1) := (blk_cell BK305.out 1).trans rfl; have hfz32_0 := blk_frozen BK305.out 0; have hfz32_1 := blk_frozen BK305.out 1) | (refine gL_ 26 7 Try.func26 #[.agg #[.int .i64 a0_0, .slice A0_1 l0_1.length c0_1]] ?_; (with_reducible refine (impl_Clarify.calls k a0_0 _ _ l0_1 t307 t308 false _ ?side1 ?side2 A2.out).mono ?_); (case side1 => exact s3_); (case side2 => exact HC0_1.out); rintro e w33 ⟨v309, rfl, ho0, hb⟩; refine ⟨_, rfl, ?_⟩; have n_ := ac_ (Kd.R_lower ho0 (below_size q15_1)) <| ac_ (blk_below (g := gb305) (o := .cells #[.int .i64 a0_0, .slice A0_1 l0_1.length c0_1] 26 (0, 0)) q15_8 hb) <| ac_ (blk_below (g := gb306) (o := .cells #[.int .i64 0, .slice none 0 0] 26 (0, 0)) q15_9 hb) <| Aside0.mk (below_step q15_1 hb); clear BK305 BK306 HB; obtain ⟨HO310, BK305, BK306, HB⟩ := n_; (try clear hb ho0); have hcz34_0 : w33.cell? ⟨gb305, 0, none⟩ = some (.int .i64 a0_0) := (blk_cell BK305.out 0).trans rfl; have hcz34_1 : w33.cell? ⟨gb305, 1, none⟩ = some (.slice A0_1 l0_1.length c0_1) := (blk_cell BK305.out 1).trans rfl; have hfz34_0 := blk_frozen BK305.out 0; have hfz34_1 := blk_frozen BK305.out 1; obtain ⟨Ao35, co35, eo35⟩ := Kd.R_slice HO310.out; subst eo35; have hcz36_0 : w33.cell? ⟨gb306, 0, none⟩ = some (.int .i64 0) := (blk_cell BK306.out 0).trans rfl; have hcz36_1 : w33.cell? ⟨gb306, 1, none⟩ = some (.slice none 0 0) := (blk_cell BK306.out 1).trans rfl; have hfz36_0 := blk_frozen BK306.out 0; have hfz36_1 := blk_frozen BK306.out 1))
  refine bodyPost_ret (results_ct rfl _ _ gb306 26 #[.int .i64 0, .slice none 0 0] (0, 0) _ rfl (by (with_reducible repeat (first | refine blk_drewN ?_ _ | refine blk_drew ?_ | refine blk_alloc ?_ _)); refine blk_put (cs := #[.int .i64 0, .slice none 0 0]) ?_ 1 _ rfl; (with_reducible repeat (first | refine blk_drewN ?_ _ | refine blk_drew ?_ | refine blk_alloc ?_ _)); refine blk_put (cs := #[.int .i64 0, .slice none 0 0]) ?_ 0 _ rfl; (with_reducible repeat (first | refine blk_drewN ?_ _ | refine blk_drew ?_ | refine blk_alloc ?_ _)); refine blk_far ?_ NB306_305.out _; (with_reducible repeat (first | refine blk_drewN ?_ _ | refine blk_drew ?_ | refine blk_alloc ?_ _)); refine blk_far ?_ NB306_305.out _; (with_reducible repeat (first | refine blk_drewN ?_ _ | refine blk_drew ?_ | refine blk_alloc ?_ _)); exact BK306.out) Try.underlying26 rfl s8_) rfl ?_
  exact ⟨_, (by first | rfl | (simp [errW_none, errW_some] <;> rfl) | (simp [*, errW_none, errW_some] <;> rfl)), (by first | exact Kd.R_nil _ _ _ _ _ | exact Kd.N_nil _ _ _ _ _ | exact Kd.V_nil _ _ _ _ _ | exact Kd.Q_nil _ _ _ _ _ | exact Kd.S_nil _ _ _ _ _), q15_1⟩
end Go.Proofs.Ytafnamchckehmaa.Pr
