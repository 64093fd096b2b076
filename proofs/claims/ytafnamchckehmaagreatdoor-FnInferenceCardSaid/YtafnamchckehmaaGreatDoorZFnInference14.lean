/- Functions of the program as plain functions, proofs that their calls answer so, and plain laws: what the law needs. No condition beyond what each statement says. -/
import Derived.Test.YtafnamchckehmaaGreatDoorZFnInference13
namespace Go.Proofs.YtafnamchckehmaaGreatDoor.Pr
set_option maxHeartbeats 4000000
set_option maxRecDepth 100000
open Go.RowKit Go.Proofs.YtafnamchckehmaaGreatDoorW.PrintWords Go.Proofs.YtafnamchckehmaaGreatDoorW.PrintLast Go.Proofs.YtafnamchckehmaaGreatDoorW.PrintMore
set_option linter.unusedVariables false
def impl_allFollow.f (l0 l1 : List S48) : Option Bool := some (l1.all (Pu.folV l0))
theorem box_at {w w1 : World} {a : Value} {t : TypeId} (h : Below (w.alloc (.cells #[a] t)).heap.size (w.alloc (.cells #[a] t)) w1) : w1.cell? ⟨w.heap.size, 0, none⟩ = some a := by
  have h0 : (w.alloc (.cells #[a] t)).cell? ⟨w.heap.size, 0, none⟩ = some a := blk_cell (heap_alloc_new w (.cells #[a] t)) 0
  exact (h.cell (p := ⟨w.heap.size, 0, none⟩) (by simp)).trans h0
theorem AllFollow1_calls (l : List S48) (A : Option Addr) (c b : Nat) (x : S48) (W : World) (hc : W.cell? ⟨b, 0, none⟩ = some (.slice A l.length c)) (hr : Kd.C k48 W A l.length l) (hl : l.length ≤ c) :
    Calls Tryz.prog 225 #[.agg #[.int .i64 x.f0, .int .i64 x.f1], .pointer (some ⟨b, 0, none⟩)] W fun e w' => e = .returned (.bool (!Pu.folV l x)) ∧ Below W.heap.size W w' := by
  have hb : b < W.heap.size := World.block_lt_of_cell? W _ hc
  have hu := Tryz.underlying48
  obtain ⟨K, hK⟩ := Pu.folI_val l hr.2.1 x.f0 x.f1
  have H := Aside0.mk (hK K (Nat.le_refl _))
  have HR := Aside0.mk hr
  have HL := Aside0.mk hl
  clear hK hr hl
  go_enter Tryz.func225, Tryz.ntmps225
  go_wp2_with (go_at_call 68; refine (impl_Follows.calls K A c l x.f0 x.f1 _ _ (Kd.C_alloc HR.out _) HL.out H.out).mono ?_; rintro e w' ⟨rfl, hd⟩)
  go_ret
  exact ⟨rfl, below_step (by repeat (first | apply below_alloc | apply pw_below_drewN | apply below_drew1 | exact Below.refl _ _)) hd⟩
theorem AllFollow1_fn (l : List S48) (A : Option Addr) (c b : Nat) (w : World) (hc : w.cell? ⟨b, 0, none⟩ = some (.slice A l.length c)) (hr : Kd.C k48 w A l.length l) (hl : l.length ≤ c) : FnRb 225 #[.pointer (some ⟨b, 0, none⟩)] (fun x => !Pu.folV l x) w := by
  intro W x hb
  rw [show (#[.agg #[.int .i64 x.f0, .int .i64 x.f1]] ++ #[.pointer (some ⟨b, 0, none⟩)] : Array Value) = #[.agg #[.int .i64 x.f0, .int .i64 x.f1], .pointer (some ⟨b, 0, none⟩)] from rfl]
  exact AllFollow1_calls l A c b x W ((hb.cell (p := ⟨b, 0, none⟩) (World.block_lt_of_cell? w _ hc)).trans hc) (Kd.C_below hr hb) hl
theorem impl_allFollow.calls (A0 : Option Addr) (c0 : Nat) (l0 : List S48) (A1 : Option Addr) (c1 : Nat) (l1 : List S48) (r : Bool) (w : World) (hr0 : Kd.C k48 w A0 l0.length l0) (hc0 : l0.length ≤ c0) (hr1 : Kd.C k48 w A1 l1.length l1) (hc1 : l1.length ≤ c1) (h : impl_allFollow.f l0 l1 = some r) :
    Calls Tryz.prog 159 #[.slice A0 l0.length c0, .slice A1 l1.length c1] w fun e w' => e = .returned (.bool r) ∧ Below w.heap.size w w' := by
  obtain rfl := Option.some.inj h
  clear h
  have HR0 := Aside0.mk hr0
  have HR1 := Aside0.mk hr1
  have HC0 := Aside0.mk hc0
  have eg : ∀ args w, (callFunc 225 args).run Tryz.prog w = .ok (.enter 225 args) w := enters_of Tryz.func225 (by kernel_rfl) rfl
  have h1 : Aside0 ((!(l1.any fun r => !Pu.folV l0 r)) = l1.all (Pu.folV l0)) := ⟨by rw [List.all_eq_not_any_not]⟩
  have HA := Aside0.mk (below_alloc (Below.refl w.heap.size w) (.cells #[.slice A0 l0.length c0] 24))
  have HX := Aside0.mk (ContainsFunc_rule 225 #[.pointer (some ⟨w.heap.size, 0, none⟩)] eg A1 c1 l1 (fun x => !Pu.folV l0 x) (w.alloc (.cells #[.slice A0 l0.length c0] 24)) (Kd.C_below HR1.out HA.out)
    (AllFollow1_fn l0 A0 c0 w.heap.size _ (box_at (Below.refl _ _)) (Kd.C_below HR0.out HA.out) HC0.out))
  clear hr0 hr1 hc0 hc1
  go_enter Tryz.func159, Tryz.ntmps159
  go_wp2_with (go_at_call 167; refine HX.out.mono ?_; rintro e w' ⟨rfl, hb⟩)
  go_ret
  exact ⟨by rw [← h1.out]; rfl, below_step HA.out hb⟩
end Go.Proofs.YtafnamchckehmaaGreatDoor.Pr
namespace Go.Proofs.YtafnamchckehmaaGreatDoor.Pr
open Go.RowKit Go.Proofs.YtafnamchckehmaaGreatDoorW.PrintWords Go.Proofs.YtafnamchckehmaaGreatDoorW.PrintLast Go.Proofs.YtafnamchckehmaaGreatDoorW.PrintMore
attribute [local go_sem] max2_int min2_int max_two min_two max_three min_three max_four min_four
set_option linter.unusedVariables false
set_option linter.unusedSimpArgs false
theorem bnd40_ {α β : Type} {o : Option α} {f : α → Option β} {r : β} (h : o.bind f = some r) : ∃ a, Aside0 (o = some a) ∧ f a = some r := by
 obtain ⟨a, h1, h2⟩ := Option.bind_eq_some_iff.mp h
 exact ⟨a, ⟨h1⟩, h2⟩
def impl_AreEquivalent.f (l0 : List (S48)) (l1 : List (S48)) : Option (Bool) := (impl_areAnyRules.f l0).bind fun t612 => (if t612 = true then ((impl_areAnyRules.f l1).bind fun t613 => (if t613 = true then ((impl_allFollow.f l0 l1).bind fun t614 => (if t614 = true then ((impl_allFollow.f l1 l0).bind fun t615 => (some t615)) else (some false))) else (some false))) else (some false))
set_option maxHeartbeats 40000000 in
set_option maxRecDepth 100000 in
theorem impl_AreEquivalent.calls (A0 : Option Addr) (c0 : Nat) (l0 : List (S48)) (A1 : Option Addr) (c1 : Nat) (l1 : List (S48)) (r : Bool) (w : World) (hr0 : Kd.C k48 w A0 l0.length l0) (hc0 : l0.length ≤ c0) (hr1 : Kd.C k48 w A1 l1.length l1) (hc1 : l1.length ≤ c1) (h : impl_AreEquivalent.f l0 l1 = some r) :
  Calls Tryz.prog 45 #[.slice A0 l0.length c0, .slice A1 l1.length c1] w fun e w' => e = .returned (.bool r) ∧ Below w.heap.size w w' := by
 have HR0 := Aside0.mk hr0; have HC0 := Aside0.mk hc0; clear hr0 hc0; have HR1 := Aside0.mk hr1; have HC1 := Aside0.mk hc1; clear hr1 hc1; have HB := Aside0.mk (Below.refl w.heap.size w); have H := h; clear h; unfold impl_AreEquivalent.f at H; obtain ⟨t612, A3, H⟩ := bnd40_ H
 by_cases c4 : t612 = true
 ·
  subst c4; rw [if_pos rfl] at H; obtain ⟨t613, A5, H⟩ := bnd40_ H
  by_cases c6 : t613 = true
  ·
   subst c6; rw [if_pos rfl] at H; obtain ⟨t614, A7, H⟩ := bnd40_ H
   by_cases c8 : t614 = true
   ·
    subst c8; rw [if_pos rfl] at H; obtain ⟨t615, A9, H⟩ := bnd40_ H; obtain rfl := Option.some.inj H
    go_enter Tryz.func45, Tryz.ntmps45
    go_wp2_with (first | ((with_reducible refine gw_ rfl ?_); (refine gL_ 149 6 Tryz.func149 #[.slice A0 l0.length c0] ?_; (with_reducible refine (impl_areAnyRules.calls _ _ l0 true _ ?side1 ?side2 A3.out).mono ?_); (case side1 => exact s13_); (case side2 => exact HC0.out); rintro e w10 ⟨rfl, hb⟩; refine ⟨_, rfl, ?_⟩; have n_ := Aside0.mk (below_step s1_ hb); clear HB; have HB := n_; clear n_; (try clear hb))) | (go_at_call 149; (with_reducible refine (impl_areAnyRules.calls _ _ l1 true _ ?side1 ?side2 A5.out).mono ?_); (case side1 => exact s14_); (case side2 => exact HC1.out); rintro e w11 ⟨rfl, hb⟩; have n_ := Aside0.mk (below_step s1_ hb); clear HB; have HB := n_; clear n_; (try clear hb)) | (go_at_call 159; (with_reducible refine (impl_allFollow.calls _ _ l0 _ _ l1 true _ ?side1 ?side2 ?side3 ?side4 A7.out).mono ?_); (case side1 => exact s5_); (case side2 => exact HC0.out); (case side3 => exact s14_); (case side4 => exact HC1.out); rintro e w12 ⟨rfl, hb⟩; have n_ := Aside0.mk (below_step s1_ hb); clear HB; have HB := n_; clear n_; (try clear hb)) | (go_at_call 159; (with_reducible refine (impl_allFollow.calls _ _ l1 _ _ l0 t615 _ ?side1 ?side2 ?side3 ?side4 A9.out).mono ?_); (case side1 => exact s14_); (case side2 => exact HC1.out); (case side3 => exact s5_); (case side4 => exact HC0.out); rintro e w13 ⟨rfl, hb⟩; have n_ := Aside0.mk (below_step s1_ hb); clear HB; have HB := n_; clear n_; (try clear hb)))
    go_ret
    exact ⟨s4_, s1_⟩
   ·
    replace c8 := Bool.eq_false_iff.mpr c8; subst c8
    rw [if_neg (show ¬ (false = true) by decide)] at H
    obtain rfl := Option.some.inj H
    go_enter Tryz.func45, Tryz.ntmps45
    go_wp2_with (first | ((with_reducible refine gw_ rfl ?_); (refine gL_ 149 6 Tryz.func149 #[.slice A0 l0.length c0] ?_; (with_reducible refine (impl_areAnyRules.calls _ _ l0 true _ ?side1 ?side2 A3.out).mono ?_); (case side1 => exact s13_); (case side2 => exact HC0.out); rintro e w14 ⟨rfl, hb⟩; refine ⟨_, rfl, ?_⟩; have n_ := Aside0.mk (below_step s1_ hb); clear HB; have HB := n_; clear n_; (try clear hb))) | (go_at_call 149; (with_reducible refine (impl_areAnyRules.calls _ _ l1 true _ ?side1 ?side2 A5.out).mono ?_); (case side1 => exact s14_); (case side2 => exact HC1.out); rintro e w15 ⟨rfl, hb⟩; have n_ := Aside0.mk (below_step s1_ hb); clear HB; have HB := n_; clear n_; (try clear hb)) | (go_at_call 159; (with_reducible refine (impl_allFollow.calls _ _ l0 _ _ l1 false _ ?side1 ?side2 ?side3 ?side4 A7.out).mono ?_); (case side1 => exact s5_); (case side2 => exact HC0.out); (case side3 => exact s14_); (case side4 => exact HC1.out); rintro e w16 ⟨rfl, hb⟩; have n_ := Aside0.mk (below_step s1_ hb); clear HB; have HB := n_; clear n_; (try clear hb)))
    go_ret
    exact ⟨s4_, s1_⟩
  ·
   replace c6 := Bool.eq_false_iff.mpr c6; subst c6
   rw [if_neg (show ¬ (false = true) by decide)] at H
   obtain rfl := Option.some.inj H
   go_enter Tryz.func45, Tryz.ntmps45
   go_wp2_with (first | ((with_reducible refine gw_ rfl ?_); (refine gL_ 149 6 Tryz.func149 #[.slice A0 l0.length c0] ?_; (with_reducible refine (impl_areAnyRules.calls _ _ l0 true _ ?side1 ?side2 A3.out).mono ?_); (case side1 => exact s13_); (case side2 => exact HC0.out); rintro e w17 ⟨rfl, hb⟩; refine ⟨_, rfl, ?_⟩; have n_ := Aside0.mk (below_step s1_ hb); clear HB; have HB := n_; clear n_; (try clear hb))) | (go_at_call 149; (with_reducible refine (impl_areAnyRules.calls _ _ l1 false _ ?side1 ?side2 A5.out).mono ?_); (case side1 => exact s14_); (case side2 => exact HC1.out); rintro e w18 ⟨rfl, hb⟩; have n_ := Aside0.mk (below_step s1_ hb); clear HB; have HB := n_; clear n_; (try clear hb)))
   go_ret
   exact ⟨s4_, s1_⟩
 ·
  replace c4 := Bool.eq_false_iff.mpr c4; subst c4
  rw [if_neg (show ¬ (false = true) by decide)] at H
  obtain rfl := Option.some.inj H
  go_enter Tryz.func45, Tryz.ntmps45
  go_wp2_with ((with_reducible refine gw_ rfl ?_); (refine gL_ 149 6 Tryz.func149 #[.slice A0 l0.length c0] ?_; (with_reducible refine (impl_areAnyRules.calls _ _ l0 false _ ?side1 ?side2 A3.out).mono ?_); (case side1 => exact s13_); (case side2 => exact HC0.out); rintro e w19 ⟨rfl, hb⟩; refine ⟨_, rfl, ?_⟩; have n_ := Aside0.mk (below_step s1_ hb); clear HB; have HB := n_; clear n_; (try clear hb)))
  go_ret
  exact ⟨s4_, s1_⟩
end Go.Proofs.YtafnamchckehmaaGreatDoor.Pr
namespace Go.Proofs.YtafnamchckehmaaGreatDoor.Pr
open Go.RowKit Go.Proofs.YtafnamchckehmaaGreatDoorW.PrintWords Go.Proofs.YtafnamchckehmaaGreatDoorW.PrintLast Go.Proofs.YtafnamchckehmaaGreatDoorW.PrintMore
set_option linter.unusedVariables false
def impl_ProofOf_IndexFunc0.f (l0 : List S48) (a1 : Int) : Option Int := some (idxF (fun x => !Pu.respV x a1) l0)
set_option maxHeartbeats 4000000 in
set_option maxRecDepth 100000 in
theorem ProofOf1_calls (a b : Int) (s : Int) (g : Nat) (W : World) (hc : W.cell? ⟨g, 0, none⟩ = some (.int .i64 s)) :
    Calls Tryz.prog 143 #[.agg #[.int .i64 a, .int .i64 b], .pointer (some ⟨g, 0, none⟩)] W fun e w' => e = .returned (.bool (!Pu.respV ⟨a, b⟩ s)) ∧ Below W.heap.size W w' := by
  have hb : g < W.heap.size := World.block_lt_of_cell? W _ hc
  have hu := Tryz.underlying48
  have K : Aside0 (impl_Respects.f a b s = some (Pu.respV ⟨a, b⟩ s)) := ⟨Pu.respI_val a b s⟩
  generalize Pu.respV ⟨a, b⟩ s = q at *
  go_enter Tryz.func143, Tryz.ntmps143
  go_wp2_with (go_at_call 79; refine (impl_Respects.calls a b s q _ K.out).mono ?_; rintro e w' ⟨rfl, hd⟩)
  go_ret
  exact ⟨rfl, below_step (by repeat (first | apply below_alloc | apply pw_below_drewN | apply below_drew1 | exact Below.refl _ _)) hd⟩
theorem impl_ProofOf_IndexFunc0.calls (A0 : Option Addr) (c0 : Nat) (l0 : List S48) (a1 : Int) (r : Int) (w : World) (hr0 : Kd.C k48 w A0 l0.length l0) (hc0 : l0.length ≤ c0) (h : impl_ProofOf_IndexFunc0.f l0 a1 = some r)
    {g : Nat} (hg : w.heap[g]? = some (.cells #[.int .i64 a1] 3 (0, 0))) :
    Calls Tryz.prog 142 #[.slice A0 l0.length c0, .func (.func 143) #[] #[.pointer (some ⟨g, 0, none⟩)]] w fun e w' => e = .returned (.int .i64 r) ∧ Below w.heap.size w w' := by
  obtain rfl := Option.some.inj h
  have eg : ∀ args w, (callFunc 143 args).run Tryz.prog w = .ok (.enter 143 args) w := enters_of Tryz.func143 (by kernel_rfl) rfl
  refine IndexFunc_rule 143 #[.pointer (some ⟨g, 0, none⟩)] eg A0 c0 l0 (fun x => !Pu.respV x a1) w hr0 fun W x hb => ?_
  rw [show (#[.agg #[.int .i64 x.f0, .int .i64 x.f1]] ++ #[.pointer (some ⟨g, 0, none⟩)] : Array Value) = #[.agg #[.int .i64 x.f0, .int .i64 x.f1], .pointer (some ⟨g, 0, none⟩)] from rfl]
  exact ProofOf1_calls x.f0 x.f1 a1 g W ((blk_cell (blk_below hg hb) 0).trans rfl)
end Go.Proofs.YtafnamchckehmaaGreatDoor.Pr
namespace Go.Proofs.YtafnamchckehmaaGreatDoor.Pr
open Go.RowKit Go.Proofs.YtafnamchckehmaaGreatDoorW.PrintWords Go.Proofs.YtafnamchckehmaaGreatDoorW.PrintLast Go.Proofs.YtafnamchckehmaaGreatDoorW.PrintMore
attribute [local go_sem] max2_int min2_int max_two min_two max_three min_three max_four min_four
set_option linter.unusedVariables false
set_option linter.unusedSimpArgs false
theorem bnd42_ {α β : Type} {o : Option α} {f : α → Option β} {r : β} (h : o.bind f = some r) : ∃ a, Aside0 (o = some a) ∧ f a = some r := by
 obtain ⟨a, h1, h2⟩ := Option.bind_eq_some_iff.mp h
 exact ⟨a, ⟨h1⟩, h2⟩
theorem q42_1 {P : Prop} (h : P := by (with_reducible repeat (first | refine blk_drewN ?_ _ | refine blk_drew ?_ | refine blk_alloc ?_ _)); refine blk_far ?_ NB336_341.out _; (with_reducible repeat (first | refine blk_drewN ?_ _ | refine blk_drew ?_ | refine blk_alloc ?_ _)); exact BK336.out) : P := h
theorem q42_2 {P : Prop} (h : P := by repeat (first | (with_reducible first | exact HB.out | apply below_alloc | apply pw_below_drewN | apply below_drew1 | refine below_set ?_ GE336.out | refine below_set ?_ GE341.out) | exact HB.out)) : P := h
theorem q42_4 {P : Prop} (h : P := by repeat (first | (with_reducible first | exact HB.out | apply below_alloc | apply pw_below_drewN | apply below_drew1 | refine below_set ?_ GE336.out) | exact HB.out)) : P := h
theorem q42_7 {P : Prop} (h : P := by (with_reducible repeat (first | refine blk_drewN ?_ _ | refine blk_drew ?_ | refine blk_alloc ?_ _)); exact BK336.out) : P := h
theorem q42_8 {P : Prop} (h : P := by (with_reducible repeat (first | refine blk_drewN ?_ _ | refine blk_drew ?_ | refine blk_alloc ?_ _)); exact BK341.out) : P := h
theorem q42_9 {P : Prop} (h : P := by (with_reducible repeat (first | apply Kd.R_alloc | apply Kd.R_drewN | apply Kd.R_drew)); exact HO340.out) : P := h
def impl_ProofOf.l0 : Nat → List (S48) → List (S110) → Int → Int → Int → Option ((List (S110)) × Bool)
 | 0, _, _, _, _, _ => none
 | k + 1, x0, x6, x337000, x337001, x342000 => (impl_inSet.f x337001 x342000).bind fun t342 => (if t342 = true then (some (x6, true)) else ((impl_ProofOf_IndexFunc0.f x0 x342000).bind fun t343 => (if 0 ≤ t343 then (if t343 < (x0.length : Int) then (if x6.length < 8796093022208 then (impl_ProofOf.l0 k x0 (x6 ++ [(⟨t343, Go.bits .or .i64 x342000 ((rd_T48 x0 t343).f1)⟩ : S110)]) x337000 x337001 (Go.bits .or .i64 x342000 ((rd_T48 x0 t343).f1))) else (none)) else (none)) else (none))))
def impl_ProofOf.f (k : Nat) (l0 : List (S48)) (a1_0 : Int) (a1_1 : Int) : Option ((List (S110)) × Bool) := (impl_Follows.f k l0 a1_0 a1_1).bind fun t337 => (if t337 = true then (impl_ProofOf.l0 k l0 (([] : List (S110))) a1_0 a1_1 a1_0) else (some (([] : List (S110)), false)))
def impl_ProofOf.T6 : Bool × List (List Nat × List Nat) := (true, [([], []), ([], []), ([], []), ([1, 2], [1, 2]), ([3], [3]), ([4], [4]), ([0, 5], [0, 5]), ([6, 0, 1, 2, 3, 4, 5, 6], [6])])
def impl_ProofOf.B6 : List Nat := [0, 0, 0, 6, 14, 30, 63, 127]
theorem impl_ProofOf.tab6 : rtab .any (opsOf Tryz.f30 6) = impl_ProofOf.T6 := s10_
theorem impl_ProofOf.bits6 : waitsOk impl_ProofOf.T6.2 impl_ProofOf.B6 = true := s10_
set_option maxHeartbeats 40000000 in
set_option maxRecDepth 100000 in
theorem impl_ProofOf.calls (k : Nat) (A0 : Option Addr) (c0 : Nat) (l0 : List (S48)) (a1_0 : Int) (a1_1 : Int) (r1 : List (S110)) (r2 : Bool) (w : World) (hr0 : Kd.C k48 w A0 l0.length l0) (hc0 : l0.length ≤ c0) (h : impl_ProofOf.f k l0 a1_0 a1_1 = some (r1, r2)) :
  Calls Tryz.prog 30 #[.slice A0 l0.length c0, .agg #[.int .i64 a1_0, .int .i64 a1_1]] w fun e w' => ∃ v0_ : Value, e = .returned (.tuple #[v0_, .bool r2]) ∧ Kd.R k110 110 w' w.heap.size (fun _ => True) v0_ r1 ∧ Below w.heap.size w w' := by
 have hu48 := Tryz.underlying48; have hu110 := Tryz.underlying110; have HR0 := Aside0.mk hr0; have HC0 := Aside0.mk hc0; clear hr0 hc0; have HB := Aside0.mk (Below.refl w.heap.size w); have H := h; clear h; unfold impl_ProofOf.f at H; obtain ⟨t337, A3, H⟩ := bnd42_ H
 by_cases c4 : t337 = true
 ·
  subst c4; rw [if_pos rfl] at H; obtain ⟨y338, hy_⟩ : ∃ y_ : List (S110), y_ = (([] : List (S110))) := ⟨_, rfl⟩
  replace H : (impl_ProofOf.l0 k l0 y338 a1_0 a1_1 a1_0) = some (r1, r2) := rH_
  have Ny338 := Aside0.mk hy_; clear hy_; have H' := Aside0.mk H; clear H
  go_enter Tryz.func30, Tryz.ntmps30
  try go_wp2_with ((with_reducible refine gw_ rfl ?_); first | (refine be_ 3 #[.int .i64 a1_0, .int .i64 a1_1] 48 ?_; intro gb336 hg w5 hbox hb; have n_ := ac_ (below_step s1_ hb) <| ac_ (hbox) <| ac_ ((gz_ w hg s1_)) <| Aside0.mk ((gz_ w hg s1_)); clear HB; obtain ⟨HB, BK336, GW336, GE336⟩ := n_; clear hb hbox hg; have hcz6_0 : w5.cell? ⟨gb336, 0, none⟩ = some (.int .i64 a1_0) := (blk_cell BK336.out 0).trans rfl; have hcz6_1 : w5.cell? ⟨gb336, 1, none⟩ = some (.int .i64 a1_1) := (blk_cell BK336.out 1).trans rfl; have hfz6_0 := blk_frozen BK336.out 0; have hfz6_1 := blk_frozen BK336.out 1) | (refine gL_ 68 11 Tryz.func68 #[.slice A0 l0.length c0, .agg #[.int .i64 a1_0, .int .i64 a1_1]] ?_; (with_reducible refine (impl_Follows.calls k _ _ l0 a1_0 a1_1 true _ ?side1 ?side2 A3.out).mono ?_); (case side1 => exact s5_); (case side2 => exact HC0.out); rintro e w7 ⟨rfl, hb⟩; refine ⟨_, rfl, ?_⟩; have n_ := ac_ (blk_below (g := gb336) (o := .cells #[.int .i64 a1_0, .int .i64 a1_1] 48 (0, 0)) q42_7 hb) <| Aside0.mk (below_step q42_4 hb); clear BK336 HB; obtain ⟨BK336, HB⟩ := n_; (try clear hb)))
  have n0_ := Aside0.mk (blk_drew BK336.out); have n1_ := Aside0.mk (below_drew1 HB.out); clear BK336; clear HB; have BK336 := n0_; have HB := n1_; clear n0_ n1_
  refine start_ (n := 6) (S := fun w' => w'.cell? ⟨gb336, 0, none⟩ = some (.int .i64 a1_0) ∧ w'.cell? ⟨gb336, 1, none⟩ = some (.int .i64 a1_1)) (ds := []) (tb_ 6 0) s10_ rfl rfl ⟨(blk_cell BK336.out 0).trans rfl, (blk_cell BK336.out 1).trans rfl⟩ (fun hHeld => ?_)
  generalize w7.drew = w8 at BK336 HB hHeld ⊢
  refine pl_ 1 14 (tb_ 6 2) ?_
  refine take_ (i := 2) (N := some 15) (v := ?_) (a' := ?_) (tb_ 6 6) rfl rfl s10_ (fun _ _ _ h => h) (Or.inl ⟨by rfl, ?_⟩) hHeld ?_ ?_
  rotate_left
  ·
   rintro w' ⟨s0, s1⟩
   go_simp; with_reducible rfl
  rotate_left
  ·
   exact s6_
  refine join_ (σ := Value × Nat) 2 (tb_ 6 15) (fun s_ => [(13, s_.1), (7, .pointer (some ⟨s_.2, 0, none⟩))]) (fun s_ w' => (w'.cell? ⟨gb336, 0, none⟩ = some (.int .i64 a1_0) ∧ w'.cell? ⟨gb336, 1, none⟩ = some (.int .i64 a1_1)) ∧ (Kd.R k110 110 w' w.heap.size (fun _ => True) s_.1 y338) ∧ (w'.heap[gb336]? = some (.cells #[.int .i64 a1_0, .int .i64 a1_1] 48 (0, 0))) ∧ (w'.heap[s_.2]? = some (.cells #[.int .i64 0] 3 (0, 0))) ∧ (w.heap.size ≤ s_.2) ∧ (w.heap.size ≤ s_.2) ∧ (gb336 ≠ s_.2) ∧ (s_.2 ≠ gb336) ∧ (Below w.heap.size w w')) ?_ ?_
  rotate_left
  ·
   intro hCont
   refine two_ (i := 0) (j := 3) (Ni := some 13) (Nj := some 7) (tb_ 6 7) (tb_ 6 14) rfl rfl rfl rfl s10_ (by decide) (by decide) (fun K hK => ?_) (fun K hK => ?_)
   ·
    skip
    refine Kd.R_lit_step k110 _ 110 ?hg (N := 13) ?hd (xs := ([] : List (S110))) (inner := []) (ok := fun _ => True) (okp := fun _ => True) ?hr ?hp (fun _ hk => hk) trivial (Below.refl _ _) (Nat.le_refl _) (by simp) ?_; (case hd => rfl); (case hg => rfl); (case hr => first | (go_simp; done) | (go_simp; rfl)); (case hp => exact (Reps.none _ _))
    intro v339 w9 ho10 hb hg_ hnew_
    clear hg_ hnew_
    (first | rw [← Ny338.out] at ho10 | (simp only [Int.reduceToNat] at ho10; rw [← Ny338.out] at ho10))
    have n0_ := Aside0.mk (Kd.R_lower ho10 (below_size q42_4)); have n1_ := Aside0.mk (blk_below (g := gb336) (o := .cells #[.int .i64 a1_0, .int .i64 a1_1] 48 (0, 0)) q42_7 hb); have n2_ := Aside0.mk (below_step q42_4 hb); clear BK336; clear HB; have HO340 := n0_; have BK336 := n1_; have HB := n2_; clear n0_ n1_ n2_; clear hb ho10
    refine hK.out _ _ ⟨(blk_cell BK336.out 0).trans rfl, (blk_cell BK336.out 1).trans rfl⟩ (fun hHeld => ?_)
    clear hK K
    refine norm_ (a' := ?_) ?_ ?_
    rotate_left
    ·
     show Act.put _ (some 13) _ = _
     exact s6_
    refine one_ (i := 3) (N := some 7) (tb_ 6 15) rfl rfl s10_ (by decide) (fun K hK => ?_)
    refine box_step ?hg (N := 7) ?hd (cs := #[.int .i64 0]) (t := 3) ?hr ?_; (case hd => rfl); (case hg => rfl); (case hr => first | (go_simp; done) | (go_simp; rfl))
    intro gb341 hg w11 hbox hb
    have n0_ := Aside0.mk (Kd.R_below q42_9 hb); have n1_ := Aside0.mk (blk_below (g := gb336) (o := .cells #[.int .i64 a1_0, .int .i64 a1_1] 48 (0, 0)) q42_7 hb); have n2_ := Aside0.mk (below_step q42_4 hb); have n3_ := Aside0.mk (hbox)
    have n4_ := Aside0.mk ((gz_ w hg q42_4))
    have n5_ := Aside0.mk ((gz_ w hg q42_4))
    have n6_ := Aside0.mk ((nl_ hg (blk_lt (g := gb336) (o := .cells #[.int .i64 a1_0, .int .i64 a1_1] 48 (0, 0)) q42_7)))
    have n7_ := Aside0.mk ((ng_ hg (blk_lt (g := gb336) (o := .cells #[.int .i64 a1_0, .int .i64 a1_1] 48 (0, 0)) q42_7)))
    clear HO340; clear BK336; clear HB; have HO340 := n0_; have BK336 := n1_; have HB := n2_; have BK341 := n3_; have GW341 := n4_; have GE341 := n5_; have NB336_341 := n6_; have NB341_336 := n7_; clear n0_ n1_ n2_ n3_ n4_ n5_ n6_ n7_; clear hb hbox hg
    refine hK.out _ _ ⟨(blk_cell BK336.out 0).trans rfl, (blk_cell BK336.out 1).trans rfl⟩ (fun hHeld => ?_)
    clear hK K
    refine norm_ (a' := ?_) ?_ ?_
    rotate_left
    ·
     show Act.put _ (some 7) _ = _
     exact s6_
    exact norm_ (by simp only [putAll, Act.put, List.setIfInBounds_toArray, List.set_cons_zero, List.set_cons_succ]) (hCont (v339, gb341) _ ⟨hHeld, q42_9, q42_7, q42_8, GW341.out, GE341.out, NB336_341.out, NB341_336.out, q42_2⟩)
   ·
    skip
    refine box_step ?hg (N := 7) ?hd (cs := #[.int .i64 0]) (t := 3) ?hr ?_; (case hd => rfl); (case hg => rfl); (case hr => first | (go_simp; done) | (go_simp; rfl))
    intro gb341 hg w9 hbox hb
    have n0_ := Aside0.mk (blk_below (g := gb336) (o := .cells #[.int .i64 a1_0, .int .i64 a1_1] 48 (0, 0)) q42_7 hb); have n1_ := Aside0.mk (below_step q42_4 hb); have n2_ := Aside0.mk (hbox)
    have n3_ := Aside0.mk ((gz_ w hg q42_4))
    have n4_ := Aside0.mk ((gz_ w hg q42_4))
    have n5_ := Aside0.mk ((nl_ hg (blk_lt (g := gb336) (o := .cells #[.int .i64 a1_0, .int .i64 a1_1] 48 (0, 0)) q42_7)))
    have n6_ := Aside0.mk ((ng_ hg (blk_lt (g := gb336) (o := .cells #[.int .i64 a1_0, .int .i64 a1_1] 48 (0, 0)) q42_7)))
    clear BK336; clear HB; have BK336 := n0_; have HB := n1_; have BK341 := n2_; have GW341 := n3_; have GE341 := n4_; have NB336_341 := n5_; have NB341_336 := n6_; clear n0_ n1_ n2_ n3_ n4_ n5_ n6_; clear hb hbox hg
    refine hK.out _ _ ⟨(blk_cell BK336.out 0).trans rfl, (blk_cell BK336.out 1).trans rfl⟩ (fun hHeld => ?_)
    clear hK K
    refine norm_ (a' := ?_) ?_ ?_
    rotate_left
    ·
     show Act.put _ (some 7) _ = _
     exact s6_
    refine one_ (i := 0) (N := some 13) (tb_ 6 15) rfl rfl s10_ (by decide) (fun K hK => ?_)
    refine Kd.R_lit_step k110 _ 110 ?hg (N := 13) ?hd (xs := ([] : List (S110))) (inner := []) (ok := fun _ => True) (okp := fun _ => True) ?hr ?hp (fun _ hk => hk) trivial (Below.refl _ _) (Nat.le_refl _) (by simp) ?_; (case hd => rfl); (case hg => rfl); (case hr => first | (go_simp; done) | (go_simp; rfl)); (case hp => exact (Reps.none _ _))
    intro v339 w10 ho11 hb hg_ hnew_
    clear hg_ hnew_
    (first | rw [← Ny338.out] at ho11 | (simp only [Int.reduceToNat] at ho11; rw [← Ny338.out] at ho11))
    have n0_ := Aside0.mk (Kd.R_lower ho11 (below_size q42_2)); have n1_ := Aside0.mk (blk_below (g := gb336) (o := .cells #[.int .i64 a1_0, .int .i64 a1_1] 48 (0, 0)) q42_7 hb); have n2_ := Aside0.mk (blk_below (g := gb341) (o := .cells #[.int .i64 0] 3 (0, 0)) q42_8 hb); have n3_ := Aside0.mk (below_step q42_2 hb); clear BK336; clear BK341; clear HB; have HO340 := n0_; have BK336 := n1_; have BK341 := n2_; have HB := n3_; clear n0_ n1_ n2_ n3_; clear hb ho11
    refine hK.out _ _ ⟨(blk_cell BK336.out 0).trans rfl, (blk_cell BK336.out 1).trans rfl⟩ (fun hHeld => ?_)
    clear hK K
    refine norm_ (a' := ?_) ?_ ?_
    rotate_left
    ·
     show Act.put _ (some 13) _ = _
     exact s6_
    exact norm_ (by simp only [putAll, Act.put, List.setIfInBounds_toArray, List.set_cons_zero, List.set_cons_succ]) (hCont (v339, gb341) _ ⟨hHeld, q42_9, q42_7, q42_8, GW341.out, GE341.out, NB336_341.out, NB341_336.out, q42_2⟩)
  rintro ⟨v339, gb341⟩ w12 ⟨hS_, h0_, h1_, h2_, h3_, h4_, h5_, h6_, h7_⟩
  have n0_ : Aside0 (Kd.R k110 110 w12 w.heap.size (fun _ => True) v339 y338) := ⟨h0_⟩
  have n1_ : Aside0 (w12.heap[gb336]? = some (.cells #[.int .i64 a1_0, .int .i64 a1_1] 48 (0, 0))) := ⟨h1_⟩; have n2_ : Aside0 (w12.heap[gb341]? = some (.cells #[.int .i64 0] 3 (0, 0))) := ⟨h2_⟩; have n3_ : Aside0 (w.heap.size ≤ gb341) := ⟨h3_⟩; have n4_ : Aside0 (w.heap.size ≤ gb341) := ⟨h4_⟩; have n5_ : Aside0 (gb336 ≠ gb341) := ⟨h5_⟩; have n6_ : Aside0 (gb341 ≠ gb336) := ⟨h6_⟩; have n7_ : Aside0 (Below w.heap.size w w12) := ⟨h7_⟩; clear BK336; clear HB; clear h0_ h1_ h2_ h3_ h4_ h5_ h6_ h7_; have HO340 := n0_; have BK336 := n1_; have BK341 := n2_; have GW341 := n3_; have GE341 := n4_; have NB336_341 := n5_; have NB341_336 := n6_; have HB := n7_; clear n0_ n1_ n2_ n3_ n4_ n5_ n6_ n7_; have hHeld : w12.cell? ⟨gb336, 0, none⟩ = some (.int .i64 a1_0) ∧ w12.cell? ⟨gb336, 1, none⟩ = some (.int .i64 a1_1) := hS_
  refine norm_ (a' := ?_) ?_ ?_
  rotate_left
  ·
   simp only [putAll, Act.put, List.setIfInBounds_toArray, List.set_cons_zero, List.set_cons_succ]
   rfl
  refine pl_ 4 6 (tb_ 6 31) ?_
  refine one_ (i := 5) (N := none) (tb_ 6 63) rfl rfl s10_ (by decide) (fun K hK => ?_)
  have hs13 : w12.cell? ⟨gb341, 0, none⟩ = some (.int .i64 0) := (blk_cell BK341.out 0).trans rfl; have hfs13 := blk_frozen BK341.out 0; have hns13_0 := NB336_341.out; have hms13_0 := NB341_336.out
  refine skip_ (w1 := ?_) (by rfl) rfl ?_ ?_
  rotate_left
  ·
   go_simp
   rfl
  refine hK.out _ _ ⟨((cell_far (p := ⟨gb341, _, none⟩) NB336_341.out _).trans (hHeld.1)), ((cell_far (p := ⟨gb341, _, none⟩) NB336_341.out _).trans (hHeld.2))⟩ (fun hHeld => ?_)
  clear hK K
  refine done_ s10_ ?_
  try go_wp2
  go_loopg [6] k (fun kq v6 w' => ∃ (x6_1 : List (S110)) (x342000_1 : Int), Aside0 (impl_ProofOf.l0 kq l0 x6_1 a1_0 a1_1 x342000_1 = some (r1, r2)) ∧ Aside0 (kq ≤ k) ∧ Aside0 (Kd.R k110 110 w' w.heap.size (fun _ => True) v6 x6_1) ∧ Aside0 (w'.heap[gb336]? = some (.cells #[.int .i64 a1_0, .int .i64 a1_1] 48 (0, 0))) ∧ Aside0 (w'.heap[gb341]? = some (.cells #[.int .i64 x342000_1] 3 (0, 0))) ∧ Aside0 (Below w.heap.size w w'))
  case atStart => exact ⟨(y338), (a1_0), H', ⟨Nat.le_refl _⟩, ⟨(by (with_reducible repeat (first | apply Kd.R_alloc | apply Kd.R_drewN | apply Kd.R_drew)); exact Kd.R_mono (Kd.R_far (p := ⟨gb341, 0, none⟩) (Kd.R_types HO340.out BK341.out (by decide)) (fun _ hk => hk.2) (.int .i64 a1_0)) (fun _ hk => trivial))⟩, ⟨q42_1⟩, ⟨(by (with_reducible repeat (first | refine blk_drewN ?_ _ | refine blk_drew ?_ | refine blk_alloc ?_ _)); refine blk_put (cs := #[.int .i64 0]) ?_ 0 _ rfl; (with_reducible repeat (first | refine blk_drewN ?_ _ | refine blk_drew ?_ | refine blk_alloc ?_ _)); exact BK341.out)⟩, ⟨q42_2⟩⟩
  case round =>
   clear H'
   try clear p2
   try clear c3
   try clear c4
   try clear c6
   try clear hcz6_0
   try clear hcz6_1
   try clear hfz6_0
   try clear hfz6_1
   obtain ⟨x6_1, x342000_1, HA, HK1, HO_6, BK336, BK341, HB⟩ := hrel
   cases gk with
   | zero => exact absurd HA.out (by simp [impl_ProofOf.l0])
   | succ k1 =>
    have H := HA.out; clear HA
    simp only [impl_ProofOf.l0] at H
    obtain ⟨t342, A14, H⟩ := bnd42_ H
    by_cases c15 : t342 = true
    ·
     subst c15; rw [if_pos rfl] at H
     simp only [Option.some.injEq, Prod.mk.injEq] at H
     obtain ⟨rfl, rfl⟩ := H; have hnb16 := NB336_341.out; have hnc16 := NB341_336.out; have hcz17_0 : wr.cell? ⟨gb336, 0, none⟩ = some (.int .i64 a1_0) := (blk_cell BK336.out 0).trans rfl; have hcz17_1 : wr.cell? ⟨gb336, 1, none⟩ = some (.int .i64 a1_1) := (blk_cell BK336.out 1).trans rfl; have hfz17_0 := blk_frozen BK336.out 0; have hfz17_1 := blk_frozen BK336.out 1; have hcz18_0 : wr.cell? ⟨gb341, 0, none⟩ = some (.int .i64 x342000_1) := (blk_cell BK341.out 0).trans rfl; have hfz18_0 := blk_frozen BK341.out 0
     go_wp2_with ((with_reducible refine gw_ rfl ?_); (refine gL_ 141 19 Tryz.func141 #[.int .i64 a1_1, .int .i64 x342000_1] ?_; (with_reducible refine (impl_inSet.calls a1_1 x342000_1 true _ A14.out).mono ?_); rintro e w' ⟨rfl, ⟨nd, rfl⟩⟩; refine ⟨_, rfl, ?_⟩))
     go_ret2
     exact ⟨_, (by first | rfl | (simp [errW_none, errW_some] <;> rfl) | (simp [*, errW_none, errW_some] <;> rfl)), s15_, q42_2⟩
    ·
     replace c15 := Bool.eq_false_iff.mpr c15; subst c15
     rw [if_neg (show ¬ (false = true) by decide)] at H
     obtain ⟨t343, A19, H⟩ := bnd42_ H
     by_cases c20 : 0 ≤ t343
     ·
      rw [if_pos c20] at H; have c20b0 : decide (0 ≤ t343) = true := decide_eq_true c20; clear c20
      by_cases c21 : t343 < (l0.length : Int)
      ·
       rw [if_pos c21] at H; have c21b0 : decide (t343 < (l0.length : Int)) = true := decide_eq_true c21; clear c21
       by_cases c22 : x6_1.length < 8796093022208
       ·
        rw [if_pos c22] at H; have LMc22 := Aside0.mk c22; clear c22; obtain ⟨y345, hy_⟩ : ∃ y_ : List (S110), y_ = (x6_1 ++ [(⟨t343, Go.bits .or .i64 x342000_1 ((rd_T48 l0 t343).f1)⟩ : S110)]) := ⟨_, rfl⟩
        replace H : (impl_ProofOf.l0 k1 l0 y345 a1_0 a1_1 (Go.bits .or .i64 x342000_1 ((rd_T48 l0 t343).f1))) = some (r1, r2) := rH_
        have Ny345 := Aside0.mk hy_; clear hy_; have H' := Aside0.mk H; clear H; have hnb23 := NB336_341.out; have hnc23 := NB341_336.out; have hcz24_0 : wr.cell? ⟨gb336, 0, none⟩ = some (.int .i64 a1_0) := (blk_cell BK336.out 0).trans rfl; have hcz24_1 : wr.cell? ⟨gb336, 1, none⟩ = some (.int .i64 a1_1) := (blk_cell BK336.out 1).trans rfl; have hfz24_0 := blk_frozen BK336.out 0; have hfz24_1 := blk_frozen BK336.out 1; have hcz25_0 : wr.cell? ⟨gb341, 0, none⟩ = some (.int .i64 x342000_1) := (blk_cell BK341.out 0).trans rfl; have hfz25_0 := blk_frozen BK341.out 0
        try go_wp2_with ((with_reducible refine gw_ rfl ?_); first | (refine gL_ 141 19 Tryz.func141 #[.int .i64 a1_1, .int .i64 x342000_1] ?_; (with_reducible refine (impl_inSet.calls a1_1 x342000_1 false _ A14.out).mono ?_); rintro e w' ⟨rfl, ⟨nd, rfl⟩⟩; refine ⟨_, rfl, ?_⟩; (try (rw [drewN_self wr]; generalize hq_ : World.drewN wr _ = wr; have n0_ : Aside0 (Kd.R k110 110 wr w.heap.size (fun _ => True) u6 x6_1) := ⟨by rw [← hq_]; exact s15_⟩; have n1_ : Aside0 (wr.heap[gb336]? = some (.cells #[.int .i64 a1_0, .int .i64 a1_1] 48 (0, 0))) := ⟨by rw [← hq_]; exact q42_7⟩; have n2_ : Aside0 (wr.heap[gb341]? = some (.cells #[.int .i64 x342000_1] 3 (0, 0))) := ⟨by rw [← hq_]; exact q42_8⟩; have n3_ : Aside0 (Below w.heap.size w wr) := ⟨by rw [← hq_]; exact q42_2⟩; clear HO_6 BK336 BK341 HB hq_; have HO_6 := n0_; have BK336 := n1_; have BK341 := n2_; have HB := n3_; clear n0_ n1_ n2_ n3_))) | (refine gL_ 142 23 Tryz.func142 #[.slice A0 l0.length c0, .func (.func 143) #[] #[.pointer (some ⟨gb341, 0, none⟩)]] ?_; (with_reducible refine (impl_ProofOf_IndexFunc0.calls ?u1_1 ?u1_2 l0 x342000_1 t343 _ ?side1 ?side2 A19.out ?box0).mono ?_); (case box0 => (with_reducible repeat (first | refine blk_drewN ?_ _ | refine blk_drew ?_ | refine blk_alloc ?_ _)); exact BK341.out); (case side1 => exact s5_); (case side2 => exact HC0.out); rintro e w26 ⟨rfl, hb⟩; refine ⟨_, rfl, ?_⟩; have n_ := ac_ (Kd.R_below s15_ hb) <| ac_ (blk_below (g := gb336) (o := .cells #[.int .i64 a1_0, .int .i64 a1_1] 48 (0, 0)) q42_7 hb) <| ac_ (blk_below (g := gb341) (o := .cells #[.int .i64 x342000_1] 3 (0, 0)) q42_8 hb) <| Aside0.mk (below_step q42_2 hb); clear HO_6 BK336 BK341 HB; obtain ⟨HO_6, BK336, BK341, HB⟩ := n_; (try clear hb)))
        have n0_ := Aside0.mk (Kd.R_drew HO_6.out); have n1_ := Aside0.mk (blk_drew BK336.out); have n2_ := Aside0.mk (blk_drew BK341.out); have n3_ := Aside0.mk (below_drew1 HB.out); clear HO_6; clear BK336; clear BK341; clear HB; have HO_6 := n0_; have BK336 := n1_; have BK341 := n2_; have HB := n3_; clear n0_ n1_ n2_ n3_
        have p344 : 0 ≤ (t343 : Int) := of_decide_eq_true (by first | (with_reducible assumption) | assumption)
        have q344 : t343 < (l0.length : Int) := of_decide_eq_true (by first | (with_reducible assumption) | assumption)
        obtain ⟨ad344, e344, hx344_0, hx344_1⟩ := at_T48 HR0.out t343 p344 q344; have hw344_1 := hx344_1; have hw344_0 := hx344_0
        cases e344
        replace hx344_0 := (HB.out.cell (World.block_lt_of_cell? w _ hx344_0)).trans hx344_0; replace hx344_1 := (HB.out.cell (World.block_lt_of_cell? w _ hx344_1)).trans hx344_1; replace p344 := eq_true p344; replace q344 := eq_true q344
        refine start_ (n := 8) (S := fun w' => w'.cell? ⟨gb341, 0, none⟩ = some (.int .i64 x342000_1) ∧ w'.cell? (ad344.add ((t343).toNat * 2)) = some (.int .i64 ((rd_T48 l0 t343).f0)) ∧ w'.cell? ⟨(ad344.add ((t343).toNat * 2)).block, (ad344.add ((t343).toNat * 2)).off + 1, none⟩ = some (.int .i64 ((rd_T48 l0 t343).f1))) (ds := [7]) (tb_ 8 0) s10_ rfl rfl ⟨(blk_cell BK341.out 0).trans rfl, ((HB.out.cell (World.block_lt_of_cell? w _ hw344_0)).trans hw344_0), ((HB.out.cell (World.block_lt_of_cell? w _ hw344_1)).trans hw344_1)⟩ (fun hHeld => ?_); refine with_tabW impl_ProofOf.tab6 impl_ProofOf.bits6 (fun HT_ HW_ => ?_)
        generalize w26.drew = w27 at HO_6 BK336 BK341 HB hx344_0 hx344_1 hHeld ⊢
        refine pl_ 1 25 (tb_ 8 2) ?_; refine pl_ 2 26 (tb_ 8 6) ?_; refine pl_ 3 27 (tb_ 8 14) ?_; refine pl_ 4 28 (tb_ 8 30) ?_; refine tk_ 0 24 (tb_ 8 31) hHeld ?_; refine tk_ 5 29 (tb_ 8 63) hHeld ?_; refine pl_ 6 30 (tb_ 8 127) ?_
        refine last_ (i := 7) (N := none) (tb_ 8 255) rfl rfl (one_of HT_.out s10_) (by decide) (fun K hK => ?_)
        have hs28 : w27.cell? ⟨gb341, 0, none⟩ = some (.int .i64 x342000_1) := (blk_cell BK341.out 0).trans rfl; have hfs28 := blk_frozen BK341.out 0; have hns28_0 := NB336_341.out; have hms28_0 := NB341_336.out
        refine skip_ (w1 := ?_) (by rfl) rfl ?_ ?_
        rotate_left
        ·
         go_simp
         rfl
        refine hK.out _ _ ?_
        clear hK K
        refine done_ (done_of HT_.out s10_) ?_
        have hcz29_0 : w27.cell? ⟨gb341, 0, none⟩ = some (.int .i64 x342000_1) := (blk_cell BK341.out 0).trans rfl; have hfz29_0 := blk_frozen BK341.out 0
        try go_wp2_with (first | ((with_reducible refine gate_builtin (b := .append) (xs := #[.tmp 31, .tmp 35]) rfl ?_); at_builtin; refine Kd.R_append k110 (w0 := w) w.heap.size rfl (.tmp 31) (.tmp 35) 51 110 (.agg #[(.int .i64 0), (.int .i64 0)]) 16 rfl Tryz.underlying51 info110 rfl (by decide) (by omega) u6 x6_1 (⟨t343, Go.bits .or .i64 x342000_1 ((rd_T48 l0 t343).f1)⟩ : S110) [.int .i64 t343, .int .i64 (Go.bits .or .i64 x342000_1 ((rd_T48 l0 t343).f1))] (fun _ => True) (fun _ => False) rfl (by first | (go_simp; done) | (go_simp; rfl)) ?aP (fun _ hk => hk.elim) ?aF ?aO ?aB ?aS ?aL ?_; (case aP => exact k110_mkM _ _ _ (⟨t343, Go.bits .or .i64 x342000_1 ((rd_T48 l0 t343).f1)⟩ : S110)); (case aB => exact q42_2); (case aF => exact (fun _ _ => trivial)); (case aO => exact (by (with_reducible repeat (first | apply Kd.R_alloc | apply Kd.R_drewN | apply Kd.R_drew)); exact Kd.R_mono (Kd.R_far (p := ⟨gb341, 0, none⟩) (Kd.R_types HO_6.out BK341.out (by decide)) (fun _ hk => hk.2) (.int .i64 (Go.bits .or .i64 x342000_1 ((rd_T48 l0 t343).f1)))) (fun _ hk => trivial))); (case aS => exact (below_size q42_2)); (case aL => have := LMc22.out; omega); intro v346 w30 ho hb hg hat; rw [← Ny345.out] at ho; have n_ := ac_ (blk_grown (g := gb336) (o := .cells #[.int .i64 a1_0, .int .i64 a1_1] 48 (0, 0)) q42_1 hg (Kd.R_ne HO_6.out BK336.out (by decide))) <| ac_ (blk_grown (g := gb341) (o := .cells #[.int .i64 (Go.bits .or .i64 x342000_1 ((rd_T48 l0 t343).f1))] 3 (0, 0)) (by (with_reducible repeat (first | refine blk_drewN ?_ _ | refine blk_drew ?_ | refine blk_alloc ?_ _)); refine blk_put (cs := #[.int .i64 x342000_1]) ?_ 0 _ rfl; (with_reducible repeat (first | refine blk_drewN ?_ _ | refine blk_drew ?_ | refine blk_alloc ?_ _)); exact BK341.out) hg (Kd.R_ne HO_6.out BK341.out (by decide))) <| ac_ (hb) <| Aside0.mk (ho); clear BK336 BK341 HB HO_6; obtain ⟨BK336, BK341, HB, HO347⟩ := n_; clear ho hb hg hat))
        go_roundg k1
        case measure => have := HK1.out; omega
        case rel => exact ⟨(y345), (Go.bits .or .i64 x342000_1 ((rd_T48 l0 t343).f1)), H', ⟨by have := HK1.out; omega⟩, ⟨(by (with_reducible repeat (first | apply Kd.R_alloc | apply Kd.R_drewN | apply Kd.R_drew)); exact HO347.out)⟩, ⟨q42_7⟩, ⟨q42_8⟩, ⟨q42_2⟩⟩
       ·
        rw [if_neg c22] at H
        exact absurd H (by simp)
      ·
       rw [if_neg c21] at H
       exact absurd H (by simp)
     ·
      rw [if_neg c20] at H
      exact absurd H (by simp)
 ·
  replace c4 := Bool.eq_false_iff.mpr c4; subst c4
  rw [if_neg (show ¬ (false = true) by decide)] at H
  simp only [Option.some.injEq, Prod.mk.injEq] at H
  obtain ⟨rfl, rfl⟩ := H
  go_enter Tryz.func30, Tryz.ntmps30
  go_wp2_with ((with_reducible refine gw_ rfl ?_); first | (refine be_ 3 #[.int .i64 a1_0, .int .i64 a1_1] 48 ?_; intro gb336 hg w31 hbox hb; have n_ := ac_ (below_step s1_ hb) <| ac_ (hbox) <| ac_ ((gz_ w hg s1_)) <| Aside0.mk ((gz_ w hg s1_)); clear HB; obtain ⟨HB, BK336, GW336, GE336⟩ := n_; clear hb hbox hg; have hcz32_0 : w31.cell? ⟨gb336, 0, none⟩ = some (.int .i64 a1_0) := (blk_cell BK336.out 0).trans rfl; have hcz32_1 : w31.cell? ⟨gb336, 1, none⟩ = some (.int .i64 a1_1) := (blk_cell BK336.out 1).trans rfl; have hfz32_0 := blk_frozen BK336.out 0; have hfz32_1 := blk_frozen BK336.out 1) | (refine gL_ 68 11 Tryz.func68 #[.slice A0 l0.length c0, .agg #[.int .i64 a1_0, .int .i64 a1_1]] ?_; (with_reducible refine (impl_Follows.calls k _ _ l0 a1_0 a1_1 false _ ?side1 ?side2 A3.out).mono ?_); (case side1 => exact s5_); (case side2 => exact HC0.out); rintro e w33 ⟨rfl, hb⟩; refine ⟨_, rfl, ?_⟩; have n_ := ac_ (blk_below (g := gb336) (o := .cells #[.int .i64 a1_0, .int .i64 a1_1] 48 (0, 0)) q42_7 hb) <| Aside0.mk (below_step q42_4 hb); clear BK336 HB; obtain ⟨BK336, HB⟩ := n_; (try clear hb)))
  go_ret2
  exact ⟨_, (by first | rfl | (simp [errW_none, errW_some] <;> rfl) | (simp [*, errW_none, errW_some] <;> rfl)), (by first | exact Kd.R_nil _ _ _ _ _ | exact Kd.N_nil _ _ _ _ _ | exact Kd.V_nil _ _ _ _ _ | exact Kd.Q_nil _ _ _ _ _ | exact Kd.S_nil _ _ _ _ _), q42_4⟩
end Go.Proofs.YtafnamchckehmaaGreatDoor.Pr
namespace Go.Proofs.YtafnamchckehmaaGreatDoor.Pu
theorem small_any {l : List IR} (h : l.all anyR = true) : small (toR l) := fun r hr => by
  unfold toR at hr
  obtain ⟨x, hx, rfl⟩ := List.mem_map.1 hr
  have := List.all_eq_true.1 h x hx
  unfold anyR isAny at this
  rw [Bool.and_eq_true, decide_eq_true_iff, decide_eq_true_iff] at this
  unfold toP
  exact ⟨by show x.f0.toNat < 256; omega, by show x.f1.toNat < 256; omega⟩
end Go.Proofs.YtafnamchckehmaaGreatDoor.Pu
namespace Go.Proofs.YtafnamchckehmaaGreatDoor.Pr
open Go.RowKit Go.Proofs.YtafnamchckehmaaGreatDoorW.PrintWords Go.Proofs.YtafnamchckehmaaGreatDoorW.PrintLast Go.Proofs.YtafnamchckehmaaGreatDoorW.PrintMore
set_option linter.unusedVariables false
theorem sr_closure (l : List S48) (hl : l.length ≤ 9223372036854775807) (hany : l.all Pu.anyR = true) (A1 : Option Addr) (c1 : Nat) (w : World) (hr1 : Kd.C k48 w A1 l.length l) (hc1 : l.length ≤ c1)
    {g : Nat} (hg : w.heap[g]? = some (.cells #[.slice A1 l.length c1] 24 (0, 0))) (W : World) (x : Nat) (hx : x < 256) (hb : Below w.heap.size w W) :
    Calls Tryz.prog 152 (#[.int .i64 (x : Int)] ++ #[.pointer (some ⟨g, 0, none⟩)]) W fun e w' => e = .returned (.int .i64 ((Pu.clo (Pu.toR l) x : Nat) : Int)) ∧ Below W.heap.size W w' := by
  rw [show (#[.int .i64 (x : Int)] ++ #[.pointer (some ⟨g, 0, none⟩)] : Array Value) = #[.int .i64 (x : Int), .pointer (some ⟨g, 0, none⟩)] from rfl]
  obtain ⟨k, hk⟩ := Ev.rounds (Pu.closedI_val l hl (x : Int))
  rw [Pu.cloV_nat hany hx] at hk
  have hc0' : W.cell? ⟨g, 0, none⟩ = some (.slice A1 l.length c1) := (blk_cell (blk_below hg hb) 0).trans rfl
  have HR := Aside0.mk (Kd.C_below hr1 hb)
  have HC := Aside0.mk hc1
  have HK := Aside0.mk hk
  clear hr1 hc1 hk hg hx hany hl
  generalize Pu.clo (Pu.toR l) x = q at *
  go_enter Tryz.func152, Tryz.ntmps152
  go_wp2_with (go_at_call 70; refine (impl_ClosedBy.calls k A1 c1 l (x : Int) (q : Int) _ (by first | exact HR.out | exact Kd.C_drewN HR.out _) HC.out HK.out).mono ?_; rintro e w' ⟨rfl, hb2⟩; have HB := Aside0.mk hb2; clear hb2)
  go_ret
  exact ⟨rfl, below_step (by repeat (first | exact Below.refl _ _ | apply below_alloc | apply pw_below_drewN | apply below_drew1)) HB.out⟩
def fvC (l : List S48) (s : Int) : Int := ((Pu.clo (Pu.toR l) s.toNat : Nat) : Int)
def okC (l0 : List Int) (l : List S48) : Prop := l0.length ≤ 1048576 ∧ l.length ≤ 40 ∧ l0.all Pu.isAny = true ∧ l.all Pu.anyR = true
instance (l0 : List Int) (l : List S48) : Decidable (okC l0 l) := by unfold okC; infer_instance
def impl_ShortRules_rulesTo0.f (l0 : List Int) (l1 : List S48) : Option (List S48) := if okC l0 l1 then some (ruleMap (fvC l1) l0) else none
theorem impl_ShortRules_rulesTo0.calls (A0 : Option Addr) (c0 : Nat) (l0 : List Int) (A1 : Option Addr) (c1 : Nat) (l1 : List S48) (r : List S48) (w : World) (hr0 : Kd.C (Kd.int .i64) w A0 l0.length l0) (hc0 : l0.length ≤ c0) (hr1 : Kd.C k48 w A1 l1.length l1) (hc1 : l1.length ≤ c1) (h : impl_ShortRules_rulesTo0.f l0 l1 = some r)
    {g : Nat} (hg : w.heap[g]? = some (.cells #[.slice A1 l1.length c1] 24 (0, 0))) :
    Calls Tryz.prog 153 #[.slice A0 l0.length c0, .func (.func 152) #[] #[.pointer (some ⟨g, 0, none⟩)]] w fun e w' => ∃ v0_ : Value, e = .returned (v0_) ∧ Kd.R k48 48 w' w.heap.size (fun _ => True) v0_ r ∧ Below w.heap.size w w' := by
  unfold impl_ShortRules_rulesTo0.f at h
  by_cases hn : okC l0 l1
  · rw [if_pos hn] at h
    obtain rfl := Option.some.inj h
    have eg : ∀ args w, (callFunc 152 args).run Tryz.prog w = .ok (.enter 152 args) w := enters_of Tryz.func152 (by kernel_rfl) rfl
    refine rulesTo_at 152 #[.pointer (some ⟨g, 0, none⟩)] eg (fvC l1) A0 c0 l0 w hr0 hn.1 ?_
    intro W x hx hb
    have hxa := List.all_eq_true.1 hn.2.2.1 x hx
    unfold Pu.isAny at hxa
    rw [decide_eq_true_iff] at hxa
    have e : x = ((x.toNat : Nat) : Int) := by omega
    have hlen := hn.2.1
    have := sr_closure l1 (by omega) hn.2.2.2 A1 c1 w hr1 hc1 hg W x.toNat (by omega) hb
    rw [← e] at this
    exact this
  · rw [if_neg hn] at h
    cases h
open Go.Sort Go.Shelf
def pc (x : Nat) : Nat := x % 2 + x / 2 % 2 + x / 4 % 2 + x / 8 % 2 + x / 16 % 2 + x / 32 % 2 + x / 64 % 2 + x / 128 % 2
theorem pc_all : ∀ x : Fin 256, pc x.val = (Pu.elN x.val).length := by decide +kernel
def cfC (x y : Fin 256) : Int := (((Pu.elN x.val).length : Nat) : Int) - (((Pu.elN y.val).length : Nat) : Int)
def ltC (x y : Fin 256) : Bool := Nat.blt (pc x.val) (pc y.val)
theorem lt_cfC : ltOf cfC = ltC := by
  funext x y
  unfold ltOf cfC ltC
  rw [← pc_all x, ← pc_all y, Bool.eq_iff_iff, decide_eq_true_iff, Nat.blt_eq]
  omega
def stOut (m : Nat) : List Nat := (stab ltC (arrF (Pu.allN m))).toList.map fun x => x.val
def upTo (f : Nat → Nat) : List Nat → Bool
  | [] => true
  | [_] => true
  | x :: y :: l => Nat.ble (f x) (f y) && upTo f (y :: l)
def stGood (m : Nat) : Bool := (stOut m).length == 2 ^ m && ((List.range (2 ^ m)).all fun x => (stOut m).contains x) && upTo pc (stOut m)
theorem stGood_all : ∀ m : Fin 7, stGood m.val = true := by decide +kernel
end Go.Proofs.YtafnamchckehmaaGreatDoor.Pr
