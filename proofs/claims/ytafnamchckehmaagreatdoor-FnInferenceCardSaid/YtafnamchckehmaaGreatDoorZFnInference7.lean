/- Functions of the program as plain functions, proofs that their calls answer so, and plain laws: what the law needs. No condition beyond what each statement says. -/
import Derived.Test.YtafnamchckehmaaGreatDoorZFnInference6
import Derived.Shelf.Abstract
import Derived.WalkSpells
import Derived.Deep.RegionLaw
import Derived.Lib.SliceRun
import Derived.Lib.LazyBuf
import Derived.Laws.Bits64b
import Derived.Lib.TrailingZeros
namespace Go.Proofs.YtafnamchckehmaaGreatDoor.Pr
set_option maxHeartbeats 40000000
set_option maxRecDepth 100000
open Go.RowKit Go.Proofs.YtafnamchckehmaaGreatDoorW.PrintWords Go.Proofs.YtafnamchckehmaaGreatDoorW.PrintLast Go.Proofs.YtafnamchckehmaaGreatDoorW.PrintMore
attribute [local go_sem] max2_int min2_int max_two min_two max_three min_three max_four min_four
set_option linter.unusedVariables false
set_option linter.unusedSimpArgs false
attribute [local go_sem high] eqA110
theorem bnd18_ {α β : Type} {o : Option α} {f : α → Option β} {r : β} (h : o.bind f = some r) : ∃ a, Aside0 (o = some a) ∧ f a = some r := by
 obtain ⟨a, h1, h2⟩ := Option.bind_eq_some_iff.mp h
 exact ⟨a, ⟨h1⟩, h2⟩
theorem q18_1 {P : Prop} (h : P := by repeat (first | (with_reducible first | exact HI558.out | apply IsS152.alloc | apply IsS152.drewN | apply IsS152.drew | apply IsS152.set_1 | apply IsS152.set_2) | exact HI558.out)) : P := h
theorem q18_2 {P : Prop} (h : P := by repeat (first | (with_reducible first | exact HB.out | apply below_alloc | apply pw_below_drewN | apply below_drew1 | refine below_set ?_ (IsS152.ge HI558.out)) | exact HB.out)) : P := h
theorem q18_4 {P : Prop} (h : P := by (with_reducible repeat (first | apply Kd.R_alloc | apply Kd.R_drewN | apply Kd.R_drew)); exact Kd.R_mono HO561.out (fun _ hk => hk.2)) : P := h
theorem q18_6 {P : Prop} (h : P := by (with_reducible repeat (first | apply Kd.R_alloc | apply Kd.R_drewN | apply Kd.R_drew)); exact HO561.out) : P := h
def spec_DrawAreEquivalent.f (k : Nat) (l0 : List Int) : Option ((List (S48)) × (List (S48))) := (spec_l1New.f k l0).bind fun bt555 => ((spec_l9Bent.f k bt555.1 bt555.2.1 bt555.2.2 4).bind fun bt559 => ((spec_l1Once.f bt555.1 bt559.2.1 bt559.2.2 2).bind fun bt564 => (if bt564.1 = true then ((spec_MinimalRules.f k bt559.1).bind fun t567 => (some (bt559.1, t567))) else ((spec_l9Bent.f k bt555.1 bt564.2.1 bt564.2.2 4).bind fun bt570 => (some (bt559.1, bt570.1))))))
theorem spec_DrawAreEquivalent.calls (k : Nat) (A0 : Option Addr) (c0 : Nat) (l0 : List Int) (r1 : List (S48)) (r2 : List (S48)) (w : World) (hr0 : Kd.C (Kd.int .u8) w A0 l0.length l0) (hc0 : l0.length ≤ c0) (h : spec_DrawAreEquivalent.f k l0 = some (r1, r2)) :
  Calls Tryz.prog 39 #[.slice A0 l0.length c0] w fun e w' => ∃ v0_ v1_ : Value, e = .returned (.tuple #[v0_, v1_]) ∧ Kd.R k48 48 w' w.heap.size (fun k_ => some k_ ≠ (v1_ : Value).ownBlock) v0_ r1 ∧ Kd.R k48 48 w' w.heap.size (fun k_ => some k_ ≠ (v0_ : Value).ownBlock) v1_ r2 ∧ Below w.heap.size w w' := by
 have HR0 := Aside0.mk hr0; have HC0 := Aside0.mk hc0; clear hr0 hc0; have HB := Aside0.mk (Below.refl w.heap.size w); have H := h; clear h; unfold spec_DrawAreEquivalent.f at H; obtain ⟨⟨t555, t556, t557⟩, A2, H⟩ := bnd18_ H; dsimp only at H; obtain ⟨⟨t559, t562, t563⟩, A3, H⟩ := bnd18_ H; dsimp only at H; obtain ⟨⟨t564, t565, t566⟩, A4, H⟩ := bnd18_ H; dsimp only at H
 by_cases c5 : t564 = true
 ·
  subst c5; rw [if_pos rfl] at H; obtain ⟨t567, A6, H⟩ := bnd18_ H
  simp only [Option.some.injEq, Prod.mk.injEq] at H
  obtain ⟨rfl, rfl⟩ := H
  go_enter Tryz.func39, Tryz.ntmps39
  go_wp2_with ((with_reducible refine gw_ rfl ?_); first | (refine gL_ 144 7 Tryz.func144 #[.slice A0 l0.length c0] ?_; (with_reducible refine (spec_l1New.calls k _ _ l0 t555 t556 t557 w _ ?side1 ?side2 ?side3 A2.out).mono ?_); (case side1 => exact s1_); (case side2 => exact HR0.out); (case side3 => exact HC0.out); rintro e w7 ⟨g558, rfl, hi, hb, hb2⟩; refine ⟨_, rfl, ?_⟩; have n_ := ac_ (hb) <| Aside0.mk (hi); clear HB; obtain ⟨HB, HI558⟩ := n_; (try clear hb hb2 hi)) | (refine gL_ 148 9 Tryz.func148 #[.pointer (some ⟨g558, 0, none⟩), .int .i64 4] ?_; (with_reducible refine (spec_l9Bent.calls k g558 t555 t556 t557 4 t559 t562 t563 w _ ?side1 ?side2 A3.out).mono ?_); (case side1 => exact q18_1); (case side2 => exact q18_2); rintro e w8 ⟨v560, rfl, ho0, hi, hb, hk⟩; refine ⟨_, rfl, ?_⟩; have n_ := ac_ (Kd.R_lower ho0 (below_size q18_2)) <| ac_ (hb) <| Aside0.mk (hi); clear HB HI558; obtain ⟨HO561, HB, HI558⟩ := n_; (try clear hb hk hi ho0)) | (refine gL_ 145 11 Tryz.func145 #[.pointer (some ⟨g558, 0, none⟩), .int .i64 2] ?_; (with_reducible refine (spec_l1Once.calls g558 t555 t562 t563 2 true t565 t566 w _ ?side1 ?side2 A4.out).mono ?_); (case side1 => exact q18_1); (case side2 => exact q18_2); rintro e w9 ⟨rfl, hi, hb, hk⟩; refine ⟨_, rfl, ?_⟩; have n_ := ac_ (Kd.R_mono (Kd.R_keep (IsS152.apart (show IsS152 w _ g558 t555 t562 t563 from q18_1) q18_6 (by decide)) hk (fun _ h => h.2)) (fun _ h => h.1)) <| ac_ (hb) <| Aside0.mk (hi); clear HO561 HB HI558; obtain ⟨HO561, HB, HI558⟩ := n_; (try clear hb hk hi); obtain ⟨Ao10, co10, eo10⟩ := Kd.R_slice HO561.out; subst eo10) | (refine gL_ 44 14 Tryz.func44 #[.slice Ao10 t559.length co10] ?_; (with_reducible refine (spec_MinimalRules.calls k _ _ t559 t567 _ ?side1 ?side2 A6.out).mono ?_); (case side1 => repeat (first | exact (Kd.R_reads' HO561.out).2.2 | (with_reducible refine Kd.C_alloc ?_ _) | (with_reducible refine Kd.C_drewN ?_ _) | (with_reducible refine Kd.C_drew ?_))); (case side2 => exact (Kd.R_reads' HO561.out).2.1); rintro e w11 ⟨v568, rfl, ho0, hb⟩; refine ⟨_, rfl, ?_⟩; have n_ := ac_ (Kd.R_elder' q18_6 (Kd.R_base ho0) hb) <| ac_ (Kd.R_lower (Kd.R_new' ho0 (Kd.R_lt q18_6)) (below_size q18_2)) <| ac_ (IsS152.below q18_1 hb) <| Aside0.mk (below_step q18_2 hb); clear HO561 HI558 HB; obtain ⟨HO561, HO569, HI558, HB⟩ := n_; (try clear hb ho0)))
  go_ret2
  exact ⟨_, _, (by first | rfl | (simp [errW_none, errW_some] <;> rfl) | (simp [*, errW_none, errW_some] <;> rfl)), q18_4, (by (with_reducible repeat (first | apply Kd.R_alloc | apply Kd.R_drewN | apply Kd.R_drew)); exact Kd.R_mono HO569.out (fun _ hk => hk.2)), q18_2⟩
 ·
  replace c5 := Bool.eq_false_iff.mpr c5; subst c5
  rw [if_neg (show ¬ (false = true) by decide)] at H
  obtain ⟨⟨t570, t573, t574⟩, A12, H⟩ := bnd18_ H; dsimp only at H
  simp only [Option.some.injEq, Prod.mk.injEq] at H
  obtain ⟨rfl, rfl⟩ := H
  go_enter Tryz.func39, Tryz.ntmps39
  go_wp2_with ((with_reducible refine gw_ rfl ?_); first | (refine gL_ 144 7 Tryz.func144 #[.slice A0 l0.length c0] ?_; (with_reducible refine (spec_l1New.calls k _ _ l0 t555 t556 t557 w _ ?side1 ?side2 ?side3 A2.out).mono ?_); (case side1 => exact s1_); (case side2 => exact HR0.out); (case side3 => exact HC0.out); rintro e w13 ⟨g558, rfl, hi, hb, hb2⟩; refine ⟨_, rfl, ?_⟩; have n_ := ac_ (hb) <| Aside0.mk (hi); clear HB; obtain ⟨HB, HI558⟩ := n_; (try clear hb hb2 hi)) | (refine gL_ 148 9 Tryz.func148 #[.pointer (some ⟨g558, 0, none⟩), .int .i64 4] ?_; (with_reducible refine (spec_l9Bent.calls k g558 t555 t556 t557 4 t559 t562 t563 w _ ?side1 ?side2 A3.out).mono ?_); (case side1 => exact q18_1); (case side2 => exact q18_2); rintro e w14 ⟨v560, rfl, ho0, hi, hb, hk⟩; refine ⟨_, rfl, ?_⟩; have n_ := ac_ (Kd.R_lower ho0 (below_size q18_2)) <| ac_ (hb) <| Aside0.mk (hi); clear HB HI558; obtain ⟨HO561, HB, HI558⟩ := n_; (try clear hb hk hi ho0)) | (refine gL_ 145 11 Tryz.func145 #[.pointer (some ⟨g558, 0, none⟩), .int .i64 2] ?_; (with_reducible refine (spec_l1Once.calls g558 t555 t562 t563 2 false t565 t566 w _ ?side1 ?side2 A4.out).mono ?_); (case side1 => exact q18_1); (case side2 => exact q18_2); rintro e w15 ⟨rfl, hi, hb, hk⟩; refine ⟨_, rfl, ?_⟩; have n_ := ac_ (Kd.R_mono (Kd.R_keep (IsS152.apart (show IsS152 w _ g558 t555 t562 t563 from q18_1) q18_6 (by decide)) hk (fun _ h => h.2)) (fun _ h => h.1)) <| ac_ (hb) <| Aside0.mk (hi); clear HO561 HB HI558; obtain ⟨HO561, HB, HI558⟩ := n_; (try clear hb hk hi)) | (refine gL_ 148 17 Tryz.func148 #[.pointer (some ⟨g558, 0, none⟩), .int .i64 4] ?_; (with_reducible refine (spec_l9Bent.calls k g558 t555 t565 t566 4 t570 t573 t574 w _ ?side1 ?side2 A12.out).mono ?_); (case side1 => exact q18_1); (case side2 => exact q18_2); rintro e w16 ⟨v571, rfl, ho0, hi, hb, hk⟩; refine ⟨_, rfl, ?_⟩; have n_ := ac_ (Kd.R_mono (Kd.R_told (Kd.R_oldK (IsS152.apart (show IsS152 w _ g558 t555 t565 t566 from q18_1) q18_6 (by decide)) hk) (Kd.R_base ho0)) (fun _ h_ => h_.1)) <| ac_ (Kd.R_lower (Kd.R_new' ho0 (Kd.R_lt q18_6)) (below_size q18_2)) <| ac_ (hb) <| Aside0.mk (hi); clear HO561 HB HI558; obtain ⟨HO561, HO572, HB, HI558⟩ := n_; (try clear hb hk hi ho0)))
  go_ret2
  exact ⟨_, _, (by first | rfl | (simp [errW_none, errW_some] <;> rfl) | (simp [*, errW_none, errW_some] <;> rfl)), q18_4, (by (with_reducible repeat (first | apply Kd.R_alloc | apply Kd.R_drewN | apply Kd.R_drew)); exact Kd.R_mono HO572.out (fun _ hk => hk.2)), q18_2⟩
theorem q18_7 {P : Prop} (h : P := by repeat (first | (with_reducible first | exact HI578.out | apply IsS152.alloc | apply IsS152.drewN | apply IsS152.drew | apply IsS152.set_1 | apply IsS152.set_2) | exact HI578.out)) : P := h
theorem q18_8 {P : Prop} (h : P := by repeat (first | (with_reducible first | exact HB.out | apply below_alloc | apply pw_below_drewN | apply below_drew1 | refine below_set ?_ (IsS152.ge HI578.out)) | exact HB.out)) : P := h
def spec_DrawIsRedundant.f (k : Nat) (l0 : List Int) : Option ((List (S48)) × Int) := (spec_l1New.f k l0).bind fun bt575 => ((spec_l9Bent.f k bt575.1 bt575.2.1 bt575.2.2 4).bind fun bt579 => ((spec_l1Below.f bt575.1 bt579.2.1 bt579.2.2 6).bind fun bt584 => (some (bt579.1, wrap64 (bt584.1 - 1)))))
theorem spec_DrawIsRedundant.calls (k : Nat) (A0 : Option Addr) (c0 : Nat) (l0 : List Int) (r1 : List (S48)) (r2 : Int) (w : World) (hr0 : Kd.C (Kd.int .u8) w A0 l0.length l0) (hc0 : l0.length ≤ c0) (h : spec_DrawIsRedundant.f k l0 = some (r1, r2)) :
  Calls Tryz.prog 40 #[.slice A0 l0.length c0] w fun e w' => ∃ v0_ : Value, e = .returned (.tuple #[v0_, .int .i64 r2]) ∧ Kd.R k48 48 w' w.heap.size (fun _ => True) v0_ r1 ∧ Below w.heap.size w w' := by
 have HR0 := Aside0.mk hr0; have HC0 := Aside0.mk hc0; clear hr0 hc0; have HB := Aside0.mk (Below.refl w.heap.size w); have H := h; clear h; unfold spec_DrawIsRedundant.f at H; obtain ⟨⟨t575, t576, t577⟩, A2, H⟩ := bnd18_ H; dsimp only at H; obtain ⟨⟨t579, t582, t583⟩, A3, H⟩ := bnd18_ H; dsimp only at H; obtain ⟨⟨t584, t585, t586⟩, A4, H⟩ := bnd18_ H; dsimp only at H
 simp only [Option.some.injEq, Prod.mk.injEq] at H
 obtain ⟨rfl, rfl⟩ := H
 go_enter Tryz.func40, Tryz.ntmps40
 go_wp2_with ((with_reducible refine gw_ rfl ?_); first | (refine gL_ 144 7 Tryz.func144 #[.slice A0 l0.length c0] ?_; (with_reducible refine (spec_l1New.calls k _ _ l0 t575 t576 t577 w _ ?side1 ?side2 ?side3 A2.out).mono ?_); (case side1 => repeat (first | (with_reducible first | exact HB.out | apply below_alloc | apply pw_below_drewN | apply below_drew1) | exact HB.out)); (case side2 => exact HR0.out); (case side3 => exact HC0.out); rintro e w5 ⟨g578, rfl, hi, hb, hb2⟩; refine ⟨_, rfl, ?_⟩; have n_ := ac_ (hb) <| Aside0.mk (hi); clear HB; obtain ⟨HB, HI578⟩ := n_; (try clear hb hb2 hi)) | (refine gL_ 148 9 Tryz.func148 #[.pointer (some ⟨g578, 0, none⟩), .int .i64 4] ?_; (with_reducible refine (spec_l9Bent.calls k g578 t575 t576 t577 4 t579 t582 t583 w _ ?side1 ?side2 A3.out).mono ?_); (case side1 => exact q18_7); (case side2 => exact q18_8); rintro e w6 ⟨v580, rfl, ho0, hi, hb, hk⟩; refine ⟨_, rfl, ?_⟩; have n_ := ac_ (Kd.R_lower ho0 (below_size q18_8)) <| ac_ (hb) <| Aside0.mk (hi); clear HB HI578; obtain ⟨HO581, HB, HI578⟩ := n_; (try clear hb hk hi ho0)) | (refine gL_ 146 12 Tryz.func146 #[.pointer (some ⟨g578, 0, none⟩), .int .i64 6] ?_; (with_reducible refine (spec_l1Below.calls g578 t575 t582 t583 6 t584 t585 t586 w _ ?side1 ?side2 A4.out).mono ?_); (case side1 => exact q18_7); (case side2 => exact q18_8); rintro e w7 ⟨rfl, hi, hb, hk⟩; refine ⟨_, rfl, ?_⟩; have n_ := ac_ (Kd.R_mono (Kd.R_keep (IsS152.apart (show IsS152 w _ g578 t575 t582 t583 from q18_7) (by (with_reducible repeat (first | apply Kd.R_alloc | apply Kd.R_drewN | apply Kd.R_drew)); exact HO581.out) (by decide)) hk (fun _ h => h.2)) (fun _ h => h.1)) <| ac_ (hb) <| Aside0.mk (hi); clear HO581 HB HI578; obtain ⟨HO581, HB, HI578⟩ := n_; (try clear hb hk hi)))
 go_ret2
 exact ⟨_, (by first | rfl | (simp [errW_none, errW_some] <;> rfl) | (simp [*, errW_none, errW_some] <;> rfl)), (by (with_reducible repeat (first | apply Kd.R_alloc | apply Kd.R_drewN | apply Kd.R_drew)); exact HO581.out), q18_8⟩
def laws_sameSteps.l0 : Nat → List (S110) → List (S110) → Int → Option (Bool)
 | 0, _, _, _ => none
 | k + 1, x0, x1, x5 => if x5 < (x0.length : Int) then (if 0 ≤ x5 then (if x5 < (x1.length : Int) then (if (!(((rd_T110 x0 x5).f0) == ((rd_T110 x1 x5).f0)) || (!(((rd_T110 x0 x5).f1) == ((rd_T110 x1 x5).f1)))) = true then (some false) else (laws_sameSteps.l0 k x0 x1 (wrap64 (x5 + 1)))) else (none)) else (none)) else (some true)
def laws_sameSteps.f (k : Nat) (l0 : List (S110)) (l1 : List (S110)) : Option (Bool) := if (l0.length : Int) = (l1.length : Int) then (laws_sameSteps.l0 k l0 l1 0) else (some false)
theorem laws_sameSteps.calls (k : Nat) (A0 : Option Addr) (c0 : Nat) (l0 : List (S110)) (A1 : Option Addr) (c1 : Nat) (l1 : List (S110)) (r : Bool) (w : World) (hr0 : Kd.C k110 w A0 l0.length l0) (hc0 : l0.length ≤ c0) (hr1 : Kd.C k110 w A1 l1.length l1) (hc1 : l1.length ≤ c1) (h : laws_sameSteps.f k l0 l1 = some r) :
  Calls Tryz.prog 41 #[.slice A0 l0.length c0, .slice A1 l1.length c1] w fun e w' => e = .returned (.bool r) ∧ Drawn0 w w' := by
 have hu110 := Tryz.underlying110; have HR0 := Aside0.mk hr0; have HC0 := Aside0.mk hc0; clear hr0 hc0; have HR1 := Aside0.mk hr1; have HC1 := Aside0.mk hc1; clear hr1 hc1; have H := h; clear h; unfold laws_sameSteps.f at H
 by_cases c3 : (l0.length : Int) = (l1.length : Int)
 ·
  rw [if_pos c3] at H; have c3b0 : ((l0.length : Int) == (l1.length : Int)) = true := beq_iff_eq.mpr c3; have c3b1 : ((l0.length : Int) != (l1.length : Int)) = false := bne_eq_false_iff_eq.mpr c3
  have c3b2 : (l0.length == l1.length) = true := by first | simpa using c3 | (simp at c3 ⊢; omega)
  clear c3; have H' := Aside0.mk H; clear H
  go_enter Tryz.func41, Tryz.ntmps41
  go_wp2
  repeat (go_quiet (fail); try go_wp2)
  go_loopg [5] k (fun kq v5 w' => ∃ (x5_1 : Int), v5 = .int .i64 x5_1 ∧ Aside0 (laws_sameSteps.l0 kq l0 l1 x5_1 = some r) ∧ Aside0 (kq ≤ k) ∧ Drawn0 w w')
  case atStart => exact ⟨(0), s2_, H', ⟨Nat.le_refl _⟩, s7_⟩
  case round =>
   clear H'
   try clear c1
   try clear p2
   try clear c3
   try clear c3b0
   try clear c3b1
   try clear c3b2
   obtain ⟨x5_1, rfl, HA, HK1, ⟨m1, rfl⟩⟩ := hrel
   cases gk with
   | zero => exact absurd HA.out (by simp [laws_sameSteps.l0])
   | succ k1 =>
    have H := HA.out; clear HA
    simp only [laws_sameSteps.l0] at H
    by_cases c4 : x5_1 < (l0.length : Int)
    ·
     rw [if_pos c4] at H; have c4b0 : decide (x5_1 < (l0.length : Int)) = true := decide_eq_true c4; clear c4
     by_cases c5 : 0 ≤ x5_1
     ·
      rw [if_pos c5] at H; have c5b0 : decide (0 ≤ x5_1) = true := decide_eq_true c5; clear c5
      by_cases c6 : x5_1 < (l1.length : Int)
      ·
       rw [if_pos c6] at H; have c6b0 : decide (x5_1 < (l1.length : Int)) = true := decide_eq_true c6; clear c6
       by_cases c7 : (!(((rd_T110 l0 x5_1).f0) == ((rd_T110 l1 x5_1).f0)) || (!(((rd_T110 l0 x5_1).f1) == ((rd_T110 l1 x5_1).f1)))) = true
       ·
        rw [if_pos c7] at H; have c7b0 : (!(((rd_T110 l0 x5_1).f0) == ((rd_T110 l1 x5_1).f0)) || (!(((rd_T110 l0 x5_1).f1) == ((rd_T110 l1 x5_1).f1)))) = true := c7; clear c7; obtain rfl := Option.some.inj H; have p587 : 0 ≤ (x5_1 : Int) := of_decide_eq_true s3_; have q587 : x5_1 < (l0.length : Int) := of_decide_eq_true s3_; obtain ⟨ad587, e587, hx587_0, hx587_1⟩ := at_T110 HR0.out x5_1 p587 q587
        cases e587
        replace p587 := eq_true p587; replace q587 := eq_true q587; have p588 : 0 ≤ (x5_1 : Int) := of_decide_eq_true s3_; have q588 : x5_1 < (l1.length : Int) := of_decide_eq_true s3_; obtain ⟨ad588, e588, hx588_0, hx588_1⟩ := at_T110 HR1.out x5_1 p588 q588
        cases e588
        replace p588 := eq_true p588; replace q588 := eq_true q588
        go_wp2
        repeat (go_quiet (fail); try go_wp2)
        go_ret
        exact ⟨s2_, s7_⟩
       ·
        rw [if_neg c7] at H
        have c7b0 : (!(((rd_T110 l0 x5_1).f0) == ((rd_T110 l1 x5_1).f0)) || (!(((rd_T110 l0 x5_1).f1) == ((rd_T110 l1 x5_1).f1)))) = false := by simpa using c7
        clear c7; have H' := Aside0.mk H; clear H; have p587 : 0 ≤ (x5_1 : Int) := of_decide_eq_true s3_; have q587 : x5_1 < (l0.length : Int) := of_decide_eq_true s3_; obtain ⟨ad587, e587, hx587_0, hx587_1⟩ := at_T110 HR0.out x5_1 p587 q587
        cases e587
        replace p587 := eq_true p587; replace q587 := eq_true q587; have p588 : 0 ≤ (x5_1 : Int) := of_decide_eq_true s3_; have q588 : x5_1 < (l1.length : Int) := of_decide_eq_true s3_; obtain ⟨ad588, e588, hx588_0, hx588_1⟩ := at_T110 HR1.out x5_1 p588 q588
        cases e588
        replace p588 := eq_true p588; replace q588 := eq_true q588
        go_wp2
        repeat (go_quiet (fail); try go_wp2)
        go_roundg k1
        case measure => have := HK1.out; omega
        case rel => exact ⟨(wrap64 (x5_1 + 1)), s2_, H', ⟨by have := HK1.out; omega⟩, s7_⟩
      ·
       rw [if_neg c6] at H
       exact absurd H (by simp)
     ·
      rw [if_neg c5] at H
      exact absurd H (by simp)
    ·
     rw [if_neg c4] at H; have c4b0 : decide (x5_1 < (l0.length : Int)) = false := decide_eq_false c4; clear c4; obtain rfl := Option.some.inj H
     go_wp2
     repeat (go_quiet (fail); try go_wp2)
     go_ret
     exact ⟨s2_, s7_⟩
 ·
  rw [if_neg c3] at H; have c3b0 : ((l0.length : Int) == (l1.length : Int)) = false := beq_eq_false_iff_ne.mpr c3; have c3b1 : ((l0.length : Int) != (l1.length : Int)) = true := bne_iff_ne.mpr c3
  have c3b2 : (l0.length == l1.length) = false := by first | simpa using c3 | (simp at c3 ⊢; omega)
  obtain rfl := Option.some.inj H
  go_enter Tryz.func41, Tryz.ntmps41
  go_wp2
  repeat (go_quiet (fail); try go_wp2)
  go_ret
  exact ⟨s2_, s7_⟩
end Go.Proofs.YtafnamchckehmaaGreatDoor.Pr
namespace Go.Proofs.YtafnamchckehmaaGreatDoor.Pr
open Go.RowKit Go.Proofs.YtafnamchckehmaaGreatDoorW.PrintWords Go.Proofs.YtafnamchckehmaaGreatDoorW.PrintLast Go.Proofs.YtafnamchckehmaaGreatDoorW.PrintMore
attribute [local go_sem] max2_int min2_int max_two min_two max_three min_three max_four min_four
set_option linter.unusedVariables false
set_option linter.unusedSimpArgs false
theorem bnd19_ {α β : Type} {o : Option α} {f : α → Option β} {r : β} (h : o.bind f = some r) : ∃ a, Aside0 (o = some a) ∧ f a = some r := by
 obtain ⟨a, h1, h2⟩ := Option.bind_eq_some_iff.mp h
 exact ⟨a, ⟨h1⟩, h2⟩
theorem q19_2 {P : Prop} (h : P := by repeat (first | (with_reducible first | exact HB.out | apply below_alloc | apply pw_below_drewN | apply below_drew1 | refine below_set ?_ GE602.out) | exact HB.out)) : P := h
theorem q19_5 {P : Prop} (h : P := by (with_reducible repeat (first | refine blk_drewN ?_ _ | refine blk_drew ?_ | refine blk_alloc ?_ _)); exact BK602.out) : P := h
mutual
def spec_CheckProof.j0 : Nat → List (S48) → List (S110) → Bool → Int → Int → Option (Bool)
 | 0, _, _, _, _, _ => none
 | k + 1, x0, x2, x17, x603000, x603001 => if x17 = true then (some false) else (spec_CheckProof.l0 k x0 x2 x603000 0 x603000 x603001)
def spec_CheckProof.l0 : Nat → List (S48) → List (S110) → Int → Int → Int → Int → Option (Bool)
 | 0, _, _, _, _, _, _ => none
 | k + 1, x0, x2, x7, x8, x603000, x603001 => if x8 < (x2.length : Int) then (if 0 ≤ x8 then ((spec_l1In.f ((rd_T110 x2 x8).f0) 0 (wrap64 ((x0.length : Int) - 1))).bind fun t606 => (if t606 = true then (if 0 ≤ ((rd_T110 x2 x8).f0) then (if ((rd_T110 x2 x8).f0) < (x0.length : Int) then (if (Go.bits .and .i64 ((rd_T48 x0 ((rd_T110 x2 x8).f0)).f0) x7) = ((rd_T48 x0 ((rd_T110 x2 x8).f0)).f0) then (if ((rd_T110 x2 x8).f1) = (Go.bits .or .i64 x7 ((rd_T48 x0 ((rd_T110 x2 x8).f0)).f1)) then (spec_CheckProof.l0 k x0 x2 ((rd_T110 x2 x8).f1) (wrap64 (x8 + 1)) x603000 x603001) else (some false)) else (some false)) else (none)) else (none)) else (some false))) else (none)) else (some ((Go.bits .and .i64 x7 x603001) == x603001))
end
def spec_CheckProof.f (k : Nat) (l0 : List (S48)) (a1_0 : Int) (a1_1 : Int) (l2 : List (S110)) : Option (Bool) := (spec_l9Sets.f k l0).bind fun t603 => (if t603 = true then ((spec_l9Rule.f 8 a1_0 a1_1).bind fun t604 => (spec_CheckProof.j0 k l0 l2 (!t604) a1_0 a1_1)) else (spec_CheckProof.j0 k l0 l2 true a1_0 a1_1))
def spec_CheckProof.T8 : Bool × List (List Nat × List Nat) := (true, [([], []), ([], []), ([1], [1]), ([2], [2]), ([0, 3], [0, 3]), ([4], [4]), ([5, 4], [5]), ([6], [6]), ([6], [6]), ([7, 8, 6], [6, 7, 8]), ([9, 6], [6, 9]), ([10, 6], [6, 10]), ([6], [6]), ([11, 12, 6], [6, 11, 12]), ([6], [6]), ([6], [6]), ([14, 15, 6], [6, 14, 15]), ([16, 6], [6, 16]), ([17, 6], [6, 17]), ([13, 18, 6], [6, 13, 18]), ([6, 19], [6, 19]), ([20, 6], [20]), ([21], [21]), ([21], [21]), ([22, 23, 21], [21, 22, 23]), ([24, 21], [21, 24]), ([25, 21], [21, 25]), ([21], [21]), ([21], [21]), ([21], [21]), ([28, 29, 21], [21, 28, 29]), ([30, 21], [21, 30]), ([31, 21], [21, 31]), ([27, 32, 21], [21, 27, 32]), ([26, 33, 21], [21, 26, 33]), ([21, 34], [21, 34])])
def spec_CheckProof.B8 : List Nat := [0, 0, 2, 6, 15, 31, 63, 127, 127, 511, 1023, 2047, 127, 8191, 127, 127, 49279, 114815, 245887, 524287, 1048575, 2097151, 4194303, 4194303, 16777215, 33554431, 67108863, 4194303, 4194303, 4194303, 809500671, 1883242495, 4030726143, 8459911167, 17179869183, 34359738367]
theorem spec_CheckProof.tab8 : rtab .any (opsOf Tryz.f43 8) = spec_CheckProof.T8 := s10_
theorem spec_CheckProof.bits8 : waitsOk spec_CheckProof.T8.2 spec_CheckProof.B8 = true := s10_
set_option maxHeartbeats 40000000 in
set_option maxRecDepth 100000 in
theorem spec_CheckProof.calls (k : Nat) (A0 : Option Addr) (c0 : Nat) (l0 : List (S48)) (a1_0 : Int) (a1_1 : Int) (A2 : Option Addr) (c2 : Nat) (l2 : List (S110)) (r : Bool) (w : World) (hr0 : Kd.C k48 w A0 l0.length l0) (hc0 : l0.length ≤ c0) (hr2 : Kd.C k110 w A2 l2.length l2) (hc2 : l2.length ≤ c2) (h : spec_CheckProof.f k l0 a1_0 a1_1 l2 = some r) :
  Calls Tryz.prog 43 #[.slice A0 l0.length c0, .agg #[.int .i64 a1_0, .int .i64 a1_1], .slice A2 l2.length c2] w fun e w' => e = .returned (.bool r) ∧ Below w.heap.size w w' := by
 have hu48 := Tryz.underlying48; have HR0 := Aside0.mk hr0; have HC0 := Aside0.mk hc0; clear hr0 hc0; have HR2 := Aside0.mk hr2; have HC2 := Aside0.mk hc2; clear hr2 hc2; have HB := Aside0.mk (Below.refl w.heap.size w); have H := h; clear h; unfold spec_CheckProof.f at H; have HC4 := Aside0.mk H; clear H
 go_enter Tryz.func43, Tryz.ntmps43
 go_upto_region 1 with (first | (refine be_ 4 #[.int .i64 a1_0, .int .i64 a1_1] 48 ?_; intro gb602 hg w5 hbox hb; have n_ := ac_ (below_step s1_ hb) <| ac_ (hbox) <| ac_ ((gz_ w hg s1_)) <| Aside0.mk ((gz_ w hg s1_)); clear HB; obtain ⟨HB, BK602, GW602, GE602⟩ := n_; clear hb hbox hg))
 (try simp only [Act.put, List.setIfInBounds_toArray, List.set_cons_zero, List.set_cons_succ])
 go_cut [17] (fun v17 wc => ∃ (kq : Nat) (x17_3 : Bool), v17 = .bool x17_3 ∧ Aside0 (spec_CheckProof.j0 kq l0 l2 x17_3 a1_0 a1_1 = some r) ∧ Aside0 (kq ≤ k) ∧ Aside0 (wc.heap[gb602]? = some (.cells #[.int .i64 a1_0, .int .i64 a1_1] 48 (0, 0))) ∧ Aside0 (Below w.heap.size w wc))
 case first =>
  have H := HC4.out; clear HC4; obtain ⟨t603, A6, H⟩ := bnd19_ H
  by_cases c7 : t603 = true
  ·
   subst c7; rw [if_pos rfl] at H; obtain ⟨t604, A8, H⟩ := bnd19_ H; have H' := Aside0.mk H; clear H
   go_wp2_with (first | ((with_reducible refine gw_ rfl ?_); (refine gL_ 156 11 Tryz.func156 #[.slice A0 l0.length c0] ?_; (with_reducible refine (spec_l9Sets.calls k _ _ l0 true _ ?side1 ?side2 A6.out).mono ?_); (case side1 => exact s5_); (case side2 => exact HC0.out); rintro e w9 ⟨rfl, hb⟩; refine ⟨_, rfl, ?_⟩; have n_ := ac_ (blk_below (g := gb602) (o := .cells #[.int .i64 a1_0, .int .i64 a1_1] 48 (0, 0)) q19_5 hb) <| Aside0.mk (below_step q19_2 hb); clear BK602 HB; obtain ⟨BK602, HB⟩ := n_; (try clear hb); have hcz10_0 : w9.cell? ⟨gb602, 0, none⟩ = some (.int .i64 a1_0) := (blk_cell BK602.out 0).trans rfl; have hcz10_1 : w9.cell? ⟨gb602, 1, none⟩ = some (.int .i64 a1_1) := (blk_cell BK602.out 1).trans rfl; have hfz10_0 := blk_frozen BK602.out 0; have hfz10_1 := blk_frozen BK602.out 1)) | (go_at_call 157; (with_reducible refine (spec_l9Rule.calls 8 a1_0 a1_1 t604 _ A8.out).mono ?_); rintro e w11 ⟨rfl, hb⟩; have n_ := ac_ (blk_below (g := gb602) (o := .cells #[.int .i64 a1_0, .int .i64 a1_1] 48 (0, 0)) q19_5 hb) <| Aside0.mk (below_step q19_2 hb); clear BK602 HB; obtain ⟨BK602, HB⟩ := n_; (try clear hb)))
   go_meet
   case rel => exact ⟨_, (!t604), s2_, H', ⟨(by first | omega | exact Nat.le_refl _)⟩, ⟨q19_5⟩, ⟨q19_2⟩⟩
  ·
   replace c7 := Bool.eq_false_iff.mpr c7; subst c7
   rw [if_neg (show ¬ (false = true) by decide)] at H
   have H' := Aside0.mk H; clear H
   go_wp2_with ((with_reducible refine gw_ rfl ?_); (refine gL_ 156 11 Tryz.func156 #[.slice A0 l0.length c0] ?_; (with_reducible refine (spec_l9Sets.calls k _ _ l0 false _ ?side1 ?side2 A6.out).mono ?_); (case side1 => exact s5_); (case side2 => exact HC0.out); rintro e w12 ⟨rfl, hb⟩; refine ⟨_, rfl, ?_⟩; have n_ := ac_ (blk_below (g := gb602) (o := .cells #[.int .i64 a1_0, .int .i64 a1_1] 48 (0, 0)) q19_5 hb) <| Aside0.mk (below_step q19_2 hb); clear BK602 HB; obtain ⟨BK602, HB⟩ := n_; (try clear hb)))
   go_meet
   case rel => exact ⟨_, (true), s2_, H', ⟨(by first | omega | exact Nat.le_refl _)⟩, ⟨q19_5⟩, ⟨q19_2⟩⟩
 case rest =>
  clear HC4
  try clear c1
  try clear c2
  try clear p2
  try clear c4
  try clear c7
  try clear hcz10_0
  try clear hcz10_1
  try clear hfz10_0
  try clear hfz10_1
  obtain ⟨kq, x17_3, rfl, HA, HJ3, BK602, HB⟩ := hcut
  cases kq with
  | zero => exact absurd HA.out (by simp [spec_CheckProof.j0])
  | succ kj3 =>
   have H := HA.out; clear HA
   simp only [spec_CheckProof.j0] at H
   by_cases c13 : x17_3 = true
   ·
    subst c13; rw [if_pos rfl] at H; obtain rfl := Option.some.inj H
    go_wp2
    go_ret
    exact ⟨s4_, q19_2⟩
   ·
    replace c13 := Bool.eq_false_iff.mpr c13; subst c13
    rw [if_neg (show ¬ (false = true) by decide)] at H
    have H' := Aside0.mk H; clear H; have hcz14_0 : wc.cell? ⟨gb602, 0, none⟩ = some (.int .i64 a1_0) := (blk_cell BK602.out 0).trans rfl; have hcz14_1 : wc.cell? ⟨gb602, 1, none⟩ = some (.int .i64 a1_1) := (blk_cell BK602.out 1).trans rfl; have hfz14_0 := blk_frozen BK602.out 0; have hfz14_1 := blk_frozen BK602.out 1
    go_wp2
    go_loopg [7, 8] kj3 (fun kq v7 v8 w' => ∃ (x7_2 : Int) (x8_2 : Int), v7 = .int .i64 x7_2 ∧ v8 = .int .i64 x8_2 ∧ Aside0 (spec_CheckProof.l0 kq l0 l2 x7_2 x8_2 a1_0 a1_1 = some r) ∧ Aside0 (kq ≤ kj3) ∧ Aside0 (w'.heap[gb602]? = some (.cells #[.int .i64 a1_0, .int .i64 a1_1] 48 (0, 0))) ∧ Aside0 (Below w.heap.size w w'))
    case atStart => exact ⟨(a1_0), (0), s2_, s2_, H', ⟨Nat.le_refl _⟩, ⟨q19_5⟩, ⟨q19_2⟩⟩
    case round =>
     clear H'
     try clear c1
     try clear c2
     try clear p2
     try clear c4
     try clear c7
     try clear c13
     try clear hcz10_0
     try clear hcz10_1
     try clear hcz14_0
     try clear hcz14_1
     try clear hfz10_0
     try clear hfz10_1
     try clear hfz14_0
     try clear hfz14_1
     try clear p2
     obtain ⟨x7_2, x8_2, rfl, rfl, HA, HK2, BK602, HB⟩ := hrel
     cases gk with
     | zero => exact absurd HA.out (by simp [spec_CheckProof.l0])
     | succ k2 =>
      have H := HA.out; clear HA
      simp only [spec_CheckProof.l0] at H
      by_cases c15 : x8_2 < (l2.length : Int)
      ·
       rw [if_pos c15] at H; have c15b0 : decide (x8_2 < (l2.length : Int)) = true := decide_eq_true c15; clear c15
       by_cases c16 : 0 ≤ x8_2
       ·
        rw [if_pos c16] at H; have c16b0 : decide (0 ≤ x8_2) = true := decide_eq_true c16; clear c16; obtain ⟨t606, A17, H⟩ := bnd19_ H
        by_cases c18 : t606 = true
        ·
         subst c18; rw [if_pos rfl] at H
         by_cases c19 : 0 ≤ ((rd_T110 l2 x8_2).f0)
         ·
          rw [if_pos c19] at H; have c19b0 : decide (0 ≤ ((rd_T110 l2 x8_2).f0)) = true := decide_eq_true c19; clear c19
          by_cases c20 : ((rd_T110 l2 x8_2).f0) < (l0.length : Int)
          ·
           rw [if_pos c20] at H; have c20b0 : decide (((rd_T110 l2 x8_2).f0) < (l0.length : Int)) = true := decide_eq_true c20; clear c20
           by_cases c21 : (Go.bits .and .i64 ((rd_T48 l0 ((rd_T110 l2 x8_2).f0)).f0) x7_2) = ((rd_T48 l0 ((rd_T110 l2 x8_2).f0)).f0)
           ·
            rw [if_pos c21] at H; have c21b0 : ((Go.bits .and .i64 ((rd_T48 l0 ((rd_T110 l2 x8_2).f0)).f0) x7_2) == ((rd_T48 l0 ((rd_T110 l2 x8_2).f0)).f0)) = true := beq_iff_eq.mpr c21; have c21b1 : ((Go.bits .and .i64 ((rd_T48 l0 ((rd_T110 l2 x8_2).f0)).f0) x7_2) != ((rd_T48 l0 ((rd_T110 l2 x8_2).f0)).f0)) = false := bne_eq_false_iff_eq.mpr c21; clear c21
            by_cases c22 : ((rd_T110 l2 x8_2).f1) = (Go.bits .or .i64 x7_2 ((rd_T48 l0 ((rd_T110 l2 x8_2).f0)).f1))
            ·
             rw [if_pos c22] at H; have c22b0 : (((rd_T110 l2 x8_2).f1) == (Go.bits .or .i64 x7_2 ((rd_T48 l0 ((rd_T110 l2 x8_2).f0)).f1))) = true := beq_iff_eq.mpr c22; have c22b1 : (((rd_T110 l2 x8_2).f1) != (Go.bits .or .i64 x7_2 ((rd_T48 l0 ((rd_T110 l2 x8_2).f0)).f1))) = false := bne_eq_false_iff_eq.mpr c22; clear c22; have H' := Aside0.mk H; clear H; have p605 : 0 ≤ (x8_2 : Int) := of_decide_eq_true s3_; have q605 : x8_2 < (l2.length : Int) := of_decide_eq_true s3_; obtain ⟨ad605, e605, hx605_0, hx605_1⟩ := at_T110 HR2.out x8_2 p605 q605
             cases e605
             replace hx605_0 := (HB.out.cell (World.block_lt_of_cell? w _ hx605_0)).trans hx605_0; replace hx605_1 := (HB.out.cell (World.block_lt_of_cell? w _ hx605_1)).trans hx605_1; replace p605 := eq_true p605; replace q605 := eq_true q605
             try go_wp2
             have n0_ := Aside0.mk (blk_drew BK602.out); have n1_ := Aside0.mk (below_drew1 HB.out); clear BK602; clear HB; have BK602 := n0_; have HB := n1_; clear n0_ n1_; have p607 : 0 ≤ (((rd_T110 l2 x8_2).f0) : Int) := of_decide_eq_true s3_; have q607 : ((rd_T110 l2 x8_2).f0) < (l0.length : Int) := of_decide_eq_true s3_; obtain ⟨ad607, e607, hx607_0, hx607_1⟩ := at_T48 HR0.out ((rd_T110 l2 x8_2).f0) p607 q607; have hw607_1 := hx607_1; have hw607_0 := hx607_0
             cases e607
             replace hx607_0 := (HB.out.cell (World.block_lt_of_cell? w _ hx607_0)).trans hx607_0; replace hx607_1 := (HB.out.cell (World.block_lt_of_cell? w _ hx607_1)).trans hx607_1; replace p607 := eq_true p607; replace q607 := eq_true q607; have p608 : 0 ≤ (((rd_T110 l2 x8_2).f0) : Int) := of_decide_eq_true s3_; have q608 : ((rd_T110 l2 x8_2).f0) < (l0.length : Int) := of_decide_eq_true s3_; obtain ⟨ad608, e608, hx608_0, hx608_1⟩ := at_T48 HR0.out ((rd_T110 l2 x8_2).f0) p608 q608; have hw608_1 := hx608_1; have hw608_0 := hx608_0
             obtain rfl : ad607 = ad608 := (by injection e608)
             replace hx608_0 := (HB.out.cell (World.block_lt_of_cell? w _ hx608_0)).trans hx608_0; replace hx608_1 := (HB.out.cell (World.block_lt_of_cell? w _ hx608_1)).trans hx608_1; replace p608 := eq_true p608; replace q608 := eq_true q608; have p609 : 0 ≤ (x8_2 : Int) := of_decide_eq_true s3_; have q609 : x8_2 < (l2.length : Int) := of_decide_eq_true s3_; obtain ⟨ad609, e609, hx609_0, hx609_1⟩ := at_T110 HR2.out x8_2 p609 q609; have hw609_1 := hx609_1; have hw609_0 := hx609_0
             obtain rfl : ad605 = ad609 := (by injection e609)
             replace hx609_0 := (HB.out.cell (World.block_lt_of_cell? w _ hx609_0)).trans hx609_0; replace hx609_1 := (HB.out.cell (World.block_lt_of_cell? w _ hx609_1)).trans hx609_1; replace p609 := eq_true p609; replace q609 := eq_true q609; have p610 : 0 ≤ (((rd_T110 l2 x8_2).f0) : Int) := of_decide_eq_true s3_; have q610 : ((rd_T110 l2 x8_2).f0) < (l0.length : Int) := of_decide_eq_true s3_; obtain ⟨ad610, e610, hx610_0, hx610_1⟩ := at_T48 HR0.out ((rd_T110 l2 x8_2).f0) p610 q610; have hw610_1 := hx610_1; have hw610_0 := hx610_0
             obtain rfl : ad607 = ad610 := (by injection e610)
             replace hx610_0 := (HB.out.cell (World.block_lt_of_cell? w _ hx610_0)).trans hx610_0; replace hx610_1 := (HB.out.cell (World.block_lt_of_cell? w _ hx610_1)).trans hx610_1; replace p610 := eq_true p610; replace q610 := eq_true q610
             refine start_ (n := 36) (S := fun w' => w'.cell? (ad607.add ((((rd_T110 l2 x8_2).f0)).toNat * 2)) = some (.int .i64 ((rd_T48 l0 ((rd_T110 l2 x8_2).f0)).f0)) ∧ w'.cell? ⟨(ad607.add ((((rd_T110 l2 x8_2).f0)).toNat * 2)).block, (ad607.add ((((rd_T110 l2 x8_2).f0)).toNat * 2)).off + 1, none⟩ = some (.int .i64 ((rd_T48 l0 ((rd_T110 l2 x8_2).f0)).f1)) ∧ w'.cell? (ad607.add ((((rd_T110 l2 x8_2).f0)).toNat * 2)) = some (.int .i64 ((rd_T48 l0 ((rd_T110 l2 x8_2).f0)).f0)) ∧ w'.cell? ⟨(ad607.add ((((rd_T110 l2 x8_2).f0)).toNat * 2)).block, (ad607.add ((((rd_T110 l2 x8_2).f0)).toNat * 2)).off + 1, none⟩ = some (.int .i64 ((rd_T48 l0 ((rd_T110 l2 x8_2).f0)).f1)) ∧ w'.cell? (ad605.add ((x8_2).toNat * 2)) = some (.int .i64 ((rd_T110 l2 x8_2).f0)) ∧ w'.cell? ⟨(ad605.add ((x8_2).toNat * 2)).block, (ad605.add ((x8_2).toNat * 2)).off + 1, none⟩ = some (.int .i64 ((rd_T110 l2 x8_2).f1)) ∧ w'.cell? (ad607.add ((((rd_T110 l2 x8_2).f0)).toNat * 2)) = some (.int .i64 ((rd_T48 l0 ((rd_T110 l2 x8_2).f0)).f0)) ∧ w'.cell? ⟨(ad607.add ((((rd_T110 l2 x8_2).f0)).toNat * 2)).block, (ad607.add ((((rd_T110 l2 x8_2).f0)).toNat * 2)).off + 1, none⟩ = some (.int .i64 ((rd_T48 l0 ((rd_T110 l2 x8_2).f0)).f1))) (ds := []) (tb_ 36 0) s10_ rfl rfl ⟨((HB.out.cell (World.block_lt_of_cell? w _ hw607_0)).trans hw607_0), ((HB.out.cell (World.block_lt_of_cell? w _ hw607_1)).trans hw607_1), ((HB.out.cell (World.block_lt_of_cell? w _ hw608_0)).trans hw608_0), ((HB.out.cell (World.block_lt_of_cell? w _ hw608_1)).trans hw608_1), ((HB.out.cell (World.block_lt_of_cell? w _ hw609_0)).trans hw609_0), ((HB.out.cell (World.block_lt_of_cell? w _ hw609_1)).trans hw609_1), ((HB.out.cell (World.block_lt_of_cell? w _ hw610_0)).trans hw610_0), ((HB.out.cell (World.block_lt_of_cell? w _ hw610_1)).trans hw610_1)⟩ (fun hHeld => ?_); refine with_tabW spec_CheckProof.tab8 spec_CheckProof.bits8 (fun HT_ HW_ => ?_)
             generalize wr.drew = w23 at BK602 HB hx607_0 hx607_1 hx608_0 hx608_1 hx609_0 hx609_1 hx610_0 hx610_1 hHeld ⊢
             refine pl_ 0 31 (tb_ 36 1) ?_; refine pl_ 1 32 (tb_ 36 3) ?_; refine pl_ 2 33 (tb_ 36 7) ?_; refine pl_ 3 34 (tb_ 36 15) ?_
             refine on_ 4 35 (tb_ 36 31) (fun K hK => ?_)
             refine goes_ Tryz.func132 s10_ rfl #[.int .i64 ((rd_T110 l2 x8_2).f0), .int .i64 0, .int .i64 (wrap64 ((l0.length : Int) - 1))] (by rfl) rfl rfl s0_ ?_
             with_reducible refine (spec_l1In.calls ((rd_T110 l2 x8_2).f0) 0 (wrap64 ((l0.length : Int) - 1)) true _ A17.out).mono ?_
             rintro e w' ⟨rfl, ⟨nd, rfl⟩⟩
             refine ⟨_, rfl, ?_⟩
             refine hK.out _ _ ⟨((HB.out.cell (World.block_lt_of_cell? w _ hw607_0)).trans hw607_0), ((HB.out.cell (World.block_lt_of_cell? w _ hw607_1)).trans hw607_1), ((HB.out.cell (World.block_lt_of_cell? w _ hw608_0)).trans hw608_0), ((HB.out.cell (World.block_lt_of_cell? w _ hw608_1)).trans hw608_1), ((HB.out.cell (World.block_lt_of_cell? w _ hw609_0)).trans hw609_0), ((HB.out.cell (World.block_lt_of_cell? w _ hw609_1)).trans hw609_1), ((HB.out.cell (World.block_lt_of_cell? w _ hw610_0)).trans hw610_0), ((HB.out.cell (World.block_lt_of_cell? w _ hw610_1)).trans hw610_1)⟩ (fun hHeld => ?_)
             clear hK K
             refine norm_ (a' := ?_) ?_ ?_
             rotate_left
             ·
              show Act.put _ (some 35) _ = _
              exact s6_
             refine pl_ 5 36 (tb_ 36 63) ?_; refine pl_ 6 37 (tb_ 36 127) ?_; refine pl_ 7 38 (tb_ 36 255) ?_; refine pl_ 8 39 (tb_ 36 511) ?_; refine pl_ 9 40 (tb_ 36 1023) ?_; refine pl_ 10 41 (tb_ 36 2047) ?_; refine pl_ 12 43 (tb_ 36 6143) ?_; refine pl_ 14 45 (tb_ 36 22527) ?_; refine pl_ 15 46 (tb_ 36 55295) ?_; refine pl_ 16 47 (tb_ 36 120831) ?_; refine pl_ 17 48 (tb_ 36 251903) ?_; refine tk_ 11 42 (tb_ 36 253951) hHeld ?_; refine pl_ 13 44 (tb_ 36 262143) ?_; refine tk_ 18 49 (tb_ 36 524287) hHeld ?_; refine pl_ 19 50 (tb_ 36 1048575) ?_; refine pl_ 20 51 (tb_ 36 2097151) ?_; refine pl_ 21 52 (tb_ 36 4194303) ?_; refine pl_ 22 53 (tb_ 36 8388607) ?_; refine pl_ 23 54 (tb_ 36 16777215) ?_; refine pl_ 24 55 (tb_ 36 33554431) ?_; refine pl_ 25 56 (tb_ 36 67108863) ?_; refine pl_ 27 58 (tb_ 36 201326591) ?_; refine pl_ 28 59 (tb_ 36 469762047) ?_; refine pl_ 29 60 (tb_ 36 1006632959) ?_; refine pl_ 30 61 (tb_ 36 2080374783) ?_; refine pl_ 31 62 (tb_ 36 4227858431) ?_
             refine tk_ 26 57 (tb_ 36 4294967295) hHeld ?_; refine tk_ 32 63 (tb_ 36 8589934591) hHeld ?_; refine pl_ 33 64 (tb_ 36 17179869183) ?_; refine pl_ 34 65 (tb_ 36 34359738367) ?_; refine pl_ 35 66 (tb_ 36 68719476735) ?_
             refine done_ (done_of HT_.out s10_) ?_
             have p611 : 0 ≤ (x8_2 : Int) := of_decide_eq_true s3_; have q611 : x8_2 < (l2.length : Int) := of_decide_eq_true s3_; obtain ⟨ad611, e611, hx611_0, hx611_1⟩ := at_T110 HR2.out x8_2 p611 q611
             obtain rfl : ad605 = ad611 := (by injection e611)
             replace hx611_0 := (HB.out.cell (World.block_lt_of_cell? w _ hx611_0)).trans hx611_0; replace hx611_1 := (HB.out.cell (World.block_lt_of_cell? w _ hx611_1)).trans hx611_1; replace p611 := eq_true p611; replace q611 := eq_true q611
             try go_wp2
             go_roundg k2
             case measure => have := HJ3.out; have := HK2.out; omega
             case rel => exact ⟨((rd_T110 l2 x8_2).f1), (wrap64 (x8_2 + 1)), s2_, s2_, H', ⟨by have := HJ3.out; have := HK2.out; omega⟩, ⟨q19_5⟩, ⟨q19_2⟩⟩
            ·
             rw [if_neg c22] at H; have c22b0 : (((rd_T110 l2 x8_2).f1) == (Go.bits .or .i64 x7_2 ((rd_T48 l0 ((rd_T110 l2 x8_2).f0)).f1))) = false := beq_eq_false_iff_ne.mpr c22; have c22b1 : (((rd_T110 l2 x8_2).f1) != (Go.bits .or .i64 x7_2 ((rd_T48 l0 ((rd_T110 l2 x8_2).f0)).f1))) = true := bne_iff_ne.mpr c22; obtain rfl := Option.some.inj H; have p605 : 0 ≤ (x8_2 : Int) := of_decide_eq_true s3_; have q605 : x8_2 < (l2.length : Int) := of_decide_eq_true s3_; obtain ⟨ad605, e605, hx605_0, hx605_1⟩ := at_T110 HR2.out x8_2 p605 q605
             cases e605
             replace hx605_0 := (HB.out.cell (World.block_lt_of_cell? w _ hx605_0)).trans hx605_0; replace hx605_1 := (HB.out.cell (World.block_lt_of_cell? w _ hx605_1)).trans hx605_1; replace p605 := eq_true p605; replace q605 := eq_true q605
             try go_wp2
             have n0_ := Aside0.mk (blk_drew BK602.out); have n1_ := Aside0.mk (below_drew1 HB.out); clear BK602; clear HB; have BK602 := n0_; have HB := n1_; clear n0_ n1_; have p607 : 0 ≤ (((rd_T110 l2 x8_2).f0) : Int) := of_decide_eq_true s3_; have q607 : ((rd_T110 l2 x8_2).f0) < (l0.length : Int) := of_decide_eq_true s3_; obtain ⟨ad607, e607, hx607_0, hx607_1⟩ := at_T48 HR0.out ((rd_T110 l2 x8_2).f0) p607 q607; have hw607_1 := hx607_1; have hw607_0 := hx607_0
             cases e607
             replace hx607_0 := (HB.out.cell (World.block_lt_of_cell? w _ hx607_0)).trans hx607_0; replace hx607_1 := (HB.out.cell (World.block_lt_of_cell? w _ hx607_1)).trans hx607_1; replace p607 := eq_true p607; replace q607 := eq_true q607; have p608 : 0 ≤ (((rd_T110 l2 x8_2).f0) : Int) := of_decide_eq_true s3_; have q608 : ((rd_T110 l2 x8_2).f0) < (l0.length : Int) := of_decide_eq_true s3_; obtain ⟨ad608, e608, hx608_0, hx608_1⟩ := at_T48 HR0.out ((rd_T110 l2 x8_2).f0) p608 q608; have hw608_1 := hx608_1; have hw608_0 := hx608_0
             obtain rfl : ad607 = ad608 := (by injection e608)
             replace hx608_0 := (HB.out.cell (World.block_lt_of_cell? w _ hx608_0)).trans hx608_0; replace hx608_1 := (HB.out.cell (World.block_lt_of_cell? w _ hx608_1)).trans hx608_1; replace p608 := eq_true p608; replace q608 := eq_true q608; have p609 : 0 ≤ (x8_2 : Int) := of_decide_eq_true s3_; have q609 : x8_2 < (l2.length : Int) := of_decide_eq_true s3_; obtain ⟨ad609, e609, hx609_0, hx609_1⟩ := at_T110 HR2.out x8_2 p609 q609; have hw609_1 := hx609_1; have hw609_0 := hx609_0
             obtain rfl : ad605 = ad609 := (by injection e609)
             replace hx609_0 := (HB.out.cell (World.block_lt_of_cell? w _ hx609_0)).trans hx609_0; replace hx609_1 := (HB.out.cell (World.block_lt_of_cell? w _ hx609_1)).trans hx609_1; replace p609 := eq_true p609; replace q609 := eq_true q609; have p610 : 0 ≤ (((rd_T110 l2 x8_2).f0) : Int) := of_decide_eq_true s3_; have q610 : ((rd_T110 l2 x8_2).f0) < (l0.length : Int) := of_decide_eq_true s3_; obtain ⟨ad610, e610, hx610_0, hx610_1⟩ := at_T48 HR0.out ((rd_T110 l2 x8_2).f0) p610 q610; have hw610_1 := hx610_1; have hw610_0 := hx610_0
             obtain rfl : ad607 = ad610 := (by injection e610)
             replace hx610_0 := (HB.out.cell (World.block_lt_of_cell? w _ hx610_0)).trans hx610_0; replace hx610_1 := (HB.out.cell (World.block_lt_of_cell? w _ hx610_1)).trans hx610_1; replace p610 := eq_true p610; replace q610 := eq_true q610
             refine start_ (n := 36) (S := fun w' => w'.cell? (ad607.add ((((rd_T110 l2 x8_2).f0)).toNat * 2)) = some (.int .i64 ((rd_T48 l0 ((rd_T110 l2 x8_2).f0)).f0)) ∧ w'.cell? ⟨(ad607.add ((((rd_T110 l2 x8_2).f0)).toNat * 2)).block, (ad607.add ((((rd_T110 l2 x8_2).f0)).toNat * 2)).off + 1, none⟩ = some (.int .i64 ((rd_T48 l0 ((rd_T110 l2 x8_2).f0)).f1)) ∧ w'.cell? (ad607.add ((((rd_T110 l2 x8_2).f0)).toNat * 2)) = some (.int .i64 ((rd_T48 l0 ((rd_T110 l2 x8_2).f0)).f0)) ∧ w'.cell? ⟨(ad607.add ((((rd_T110 l2 x8_2).f0)).toNat * 2)).block, (ad607.add ((((rd_T110 l2 x8_2).f0)).toNat * 2)).off + 1, none⟩ = some (.int .i64 ((rd_T48 l0 ((rd_T110 l2 x8_2).f0)).f1)) ∧ w'.cell? (ad605.add ((x8_2).toNat * 2)) = some (.int .i64 ((rd_T110 l2 x8_2).f0)) ∧ w'.cell? ⟨(ad605.add ((x8_2).toNat * 2)).block, (ad605.add ((x8_2).toNat * 2)).off + 1, none⟩ = some (.int .i64 ((rd_T110 l2 x8_2).f1)) ∧ w'.cell? (ad607.add ((((rd_T110 l2 x8_2).f0)).toNat * 2)) = some (.int .i64 ((rd_T48 l0 ((rd_T110 l2 x8_2).f0)).f0)) ∧ w'.cell? ⟨(ad607.add ((((rd_T110 l2 x8_2).f0)).toNat * 2)).block, (ad607.add ((((rd_T110 l2 x8_2).f0)).toNat * 2)).off + 1, none⟩ = some (.int .i64 ((rd_T48 l0 ((rd_T110 l2 x8_2).f0)).f1))) (ds := []) (tb_ 36 0) s10_ rfl rfl ⟨((HB.out.cell (World.block_lt_of_cell? w _ hw607_0)).trans hw607_0), ((HB.out.cell (World.block_lt_of_cell? w _ hw607_1)).trans hw607_1), ((HB.out.cell (World.block_lt_of_cell? w _ hw608_0)).trans hw608_0), ((HB.out.cell (World.block_lt_of_cell? w _ hw608_1)).trans hw608_1), ((HB.out.cell (World.block_lt_of_cell? w _ hw609_0)).trans hw609_0), ((HB.out.cell (World.block_lt_of_cell? w _ hw609_1)).trans hw609_1), ((HB.out.cell (World.block_lt_of_cell? w _ hw610_0)).trans hw610_0), ((HB.out.cell (World.block_lt_of_cell? w _ hw610_1)).trans hw610_1)⟩ (fun hHeld => ?_); refine with_tabW spec_CheckProof.tab8 spec_CheckProof.bits8 (fun HT_ HW_ => ?_)
             generalize wr.drew = w24 at BK602 HB hx607_0 hx607_1 hx608_0 hx608_1 hx609_0 hx609_1 hx610_0 hx610_1 hHeld ⊢
             refine pl_ 0 31 (tb_ 36 1) ?_; refine pl_ 1 32 (tb_ 36 3) ?_; refine pl_ 2 33 (tb_ 36 7) ?_; refine pl_ 3 34 (tb_ 36 15) ?_
             refine on_ 4 35 (tb_ 36 31) (fun K hK => ?_)
             refine goes_ Tryz.func132 s10_ rfl #[.int .i64 ((rd_T110 l2 x8_2).f0), .int .i64 0, .int .i64 (wrap64 ((l0.length : Int) - 1))] (by rfl) rfl rfl s0_ ?_
             with_reducible refine (spec_l1In.calls ((rd_T110 l2 x8_2).f0) 0 (wrap64 ((l0.length : Int) - 1)) true _ A17.out).mono ?_
             rintro e w' ⟨rfl, ⟨nd, rfl⟩⟩
             refine ⟨_, rfl, ?_⟩
             refine hK.out _ _ ⟨((HB.out.cell (World.block_lt_of_cell? w _ hw607_0)).trans hw607_0), ((HB.out.cell (World.block_lt_of_cell? w _ hw607_1)).trans hw607_1), ((HB.out.cell (World.block_lt_of_cell? w _ hw608_0)).trans hw608_0), ((HB.out.cell (World.block_lt_of_cell? w _ hw608_1)).trans hw608_1), ((HB.out.cell (World.block_lt_of_cell? w _ hw609_0)).trans hw609_0), ((HB.out.cell (World.block_lt_of_cell? w _ hw609_1)).trans hw609_1), ((HB.out.cell (World.block_lt_of_cell? w _ hw610_0)).trans hw610_0), ((HB.out.cell (World.block_lt_of_cell? w _ hw610_1)).trans hw610_1)⟩ (fun hHeld => ?_)
             clear hK K
             refine norm_ (a' := ?_) ?_ ?_
             rotate_left
             ·
              show Act.put _ (some 35) _ = _
              exact s6_
             refine pl_ 5 36 (tb_ 36 63) ?_; refine pl_ 6 37 (tb_ 36 127) ?_; refine pl_ 7 38 (tb_ 36 255) ?_; refine pl_ 8 39 (tb_ 36 511) ?_; refine pl_ 9 40 (tb_ 36 1023) ?_; refine pl_ 10 41 (tb_ 36 2047) ?_; refine pl_ 12 43 (tb_ 36 6143) ?_; refine pl_ 14 45 (tb_ 36 22527) ?_; refine pl_ 15 46 (tb_ 36 55295) ?_; refine pl_ 16 47 (tb_ 36 120831) ?_; refine pl_ 17 48 (tb_ 36 251903) ?_; refine tk_ 11 42 (tb_ 36 253951) hHeld ?_; refine pl_ 13 44 (tb_ 36 262143) ?_; refine tk_ 18 49 (tb_ 36 524287) hHeld ?_; refine pl_ 19 50 (tb_ 36 1048575) ?_; refine pl_ 20 51 (tb_ 36 2097151) ?_; refine pl_ 21 52 (tb_ 36 4194303) ?_; refine pl_ 22 53 (tb_ 36 8388607) ?_; refine pl_ 23 54 (tb_ 36 16777215) ?_; refine pl_ 24 55 (tb_ 36 33554431) ?_; refine pl_ 25 56 (tb_ 36 67108863) ?_; refine pl_ 27 58 (tb_ 36 201326591) ?_; refine pl_ 28 59 (tb_ 36 469762047) ?_; refine pl_ 29 60 (tb_ 36 1006632959) ?_; refine pl_ 30 61 (tb_ 36 2080374783) ?_; refine pl_ 31 62 (tb_ 36 4227858431) ?_
             refine tk_ 26 57 (tb_ 36 4294967295) hHeld ?_; refine tk_ 32 63 (tb_ 36 8589934591) hHeld ?_; refine pl_ 33 64 (tb_ 36 17179869183) ?_; refine pl_ 34 65 (tb_ 36 34359738367) ?_; refine pl_ 35 66 (tb_ 36 68719476735) ?_
             refine done_ (done_of HT_.out s10_) ?_
             try go_wp2
             go_ret
             exact ⟨s4_, q19_2⟩
           ·
            rw [if_neg c21] at H; have c21b0 : ((Go.bits .and .i64 ((rd_T48 l0 ((rd_T110 l2 x8_2).f0)).f0) x7_2) == ((rd_T48 l0 ((rd_T110 l2 x8_2).f0)).f0)) = false := beq_eq_false_iff_ne.mpr c21; have c21b1 : ((Go.bits .and .i64 ((rd_T48 l0 ((rd_T110 l2 x8_2).f0)).f0) x7_2) != ((rd_T48 l0 ((rd_T110 l2 x8_2).f0)).f0)) = true := bne_iff_ne.mpr c21; obtain rfl := Option.some.inj H; have p605 : 0 ≤ (x8_2 : Int) := of_decide_eq_true s3_; have q605 : x8_2 < (l2.length : Int) := of_decide_eq_true s3_; obtain ⟨ad605, e605, hx605_0, hx605_1⟩ := at_T110 HR2.out x8_2 p605 q605
            cases e605
            replace hx605_0 := (HB.out.cell (World.block_lt_of_cell? w _ hx605_0)).trans hx605_0; replace hx605_1 := (HB.out.cell (World.block_lt_of_cell? w _ hx605_1)).trans hx605_1; replace p605 := eq_true p605; replace q605 := eq_true q605
            try go_wp2
            have n0_ := Aside0.mk (blk_drew BK602.out); have n1_ := Aside0.mk (below_drew1 HB.out); clear BK602; clear HB; have BK602 := n0_; have HB := n1_; clear n0_ n1_; have p607 : 0 ≤ (((rd_T110 l2 x8_2).f0) : Int) := of_decide_eq_true s3_; have q607 : ((rd_T110 l2 x8_2).f0) < (l0.length : Int) := of_decide_eq_true s3_; obtain ⟨ad607, e607, hx607_0, hx607_1⟩ := at_T48 HR0.out ((rd_T110 l2 x8_2).f0) p607 q607; have hw607_1 := hx607_1; have hw607_0 := hx607_0
            cases e607
            replace hx607_0 := (HB.out.cell (World.block_lt_of_cell? w _ hx607_0)).trans hx607_0; replace hx607_1 := (HB.out.cell (World.block_lt_of_cell? w _ hx607_1)).trans hx607_1; replace p607 := eq_true p607; replace q607 := eq_true q607; have p608 : 0 ≤ (((rd_T110 l2 x8_2).f0) : Int) := of_decide_eq_true s3_; have q608 : ((rd_T110 l2 x8_2).f0) < (l0.length : Int) := of_decide_eq_true s3_; obtain ⟨ad608, e608, hx608_0, hx608_1⟩ := at_T48 HR0.out ((rd_T110 l2 x8_2).f0) p608 q608; have hw608_1 := hx608_1; have hw608_0 := hx608_0
            obtain rfl : ad607 = ad608 := (by injection e608)
            replace hx608_0 := (HB.out.cell (World.block_lt_of_cell? w _ hx608_0)).trans hx608_0; replace hx608_1 := (HB.out.cell (World.block_lt_of_cell? w _ hx608_1)).trans hx608_1; replace p608 := eq_true p608; replace q608 := eq_true q608
            refine start_ (n := 36) (S := fun w' => w'.cell? (ad607.add ((((rd_T110 l2 x8_2).f0)).toNat * 2)) = some (.int .i64 ((rd_T48 l0 ((rd_T110 l2 x8_2).f0)).f0)) ∧ w'.cell? ⟨(ad607.add ((((rd_T110 l2 x8_2).f0)).toNat * 2)).block, (ad607.add ((((rd_T110 l2 x8_2).f0)).toNat * 2)).off + 1, none⟩ = some (.int .i64 ((rd_T48 l0 ((rd_T110 l2 x8_2).f0)).f1)) ∧ w'.cell? (ad607.add ((((rd_T110 l2 x8_2).f0)).toNat * 2)) = some (.int .i64 ((rd_T48 l0 ((rd_T110 l2 x8_2).f0)).f0)) ∧ w'.cell? ⟨(ad607.add ((((rd_T110 l2 x8_2).f0)).toNat * 2)).block, (ad607.add ((((rd_T110 l2 x8_2).f0)).toNat * 2)).off + 1, none⟩ = some (.int .i64 ((rd_T48 l0 ((rd_T110 l2 x8_2).f0)).f1))) (ds := []) (tb_ 36 0) s10_ rfl rfl ⟨((HB.out.cell (World.block_lt_of_cell? w _ hw607_0)).trans hw607_0), ((HB.out.cell (World.block_lt_of_cell? w _ hw607_1)).trans hw607_1), ((HB.out.cell (World.block_lt_of_cell? w _ hw608_0)).trans hw608_0), ((HB.out.cell (World.block_lt_of_cell? w _ hw608_1)).trans hw608_1)⟩ (fun hHeld => ?_); refine with_tabW spec_CheckProof.tab8 spec_CheckProof.bits8 (fun HT_ HW_ => ?_)
            generalize wr.drew = w25 at BK602 HB hx607_0 hx607_1 hx608_0 hx608_1 hHeld ⊢
            refine pl_ 0 31 (tb_ 36 1) ?_; refine pl_ 1 32 (tb_ 36 3) ?_; refine pl_ 2 33 (tb_ 36 7) ?_; refine pl_ 3 34 (tb_ 36 15) ?_
            refine on_ 4 35 (tb_ 36 31) (fun K hK => ?_)
            refine goes_ Tryz.func132 s10_ rfl #[.int .i64 ((rd_T110 l2 x8_2).f0), .int .i64 0, .int .i64 (wrap64 ((l0.length : Int) - 1))] (by rfl) rfl rfl s0_ ?_
            with_reducible refine (spec_l1In.calls ((rd_T110 l2 x8_2).f0) 0 (wrap64 ((l0.length : Int) - 1)) true _ A17.out).mono ?_
            rintro e w' ⟨rfl, ⟨nd, rfl⟩⟩
            refine ⟨_, rfl, ?_⟩
            refine hK.out _ _ ⟨((HB.out.cell (World.block_lt_of_cell? w _ hw607_0)).trans hw607_0), ((HB.out.cell (World.block_lt_of_cell? w _ hw607_1)).trans hw607_1), ((HB.out.cell (World.block_lt_of_cell? w _ hw608_0)).trans hw608_0), ((HB.out.cell (World.block_lt_of_cell? w _ hw608_1)).trans hw608_1)⟩ (fun hHeld => ?_)
            clear hK K
            refine norm_ (a' := ?_) ?_ ?_
            rotate_left
            ·
             show Act.put _ (some 35) _ = _
             exact s6_
            refine pl_ 5 36 (tb_ 36 63) ?_; refine pl_ 6 37 (tb_ 36 127) ?_; refine pl_ 7 38 (tb_ 36 255) ?_; refine pl_ 8 39 (tb_ 36 511) ?_; refine pl_ 9 40 (tb_ 36 1023) ?_; refine pl_ 10 41 (tb_ 36 2047) ?_; refine pl_ 12 43 (tb_ 36 6143) ?_; refine pl_ 14 45 (tb_ 36 22527) ?_; refine pl_ 15 46 (tb_ 36 55295) ?_; refine pl_ 16 47 (tb_ 36 120831) ?_; refine pl_ 17 48 (tb_ 36 251903) ?_; refine tk_ 11 42 (tb_ 36 253951) hHeld ?_; refine pl_ 13 44 (tb_ 36 262143) ?_; refine tk_ 18 49 (tb_ 36 524287) hHeld ?_; refine pl_ 19 50 (tb_ 36 1048575) ?_; refine pl_ 20 51 (tb_ 36 2097151) ?_; refine pl_ 21 52 (tb_ 36 4194303) ?_; refine pr_ 22 53 (tb_ 36 8388607) ?_; refine pr_ 23 54 (tb_ 36 16777215) ?_; refine pr_ 24 55 (tb_ 36 33554431) ?_; refine pr_ 25 56 (tb_ 36 67108863) ?_; refine pr_ 26 57 (tb_ 36 134217727) ?_; refine pr_ 27 58 (tb_ 36 268435455) ?_; refine pr_ 28 59 (tb_ 36 536870911) ?_; refine pr_ 29 60 (tb_ 36 1073741823) ?_; refine pr_ 30 61 (tb_ 36 2147483647) ?_
            refine pr_ 31 62 (tb_ 36 4294967295) ?_; refine pr_ 32 63 (tb_ 36 8589934591) ?_; refine pr_ 33 64 (tb_ 36 17179869183) ?_; refine pr_ 34 65 (tb_ 36 34359738367) ?_; refine pl_ 35 66 (tb_ 36 68719476735) ?_
            refine done_ (done_of HT_.out s10_) ?_
            try go_wp2
            go_ret
            exact ⟨s4_, q19_2⟩
          ·
           rw [if_neg c20] at H
           exact absurd H (by simp)
         ·
          rw [if_neg c19] at H
          exact absurd H (by simp)
        ·
         replace c18 := Bool.eq_false_iff.mpr c18; subst c18
         rw [if_neg (show ¬ (false = true) by decide)] at H
         obtain rfl := Option.some.inj H; have p605 : 0 ≤ (x8_2 : Int) := of_decide_eq_true s3_; have q605 : x8_2 < (l2.length : Int) := of_decide_eq_true s3_; obtain ⟨ad605, e605, hx605_0, hx605_1⟩ := at_T110 HR2.out x8_2 p605 q605
         cases e605
         replace hx605_0 := (HB.out.cell (World.block_lt_of_cell? w _ hx605_0)).trans hx605_0; replace hx605_1 := (HB.out.cell (World.block_lt_of_cell? w _ hx605_1)).trans hx605_1; replace p605 := eq_true p605; replace q605 := eq_true q605
         try go_wp2
         have n0_ := Aside0.mk (blk_drew BK602.out); have n1_ := Aside0.mk (below_drew1 HB.out); clear BK602; clear HB; have BK602 := n0_; have HB := n1_; clear n0_ n1_
         refine start_ (n := 36) (S := fun w' => True) (ds := []) (tb_ 36 0) s10_ rfl rfl trivial (fun hHeld => ?_); refine with_tabW spec_CheckProof.tab8 spec_CheckProof.bits8 (fun HT_ HW_ => ?_)
         generalize wr.drew = w26 at BK602 HB hHeld ⊢
         refine pl_ 0 31 (tb_ 36 1) ?_; refine pl_ 1 32 (tb_ 36 3) ?_; refine pl_ 2 33 (tb_ 36 7) ?_; refine pl_ 3 34 (tb_ 36 15) ?_
         refine on_ 4 35 (tb_ 36 31) (fun K hK => ?_)
         refine goes_ Tryz.func132 s10_ rfl #[.int .i64 ((rd_T110 l2 x8_2).f0), .int .i64 0, .int .i64 (wrap64 ((l0.length : Int) - 1))] (by rfl) rfl rfl s0_ ?_
         with_reducible refine (spec_l1In.calls ((rd_T110 l2 x8_2).f0) 0 (wrap64 ((l0.length : Int) - 1)) false _ A17.out).mono ?_
         rintro e w' ⟨rfl, ⟨nd, rfl⟩⟩
         refine ⟨_, rfl, ?_⟩
         refine hK.out _ _ trivial (fun hHeld => ?_)
         clear hK K
         refine norm_ (a' := ?_) ?_ ?_
         rotate_left
         ·
          show Act.put _ (some 35) _ = _
          exact s6_
         refine pl_ 5 36 (tb_ 36 63) ?_; refine pl_ 6 37 (tb_ 36 127) ?_; refine pr_ 7 38 (tb_ 36 255) ?_; refine pr_ 8 39 (tb_ 36 511) ?_; refine pr_ 9 40 (tb_ 36 1023) ?_; refine pr_ 10 41 (tb_ 36 2047) ?_; refine pr_ 11 42 (tb_ 36 4095) ?_; refine pr_ 12 43 (tb_ 36 8191) ?_; refine pr_ 13 44 (tb_ 36 16383) ?_; refine pr_ 14 45 (tb_ 36 32767) ?_; refine pr_ 15 46 (tb_ 36 65535) ?_; refine pr_ 16 47 (tb_ 36 131071) ?_; refine pr_ 17 48 (tb_ 36 262143) ?_; refine pr_ 18 49 (tb_ 36 524287) ?_; refine pr_ 19 50 (tb_ 36 1048575) ?_; refine pl_ 20 51 (tb_ 36 2097151) ?_; refine pl_ 21 52 (tb_ 36 4194303) ?_; refine pr_ 22 53 (tb_ 36 8388607) ?_; refine pr_ 23 54 (tb_ 36 16777215) ?_; refine pr_ 24 55 (tb_ 36 33554431) ?_; refine pr_ 25 56 (tb_ 36 67108863) ?_; refine pr_ 26 57 (tb_ 36 134217727) ?_; refine pr_ 27 58 (tb_ 36 268435455) ?_; refine pr_ 28 59 (tb_ 36 536870911) ?_; refine pr_ 29 60 (tb_ 36 1073741823) ?_; refine pr_ 30 61 (tb_ 36 2147483647) ?_
         refine pr_ 31 62 (tb_ 36 4294967295) ?_; refine pr_ 32 63 (tb_ 36 8589934591) ?_; refine pr_ 33 64 (tb_ 36 17179869183) ?_; refine pr_ 34 65 (tb_ 36 34359738367) ?_; refine pl_ 35 66 (tb_ 36 68719476735) ?_
         refine done_ (done_of HT_.out s10_) ?_
         try go_wp2
         go_ret
         exact ⟨s4_, q19_2⟩
       ·
        rw [if_neg c16] at H
        exact absurd H (by simp)
      ·
       rw [if_neg c15] at H; have c15b0 : decide (x8_2 < (l2.length : Int)) = false := decide_eq_false c15; clear c15; obtain rfl := Option.some.inj H; have hcz27_0 : wr.cell? ⟨gb602, 0, none⟩ = some (.int .i64 a1_0) := (blk_cell BK602.out 0).trans rfl; have hcz27_1 : wr.cell? ⟨gb602, 1, none⟩ = some (.int .i64 a1_1) := (blk_cell BK602.out 1).trans rfl; have hfz27_0 := blk_frozen BK602.out 0; have hfz27_1 := blk_frozen BK602.out 1
       go_wp2
       go_ret
       exact ⟨s4_, q19_2⟩
set_option maxHeartbeats 40000000
set_option maxRecDepth 100000
theorem bnd9_ {α β : Type} {o : Option α} {f : α → Option β} {r : β} (h : o.bind f = some r) : ∃ a, Aside0 (o = some a) ∧ f a = some r := by
 obtain ⟨a, h1, h2⟩ := Option.bind_eq_some_iff.mp h
 exact ⟨a, ⟨h1⟩, h2⟩
def impl_SortLectic_1.f (a0 : Int) : Option (Bool) := (impl_isAnySet.f a0).bind fun t458 => (some (!t458))
theorem impl_SortLectic_1.calls (a0 : Int) (r : Bool) (w : World) (h : impl_SortLectic_1.f a0 = some r) :
  Calls Tryz.prog 246 #[.int .i64 a0] w fun e w' => e = .returned (.bool r) ∧ Drawn0 w w' := by
 have H := h; clear h; unfold impl_SortLectic_1.f at H; obtain ⟨t458, A2, H⟩ := bnd9_ H; obtain rfl := Option.some.inj H
 go_enter Tryz.func246, Tryz.ntmps246
 go_wp2_with (first | ((with_reducible refine gate_callee (f := 177) rfl ?_); refine goesL_ (some 4) rfl rfl Tryz.func177 (by kernel_rfl) rfl #[.int .i64 a0] rfl (by (try simp only [List.map_toArray, List.map_cons, List.map_nil]); first | done | rfl | (simp only [List.length_drop, List.length_take]; rfl)) ?_; (with_reducible refine (impl_isAnySet.calls a0 t458 _ A2.out).mono ?_); rintro e w' ⟨rfl, ⟨nd, rfl⟩⟩; refine ⟨_, rfl, ?_⟩))
 go_ret
 exact ⟨rf_, (by repeat (first | exact Drawn0.refl _ | apply Drawn0.step))⟩
def bits_OnesCount64.f (a0 : Int) : Option (Int) := some (Go.bits .and .i64 (wrap64 (IntKind.u64.wrap ((IntKind.u64.wrap ((IntKind.u64.wrap ((Go.bits .and .u64 (IntKind.u64.wrap (((IntKind.u64.wrap ((Go.bits .and .u64 ((IntKind.u64.wrap ((Go.bits .and .u64 (a0 / 2) 6148914691236517205) + (Go.bits .and .u64 a0 6148914691236517205))) / 4) 3689348814741910323) + (Go.bits .and .u64 (IntKind.u64.wrap ((Go.bits .and .u64 (a0 / 2) 6148914691236517205) + (Go.bits .and .u64 a0 6148914691236517205))) 3689348814741910323))) / 16) + (IntKind.u64.wrap ((Go.bits .and .u64 ((IntKind.u64.wrap ((Go.bits .and .u64 (a0 / 2) 6148914691236517205) + (Go.bits .and .u64 a0 6148914691236517205))) / 4) 3689348814741910323) + (Go.bits .and .u64 (IntKind.u64.wrap ((Go.bits .and .u64 (a0 / 2) 6148914691236517205) + (Go.bits .and .u64 a0 6148914691236517205))) 3689348814741910323))))) 1085102592571150095) + ((Go.bits .and .u64 (IntKind.u64.wrap (((IntKind.u64.wrap ((Go.bits .and .u64 ((IntKind.u64.wrap ((Go.bits .and .u64 (a0 / 2) 6148914691236517205) + (Go.bits .and .u64 a0 6148914691236517205))) / 4) 3689348814741910323) + (Go.bits .and .u64 (IntKind.u64.wrap ((Go.bits .and .u64 (a0 / 2) 6148914691236517205) + (Go.bits .and .u64 a0 6148914691236517205))) 3689348814741910323))) / 16) + (IntKind.u64.wrap ((Go.bits .and .u64 ((IntKind.u64.wrap ((Go.bits .and .u64 (a0 / 2) 6148914691236517205) + (Go.bits .and .u64 a0 6148914691236517205))) / 4) 3689348814741910323) + (Go.bits .and .u64 (IntKind.u64.wrap ((Go.bits .and .u64 (a0 / 2) 6148914691236517205) + (Go.bits .and .u64 a0 6148914691236517205))) 3689348814741910323))))) 1085102592571150095) / 256))) + ((IntKind.u64.wrap ((Go.bits .and .u64 (IntKind.u64.wrap (((IntKind.u64.wrap ((Go.bits .and .u64 ((IntKind.u64.wrap ((Go.bits .and .u64 (a0 / 2) 6148914691236517205) + (Go.bits .and .u64 a0 6148914691236517205))) / 4) 3689348814741910323) + (Go.bits .and .u64 (IntKind.u64.wrap ((Go.bits .and .u64 (a0 / 2) 6148914691236517205) + (Go.bits .and .u64 a0 6148914691236517205))) 3689348814741910323))) / 16) + (IntKind.u64.wrap ((Go.bits .and .u64 ((IntKind.u64.wrap ((Go.bits .and .u64 (a0 / 2) 6148914691236517205) + (Go.bits .and .u64 a0 6148914691236517205))) / 4) 3689348814741910323) + (Go.bits .and .u64 (IntKind.u64.wrap ((Go.bits .and .u64 (a0 / 2) 6148914691236517205) + (Go.bits .and .u64 a0 6148914691236517205))) 3689348814741910323))))) 1085102592571150095) + ((Go.bits .and .u64 (IntKind.u64.wrap (((IntKind.u64.wrap ((Go.bits .and .u64 ((IntKind.u64.wrap ((Go.bits .and .u64 (a0 / 2) 6148914691236517205) + (Go.bits .and .u64 a0 6148914691236517205))) / 4) 3689348814741910323) + (Go.bits .and .u64 (IntKind.u64.wrap ((Go.bits .and .u64 (a0 / 2) 6148914691236517205) + (Go.bits .and .u64 a0 6148914691236517205))) 3689348814741910323))) / 16) + (IntKind.u64.wrap ((Go.bits .and .u64 ((IntKind.u64.wrap ((Go.bits .and .u64 (a0 / 2) 6148914691236517205) + (Go.bits .and .u64 a0 6148914691236517205))) / 4) 3689348814741910323) + (Go.bits .and .u64 (IntKind.u64.wrap ((Go.bits .and .u64 (a0 / 2) 6148914691236517205) + (Go.bits .and .u64 a0 6148914691236517205))) 3689348814741910323))))) 1085102592571150095) / 256))) / 65536))) + ((IntKind.u64.wrap ((IntKind.u64.wrap ((Go.bits .and .u64 (IntKind.u64.wrap (((IntKind.u64.wrap ((Go.bits .and .u64 ((IntKind.u64.wrap ((Go.bits .and .u64 (a0 / 2) 6148914691236517205) + (Go.bits .and .u64 a0 6148914691236517205))) / 4) 3689348814741910323) + (Go.bits .and .u64 (IntKind.u64.wrap ((Go.bits .and .u64 (a0 / 2) 6148914691236517205) + (Go.bits .and .u64 a0 6148914691236517205))) 3689348814741910323))) / 16) + (IntKind.u64.wrap ((Go.bits .and .u64 ((IntKind.u64.wrap ((Go.bits .and .u64 (a0 / 2) 6148914691236517205) + (Go.bits .and .u64 a0 6148914691236517205))) / 4) 3689348814741910323) + (Go.bits .and .u64 (IntKind.u64.wrap ((Go.bits .and .u64 (a0 / 2) 6148914691236517205) + (Go.bits .and .u64 a0 6148914691236517205))) 3689348814741910323))))) 1085102592571150095) + ((Go.bits .and .u64 (IntKind.u64.wrap (((IntKind.u64.wrap ((Go.bits .and .u64 ((IntKind.u64.wrap ((Go.bits .and .u64 (a0 / 2) 6148914691236517205) + (Go.bits .and .u64 a0 6148914691236517205))) / 4) 3689348814741910323) + (Go.bits .and .u64 (IntKind.u64.wrap ((Go.bits .and .u64 (a0 / 2) 6148914691236517205) + (Go.bits .and .u64 a0 6148914691236517205))) 3689348814741910323))) / 16) + (IntKind.u64.wrap ((Go.bits .and .u64 ((IntKind.u64.wrap ((Go.bits .and .u64 (a0 / 2) 6148914691236517205) + (Go.bits .and .u64 a0 6148914691236517205))) / 4) 3689348814741910323) + (Go.bits .and .u64 (IntKind.u64.wrap ((Go.bits .and .u64 (a0 / 2) 6148914691236517205) + (Go.bits .and .u64 a0 6148914691236517205))) 3689348814741910323))))) 1085102592571150095) / 256))) + ((IntKind.u64.wrap ((Go.bits .and .u64 (IntKind.u64.wrap (((IntKind.u64.wrap ((Go.bits .and .u64 ((IntKind.u64.wrap ((Go.bits .and .u64 (a0 / 2) 6148914691236517205) + (Go.bits .and .u64 a0 6148914691236517205))) / 4) 3689348814741910323) + (Go.bits .and .u64 (IntKind.u64.wrap ((Go.bits .and .u64 (a0 / 2) 6148914691236517205) + (Go.bits .and .u64 a0 6148914691236517205))) 3689348814741910323))) / 16) + (IntKind.u64.wrap ((Go.bits .and .u64 ((IntKind.u64.wrap ((Go.bits .and .u64 (a0 / 2) 6148914691236517205) + (Go.bits .and .u64 a0 6148914691236517205))) / 4) 3689348814741910323) + (Go.bits .and .u64 (IntKind.u64.wrap ((Go.bits .and .u64 (a0 / 2) 6148914691236517205) + (Go.bits .and .u64 a0 6148914691236517205))) 3689348814741910323))))) 1085102592571150095) + ((Go.bits .and .u64 (IntKind.u64.wrap (((IntKind.u64.wrap ((Go.bits .and .u64 ((IntKind.u64.wrap ((Go.bits .and .u64 (a0 / 2) 6148914691236517205) + (Go.bits .and .u64 a0 6148914691236517205))) / 4) 3689348814741910323) + (Go.bits .and .u64 (IntKind.u64.wrap ((Go.bits .and .u64 (a0 / 2) 6148914691236517205) + (Go.bits .and .u64 a0 6148914691236517205))) 3689348814741910323))) / 16) + (IntKind.u64.wrap ((Go.bits .and .u64 ((IntKind.u64.wrap ((Go.bits .and .u64 (a0 / 2) 6148914691236517205) + (Go.bits .and .u64 a0 6148914691236517205))) / 4) 3689348814741910323) + (Go.bits .and .u64 (IntKind.u64.wrap ((Go.bits .and .u64 (a0 / 2) 6148914691236517205) + (Go.bits .and .u64 a0 6148914691236517205))) 3689348814741910323))))) 1085102592571150095) / 256))) / 65536))) / 4294967296)))) 127)
theorem bits_OnesCount64.calls (a0 : Int) (r : Int) (w : World) (h : bits_OnesCount64.f a0 = some r) :
  Calls Tryz.prog 273 #[.int .u64 a0] w fun e w' => e = .returned (.int .i64 r) ∧ Drawn0 w w' := by
 have H := h; clear h; unfold bits_OnesCount64.f at H; obtain rfl := Option.some.inj H
 go_enter Tryz.func273, Tryz.ntmps273
 go_wp2
 go_ret
 exact ⟨rf_, (by repeat (first | exact Drawn0.refl _ | apply Drawn0.step))⟩
def bits_OnesCount.f (a0 : Int) : Option (Int) := (bits_OnesCount64.f a0).bind fun t476 => (some t476)
theorem bits_OnesCount.calls (a0 : Int) (r : Int) (w : World) (h : bits_OnesCount.f a0 = some r) :
  Calls Tryz.prog 254 #[.int .u64 a0] w fun e w' => e = .returned (.int .i64 r) ∧ Drawn0 w w' := by
 have H := h; clear h; unfold bits_OnesCount.f at H; obtain ⟨t476, A2, H⟩ := bnd9_ H; obtain rfl := Option.some.inj H
 go_enter Tryz.func254, Tryz.ntmps254
 go_wp2_with (first | ((with_reducible refine gate_callee (f := 273) rfl ?_); refine goesL_ (some 7) rfl rfl Tryz.func273 (by kernel_rfl) rfl #[.int .u64 a0] rfl (by (try simp only [List.map_toArray, List.map_cons, List.map_nil]); first | done | rfl | (simp only [List.length_drop, List.length_take]; rfl)) ?_; (with_reducible refine (bits_OnesCount64.calls a0 t476 _ A2.out).mono ?_); rintro e w' ⟨rfl, ⟨nd, rfl⟩⟩; refine ⟨_, rfl, ?_⟩))
 go_ret
 exact ⟨rf_, (by repeat (first | exact Drawn0.refl _ | apply Drawn0.step))⟩
def impl_CountOf.f (a0 : Int) : Option (Int) := (impl_isAnySet.f a0).bind fun t477 => (if t477 = true then ((bits_OnesCount.f (IntKind.u64.wrap (a0))).bind fun t478 => (some t478)) else (some 0))
theorem impl_CountOf.calls (a0 : Int) (r : Int) (w : World) (h : impl_CountOf.f a0 = some r) :
  Calls Tryz.prog 222 #[.int .i64 a0] w fun e w' => e = .returned (.int .i64 r) ∧ Drawn0 w w' := by
 have H := h; clear h; unfold impl_CountOf.f at H; obtain ⟨t477, A2, H⟩ := bnd9_ H
 by_cases c3 : t477 = true
 ·
  subst c3; rw [if_pos rfl] at H; obtain ⟨t478, A4, H⟩ := bnd9_ H; obtain rfl := Option.some.inj H
  go_enter Tryz.func222, Tryz.ntmps222
  go_wp2_with ((with_reducible refine gw_ rfl ?_); first | (refine gL_ 177 4 Tryz.func177 #[.int .i64 a0] ?_; (with_reducible refine (impl_isAnySet.calls a0 true _ A2.out).mono ?_); rintro e w' ⟨rfl, ⟨nd, rfl⟩⟩; refine ⟨_, rfl, ?_⟩) | (refine gL_ 254 8 Tryz.func254 #[.int .u64 (IntKind.u64.wrap (a0))] ?_; (with_reducible refine (bits_OnesCount.calls (IntKind.u64.wrap (a0)) t478 _ A4.out).mono ?_); rintro e w' ⟨rfl, ⟨nd, rfl⟩⟩; refine ⟨_, rfl, ?_⟩))
  go_ret
  exact ⟨rf_, (by repeat (first | exact Drawn0.refl _ | apply Drawn0.step))⟩
 ·
  replace c3 := Bool.eq_false_iff.mpr c3; subst c3
  rw [if_neg (show ¬ (false = true) by decide)] at H
  obtain rfl := Option.some.inj H
  go_enter Tryz.func222, Tryz.ntmps222
  go_wp2_with ((with_reducible refine gw_ rfl ?_); (refine gL_ 177 4 Tryz.func177 #[.int .i64 a0] ?_; (with_reducible refine (impl_isAnySet.calls a0 false _ A2.out).mono ?_); rintro e w' ⟨rfl, ⟨nd, rfl⟩⟩; refine ⟨_, rfl, ?_⟩))
  go_ret
  exact ⟨rf_, (by repeat (first | exact Drawn0.refl _ | apply Drawn0.step))⟩
def impl_stem_1.f (a0 : Int) (a1 : Int) : Option (Int) := (impl_CountOf.f a0).bind fun t479 => ((impl_CountOf.f a1).bind fun t480 => (some (wrap64 (t479 - t480))))
theorem impl_stem_1.calls (a0 : Int) (a1 : Int) (r : Int) (w : World) (h : impl_stem_1.f a0 a1 = some r) :
  Calls Tryz.prog 221 #[.int .i64 a0, .int .i64 a1] w fun e w' => e = .returned (.int .i64 r) ∧ Drawn0 w w' := by
 have H := h; clear h; unfold impl_stem_1.f at H; obtain ⟨t479, A3, H⟩ := bnd9_ H; obtain ⟨t480, A4, H⟩ := bnd9_ H; obtain rfl := Option.some.inj H
 go_enter Tryz.func221, Tryz.ntmps221
 go_wp2_with ((with_reducible refine gw_ rfl ?_); first | (refine gL_ 222 6 Tryz.func222 #[.int .i64 a0] ?_; (with_reducible refine (impl_CountOf.calls a0 t479 _ A3.out).mono ?_); rintro e w' ⟨rfl, ⟨nd, rfl⟩⟩; refine ⟨_, rfl, ?_⟩) | (refine gL_ 222 8 Tryz.func222 #[.int .i64 a1] ?_; (with_reducible refine (impl_CountOf.calls a1 t480 _ A4.out).mono ?_); rintro e w' ⟨rfl, ⟨nd, rfl⟩⟩; refine ⟨_, rfl, ?_⟩))
 go_ret
 exact ⟨rf_, (by repeat (first | exact Drawn0.refl _ | apply Drawn0.step))⟩
def spec_l10All.l0 : Nat → List (S48) → List (S48) → Int → Option (Bool)
 | 0, _, _, _ => none
 | k + 1, x0, x1, x5 => if x5 < (x0.length : Int) then (if 0 ≤ x5 then ((spec_l9Closed.f k x1 ((rd_T48 x0 x5).f0)).bind fun t617 => (if (Go.bits .and .i64 t617 ((rd_T48 x0 x5).f1)) = ((rd_T48 x0 x5).f1) then (spec_l10All.l0 k x0 x1 (wrap64 (x5 + 1))) else (some false))) else (none)) else (some true)
def spec_l10All.f (k : Nat) (l0 : List (S48)) (l1 : List (S48)) : Option (Bool) := spec_l10All.l0 k l0 l1 0
theorem spec_l10All.calls (k : Nat) (A0 : Option Addr) (c0 : Nat) (l0 : List (S48)) (A1 : Option Addr) (c1 : Nat) (l1 : List (S48)) (r : Bool) (w : World) (hr0 : Kd.C k48 w A0 l0.length l0) (hc0 : l0.length ≤ c0) (hr1 : Kd.C k48 w A1 l1.length l1) (hc1 : l1.length ≤ c1) (h : spec_l10All.f k l0 l1 = some r) :
  Calls Tryz.prog 160 #[.slice A0 l0.length c0, .slice A1 l1.length c1] w fun e w' => e = .returned (.bool r) ∧ Drawn0 w w' := by
 have HR0 := Aside0.mk hr0; have HC0 := Aside0.mk hc0; clear hr0 hc0; have HR1 := Aside0.mk hr1; have HC1 := Aside0.mk hc1; clear hr1 hc1; have H := h; clear h; unfold spec_l10All.f at H; have H' := Aside0.mk H; clear H
 go_enter Tryz.func160, Tryz.ntmps160
 go_wp2
 repeat (go_quiet (fail); try go_wp2)
 go_loopg [5] k (fun kq v5 w' => ∃ (x5_1 : Int), v5 = .int .i64 x5_1 ∧ Aside0 (spec_l10All.l0 kq l0 l1 x5_1 = some r) ∧ Aside0 (kq ≤ k) ∧ Drawn0 w w')
 case atStart => exact ⟨(0), s2_, H', ⟨Nat.le_refl _⟩, s7_⟩
 case round =>
  clear H'
  try clear c1
  try clear p2
  obtain ⟨x5_1, rfl, HA, HK1, ⟨m1, rfl⟩⟩ := hrel
  cases gk with
  | zero => exact absurd HA.out (by simp [spec_l10All.l0])
  | succ k1 =>
   have H := HA.out; clear HA
   simp only [spec_l10All.l0] at H
   by_cases c3 : x5_1 < (l0.length : Int)
   ·
    rw [if_pos c3] at H; have c3b0 : decide (x5_1 < (l0.length : Int)) = true := decide_eq_true c3; clear c3
    by_cases c4 : 0 ≤ x5_1
    ·
     rw [if_pos c4] at H; have c4b0 : decide (0 ≤ x5_1) = true := decide_eq_true c4; clear c4; obtain ⟨t617, A5, H⟩ := bnd9_ H
     by_cases c6 : (Go.bits .and .i64 t617 ((rd_T48 l0 x5_1).f1)) = ((rd_T48 l0 x5_1).f1)
     ·
      rw [if_pos c6] at H; have c6b0 : ((Go.bits .and .i64 t617 ((rd_T48 l0 x5_1).f1)) == ((rd_T48 l0 x5_1).f1)) = true := beq_iff_eq.mpr c6; have c6b1 : ((Go.bits .and .i64 t617 ((rd_T48 l0 x5_1).f1)) != ((rd_T48 l0 x5_1).f1)) = false := bne_eq_false_iff_eq.mpr c6; clear c6; have H' := Aside0.mk H; clear H; have p616 : 0 ≤ (x5_1 : Int) := of_decide_eq_true s3_; have q616 : x5_1 < (l0.length : Int) := of_decide_eq_true s3_; obtain ⟨ad616, e616, hx616_0, hx616_1⟩ := at_T48 HR0.out x5_1 p616 q616
      cases e616
      replace p616 := eq_true p616; replace q616 := eq_true q616
      go_wp2_with (first | (go_at_call 138; (with_reducible refine (spec_l9Closed.calls k1 _ _ l1 ((rd_T48 l0 x5_1).f0) t617 _ ?side1 ?side2 A5.out).mono ?_); (case side1 => exact s18_); (case side2 => exact HC1.out); rintro e w' ⟨rfl, ⟨nd, rfl⟩⟩; (try exact dn_); have p618 : 0 ≤ (x5_1 : Int) := of_decide_eq_true s3_; have q618 : x5_1 < (l0.length : Int) := of_decide_eq_true s3_; obtain ⟨ad618, e618, hx618_0, hx618_1⟩ := at_T48 HR0.out x5_1 p618 q618; obtain rfl : ad616 = ad618 := (by injection e618); replace p618 := eq_true p618; replace q618 := eq_true q618; have p619 : 0 ≤ (x5_1 : Int) := of_decide_eq_true s3_; have q619 : x5_1 < (l0.length : Int) := of_decide_eq_true s3_; obtain ⟨ad619, e619, hx619_0, hx619_1⟩ := at_T48 HR0.out x5_1 p619 q619; obtain rfl : ad616 = ad619 := (by injection e619); replace p619 := eq_true p619; replace q619 := eq_true q619))
      repeat (go_quiet (first | (go_at_call 138; (with_reducible refine (spec_l9Closed.calls k1 _ _ l1 ((rd_T48 l0 x5_1).f0) t617 _ ?side1 ?side2 A5.out).mono ?_); (case side1 => exact s18_); (case side2 => exact HC1.out); rintro e w' ⟨rfl, ⟨nd, rfl⟩⟩; (try exact dn_); have p618 : 0 ≤ (x5_1 : Int) := of_decide_eq_true s3_; have q618 : x5_1 < (l0.length : Int) := of_decide_eq_true s3_; obtain ⟨ad618, e618, hx618_0, hx618_1⟩ := at_T48 HR0.out x5_1 p618 q618; obtain rfl : ad616 = ad618 := (by injection e618); replace p618 := eq_true p618; replace q618 := eq_true q618; have p619 : 0 ≤ (x5_1 : Int) := of_decide_eq_true s3_; have q619 : x5_1 < (l0.length : Int) := of_decide_eq_true s3_; obtain ⟨ad619, e619, hx619_0, hx619_1⟩ := at_T48 HR0.out x5_1 p619 q619; obtain rfl : ad616 = ad619 := (by injection e619); replace p619 := eq_true p619; replace q619 := eq_true q619)); try go_wp2_with (first | (go_at_call 138; (with_reducible refine (spec_l9Closed.calls k1 _ _ l1 ((rd_T48 l0 x5_1).f0) t617 _ ?side1 ?side2 A5.out).mono ?_); (case side1 => exact s18_); (case side2 => exact HC1.out); rintro e w' ⟨rfl, ⟨nd, rfl⟩⟩; (try exact dn_); have p618 : 0 ≤ (x5_1 : Int) := of_decide_eq_true s3_; have q618 : x5_1 < (l0.length : Int) := of_decide_eq_true s3_; obtain ⟨ad618, e618, hx618_0, hx618_1⟩ := at_T48 HR0.out x5_1 p618 q618; obtain rfl : ad616 = ad618 := (by injection e618); replace p618 := eq_true p618; replace q618 := eq_true q618; have p619 : 0 ≤ (x5_1 : Int) := of_decide_eq_true s3_; have q619 : x5_1 < (l0.length : Int) := of_decide_eq_true s3_; obtain ⟨ad619, e619, hx619_0, hx619_1⟩ := at_T48 HR0.out x5_1 p619 q619; obtain rfl : ad616 = ad619 := (by injection e619); replace p619 := eq_true p619; replace q619 := eq_true q619)))
      go_roundg k1
      case measure => have := HK1.out; omega
      case rel => exact ⟨(wrap64 (x5_1 + 1)), s2_, H', ⟨by have := HK1.out; omega⟩, s7_⟩
     ·
      rw [if_neg c6] at H; have c6b0 : ((Go.bits .and .i64 t617 ((rd_T48 l0 x5_1).f1)) == ((rd_T48 l0 x5_1).f1)) = false := beq_eq_false_iff_ne.mpr c6; have c6b1 : ((Go.bits .and .i64 t617 ((rd_T48 l0 x5_1).f1)) != ((rd_T48 l0 x5_1).f1)) = true := bne_iff_ne.mpr c6; obtain rfl := Option.some.inj H; have p616 : 0 ≤ (x5_1 : Int) := of_decide_eq_true s3_; have q616 : x5_1 < (l0.length : Int) := of_decide_eq_true s3_; obtain ⟨ad616, e616, hx616_0, hx616_1⟩ := at_T48 HR0.out x5_1 p616 q616
      cases e616
      replace p616 := eq_true p616; replace q616 := eq_true q616
      go_wp2_with (first | (go_at_call 138; (with_reducible refine (spec_l9Closed.calls k1 _ _ l1 ((rd_T48 l0 x5_1).f0) t617 _ ?side1 ?side2 A5.out).mono ?_); (case side1 => exact s18_); (case side2 => exact HC1.out); rintro e w' ⟨rfl, ⟨nd, rfl⟩⟩; (try exact dn_); have p618 : 0 ≤ (x5_1 : Int) := of_decide_eq_true s3_; have q618 : x5_1 < (l0.length : Int) := of_decide_eq_true s3_; obtain ⟨ad618, e618, hx618_0, hx618_1⟩ := at_T48 HR0.out x5_1 p618 q618; obtain rfl : ad616 = ad618 := (by injection e618); replace p618 := eq_true p618; replace q618 := eq_true q618; have p619 : 0 ≤ (x5_1 : Int) := of_decide_eq_true s3_; have q619 : x5_1 < (l0.length : Int) := of_decide_eq_true s3_; obtain ⟨ad619, e619, hx619_0, hx619_1⟩ := at_T48 HR0.out x5_1 p619 q619; obtain rfl : ad616 = ad619 := (by injection e619); replace p619 := eq_true p619; replace q619 := eq_true q619))
      repeat (go_quiet (first | (go_at_call 138; (with_reducible refine (spec_l9Closed.calls k1 _ _ l1 ((rd_T48 l0 x5_1).f0) t617 _ ?side1 ?side2 A5.out).mono ?_); (case side1 => exact s18_); (case side2 => exact HC1.out); rintro e w' ⟨rfl, ⟨nd, rfl⟩⟩; (try exact dn_); have p618 : 0 ≤ (x5_1 : Int) := of_decide_eq_true s3_; have q618 : x5_1 < (l0.length : Int) := of_decide_eq_true s3_; obtain ⟨ad618, e618, hx618_0, hx618_1⟩ := at_T48 HR0.out x5_1 p618 q618; obtain rfl : ad616 = ad618 := (by injection e618); replace p618 := eq_true p618; replace q618 := eq_true q618; have p619 : 0 ≤ (x5_1 : Int) := of_decide_eq_true s3_; have q619 : x5_1 < (l0.length : Int) := of_decide_eq_true s3_; obtain ⟨ad619, e619, hx619_0, hx619_1⟩ := at_T48 HR0.out x5_1 p619 q619; obtain rfl : ad616 = ad619 := (by injection e619); replace p619 := eq_true p619; replace q619 := eq_true q619)); try go_wp2_with (first | (go_at_call 138; (with_reducible refine (spec_l9Closed.calls k1 _ _ l1 ((rd_T48 l0 x5_1).f0) t617 _ ?side1 ?side2 A5.out).mono ?_); (case side1 => exact s18_); (case side2 => exact HC1.out); rintro e w' ⟨rfl, ⟨nd, rfl⟩⟩; (try exact dn_); have p618 : 0 ≤ (x5_1 : Int) := of_decide_eq_true s3_; have q618 : x5_1 < (l0.length : Int) := of_decide_eq_true s3_; obtain ⟨ad618, e618, hx618_0, hx618_1⟩ := at_T48 HR0.out x5_1 p618 q618; obtain rfl : ad616 = ad618 := (by injection e618); replace p618 := eq_true p618; replace q618 := eq_true q618; have p619 : 0 ≤ (x5_1 : Int) := of_decide_eq_true s3_; have q619 : x5_1 < (l0.length : Int) := of_decide_eq_true s3_; obtain ⟨ad619, e619, hx619_0, hx619_1⟩ := at_T48 HR0.out x5_1 p619 q619; obtain rfl : ad616 = ad619 := (by injection e619); replace p619 := eq_true p619; replace q619 := eq_true q619)))
      go_ret
      exact ⟨s2_, s7_⟩
    ·
     rw [if_neg c4] at H
     exact absurd H (by simp)
   ·
    rw [if_neg c3] at H; have c3b0 : decide (x5_1 < (l0.length : Int)) = false := decide_eq_false c3; clear c3; obtain rfl := Option.some.inj H
    go_wp2
    repeat (go_quiet (fail); try go_wp2)
    go_ret
    exact ⟨s2_, s7_⟩
theorem bnd20_ {α β : Type} {o : Option α} {f : α → Option β} {r : β} (h : o.bind f = some r) : ∃ a, Aside0 (o = some a) ∧ f a = some r := by
 obtain ⟨a, h1, h2⟩ := Option.bind_eq_some_iff.mp h
 exact ⟨a, ⟨h1⟩, h2⟩
def spec_AreEquivalent.f (k : Nat) (l0 : List (S48)) (l1 : List (S48)) : Option (Bool) := (spec_l9Sets.f k l0).bind fun t620 => (if t620 = true then ((spec_l9Sets.f k l1).bind fun t621 => (if t621 = true then ((spec_l10All.f k l0 l1).bind fun t622 => (if t622 = true then ((spec_l10All.f k l1 l0).bind fun t623 => (some t623)) else (some false))) else (some false))) else (some false))
set_option maxHeartbeats 40000000 in
set_option maxRecDepth 100000 in
theorem spec_AreEquivalent.calls (k : Nat) (A0 : Option Addr) (c0 : Nat) (l0 : List (S48)) (A1 : Option Addr) (c1 : Nat) (l1 : List (S48)) (r : Bool) (w : World) (hr0 : Kd.C k48 w A0 l0.length l0) (hc0 : l0.length ≤ c0) (hr1 : Kd.C k48 w A1 l1.length l1) (hc1 : l1.length ≤ c1) (h : spec_AreEquivalent.f k l0 l1 = some r) :
  Calls Tryz.prog 46 #[.slice A0 l0.length c0, .slice A1 l1.length c1] w fun e w' => e = .returned (.bool r) ∧ Below w.heap.size w w' := by
 have HR0 := Aside0.mk hr0; have HC0 := Aside0.mk hc0; clear hr0 hc0; have HR1 := Aside0.mk hr1; have HC1 := Aside0.mk hc1; clear hr1 hc1; have HB := Aside0.mk (Below.refl w.heap.size w); have H := h; clear h; unfold spec_AreEquivalent.f at H; obtain ⟨t620, A3, H⟩ := bnd20_ H
 by_cases c4 : t620 = true
 ·
  subst c4; rw [if_pos rfl] at H; obtain ⟨t621, A5, H⟩ := bnd20_ H
  by_cases c6 : t621 = true
  ·
   subst c6; rw [if_pos rfl] at H; obtain ⟨t622, A7, H⟩ := bnd20_ H
   by_cases c8 : t622 = true
   ·
    subst c8; rw [if_pos rfl] at H; obtain ⟨t623, A9, H⟩ := bnd20_ H; obtain rfl := Option.some.inj H
    go_enter Tryz.func46, Tryz.ntmps46
    go_wp2_with (first | ((with_reducible refine gw_ rfl ?_); (refine gL_ 156 6 Tryz.func156 #[.slice A0 l0.length c0] ?_; (with_reducible refine (spec_l9Sets.calls k _ _ l0 true _ ?side1 ?side2 A3.out).mono ?_); (case side1 => exact s13_); (case side2 => exact HC0.out); rintro e w10 ⟨rfl, hb⟩; refine ⟨_, rfl, ?_⟩; have n_ := Aside0.mk (below_step s1_ hb); clear HB; have HB := n_; clear n_; (try clear hb))) | (go_at_call 156; (with_reducible refine (spec_l9Sets.calls k _ _ l1 true _ ?side1 ?side2 A5.out).mono ?_); (case side1 => exact s14_); (case side2 => exact HC1.out); rintro e w11 ⟨rfl, hb⟩; have n_ := Aside0.mk (below_step s1_ hb); clear HB; have HB := n_; clear n_; (try clear hb)) | (go_at_call 160; (with_reducible refine (spec_l10All.calls k _ _ l0 _ _ l1 true _ ?side1 ?side2 ?side3 ?side4 A7.out).mono ?_); (case side1 => exact s5_); (case side2 => exact HC0.out); (case side3 => exact s14_); (case side4 => exact HC1.out); rintro e w' ⟨rfl, ⟨nd, rfl⟩⟩) | (go_at_call 160; (with_reducible refine (spec_l10All.calls k _ _ l1 _ _ l0 t623 _ ?side1 ?side2 ?side3 ?side4 A9.out).mono ?_); (case side1 => repeat (first | exact (Kd.C_below HR1.out s1_) | (with_reducible refine Kd.C_alloc ?_ _) | (with_reducible refine Kd.C_drewN ?_ _) | (with_reducible refine Kd.C_drew ?_))); (case side2 => exact HC1.out); (case side3 => repeat (first | exact (Kd.C_below HR0.out s1_) | (with_reducible refine Kd.C_alloc ?_ _) | (with_reducible refine Kd.C_drewN ?_ _) | (with_reducible refine Kd.C_drew ?_))); (case side4 => exact HC0.out); rintro e w' ⟨rfl, ⟨nd, rfl⟩⟩))
    go_ret
    exact ⟨s4_, s1_⟩
   ·
    replace c8 := Bool.eq_false_iff.mpr c8; subst c8
    rw [if_neg (show ¬ (false = true) by decide)] at H
    obtain rfl := Option.some.inj H
    go_enter Tryz.func46, Tryz.ntmps46
    go_wp2_with (first | ((with_reducible refine gw_ rfl ?_); (refine gL_ 156 6 Tryz.func156 #[.slice A0 l0.length c0] ?_; (with_reducible refine (spec_l9Sets.calls k _ _ l0 true _ ?side1 ?side2 A3.out).mono ?_); (case side1 => exact s13_); (case side2 => exact HC0.out); rintro e w12 ⟨rfl, hb⟩; refine ⟨_, rfl, ?_⟩; have n_ := Aside0.mk (below_step s1_ hb); clear HB; have HB := n_; clear n_; (try clear hb))) | (go_at_call 156; (with_reducible refine (spec_l9Sets.calls k _ _ l1 true _ ?side1 ?side2 A5.out).mono ?_); (case side1 => exact s14_); (case side2 => exact HC1.out); rintro e w13 ⟨rfl, hb⟩; have n_ := Aside0.mk (below_step s1_ hb); clear HB; have HB := n_; clear n_; (try clear hb)) | (go_at_call 160; (with_reducible refine (spec_l10All.calls k _ _ l0 _ _ l1 false _ ?side1 ?side2 ?side3 ?side4 A7.out).mono ?_); (case side1 => exact s5_); (case side2 => exact HC0.out); (case side3 => exact s14_); (case side4 => exact HC1.out); rintro e w' ⟨rfl, ⟨nd, rfl⟩⟩))
    go_ret
    exact ⟨s4_, s1_⟩
  ·
   replace c6 := Bool.eq_false_iff.mpr c6; subst c6
   rw [if_neg (show ¬ (false = true) by decide)] at H
   obtain rfl := Option.some.inj H
   go_enter Tryz.func46, Tryz.ntmps46
   go_wp2_with (first | ((with_reducible refine gw_ rfl ?_); (refine gL_ 156 6 Tryz.func156 #[.slice A0 l0.length c0] ?_; (with_reducible refine (spec_l9Sets.calls k _ _ l0 true _ ?side1 ?side2 A3.out).mono ?_); (case side1 => exact s13_); (case side2 => exact HC0.out); rintro e w14 ⟨rfl, hb⟩; refine ⟨_, rfl, ?_⟩; have n_ := Aside0.mk (below_step s1_ hb); clear HB; have HB := n_; clear n_; (try clear hb))) | (go_at_call 156; (with_reducible refine (spec_l9Sets.calls k _ _ l1 false _ ?side1 ?side2 A5.out).mono ?_); (case side1 => exact s14_); (case side2 => exact HC1.out); rintro e w15 ⟨rfl, hb⟩; have n_ := Aside0.mk (below_step s1_ hb); clear HB; have HB := n_; clear n_; (try clear hb)))
   go_ret
   exact ⟨s4_, s1_⟩
 ·
  replace c4 := Bool.eq_false_iff.mpr c4; subst c4
  rw [if_neg (show ¬ (false = true) by decide)] at H
  obtain rfl := Option.some.inj H
  go_enter Tryz.func46, Tryz.ntmps46
  go_wp2_with ((with_reducible refine gw_ rfl ?_); (refine gL_ 156 6 Tryz.func156 #[.slice A0 l0.length c0] ?_; (with_reducible refine (spec_l9Sets.calls k _ _ l0 false _ ?side1 ?side2 A3.out).mono ?_); (case side1 => exact s13_); (case side2 => exact HC0.out); rintro e w16 ⟨rfl, hb⟩; refine ⟨_, rfl, ?_⟩; have n_ := Aside0.mk (below_step s1_ hb); clear HB; have HB := n_; clear n_; (try clear hb)))
  go_ret
  exact ⟨s4_, s1_⟩
end Go.Proofs.YtafnamchckehmaaGreatDoor.Pr
namespace Go.Proofs.YtafnamchckehmaaGreatDoor.Pr
open Go.RowKit Go.Proofs.YtafnamchckehmaaGreatDoorW.PrintWords Go.Proofs.YtafnamchckehmaaGreatDoorW.PrintLast Go.Proofs.YtafnamchckehmaaGreatDoorW.PrintMore
set_option linter.unusedVariables false
set_option linter.unusedSimpArgs false
def idxF {α : Type} (p : α → Bool) (l : List α) : Int := if l.any p = true then (l.findIdx p : Int) else -1
theorem idxF_hit {α : Type} (p : α → Bool) (l : List α) (d : α) (k : Nat) (hk : k < l.length) (h : p (l.getD k d) = true) (hn : ∀ j, j < k → p (l.getD j d) = false) : idxF p l = k := by
  have hg : ∀ j (hj : j < l.length), l.getD j d = l[j] := fun j hj => by simp [List.getD_eq_getElem?_getD, List.getElem?_eq_getElem hj]
  have hf : l.findIdx p = k := (List.findIdx_eq hk).2 ⟨by rw [← hg k hk]; exact h, fun j hj => by rw [← hg j (by omega)]; exact hn j hj⟩
  have ha : l.any p = true := List.any_eq_true.2 ⟨l[k], List.getElem_mem hk, by rw [← hg k hk]; exact h⟩
  unfold idxF
  rw [if_pos ha, hf]
theorem idxF_miss {α : Type} (p : α → Bool) (l : List α) (d : α) (hn : ∀ j, j < l.length → p (l.getD j d) = false) : idxF p l = -1 ∧ l.any p = false := by
  have ha : l.any p = false := by
    rw [List.any_eq_false]
    intro x hx
    obtain ⟨j, hj, rfl⟩ := List.getElem_of_mem hx
    have := hn j hj
    rw [List.getD_eq_getElem?_getD, List.getElem?_eq_getElem hj] at this
    simpa using this
  unfold idxF
  rw [ha]
  exact ⟨rfl, rfl⟩
theorem idxF_nonneg {α : Type} (p : α → Bool) (l : List α) : decide (0 ≤ idxF p l) = l.any p := by
  unfold idxF
  cases l.any p <;> simp
set_option maxHeartbeats 4000000
set_option maxRecDepth 100000
def FnRb (g : Nat) (lb : Array Value) (p : S48 → Bool) (w : World) : Prop :=
  ∀ (W : World) (x : S48), Below w.heap.size w W → Calls Tryz.prog g (#[.agg #[.int .i64 x.f0, .int .i64 x.f1]] ++ lb) W fun e w' => e = .returned (.bool (p x)) ∧ Below W.heap.size W w'
theorem IndexFunc_rule (g : Nat) (lb : Array Value) (eg : ∀ args w, (callFunc g args).run Tryz.prog w = .ok (.enter g args) w) (A : Option Addr) (c : Nat) (l : List S48) (p : S48 → Bool) (w : World)
    (hr : Kd.C k48 w A l.length l) (hp : FnRb g lb p w) :
    Calls Tryz.prog 142 #[.slice A l.length c, .func (.func g) #[] lb] w fun e w' => e = .returned (.int .i64 (idxF p l)) ∧ Below w.heap.size w w' := by
  have hu := Tryz.underlying48
  have HR0 := Aside0.mk hr
  have HP := Aside0.mk hp
  clear hr hp
  go_enter Tryz.func142, Tryz.ntmps142
  go_wp2
  go_loopg [5, 8] (l.length + 1) (fun kq _ v8 w' => ∃ (x : Int), v8 = .int .i64 x ∧ Aside0 (0 ≤ x ∧ x ≤ l.length ∧ (l.length : Int) - x < kq) ∧ Aside0 (∀ j : Nat, (j : Int) < x → p (l.getD j z48) = false) ∧ Aside0 (Below w.heap.size w w'))
  case atStart => exact ⟨0, rfl, ⟨by omega⟩, ⟨fun j hj => by omega⟩, ⟨Below.refl _ _⟩⟩
  case round =>
    obtain ⟨x, rfl, HX, HN, HB⟩ := hrel
    by_cases hlt : x < (l.length : Int)
    · have c0 : decide (x < (l.length : Int)) = true := decide_eq_true hlt
      have p0 : 0 ≤ x := HX.out.1
      obtain ⟨ad, e, hx0, hx1⟩ := at_T48 HR0.out x p0 hlt
      cases e
      replace hx0 := (HB.out.cell (World.block_lt_of_cell? w _ hx0)).trans hx0
      replace hx1 := (HB.out.cell (World.block_lt_of_cell? w _ hx1)).trans hx1
      have HL := Aside0.mk hlt
      replace p0 := eq_true p0
      replace hlt := eq_true hlt
      have hcall := HP.out wr (rd_T48 l x) HB.out
      cases hq : p (rd_T48 l x) with
      | true =>
        rw [hq] at hcall
        have HQ := Aside0.mk hq
        clear hq
        go_wp2_with (go_at_fn g; refine hcall.mono ?_; rintro e w' ⟨rfl, hb⟩)
        go_ret
        have hx := HX.out
        have h1 := idxF_hit p l z48 x.toNat (by have := HL.out; omega) HQ.out (fun j hj => HN.out j (by omega))
        refine ⟨?_, below_step HB.out hb⟩
        rw [h1, Int.toNat_of_nonneg hx.1]
        rfl
      | false =>
        rw [hq] at hcall
        have HQ := Aside0.mk hq
        clear hq
        go_wp2_with (go_at_fn g; refine hcall.mono ?_; rintro e w' ⟨rfl, hb⟩)
        have hw : wrap64 (x + 1) = x + 1 := by have h1 := HX.out; have h2 := HL.out; have h3 := HR0.out.2.1; unfold wrap64; omega
        have HW := Aside0.mk hw
        clear hw
        go_roundg (gk - 1)
        case measure => have h1 := HX.out; have h2 := HL.out; omega
        case rel =>
          refine ⟨x + 1, by rw [HW.out], ⟨?_⟩, ⟨fun j hj => ?_⟩, ⟨below_step HB.out hb⟩⟩
          · have h1 := HX.out; have h2 := HL.out; omega
          · by_cases e : (j : Int) = x
            · have : j = x.toNat := by omega
              subst this
              exact HQ.out
            · exact HN.out j (by omega)
    · have c0 : decide (x < (l.length : Int)) = false := decide_eq_false hlt
      have HL := Aside0.mk hlt
      clear hlt
      go_wp2
      go_ret
      have h1 := HX.out
      have h2 := HL.out
      rw [(idxF_miss p l z48 (fun j hj => HN.out j (by omega))).1]
      exact ⟨rfl, HB.out⟩
theorem ContainsFunc_rule (g : Nat) (lb : Array Value) (eg : ∀ args w, (callFunc g args).run Tryz.prog w = .ok (.enter g args) w) (A : Option Addr) (c : Nat) (l : List S48) (p : S48 → Bool) (w : World)
    (hr : Kd.C k48 w A l.length l) (hp : FnRb g lb p w) :
    Calls Tryz.prog 167 #[.slice A l.length c, .func (.func g) #[] lb] w fun e w' => e = .returned (.bool (l.any p)) ∧ Below w.heap.size w w' := by
  have h0 := IndexFunc_rule g lb eg A c l p w hr hp
  have h1 := Aside0.mk (idxF_nonneg p l)
  clear hr hp
  go_enter Tryz.func167, Tryz.ntmps167
  go_wp2_with (go_at_call 142; refine h0.mono ?_; rintro e w' ⟨rfl, hb⟩)
  go_ret
  exact ⟨by rw [← h1.out]; rfl, hb⟩
def slices_Clone_impl_Rule.f (l0 : List S48) : Option (List S48) := if l0.length < 8796093022208 then some l0 else none
set_option maxHeartbeats 4000000 in
set_option maxRecDepth 100000 in
theorem slices_Clone_impl_Rule.calls (A0 : Option Addr) (c0 : Nat) (l0 : List S48) (r : List S48) (w : World) (hr0 : Kd.C k48 w A0 l0.length l0) (hc0 : l0.length ≤ c0) (h : slices_Clone_impl_Rule.f l0 = some r) :
    Calls Tryz.prog 150 #[.slice A0 l0.length c0] w fun e w' => ∃ v0_ : Value, e = .returned (v0_) ∧ Kd.R k48 48 w' w.heap.size (fun _ => True) v0_ r ∧ Below w.heap.size w w' := by
  unfold slices_Clone_impl_Rule.f at h
  by_cases hlen : l0.length < 8796093022208
  · rw [if_pos hlen] at h
    obtain rfl := Option.some.inj h
    clear h
    have HR0 := Aside0.mk hr0
    have HC0 := Aside0.mk hc0
    have HL := Aside0.mk hlen
    have HB := Aside0.mk (Below.refl w.heap.size w)
    cases A0 with
    | none =>
      have h0 : l0 = [] := by
        rcases Nat.eq_zero_or_pos l0.length with h | h
        · exact List.eq_nil_of_length_eq_zero h
        · obtain ⟨ad, e, _⟩ := hr0.2.2 h
          cases e
      have H0 := Aside0.mk h0
      clear h0 hr0 hc0 hlen
      have hnil : ∀ W, (binOp .eql 24 (.slice none l0.length c0) (.slice none 0 0)).run Tryz.prog W = .ok (.bool true) W := fun W => Lib.run_eql_slice_nil W _ _ _ _ _ _ _ Tryz.underlying24
      go_enter Tryz.func150, Tryz.ntmps150
      go_wp2
      go_ret
      exact ⟨_, rfl, by rw [H0.out]; exact Kd.R_nil _ _ _ _ _, HB.out⟩
    | some ad =>
      clear hr0 hc0 hlen
      have hnil : ∀ W, (binOp .eql 24 (.slice (some ad) l0.length c0) (.slice none 0 0)).run Tryz.prog W = .ok (.bool false) W := fun W => Lib.run_eql_slice_nil W _ _ _ _ _ _ _ Tryz.underlying24
      go_enter Tryz.func150, Tryz.ntmps150
      go_wp2_with (first | ((with_reducible refine gw_ rfl ?_); (refine rl_ k48 48 5 ?_; intro v5 w5 ho6 hb hg_ hnew_; clear hg_ hnew_; have n0_ := Aside0.mk (Kd.R_lower ho6 (below_size HB.out)); have n1_ := Aside0.mk (below_step HB.out hb); clear HB; have HO := n0_; have HB := n1_; clear n0_ n1_; clear hb ho6)) | ((with_reducible refine gate_builtin (b := .append) (xs := #[.tmp 5, .tmp 6]) rfl ?_); at_builtin; refine Kd.R_append_rows k48 (w0 := w) w.heap.size rfl (.tmp 5) (.tmp 6) 24 48 (.agg #[(.int .i64 0), (.int .i64 0)]) 16 rfl Tryz.underlying24 info48 rfl (by decide) (by omega) v5 [] l0 _ _ _ (fun _ => True) (fun _ => False) rfl rfl ?aO ?aR (fun _ _ h => h) (fun _ h => h.elim) ?aF ?aB ?aS ?aL ?_; (case aR => exact (Kd.C_below HR0.out HB.out)); (case aB => exact HB.out); (case aF => exact (fun _ _ => trivial)); (case aO => exact HO.out); (case aS => exact below_size HB.out); (case aL => have := HL.out; simp; omega); intro v6 w8 ho hb hg hat; have n0_ := Aside0.mk (hb); have n1_ := Aside0.mk (ho); clear HB HO; have HB := n0_; have HO := n1_; clear n0_ n1_; clear ho hb hg hat))
      go_ret
      exact ⟨_, rfl, HO.out, HB.out⟩
  · rw [if_neg hlen] at h
    cases h
theorem R_tail {α : Type} (d : Kd α) (e base g m c : Nat) (ok : Nat → Prop) (w : World) (xs : List α) (vs : List Value) (h : d.R e w base ok (.slice (some ⟨g, 0, none⟩) m c) xs) (hm : m * d.sz + vs.length ≤ c * d.sz) :
    d.R e (w.setCells g (m * d.sz) vs) base ok (.slice (some ⟨g, 0, none⟩) m c) xs := by
  obtain ⟨h0, inner, ho, hr⟩ := h
  refine ⟨h0, inner, ?_, hr.imp_ (fun _ _ hp => d.M_move (fun k hk => setCells_far vs _ k (fun e => hk.2 (by rw [e]; rfl))) hp)⟩
  obtain ⟨h1, h2⟩ := ho
  rcases h2 with ⟨h2, _⟩ | ⟨g', cap, cur, he, hb, hh, hn, hx, hs, ht⟩
  · cases h2
  · injection he with e1 e2 e3
    injection e1 with e1
    injection e1 with e1 _ _
    subst e1 e3
    rw [← e2] at ht hn h1
    obtain ⟨cur', k1, k2, k3⟩ := setCells_row vs (m * d.sz) w cur hh (by rw [hs]; exact hm)
    refine ⟨by rw [← e2]; exact h1, .inr ⟨g, c, cur', by rw [e2], hb, k1, by rw [← e2]; exact hn, hx, by rw [k2]; exact hs, ?_⟩⟩
    rw [k3, ← e2, List.append_assoc, List.take_append_of_le_length (by rw [List.length_take, Array.length_toList, hs]; have := Nat.mul_le_mul_right d.sz hn; omega), List.take_take, Nat.min_self]
    exact ht
theorem run_clear_one {P : Program} (w : World) (t e ty : TypeId) (ht : P.underlying t = some (.slice e)) (hv : ∀ w, (zeroValue e).run P w = .ok (.agg #[.int .i64 0, .int .i64 0]) w) (b o c : Nat)
    (hc : ∀ j, j < 2 → (w.cell? ⟨b, o + j, none⟩).isSome = true) (hf : ∀ j, j < 2 → w.frozen? ⟨b, o + j, none⟩ = false) :
    (Builtin.clear_ #[t] ty #[.slice (some ⟨b, o, none⟩) 1 c]).run P w = .ok (.tuple #[]) (w.setCells b o [.int .i64 0, .int .i64 0]) := by
  have hzc : (Builtin.zeroCells (Value.agg #[.int .i64 0, .int .i64 0]).cells 1).toList = [.int .i64 0, .int .i64 0] := by kernel_rfl
  have hst := run_storeCells_cells (P := P) b o [.int .i64 0, .int .i64 0] 0 w (by simpa using hc) (by simpa using hf) (by
    intro v hv'
    rcases List.mem_cons.1 hv' with rfl | hv'
    · rfl
    · rcases List.mem_cons.1 hv' with rfl | hv'
      · rfl
      · cases hv')
  simp only [Nat.add_zero] at hst
  simp [Builtin.clear_, run_underlying ht, hv, hzc, hst]
theorem R_block {α : Type} (d : Kd α) (e base g m c : Nat) (ok : Nat → Prop) (w : World) (xs : List α) (h : d.R e w base ok (.slice (some ⟨g, 0, none⟩) m c) xs) : base ≤ g ∧ ∃ cur, w.heap[g]? = some (.cells cur e (0, 0)) ∧ cur.size = c * d.sz := by
  obtain ⟨_, inner, ho, hr⟩ := h
  obtain ⟨h1, h2⟩ := ho
  rcases h2 with ⟨h2, _⟩ | ⟨g', cap, cur, he, hb, hh, hn, hx, hs, ht⟩
  · cases h2
  · injection he with e1 e2 e3
    injection e1 with e1
    injection e1 with e1 _ _
    subst e1 e3
    exact ⟨hb, cur, hh, hs⟩
theorem R_clear_run (w : World) (base g m c : Nat) (ok : Nat → Prop) (xs : List S48) (cc : Nat) (h : k48.R 48 w base ok (.slice (some ⟨g, 0, none⟩) m c) xs) (hm : m < c) :
    (Builtin.clear_ #[24] 0 #[.slice (some ⟨g, m * 2, none⟩) 1 cc]).run Tryz.prog w = .ok (.tuple #[]) (w.setCells g (m * 2) [.int .i64 0, .int .i64 0]) ∧ k48.R 48 (w.setCells g (m * 2) [.int .i64 0, .int .i64 0]) base ok (.slice (some ⟨g, 0, none⟩) m c) xs ∧ base ≤ g := by
  obtain ⟨hb, cur, hh, hs⟩ := R_block k48 _ _ _ _ _ _ _ _ h
  have hs2 : cur.size = c * 2 := hs
  refine ⟨run_clear_one w _ 48 0 Tryz.underlying24 (fun W => rfl) g (m * 2) cc (fun j hj => ?_) (fun j hj => ?_), R_tail k48 _ _ _ _ _ _ _ _ _ h ?_, hb⟩
  · have hlt : m * 2 + j < cur.size := by omega
    simp [World.cell?, hh, hlt]
  · simp [World.frozen?, hh]
  · show m * 2 + 2 ≤ c * 2
    omega
theorem slices_Delete_impl_Rule.calls (base : Nat) (ok : Nat → Prop) (g m c k : Nat) (xs : List S48) (w0 w : World) (ho : k48.R 48 w base ok (.slice (some ⟨g, 0, none⟩) (m + 1) c) xs) (hk : k ≤ m) (hn : m < c) (hb : Below base w0 w) (hs : base ≤ w.heap.size) :
    Calls Tryz.prog 219 #[.slice (some ⟨g, 0, none⟩) (m + 1) c, .int .i64 (k : Int), .int .i64 ((k : Int) + 1)] w fun e w' => e = .returned (.slice (some ⟨g, 0, none⟩) m c) ∧ k48.R 48 w' base ok (.slice (some ⟨g, 0, none⟩) m c) (xs.eraseIdx k) ∧ Below base w0 w' := by
  have HK := Aside0.mk hk
  have i0 : (0 : Int) ≤ (k : Int) := Int.natCast_nonneg k
  have i1 : (k : Int) ≤ (k : Int) + 1 := by omega
  have i2 : (k : Int) + 1 ≤ ((m + 1 : Nat) : Int) := by omega
  have i3 : (k : Int) ≤ (c : Int) := by omega
  have i4 : ((m + 1 : Nat) : Int) ≤ (c : Int) := by omega
  have i5 : ((k : Int) = (k : Int) + 1) = False := eq_false (by omega)
  have i6 : (k : Int).toNat = k := Int.toNat_natCast k
  have i7 : ((k : Int) + 1).toNat = k + 1 := by omega
  have i8 : (0 : Int) ≤ (k : Int) + 1 := by omega
  go_enter Tryz.func219, Tryz.ntmps219
  go_wp2_with fail
  have HO1 := Aside0.mk (Kd.R_drew ho)
  have HB1 := Aside0.mk (below_drew1 hb)
  have HS1 : Aside0 (base ≤ w.drew.heap.size) := Aside0.mk hs
  have HN := Aside0.mk hn
  clear ho hb hs hn i4
  have i9 : (0 : Int) ≤ (m : Int) + 1 := by omega
  have hcl : ∀ W, (zeroValue 48).run Tryz.prog W = .ok (.agg #[.int .i64 0, .int .i64 0]) W := fun W => rfl
  by_cases hck : c = k + 1
  · subst hck
    have j1 : m ≤ k := Nat.le_of_lt_succ HN.out
    have j2 : m = k := Nat.le_antisymm j1 hk
    subst j2
    go_region_law (refine Kd.R_delete_step k48 base (by simp [Region.wanted]) (.tmp 22) (.tmp 25) 24 48 rfl Tryz.underlying24 (by kernel_rfl) (n := m + 1) (k := m) (m := 0) rfl rfl (by simp) (by omega) HO1.out (Nat.lt_succ_of_le HK.out) HB1.out HS1.out ?_; intro w1 hr hb hg)
    go_wp2_with fail
    have hr' : k48.R 48 w1 base ok (.slice (some ⟨g, 0, none⟩) m (m + 1)) (xs.eraseIdx m) := hr
    have hrun := R_clear_run w1 base g m (m + 1) ok (xs.eraseIdx m) 1 hr' (Nat.lt_succ_self m)
    rw [hrun.1]
    have hfin := hrun.2.1
    have hbf := below_setCells hrun.2.2 [.int .i64 0, .int .i64 0] (m * 2) w1 hb
    clear hrun hr hr' hb hg
    go_wp2
    go_ret
    exact ⟨rfl, hfin, hbf⟩
  · have j3 : (c = m) = False := eq_false (by have := HN.out; omega)
    have j4 : m + 1 ≤ c := HN.out
    have j5 : m < c := HN.out
    go_region_law (refine Kd.R_delete_step k48 base (by simp [Region.wanted]) (.tmp 22) (.tmp 25) 24 48 rfl Tryz.underlying24 (by kernel_rfl) (n := m + 1) (k := k) (m := m - k) rfl rfl (by rw [if_neg hck, Option.map_some]; exact congrArg some (by unfold Addr.add; rw [Nat.zero_add]; rfl)) (by omega) HO1.out (Nat.lt_succ_of_le HK.out) HB1.out HS1.out ?_; intro w1 hr hb hg)
    go_wp2_with fail
    have hr' : k48.R 48 w1 base ok (.slice (some ⟨g, 0, none⟩) m c) (xs.eraseIdx k) := hr
    have hrun := R_clear_run w1 base g m c ok (xs.eraseIdx k) (c - m) hr' HN.out
    rw [hrun.1]
    have hfin := hrun.2.1
    have hbf := below_setCells hrun.2.2 [.int .i64 0, .int .i64 0] (m * 2) w1 hb
    clear hrun hr hr' hb hg
    go_wp2
    go_ret
    exact ⟨rfl, hfin, hbf⟩
theorem slices_Delete_impl_Rule.at (base : Nat) (ok : Nat → Prop) (g n m c k : Nat) (hnm : n = m + 1) (xs : List S48) (w0 w : World) (ho : k48.R 48 w base ok (.slice (some ⟨g, 0, none⟩) n c) xs) (hk : k ≤ m) (hn : n ≤ c) (hb : Below base w0 w) (hs : base ≤ w.heap.size) :
    Calls Tryz.prog 219 #[.slice (some ⟨g, 0, none⟩) n c, .int .i64 (k : Int), .int .i64 ((k : Int) + 1)] w fun e w' => e = .returned (.slice (some ⟨g, 0, none⟩) m c) ∧ k48.R 48 w' base ok (.slice (some ⟨g, 0, none⟩) m c) (xs.eraseIdx k) ∧ Below base w0 w' := by
  subst hnm
  exact slices_Delete_impl_Rule.calls base ok g m c k xs w0 w ho hk hn hb hs
theorem R_form {α : Type} (d : Kd α) (e base : Nat) (ok : Nat → Prop) (w : World) (v : Value) (xs : List α) (h : d.R e w base ok v xs) (hx : 0 < xs.length) : ∃ g c, v = .slice (some ⟨g, 0, none⟩) xs.length c ∧ xs.length ≤ c := by
  obtain ⟨A, c, rfl⟩ := Kd.R_slice h
  have hc := (Kd.R_reads' h).2.1
  obtain ⟨_, inner, ho, hr⟩ := h
  obtain ⟨h1, h2⟩ := ho
  rcases h2 with ⟨h2, h3⟩ | ⟨g', cap, cur, he, _⟩
  · injection h2 with _ e2 _
    omega
  · injection he with e1 e2 e3
    subst e1
    exact ⟨g', c, rfl, hc⟩
def impl_others.f (l0 : List S48) (a1 : Int) : Option (List S48) := if l0.length < 8796093022208 ∧ 0 ≤ a1 ∧ a1 < (l0.length : Int) then some (l0.eraseIdx a1.toNat) else none
set_option maxHeartbeats 4000000 in
set_option maxRecDepth 100000 in
theorem impl_others.calls (A0 : Option Addr) (c0 : Nat) (l0 : List S48) (a1 : Int) (r : List S48) (w : World) (hr0 : Kd.C k48 w A0 l0.length l0) (hc0 : l0.length ≤ c0) (h : impl_others.f l0 a1 = some r) :
    Calls Tryz.prog 151 #[.slice A0 l0.length c0, .int .i64 a1] w fun e w' => ∃ v0_ : Value, e = .returned (v0_) ∧ Kd.R k48 48 w' w.heap.size (fun _ => True) v0_ r ∧ Below w.heap.size w w' := by
  unfold impl_others.f at h
  by_cases hlen : l0.length < 8796093022208 ∧ 0 ≤ a1 ∧ a1 < (l0.length : Int)
  · rw [if_pos hlen] at h
    obtain rfl := Option.some.inj h
    obtain ⟨h1, h2, h3⟩ := hlen
    clear h
    obtain ⟨k, rfl⟩ : ∃ k : Nat, a1 = (k : Int) := ⟨a1.toNat, by omega⟩
    have hw : wrap64 ((k : Int) + 1) = (k : Int) + 1 := by unfold wrap64; omega
    have hcl : slices_Clone_impl_Rule.f l0 = some l0 := by unfold slices_Clone_impl_Rule.f; rw [if_pos h1]
    obtain ⟨m, hm⟩ : ∃ m, l0.length = m + 1 := ⟨l0.length - 1, by omega⟩
    have HC := Aside0.mk hcl
    have HR0 := Aside0.mk hr0
    have HC0 := Aside0.mk hc0
    have HM := Aside0.mk hm
    have HK : Aside0 (k ≤ m) := Aside0.mk (by omega)
    have HP : Aside0 (0 < l0.length) := Aside0.mk (by omega)
    rw [Int.toNat_natCast]
    clear hcl hr0 hc0 hm h1 h2 h3
    go_enter Tryz.func151, Tryz.ntmps151
    go_wp2_with (first | (go_at_call 150; refine (slices_Clone_impl_Rule.calls _ _ l0 l0 _ HR0.out HC0.out HC.out).mono ?_; rintro e w1 ⟨v, rfl, hR, hB⟩; obtain ⟨g, c, rfl, hgc⟩ := R_form _ _ _ _ _ _ _ hR HP.out; have HR := Aside0.mk hR; have HB := Aside0.mk hB; have HG := Aside0.mk hgc; clear hR hB hgc) | (go_at_call 219; refine (slices_Delete_impl_Rule.at w.heap.size (fun _ => True) g _ m c k HM.out l0 w _ HR.out HK.out HG.out HB.out HB.out.size).mono ?_; rintro e w2 ⟨rfl, hR, hB⟩; have HR2 := Aside0.mk hR; have HB2 := Aside0.mk hB; clear HR HB hR hB))
    go_ret
    exact ⟨_, rfl, HR2.out, HB2.out⟩
  · rw [if_neg hlen] at h
    cases h
def ruleMap (fv : Int → Int) (l : List Int) : List S48 := l.map fun s => ⟨s, fv s⟩
def ruleLoop (fv : Int → Int) : Nat → List (S48) → List Int → Int → Int → Option ((List (S48)))
  | 0, _, _, _, _ => none
  | k + 1, x5, x9, x10, x11 => if x11 < x10 then (if 0 ≤ x11 then (if x11 < (x9.length : Int) then (if x5.length < 8796093022208 then (ruleLoop fv k (x5 ++ [(⟨rd x9 x11, fv (rd x9 x11)⟩ : S48)]) x9 x10 (wrap64 (x11 + 1))) else (none)) else (none)) else (none)) else (some x5)
theorem ruleLoop_val (fv : Int → Int) (l : List Int) (hl : l.length ≤ 1048576) : ∀ (d i : Nat) (out : List S48), i + d = l.length → out.length ≤ i → ruleLoop fv (d + 1) out l (l.length : Int) (i : Int) = some (out ++ ruleMap fv (l.drop i)) := by
  intro d
  induction d with
  | zero =>
    intro i out hi ho
    unfold ruleLoop
    rw [if_neg (by omega), List.drop_of_length_le (by omega)]
    unfold ruleMap
    simp
  | succ d ih =>
    intro i out hi ho
    unfold ruleLoop
    have hlt : i < l.length := by omega
    have hrd : rd l (i : Int) = l[i] := by
      unfold rd
      rw [Int.toNat_natCast, List.getD_eq_getElem?_getD, List.getElem?_eq_getElem hlt]
      rfl
    rw [if_pos (by omega), if_pos (by omega), if_pos (by omega), if_pos (by omega), show wrap64 ((i : Int) + 1) = ((i + 1 : Nat) : Int) from by unfold wrap64; omega, ih (i + 1) _ (by omega) (by rw [List.length_append, List.length_singleton]; omega), hrd, List.append_assoc, List.drop_eq_getElem_cons hlt]
    rfl
theorem rd_memR {l : List Int} {x : Int} (h0 : 0 ≤ x) (h1 : x < (l.length : Int)) : rd l x ∈ l := by
  unfold rd
  rw [List.getD_eq_getElem?_getD, List.getElem?_eq_getElem (by omega)]
  exact List.getElem_mem _
set_option maxHeartbeats 40000000 in
set_option maxRecDepth 100000 in
theorem rulesTo_at (g : Nat) (cb : Array Value) (eg : ∀ args w, (callFunc g args).run Tryz.prog w = .ok (.enter g args) w) (fv : Int → Int) (A0 : Option Addr) (c0 : Nat) (l0 : List Int) (w : World) (hr0 : Kd.C (Kd.int .i64) w A0 l0.length l0) (hl : l0.length ≤ 1048576)
    (hp : ∀ (W : World) (x : Int), x ∈ l0 → Below w.heap.size w W → Calls Tryz.prog g (#[.int .i64 x] ++ cb) W fun e w' => e = .returned (.int .i64 (fv x)) ∧ Below W.heap.size W w') :
    Calls Tryz.prog 153 #[.slice A0 l0.length c0, .func (.func g) #[] cb] w fun e w' => ∃ v0_ : Value, e = .returned (v0_) ∧ Kd.R k48 48 w' w.heap.size (fun _ => True) v0_ (ruleMap fv l0) ∧ Below w.heap.size w w' := by
  have hu48 := Tryz.underlying48
  have HR0 := Aside0.mk hr0
  have HP := Aside0.mk hp
  have H : ruleLoop fv (l0.length + 1) ([] : List (S48)) l0 (l0.length : Int) 0 = some (ruleMap fv l0) := ruleLoop_val fv l0 hl l0.length 0 [] (by omega) (Nat.le_refl _)
  clear hr0 hp hl
  have HB := Aside0.mk (Below.refl w.heap.size w)
  generalize ruleMap fv l0 = r at *
  generalize l0.length + 1 = k at *
  have H' := Aside0.mk H
  clear H
  go_enter Tryz.func153, Tryz.ntmps153
  go_wp2_with ((with_reducible refine gw_ rfl ?_); (refine rl_ k48 48 8 ?_; intro v320 w2 ho3 hb hg_ hnew_; clear hg_ hnew_; have n0_ := Aside0.mk (Kd.R_lower ho3 (below_size (by repeat (first | (with_reducible first | exact HB.out | apply below_alloc | apply pw_below_drewN | apply below_drew1) | exact HB.out)))); have n1_ := Aside0.mk (below_step (by repeat (first | (with_reducible first | exact HB.out | apply below_alloc | apply pw_below_drewN | apply below_drew1) | exact HB.out)) hb); clear HB; have HO321 := n0_; have HB := n1_; clear n0_ n1_; clear hb ho3))
  go_loopg [5, 11] k (fun kq v5 v11 w' => ∃ (x5_1 : List (S48)) (x11_1 : Int), v11 = .int .i64 x11_1 ∧ Aside0 (ruleLoop fv kq x5_1 l0 (l0.length : Int) x11_1 = some r) ∧ Aside0 (kq ≤ k) ∧ Aside0 (Kd.R k48 48 w' w.heap.size (fun _ => True) v5 x5_1) ∧ Aside0 (Below w.heap.size w w'))
  case atStart => exact ⟨([] : List (S48)), (0), rf_, H', ⟨Nat.le_refl _⟩, ⟨by (with_reducible repeat (first | apply Kd.R_alloc | apply Kd.R_drewN | apply Kd.R_drew)); exact HO321.out⟩, ⟨by repeat (first | (with_reducible first | exact HB.out | apply below_alloc | apply pw_below_drewN | apply below_drew1) | exact HB.out)⟩⟩
  case round =>
    clear H'
    obtain ⟨x5_1, x11_1, rfl, HA, HK1, HO_5, HB⟩ := hrel
    cases gk with
    | zero => exact absurd HA.out (by simp [ruleLoop])
    | succ k1 =>
      have H := HA.out
      clear HA
      simp only [ruleLoop] at H
      by_cases c4 : x11_1 < (l0.length : Int)
      · rw [if_pos c4] at H
        have c4b0 : decide (x11_1 < (l0.length : Int)) = true := decide_eq_true c4
        by_cases c5 : 0 ≤ x11_1
        · rw [if_pos c5, if_pos c4] at H
          have HM := Aside0.mk (rd_memR c5 c4)
          clear c4
          have c5b0 : decide (0 ≤ x11_1) = true := decide_eq_true c5
          clear c5
          by_cases c8 : x5_1.length < 8796093022208
          · rw [if_pos c8] at H
            have LMc8 := Aside0.mk c8
            clear c8
            have H' := Aside0.mk H
            clear H
            have p322 : 0 ≤ (x11_1 : Int) := of_decide_eq_true (by first | (with_reducible assumption) | assumption)
            have q322 : x11_1 < (l0.length : Int) := of_decide_eq_true (by first | (with_reducible assumption) | assumption)
            obtain ⟨ad322, e322, hx322_0⟩ := Kd.at_int HR0.out x11_1 p322 q322
            cases e322
            replace hx322_0 := (HB.out.cell (World.block_lt_of_cell? w _ hx322_0)).trans hx322_0
            replace p322 := eq_true p322
            replace q322 := eq_true q322
            go_wp2_with fail
            refine (HP.out _ (rd l0 x11_1) HM.out (by repeat (first | (with_reducible first | exact HB.out | apply below_alloc | apply pw_below_drewN | apply below_drew1) | exact HB.out))).mono ?_
            rintro e w8 ⟨rfl, hb⟩
            have n0_ := Aside0.mk (Kd.R_below (by (with_reducible repeat (first | apply Kd.R_alloc | apply Kd.R_drewN | apply Kd.R_drew)); exact HO_5.out) hb)
            have n1_ := Aside0.mk (below_step (by repeat (first | (with_reducible first | exact HB.out | apply below_alloc | apply pw_below_drewN | apply below_drew1) | exact HB.out)) hb)
            clear HB HO_5
            have HO_5 := n0_
            have HB := n1_
            clear n0_ n1_ hb
            go_wp2_with (first | ((with_reducible refine gate_builtin (b := .append) (xs := #[.tmp 15, .tmp 21]) rfl ?_); at_builtin; refine Kd.R_append k48 (w0 := w) w.heap.size rfl (.tmp 15) (.tmp 21) 24 48 (.agg #[(.int .i64 0), (.int .i64 0)]) 16 rfl Tryz.underlying24 info48 rfl (by decide) (by omega) u5 x5_1 (⟨rd l0 x11_1, fv (rd l0 x11_1)⟩ : S48) [.int .i64 (rd l0 x11_1), .int .i64 (fv (rd l0 x11_1))] (fun _ => True) (fun _ => False) rfl rfl ?aP (fun _ hk => hk.elim) ?aF ?aO ?aB ?aS ?aL ?_; (case aP => exact k48_mkM _ _ _ (⟨rd l0 x11_1, fv (rd l0 x11_1)⟩ : S48)); (case aB => exact (by repeat (first | (with_reducible first | exact HB.out | apply below_alloc | apply pw_below_drewN | apply below_drew1) | exact HB.out))); (case aF => exact (fun _ _ => trivial)); (case aO => exact (by (with_reducible repeat (first | apply Kd.R_alloc | apply Kd.R_drewN | apply Kd.R_drew)); exact HO_5.out)); (case aS => exact (below_size (by repeat (first | (with_reducible first | exact HB.out | apply below_alloc | apply pw_below_drewN | apply below_drew1) | exact HB.out)))); (case aL => have := LMc8.out; omega); intro v325 w9 ho hb hg hat; have n0_ := Aside0.mk (hb); have n1_ := Aside0.mk (ho); clear HB; clear HO_5; have HB := n0_; have HO326 := n1_; clear n0_ n1_; clear ho hb hg hat))
            go_roundg k1
            case measure => have := HK1.out; omega
            case rel => exact ⟨(x5_1 ++ [(⟨rd l0 x11_1, fv (rd l0 x11_1)⟩ : S48)]), (wrap64 (x11_1 + 1)), rf_, H', ⟨by have := HK1.out; omega⟩, ⟨by (with_reducible repeat (first | apply Kd.R_alloc | apply Kd.R_drewN | apply Kd.R_drew)); exact HO326.out⟩, ⟨by repeat (first | (with_reducible first | exact HB.out | apply below_alloc | apply pw_below_drewN | apply below_drew1) | exact HB.out)⟩⟩
          · rw [if_neg c8] at H
            exact absurd H (by simp)
        · rw [if_neg c5] at H
          exact absurd H (by simp)
      · rw [if_neg c4] at H
        have c4b0 : decide (x11_1 < (l0.length : Int)) = false := decide_eq_false c4
        clear c4
        obtain rfl := Option.some.inj H
        go_wp2
        go_ret
        exact ⟨_, by first | rfl | (simp [errW_none, errW_some] <;> rfl) | (simp [*, errW_none, errW_some] <;> rfl), by (with_reducible repeat (first | apply Kd.R_alloc | apply Kd.R_drewN | apply Kd.R_drew)); exact HO_5.out, by repeat (first | (with_reducible first | exact HB.out | apply below_alloc | apply pw_below_drewN | apply below_drew1) | exact HB.out)⟩
def Tab64 (w : World) : Prop := ∀ j, j < 64 → w.cell? ⟨1, j, none⟩ = some (.int .u8 (Lib.deBruijn64tab.getD j 0))
theorem Tab64.below {w w' : World} (h : Tab64 w) (hb : Below w.heap.size w w') : Tab64 w' := fun j hj => (hb.cell (p := ⟨1, j, none⟩) (World.block_lt_of_cell? w _ (h j hj))).trans (h j hj)
theorem tz64_key (x a : Nat) (hx : x < 18446744073709551616) (hx0 : x ≠ 0) (hlow : x &&& (18446744073709551616 - x) = a) :
    IntKind.u64.wrap (bits BinOp.and IntKind.u64 (x : Int) (IntKind.u64.wrap (-(x : Int))) * 285870213051353865) / 288230376151711744 = ((a * 285870213051353865 % 18446744073709551616 / 288230376151711744 : Nat) : Int) := by
  have e1 : IntKind.u64.wrap (-(x : Int)) = ((18446744073709551616 - x : Nat) : Int) := by rw [IntKind.wrap_u64]; omega
  rw [e1, bits_and_u64_nat x _ hx (by omega), hlow, IntKind.wrap_u64]
  omega
set_option maxHeartbeats 1000000 in
theorem tz64_core (x k idx : Nat) (w : World) (hx0 : ((x : Int) == 0) = false)
    (key : IntKind.u64.wrap (bits BinOp.and IntKind.u64 (x : Int) (IntKind.u64.wrap (-(x : Int))) * 285870213051353865) / 288230376151711744 = (idx : Int))
    (hi : idx < 64) (hk : k < 64) (hcell : w.cell? ⟨1, idx, none⟩ = some (.int .u8 k)) :
    Calls Tryz.prog 252 #[.int .u64 x] w fun e w' => e = .returned (.int .i64 k) ∧ w' = w := by
  go_enter Tryz.func252, Tryz.ntmps252
  go_wp2_with (simp only [key])
  go_ret
  exact ⟨rfl, rfl⟩
theorem tz64_zero (w : World) : Calls Tryz.prog 252 #[.int .u64 0] w fun e w' => e = .returned (.int .i64 64) ∧ w' = w := by
  go_enter Tryz.func252, Tryz.ntmps252
  go_wp2
  go_ret
  exact ⟨rfl, rfl⟩
def bits_TrailingZeros64.f (a0 : Int) : Option Int := if 0 ≤ a0 ∧ a0 < 18446744073709551616 then some ((Lib.ctz 64 a0.toNat : Nat) : Int) else none
theorem bits_TrailingZeros64.calls (a0 : Int) (r : Int) (w : World) (htab : Tab64 w) (h : bits_TrailingZeros64.f a0 = some r) :
    Calls Tryz.prog 252 #[.int .u64 a0] w fun e w' => e = .returned (.int .i64 r) ∧ Drawn0 w w' := by
  unfold bits_TrailingZeros64.f at h
  by_cases ha : 0 ≤ a0 ∧ a0 < 18446744073709551616
  · rw [if_pos ha] at h
    obtain rfl := Option.some.inj h
    obtain ⟨x, rfl⟩ : ∃ x : Nat, a0 = (x : Int) := ⟨a0.toNat, by omega⟩
    rw [Int.toNat_natCast]
    have hx : x < 18446744073709551616 := by omega
    by_cases hx0 : x = 0
    · subst hx0
      refine (tz64_zero w).mono ?_
      rintro e w' ⟨rfl, rfl⟩
      exact ⟨rfl, Drawn0.refl _⟩
    · obtain ⟨hlow, hk⟩ := Lib.lowest_bit 64 x hx0 hx
      obtain ⟨hi, htb⟩ := Lib.deBruijn64_at _ hk
      have hcell := htab _ hi
      rw [htb] at hcell
      refine (tz64_core x _ _ w (by simp; omega) (tz64_key x _ hx hx0 hlow) hi hk hcell).mono ?_
      rintro e w' ⟨rfl, rfl⟩
      exact ⟨rfl, Drawn0.refl _⟩
  · rw [if_neg ha] at h
    cases h
end Go.Proofs.YtafnamchckehmaaGreatDoor.Pr
