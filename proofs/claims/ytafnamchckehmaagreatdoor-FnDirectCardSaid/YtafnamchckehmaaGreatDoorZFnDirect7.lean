/- What the law needs of the program's functions as plain functions, of the proofs that their calls answer so, and of plain laws: gathered by a program of this place (pack.py) out of its printed texts. No condition beyond what each statement says. -/
import Derived.Test.YtafnamchckehmaaGreatDoorZFnDirect2
import Derived.Test.YtafnamchckehmaaGreatDoorZFnDirect3
import Derived.Test.YtafnamchckehmaaGreatDoorZFnDirect5
import Derived.Test.YtafnamchckehmaaGreatDoorZFnDirect6
import Derived.Test.YtafnamchckehmaaGreatDoorZFnDirect4
namespace Go.Proofs.YtafnamchckehmaaGreatDoor.Pr
open Go.RowKit Go.Proofs.YtafnamchckehmaaGreatDoorW.PrintWords Go.Proofs.YtafnamchckehmaaGreatDoorW.PrintLast Go.Proofs.YtafnamchckehmaaGreatDoorW.PrintMore
attribute [local go_sem] max2_int min2_int max_two min_two max_three min_three max_four min_four
set_option linter.unusedVariables false
set_option linter.unusedSimpArgs false
theorem bnd8_ {α β : Type} {o : Option α} {f : α → Option β} {r : β} (h : o.bind f = some r) : ∃ a, Aside0 (o = some a) ∧ f a = some r := by
 obtain ⟨a, h1, h2⟩ := Option.bind_eq_some_iff.mp h
 exact ⟨a, ⟨h1⟩, h2⟩
def impl_common.l0 : Nat → Int → Int → List Int → Int → Int → Option (Int)
 | 0, _, _, _, _, _ => none
 | k + 1, x1, x2, x9, x10, x11 => if x11 < x10 then (if 0 ≤ x11 then (if x11 < (x9.length : Int) then ((impl_HasElement.f x1 x11).bind fun t368 => (if t368 = true then (impl_common.l0 k x1 (Go.bits .and .i64 x2 (rd x9 x11)) x9 x10 (wrap64 (x11 + 1))) else (impl_common.l0 k x1 x2 x9 x10 (wrap64 (x11 + 1))))) else (none)) else (none)) else (some x2)
def impl_common.f (k : Nat) (l0 : List Int) (a1 : Int) (a2 : Int) : Option (Int) := impl_common.l0 k a1 a2 l0 (l0.length : Int) 0
set_option maxHeartbeats 8000000 in
set_option maxRecDepth 100000 in
theorem impl_common.calls (k : Nat) (A0 : Option Addr) (c0 : Nat) (l0 : List Int) (a1 : Int) (a2 : Int) (r : Int) (w : World) (hr0 : Kd.C (Kd.int .i64) w A0 l0.length l0) (hc0 : l0.length ≤ c0) (h : impl_common.f k l0 a1 a2 = some r) :
  Calls Tryz.prog 257 #[.slice A0 l0.length c0, .int .i64 a1, .int .i64 a2] w fun e w' => e = .returned (.int .i64 r) ∧ Drawn0 w w' := by
 have HR0 := Aside0.mk hr0; have HC0 := Aside0.mk hc0; clear hr0 hc0; have H := h; clear h; unfold impl_common.f at H; have H' := Aside0.mk H; clear H
 go_enter Tryz.func257, Tryz.ntmps257
 go_wp2
 go_loopg [2, 11] k (fun kq v2 v11 w' => ∃ (x2_1 : Int) (x11_1 : Int), v2 = .int .i64 x2_1 ∧ v11 = .int .i64 x11_1 ∧ Aside0 (impl_common.l0 kq a1 x2_1 l0 (l0.length : Int) x11_1 = some r) ∧ Aside0 (kq ≤ k) ∧ Drawn0 w w')
 case atStart => exact ⟨(a2), (0), s2_, s2_, H', ⟨Nat.le_refl _⟩, s7_⟩
 case round =>
  clear H'
  try clear c2
  try clear p2
  obtain ⟨x2_1, x11_1, rfl, rfl, HA, HK1, ⟨m1, rfl⟩⟩ := hrel
  cases gk with
  | zero => exact absurd HA.out (by simp [impl_common.l0])
  | succ k1 =>
   have H := HA.out; clear HA
   simp only [impl_common.l0] at H
   by_cases c4 : x11_1 < (l0.length : Int)
   ·
    rw [if_pos c4] at H; have c4b0 : decide (x11_1 < (l0.length : Int)) = true := decide_eq_true c4; clear c4
    by_cases c5 : 0 ≤ x11_1
    ·
     rw [if_pos c5] at H; have c5b0 : decide (0 ≤ x11_1) = true := decide_eq_true c5; clear c5
     by_cases c6 : x11_1 < (l0.length : Int)
     ·
      rw [if_pos c6] at H; have c6b0 : decide (x11_1 < (l0.length : Int)) = true := decide_eq_true c6; clear c6; obtain ⟨t368, A7, H⟩ := bnd8_ H
      by_cases c8 : t368 = true
      ·
       subst c8; rw [if_pos rfl] at H; have H' := Aside0.mk H; clear H; have p367 : 0 ≤ (x11_1 : Int) := of_decide_eq_true s3_; have q367 : x11_1 < (l0.length : Int) := of_decide_eq_true s3_; obtain ⟨ad367, e367, hx367_0⟩ := Kd.at_int HR0.out x11_1 p367 q367
       cases e367
       replace p367 := eq_true p367; replace q367 := eq_true q367
       go_wp2_with (first | (refine gL_ 212 18 Tryz.func212 #[.int .i64 a1, .int .i64 x11_1] ?_; (with_reducible refine (impl_HasElement.calls a1 x11_1 true _ A7.out).mono ?_); rintro e w' ⟨rfl, ⟨nd, rfl⟩⟩; refine ⟨_, rfl, ?_⟩))
       go_roundg k1
       case measure => have := HK1.out; omega
       case rel => exact ⟨(Go.bits .and .i64 x2_1 (rd l0 x11_1)), (wrap64 (x11_1 + 1)), s2_, s2_, H', ⟨by have := HK1.out; omega⟩, s7_⟩
      ·
       replace c8 := Bool.eq_false_iff.mpr c8; subst c8
       rw [if_neg (show ¬ (false = true) by decide)] at H
       have H' := Aside0.mk H; clear H; have p367 : 0 ≤ (x11_1 : Int) := of_decide_eq_true s3_; have q367 : x11_1 < (l0.length : Int) := of_decide_eq_true s3_; obtain ⟨ad367, e367, hx367_0⟩ := Kd.at_int HR0.out x11_1 p367 q367
       cases e367
       replace p367 := eq_true p367; replace q367 := eq_true q367
       go_wp2_with (first | (refine gL_ 212 18 Tryz.func212 #[.int .i64 a1, .int .i64 x11_1] ?_; (with_reducible refine (impl_HasElement.calls a1 x11_1 false _ A7.out).mono ?_); rintro e w' ⟨rfl, ⟨nd, rfl⟩⟩; refine ⟨_, rfl, ?_⟩))
       go_roundg k1
       case measure => have := HK1.out; omega
       case rel => exact ⟨(x2_1), (wrap64 (x11_1 + 1)), s2_, s2_, H', ⟨by have := HK1.out; omega⟩, s7_⟩
     ·
      rw [if_neg c6] at H
      exact absurd H (by simp)
    ·
     rw [if_neg c5] at H
     exact absurd H (by simp)
   ·
    rw [if_neg c4] at H; have c4b0 : decide (x11_1 < (l0.length : Int)) = false := decide_eq_false c4; clear c4; obtain rfl := Option.some.inj H
    go_wp2
    go_ret
    exact ⟨s2_, s7_⟩
theorem q8_5 {P : Prop} (h : P := by repeat (first | (with_reducible first | exact HI0.out | apply IsS152.alloc | apply IsS152.drewN | apply IsS152.drew | apply IsS152.set_1 | apply IsS152.set_2 | refine IsS152.far ?_ NB0_415.out _) | exact HI0.out)) : P := h
theorem q8_6 {P : Prop} (h : P := by repeat (first | (with_reducible first | exact HB.out | apply below_alloc | apply pw_below_drewN | apply below_drew1 | refine below_set ?_ (IsS152.ge HI0.out) | refine below_set ?_ GE415.out) | exact HB.out)) : P := h
theorem q8_7 {P : Prop} (h : P := by repeat (first | (with_reducible first | exact HK.out | apply KeepBut.set_ | apply keep_drewN | apply keep_drew | apply keep_alloc | refine keep_far ?_ GW415.out _) | exact HK.out)) : P := h
theorem q8_9 {P : Prop} (h : P := by (try simp only [List.map_toArray, List.map_cons, List.map_nil]); first | done | (simp only [hji5]; rfl) | rfl | (simp only [List.length_drop, List.length_take]; rfl)) : P := h
theorem q8_11 {P : Prop} (h : P := by (with_reducible repeat (first | refine blk_drewN ?_ _ | refine blk_drew ?_ | refine blk_alloc ?_ _)); exact BK415.out) : P := h
def spec_l9Make.f (s0_0 : List Int) (s0_1 : Int) (s0_2 : Int) (a1 : Int) : Option (Int × Int × Int × Int) := if 0 ≤ (IntKind.u64.wrap (a1)) then ((spec_l1Below.f s0_0 s0_1 s0_2 (shl .i64 1 (IntKind.u64.wrap (a1)))).bind fun bt416 => ((spec_l1Below.f s0_0 bt416.2.1 bt416.2.2 (shl .i64 1 (IntKind.u64.wrap (a1)))).bind fun bt419 => ((spec_l1Below.f s0_0 bt419.2.1 bt419.2.2 (shl .i64 1 (IntKind.u64.wrap (a1)))).bind fun bt422 => (some (Go.bits .and .i64 bt416.1 bt419.1, bt422.1, bt422.2.1, bt422.2.2))))) else (none)
set_option maxHeartbeats 8000000 in
set_option maxRecDepth 100000 in
theorem spec_l9Make.calls (g : Nat) (s0_0 : List Int) (s0_1 : Int) (s0_2 : Int) (a1 : Int) (r1 : Int) (r2 : Int) (r3 : Int) (r4 : Int) (w0 w : World) (hI : IsS152 w0 w g s0_0 s0_1 s0_2) (hB : Below w0.heap.size w0 w) (h : spec_l9Make.f s0_0 s0_1 s0_2 a1 = some (r1, r2, r3, r4)) :
  Calls Tryz.prog 172 #[.pointer (some ⟨g, 0, none⟩), .int .i64 a1] w fun e w' => e = .returned (.agg #[.int .i64 r1, .int .i64 r2]) ∧ IsS152 w0 w' g s0_0 r3 r4 ∧ Below w0.heap.size w0 w' ∧ KeepBut w w' g none := by
 have hu48 := Tryz.underlying48; have HI0 := Aside0.mk hI; have HK := Aside0.mk (KeepBut.refl w g none); have HL := Aside0.mk hB.size; clear hI; have HW0 := Aside0.mk hB.size; have HB := Aside0.mk hB; clear hB; have H := h; clear h; unfold spec_l9Make.f at H; obtain ⟨ji3, hji3⟩ : ∃ j_ : Int, (IntKind.u64.wrap (a1)) = j_ := ⟨_, rfl⟩
 replace H : (if 0 ≤ (ji3) then ((spec_l1Below.f s0_0 s0_1 s0_2 (shl .i64 1 (ji3))).bind fun bt416 => ((spec_l1Below.f s0_0 bt416.2.1 bt416.2.2 (shl .i64 1 (ji3))).bind fun bt419 => ((spec_l1Below.f s0_0 bt419.2.1 bt419.2.2 (shl .i64 1 (ji3))).bind fun bt422 => (some (Go.bits .and .i64 bt416.1 bt419.1, bt422.1, bt422.2.1, bt422.2.2))))) else (none)) = some (r1, r2, r3, r4) := by first | (rw [hji3] at H; exact H) | (simp only [hji3] at H ⊢; exact H)
 by_cases c4 : 0 ≤ (ji3)
 ·
  rw [if_pos c4] at H; have c4b0 := eq_true c4; have c4b1 : decide (0 ≤ (ji3)) = true := decide_eq_true c4; clear c4; obtain ⟨ji5, hji5⟩ : ∃ j_ : Int, (shl .i64 1 (ji3)) = j_ := ⟨_, rfl⟩
  replace H : ((spec_l1Below.f s0_0 s0_1 s0_2 (ji5)).bind fun bt416 => ((spec_l1Below.f s0_0 bt416.2.1 bt416.2.2 (ji5)).bind fun bt419 => ((spec_l1Below.f s0_0 bt419.2.1 bt419.2.2 (ji5)).bind fun bt422 => (some (Go.bits .and .i64 bt416.1 bt419.1, bt422.1, bt422.2.1, bt422.2.2))))) = some (r1, r2, r3, r4) := by first | (rw [hji5] at H; exact H) | (simp only [hji5] at H ⊢; exact H)
  have hji5_ : (IntKind.i64.wrap (1 * 2 ^ min (ji3).toNat 64)) = ji5 := hji5; have hji5z : (ji3) ≤ 64 → (IntKind.i64.wrap (1 * 2 ^ (ji3).toNat)) = ji5 := shl_small hji5
  have hji5u : (IntKind.i64.wrap (2 ^ min (ji3).toNat 64)) = ji5 := by have h_ := hji5_; rw [Int.one_mul] at h_; exact h_
  have hji5v : (ji3) ≤ 64 → (IntKind.i64.wrap (2 ^ (ji3).toNat)) = ji5 := fun hle_ => by have h_ := hji5z hle_; rw [Int.one_mul] at h_; exact h_
  have hji5y : (wrap64 (1 * 2 ^ min (ji3).toNat 64)) = ji5 := (i64_w _).symm.trans hji5_
  have hji5x : (ji3) ≤ 64 → (wrap64 (1 * 2 ^ (ji3).toNat)) = ji5 := fun h_ => (i64_w _).symm.trans (hji5z h_)
  obtain ⟨⟨t416, t417, t418⟩, A6, H⟩ := bnd8_ H; dsimp only at H
  have c7b0 := eq_true (of_decide_eq_true (by first | (with_reducible assumption) | assumption) : 0 ≤ (ji3))
  obtain ⟨⟨t419, t420, t421⟩, A8, H⟩ := bnd8_ H; dsimp only at H
  have c9b0 := eq_true (of_decide_eq_true (by first | (with_reducible assumption) | assumption) : 0 ≤ (ji3))
  obtain ⟨⟨t422, t423, t424⟩, A10, H⟩ := bnd8_ H; dsimp only at H
  simp only [Option.some.injEq, Prod.mk.injEq] at H
  obtain ⟨rfl, rfl, rfl, rfl⟩ := H
  go_enter Tryz.func172, Tryz.ntmps172
  go_wp2_with (first | ((with_reducible refine gate_dst (N := 4) rfl ?_); refine box_event ?hg (N := 4) ?hd (cs := #[.int .i64 0, .int .i64 0]) (t := 48) ?hr ?_; (case hd => rfl); (case hg => rfl); (case hr => first | (go_simp; done) | (go_simp; rfl)); intro gb415 hg w11 hbox hb; have n_ := ac_ (IsS152.below s5_ hb) <| ac_ (KeepBut.trans s6_ (KeepBut.of_below hb g none) (.inl rfl)) <| ac_ (below_step (by repeat (first | (with_reducible first | exact HB.out | apply below_alloc | apply pw_below_drewN | apply below_drew1 | refine below_set ?_ (IsS152.ge HI0.out)) | exact HB.out)) hb) <| ac_ (hbox) <| ac_ ((by rw [hg]; exact (keep_size (w := w) (g := g) (row := none) s6_) : w.heap.size ≤ gb415)) <| ac_ ((Nat.le_trans HW0.out (by rw [hg]; exact (keep_size (w := w) (g := g) (row := none) s6_) : w.heap.size ≤ gb415) : w0.heap.size ≤ gb415)) <| ac_ ((by rw [hg]; exact Nat.ne_of_lt (IsS152.lt (show IsS152 w0 _ g s0_0 s0_1 s0_2 from s5_)) : g ≠ gb415)) <| Aside0.mk ((by rw [hg]; exact Nat.ne_of_gt (IsS152.lt (show IsS152 w0 _ g s0_0 s0_1 s0_2 from s5_)) : gb415 ≠ g)); clear HI0 HK HB; obtain ⟨HI0, HK, HB, BK415, GW415, GE415, NB0_415, NB415_0⟩ := n_; clear hb hbox hg) | (refine gL_ 146 10 Tryz.func146 #[.pointer (some ⟨g, 0, none⟩), .int .i64 ji5] ?_; (with_reducible refine (spec_l1Below.calls g s0_0 s0_1 s0_2 ji5 t416 t417 t418 w0 _ ?side1 ?side2 A6.out).mono ?_); (case side1 => exact q8_5); (case side2 => exact q8_6); rintro e w12 ⟨rfl, hi, hb, hk⟩; refine ⟨_, rfl, ?_⟩; have n_ := ac_ (KeepBut.blk hk (g' := gb415) (o := .cells #[.int .i64 0, .int .i64 0] 48 (0, 0)) q8_11 NB415_0.out (by simp)) <| ac_ (KeepBut.trans q8_7 hk (.inl rfl)) <| ac_ (hb) <| Aside0.mk (hi); clear BK415 HK HB HI0; obtain ⟨BK415, HK, HB, HI0⟩ := n_; (try clear hb hk hi)) | (refine gL_ 146 15 Tryz.func146 #[.pointer (some ⟨g, 0, none⟩), .int .i64 ji5] ?_; (with_reducible refine (spec_l1Below.calls g s0_0 t417 t418 ji5 t419 t420 t421 w0 _ ?side1 ?side2 A8.out).mono ?_); (case side1 => exact q8_5); (case side2 => exact q8_6); rintro e w13 ⟨rfl, hi, hb, hk⟩; refine ⟨_, rfl, ?_⟩; have n_ := ac_ (KeepBut.blk hk (g' := gb415) (o := .cells #[.int .i64 0, .int .i64 0] 48 (0, 0)) q8_11 NB415_0.out (by simp)) <| ac_ (KeepBut.trans q8_7 hk (.inl rfl)) <| ac_ (hb) <| Aside0.mk (hi); clear BK415 HK HB HI0; obtain ⟨BK415, HK, HB, HI0⟩ := n_; (try clear hb hk hi)) | (refine gL_ 146 22 Tryz.func146 #[.pointer (some ⟨g, 0, none⟩), .int .i64 ji5] ?_; (with_reducible refine (spec_l1Below.calls g s0_0 t420 t421 ji5 t422 t423 t424 w0 _ ?side1 ?side2 A10.out).mono ?_); (case side1 => exact q8_5); (case side2 => exact q8_6); rintro e w14 ⟨rfl, hi, hb, hk⟩; refine ⟨_, rfl, ?_⟩; have n_ := ac_ (KeepBut.blk hk (g' := gb415) (o := .cells #[.int .i64 0, .int .i64 0] 48 (0, 0)) q8_11 NB415_0.out (by simp)) <| ac_ (KeepBut.trans q8_7 hk (.inl rfl)) <| ac_ (hb) <| Aside0.mk (hi); clear BK415 HK HB HI0; obtain ⟨BK415, HK, HB, HI0⟩ := n_; (try clear hb hk hi); have hnb15 := NB415_0.out; have hnc15 := NB0_415.out; have hcz16_0 : w14.cell? ⟨gb415, 0, none⟩ = some (.int .i64 0) := (blk_cell BK415.out 0).trans rfl; have hcz16_1 : w14.cell? ⟨gb415, 1, none⟩ = some (.int .i64 0) := (blk_cell BK415.out 1).trans rfl; have hfz16_0 := blk_frozen BK415.out 0; have hfz16_1 := blk_frozen BK415.out 1))
  refine bodyPost_ret (results_cell_row rfl _ _ gb415 48 #[.int .i64 (Go.bits .and .i64 t416 t419), .int .i64 t422] (0, 0) _ rfl (by (with_reducible repeat (first | refine blk_drewN ?_ _ | refine blk_drew ?_ | refine blk_alloc ?_ _)); refine blk_put (cs := #[.int .i64 (Go.bits .and .i64 t416 t419), .int .i64 0]) ?_ 1 _ rfl; (with_reducible repeat (first | refine blk_drewN ?_ _ | refine blk_drew ?_ | refine blk_alloc ?_ _)); refine blk_put (cs := #[.int .i64 0, .int .i64 0]) ?_ 0 _ rfl; (with_reducible repeat (first | refine blk_drewN ?_ _ | refine blk_drew ?_ | refine blk_alloc ?_ _)); exact BK415.out) Tryz.underlying48 rfl (by kernel_rfl)) rfl ?_
  exact ⟨(by first | rfl | (simp [errW_none, errW_some] <;> rfl) | (simp only [← hji3, ← hji5]; first | rfl | (simp [errW_none, errW_some] <;> rfl)) | (simp [*, errW_none, errW_some] <;> rfl)), q8_5, q8_6, q8_7⟩
 ·
  rw [if_neg c4] at H
  exact absurd H (by simp)
theorem q8_12 {P : Prop} (h : P := by repeat (first | (with_reducible first | exact HB.out | apply below_alloc | apply pw_below_drewN | apply below_drew1 | refine below_set ?_ GE485.out) | exact HB.out)) : P := h
def impl_areAnyRules_1.f (a0_0 : Int) (a0_1 : Int) : Option (Bool) := (impl_isAnySet.f a0_0).bind fun t486 => (if t486 = true then ((impl_isAnySet.f a0_1).bind fun t487 => (some (!t487))) else (some true))
set_option maxHeartbeats 8000000 in
set_option maxRecDepth 100000 in
theorem impl_areAnyRules_1.calls (a0_0 : Int) (a0_1 : Int) (r : Bool) (w : World) (h : impl_areAnyRules_1.f a0_0 a0_1 = some r) :
  Calls Tryz.prog 218 #[.agg #[.int .i64 a0_0, .int .i64 a0_1]] w fun e w' => e = .returned (.bool r) ∧ Below w.heap.size w w' := by
 have hu48 := Tryz.underlying48; have HB := Aside0.mk (Below.refl w.heap.size w); have H := h; clear h; unfold impl_areAnyRules_1.f at H; obtain ⟨t486, A2, H⟩ := bnd8_ H
 by_cases c3 : t486 = true
 ·
  subst c3; rw [if_pos rfl] at H; obtain ⟨t487, A4, H⟩ := bnd8_ H; obtain rfl := Option.some.inj H
  go_enter Tryz.func218, Tryz.ntmps218
  go_wp2_with (first | ((with_reducible refine gate_dst (N := 1) rfl ?_); refine box_event ?hg (N := 1) ?hd (cs := #[.int .i64 a0_0, .int .i64 a0_1]) (t := 48) ?hr ?_; (case hd => rfl); (case hg => rfl); (case hr => first | (go_simp; done) | (go_simp; rfl)); intro gb485 hg w5 hbox hb; have n_ := ac_ (below_step s1_ hb) <| ac_ (hbox) <| ac_ ((by rw [hg]; exact (below_size s1_) : w.heap.size ≤ gb485)) <| Aside0.mk ((by rw [hg]; exact (below_size s1_) : w.heap.size ≤ gb485)); clear HB; obtain ⟨HB, BK485, GW485, GE485⟩ := n_; clear hb hbox hg; have hcz6_0 : w5.cell? ⟨gb485, 0, none⟩ = some (.int .i64 a0_0) := (blk_cell BK485.out 0).trans rfl; have hcz6_1 : w5.cell? ⟨gb485, 1, none⟩ = some (.int .i64 a0_1) := (blk_cell BK485.out 1).trans rfl; have hfz6_0 := blk_frozen BK485.out 0; have hfz6_1 := blk_frozen BK485.out 1) | (refine gL_ 177 5 Tryz.func177 #[.int .i64 a0_0] ?_; (with_reducible refine (impl_isAnySet.calls a0_0 true _ A2.out).mono ?_); rintro e w' ⟨rfl, ⟨nd, rfl⟩⟩; refine ⟨_, rfl, ?_⟩) | (go_at_call 177; (with_reducible refine (impl_isAnySet.calls a0_1 t487 _ A4.out).mono ?_); rintro e w' ⟨rfl, ⟨nd, rfl⟩⟩))
  go_ret
  exact ⟨(by first | rfl | (simp [errW_none, errW_some] <;> rfl) | (simp [*, errW_none, errW_some] <;> rfl)), q8_12⟩
 ·
  replace c3 := Bool.eq_false_iff.mpr c3; subst c3
  rw [if_neg (show ¬ (false = true) by decide)] at H
  obtain rfl := Option.some.inj H
  go_enter Tryz.func218, Tryz.ntmps218
  go_wp2_with (first | ((with_reducible refine gate_dst (N := 1) rfl ?_); refine box_event ?hg (N := 1) ?hd (cs := #[.int .i64 a0_0, .int .i64 a0_1]) (t := 48) ?hr ?_; (case hd => rfl); (case hg => rfl); (case hr => first | (go_simp; done) | (go_simp; rfl)); intro gb485 hg w7 hbox hb; have n_ := ac_ (below_step s1_ hb) <| ac_ (hbox) <| ac_ ((by rw [hg]; exact (below_size s1_) : w.heap.size ≤ gb485)) <| Aside0.mk ((by rw [hg]; exact (below_size s1_) : w.heap.size ≤ gb485)); clear HB; obtain ⟨HB, BK485, GW485, GE485⟩ := n_; clear hb hbox hg; have hcz8_0 : w7.cell? ⟨gb485, 0, none⟩ = some (.int .i64 a0_0) := (blk_cell BK485.out 0).trans rfl; have hcz8_1 : w7.cell? ⟨gb485, 1, none⟩ = some (.int .i64 a0_1) := (blk_cell BK485.out 1).trans rfl; have hfz8_0 := blk_frozen BK485.out 0; have hfz8_1 := blk_frozen BK485.out 1) | (refine gL_ 177 5 Tryz.func177 #[.int .i64 a0_0] ?_; (with_reducible refine (impl_isAnySet.calls a0_0 false _ A2.out).mono ?_); rintro e w' ⟨rfl, ⟨nd, rfl⟩⟩; refine ⟨_, rfl, ?_⟩))
  go_ret
  exact ⟨(by first | rfl | (simp [errW_none, errW_some] <;> rfl) | (simp [*, errW_none, errW_some] <;> rfl)), q8_12⟩
def spec_AreRules.l0 : Nat → Int → List (S48) → Int → Option (Bool)
 | 0, _, _, _ => none
 | k + 1, x0, x1, x5 => if x5 < (x1.length : Int) then (if 0 ≤ x5 then ((spec_l9Rule.f x0 ((rd_T48 x1 x5).f0) ((rd_T48 x1 x5).f1)).bind fun t533 => (if t533 = true then (spec_AreRules.l0 k x0 x1 (wrap64 (x5 + 1))) else (some false))) else (none)) else ((spec_l1In.f x0 0 6).bind fun t534 => (if t534 = true then (some (decide ((x1.length : Int) ≤ 40))) else (some false)))
def spec_AreRules.f (k : Nat) (a0 : Int) (l1 : List (S48)) : Option (Bool) := spec_AreRules.l0 k a0 l1 0
set_option maxHeartbeats 8000000 in
set_option maxRecDepth 100000 in
theorem spec_AreRules.calls (k : Nat) (a0 : Int) (A1 : Option Addr) (c1 : Nat) (l1 : List (S48)) (r : Bool) (w : World) (hr1 : Kd.C k48 w A1 l1.length l1) (hc1 : l1.length ≤ c1) (h : spec_AreRules.f k a0 l1 = some r) :
  Calls Tryz.prog 82 #[.int .i64 a0, .slice A1 l1.length c1] w fun e w' => e = .returned (.bool r) ∧ Below w.heap.size w w' := by
 have hu48 := Tryz.underlying48; have HR1 := Aside0.mk hr1; have HC1 := Aside0.mk hc1; clear hr1 hc1; have HB := Aside0.mk (Below.refl w.heap.size w); have H := h; clear h; unfold spec_AreRules.f at H; have H' := Aside0.mk H; clear H
 go_enter Tryz.func82, Tryz.ntmps82
 go_wp2
 go_loopg [5] k (fun kq v5 w' => ∃ (x5_1 : Int), v5 = .int .i64 x5_1 ∧ Aside0 (spec_AreRules.l0 kq a0 l1 x5_1 = some r) ∧ Aside0 (kq ≤ k) ∧ Aside0 (Below w.heap.size w w'))
 case atStart => exact ⟨(0), (by first | rfl | (simp; done) | (simp [*]; done) | (simp [i64_w, i32_w]; done)), H', ⟨Nat.le_refl _⟩, ⟨s1_⟩⟩
 case round =>
  clear H'
  try clear c1
  try clear p2
  obtain ⟨x5_1, rfl, HA, HK1, HB⟩ := hrel
  cases gk with
  | zero => exact absurd HA.out (by simp [spec_AreRules.l0])
  | succ k1 =>
   have H := HA.out; clear HA
   simp only [spec_AreRules.l0] at H
   by_cases c3 : x5_1 < (l1.length : Int)
   ·
    rw [if_pos c3] at H; have c3b0 : decide (x5_1 < (l1.length : Int)) = true := decide_eq_true c3; clear c3
    by_cases c4 : 0 ≤ x5_1
    ·
     rw [if_pos c4] at H; have c4b0 : decide (0 ≤ x5_1) = true := decide_eq_true c4; clear c4; obtain ⟨t533, A5, H⟩ := bnd8_ H
     by_cases c6 : t533 = true
     ·
      subst c6; rw [if_pos rfl] at H; have H' := Aside0.mk H; clear H; have p532 : 0 ≤ (x5_1 : Int) := of_decide_eq_true s3_; have q532 : x5_1 < (l1.length : Int) := of_decide_eq_true s3_; obtain ⟨ad532, e532, hx532_0, hx532_1⟩ := at_T48 HR1.out x5_1 p532 q532
      cases e532
      replace hx532_0 := (HB.out.cell (World.block_lt_of_cell? w _ hx532_0)).trans hx532_0; replace hx532_1 := (HB.out.cell (World.block_lt_of_cell? w _ hx532_1)).trans hx532_1; replace p532 := eq_true p532; replace q532 := eq_true q532
      go_wp2_with (first | (refine gL_ 157 17 Tryz.func157 #[.int .i64 a0, .agg #[.int .i64 ((rd_T48 l1 x5_1).f0), .int .i64 ((rd_T48 l1 x5_1).f1)]] ?_; (with_reducible refine (spec_l9Rule.calls a0 ((rd_T48 l1 x5_1).f0) ((rd_T48 l1 x5_1).f1) true _ A5.out).mono ?_); rintro e w7 ⟨rfl, hb⟩; refine ⟨_, rfl, ?_⟩; have n_ := Aside0.mk (below_step s1_ hb); clear HB; have HB := n_; clear n_; (try clear hb)))
      go_roundg k1
      case measure => have := HK1.out; omega
      case rel => exact ⟨(wrap64 (x5_1 + 1)), (by first | rfl | (simp; done) | (simp [*]; done) | (simp [i64_w, i32_w]; done)), H', ⟨by have := HK1.out; omega⟩, ⟨s1_⟩⟩
     ·
      replace c6 := Bool.eq_false_iff.mpr c6; subst c6
      rw [if_neg (show ¬ (false = true) by decide)] at H
      obtain rfl := Option.some.inj H; have p532 : 0 ≤ (x5_1 : Int) := of_decide_eq_true s3_; have q532 : x5_1 < (l1.length : Int) := of_decide_eq_true s3_; obtain ⟨ad532, e532, hx532_0, hx532_1⟩ := at_T48 HR1.out x5_1 p532 q532
      cases e532
      replace hx532_0 := (HB.out.cell (World.block_lt_of_cell? w _ hx532_0)).trans hx532_0; replace hx532_1 := (HB.out.cell (World.block_lt_of_cell? w _ hx532_1)).trans hx532_1; replace p532 := eq_true p532; replace q532 := eq_true q532
      go_wp2_with (first | (refine gL_ 157 17 Tryz.func157 #[.int .i64 a0, .agg #[.int .i64 ((rd_T48 l1 x5_1).f0), .int .i64 ((rd_T48 l1 x5_1).f1)]] ?_; (with_reducible refine (spec_l9Rule.calls a0 ((rd_T48 l1 x5_1).f0) ((rd_T48 l1 x5_1).f1) false _ A5.out).mono ?_); rintro e w8 ⟨rfl, hb⟩; refine ⟨_, rfl, ?_⟩; have n_ := Aside0.mk (below_step s1_ hb); clear HB; have HB := n_; clear n_; (try clear hb)))
      go_ret
      exact ⟨s8_, s1_⟩
    ·
     rw [if_neg c4] at H
     exact absurd H (by simp)
   ·
    rw [if_neg c3] at H; have c3b0 : decide (x5_1 < (l1.length : Int)) = false := decide_eq_false c3; clear c3; obtain ⟨t534, A9, H⟩ := bnd8_ H
    by_cases c10 : t534 = true
    ·
     subst c10; rw [if_pos rfl] at H; obtain rfl := Option.some.inj H
     go_wp2_with (first | (refine gL_ 132 20 Tryz.func132 #[.int .i64 a0, .int .i64 0, .int .i64 6] ?_; (with_reducible refine (spec_l1In.calls a0 0 6 true _ A9.out).mono ?_); rintro e w' ⟨rfl, ⟨nd, rfl⟩⟩; refine ⟨_, rfl, ?_⟩))
     go_ret
     exact ⟨s8_, s1_⟩
    ·
     replace c10 := Bool.eq_false_iff.mpr c10; subst c10
     rw [if_neg (show ¬ (false = true) by decide)] at H
     obtain rfl := Option.some.inj H
     go_wp2_with (first | (refine gL_ 132 20 Tryz.func132 #[.int .i64 a0, .int .i64 0, .int .i64 6] ?_; (with_reducible refine (spec_l1In.calls a0 0 6 false _ A9.out).mono ?_); rintro e w' ⟨rfl, ⟨nd, rfl⟩⟩; refine ⟨_, rfl, ?_⟩))
     go_ret
     exact ⟨s8_, s1_⟩
theorem q8_20 {P : Prop} (h : P := by repeat (first | (with_reducible first | exact HB.out | apply below_alloc | apply pw_below_drewN | apply below_drew1 | refine below_set ?_ GE588.out) | exact HB.out)) : P := h
theorem q8_23 {P : Prop} (h : P := by (with_reducible repeat (first | refine blk_drewN ?_ _ | refine blk_drew ?_ | refine blk_alloc ?_ _)); exact BK588.out) : P := h
def spec_ClosureOf.f (k : Nat) (a0_0 : Int) (l0_1 : List Int) (a1 : Int) : Option (Int) := (spec_IsContext.f k a0_0 l0_1).bind fun t589 => (if t589 = true then ((spec_IsSet.f a0_0 a1).bind fun t590 => (if t590 = true then ((spec_l4Closure.f k a0_0 l0_1 a1).bind fun t591 => (some t591)) else (some 0))) else (some 0))
set_option maxHeartbeats 8000000 in
set_option maxRecDepth 100000 in
theorem spec_ClosureOf.calls (k : Nat) (a0_0 : Int) (A0_1 : Option Addr) (c0_1 : Nat) (l0_1 : List Int) (a1 : Int) (r : Int) (w : World) (hr0_1 : Kd.C (Kd.int .i64) w A0_1 l0_1.length l0_1) (hc0_1 : l0_1.length ≤ c0_1) (h : spec_ClosureOf.f k a0_0 l0_1 a1 = some r) :
  Calls Tryz.prog 64 #[.agg #[.int .i64 a0_0, .slice A0_1 l0_1.length c0_1], .int .i64 a1] w fun e w' => e = .returned (.int .i64 r) ∧ Below w.heap.size w w' := by
 have hu29 := Tryz.underlying29; have HR0_1 := Aside0.mk hr0_1; have HC0_1 := Aside0.mk hc0_1; clear hr0_1 hc0_1; have HB := Aside0.mk (Below.refl w.heap.size w); have H := h; clear h; unfold spec_ClosureOf.f at H; obtain ⟨t589, A3, H⟩ := bnd8_ H
 by_cases c4 : t589 = true
 ·
  subst c4; rw [if_pos rfl] at H; obtain ⟨t590, A5, H⟩ := bnd8_ H
  by_cases c6 : t590 = true
  ·
   subst c6; rw [if_pos rfl] at H; obtain ⟨t591, A7, H⟩ := bnd8_ H; obtain rfl := Option.some.inj H
   go_enter Tryz.func64, Tryz.ntmps64
   go_wp2_with (first | ((with_reducible refine gate_dst (N := 2) rfl ?_); refine box_event ?hg (N := 2) ?hd (cs := #[.int .i64 a0_0, .slice A0_1 l0_1.length c0_1]) (t := 29) ?hr ?_; (case hd => rfl); (case hg => rfl); (case hr => first | (go_simp; done) | (go_simp; rfl)); intro gb588 hg w8 hbox hb; have n_ := ac_ (below_step s1_ hb) <| ac_ (hbox) <| ac_ ((by rw [hg]; exact (below_size s1_) : w.heap.size ≤ gb588)) <| Aside0.mk ((by rw [hg]; exact (below_size s1_) : w.heap.size ≤ gb588)); clear HB; obtain ⟨HB, BK588, GW588, GE588⟩ := n_; clear hb hbox hg; have hcz9_0 : w8.cell? ⟨gb588, 0, none⟩ = some (.int .i64 a0_0) := (blk_cell BK588.out 0).trans rfl; have hcz9_1 : w8.cell? ⟨gb588, 1, none⟩ = some (.slice A0_1 l0_1.length c0_1) := (blk_cell BK588.out 1).trans rfl; have hfz9_0 := blk_frozen BK588.out 0; have hfz9_1 := blk_frozen BK588.out 1) | (refine gL_ 61 6 Tryz.func61 #[.agg #[.int .i64 a0_0, .slice A0_1 l0_1.length c0_1]] ?_; (with_reducible refine (spec_IsContext.calls k a0_0 _ _ l0_1 true _ ?side1 ?side2 A3.out).mono ?_); (case side1 => exact s4_); (case side2 => exact HC0_1.out); rintro e w10 ⟨rfl, hb⟩; refine ⟨_, rfl, ?_⟩; have n_ := ac_ (blk_below (g := gb588) (o := .cells #[.int .i64 a0_0, .slice A0_1 l0_1.length c0_1] 29 (0, 0)) q8_23 hb) <| Aside0.mk (below_step q8_20 hb); clear BK588 HB; obtain ⟨BK588, HB⟩ := n_; (try clear hb); have hcz11_0 : w10.cell? ⟨gb588, 0, none⟩ = some (.int .i64 a0_0) := (blk_cell BK588.out 0).trans rfl; have hcz11_1 : w10.cell? ⟨gb588, 1, none⟩ = some (.slice A0_1 l0_1.length c0_1) := (blk_cell BK588.out 1).trans rfl; have hfz11_0 := blk_frozen BK588.out 0; have hfz11_1 := blk_frozen BK588.out 1) | (go_at_call 86; (with_reducible refine (spec_IsSet.calls a0_0 a1 true _ A5.out).mono ?_); rintro e w' ⟨rfl, ⟨nd, rfl⟩⟩) | (refine gL_ 135 17 Tryz.func135 #[.agg #[.int .i64 a0_0, .slice A0_1 l0_1.length c0_1], .int .i64 a1] ?_; (with_reducible refine (spec_l4Closure.calls k a0_0 _ _ l0_1 a1 t591 _ ?side1 ?side2 A7.out).mono ?_); (case side1 => repeat (first | exact (Kd.C_below HR0_1.out q8_20) | (with_reducible refine Kd.C_alloc ?_ _) | (with_reducible refine Kd.C_drewN ?_ _) | (with_reducible refine Kd.C_drew ?_))); (case side2 => exact HC0_1.out); rintro e w12 ⟨rfl, hb⟩; refine ⟨_, rfl, ?_⟩; have n_ := ac_ (blk_below (g := gb588) (o := .cells #[.int .i64 a0_0, .slice A0_1 l0_1.length c0_1] 29 (0, 0)) q8_23 hb) <| Aside0.mk (below_step q8_20 hb); clear BK588 HB; obtain ⟨BK588, HB⟩ := n_; (try clear hb)))
   go_ret
   exact ⟨s8_, q8_20⟩
  ·
   replace c6 := Bool.eq_false_iff.mpr c6; subst c6
   rw [if_neg (show ¬ (false = true) by decide)] at H
   obtain rfl := Option.some.inj H
   go_enter Tryz.func64, Tryz.ntmps64
   go_wp2_with (first | ((with_reducible refine gate_dst (N := 2) rfl ?_); refine box_event ?hg (N := 2) ?hd (cs := #[.int .i64 a0_0, .slice A0_1 l0_1.length c0_1]) (t := 29) ?hr ?_; (case hd => rfl); (case hg => rfl); (case hr => first | (go_simp; done) | (go_simp; rfl)); intro gb588 hg w13 hbox hb; have n_ := ac_ (below_step s1_ hb) <| ac_ (hbox) <| ac_ ((by rw [hg]; exact (below_size s1_) : w.heap.size ≤ gb588)) <| Aside0.mk ((by rw [hg]; exact (below_size s1_) : w.heap.size ≤ gb588)); clear HB; obtain ⟨HB, BK588, GW588, GE588⟩ := n_; clear hb hbox hg; have hcz14_0 : w13.cell? ⟨gb588, 0, none⟩ = some (.int .i64 a0_0) := (blk_cell BK588.out 0).trans rfl; have hcz14_1 : w13.cell? ⟨gb588, 1, none⟩ = some (.slice A0_1 l0_1.length c0_1) := (blk_cell BK588.out 1).trans rfl; have hfz14_0 := blk_frozen BK588.out 0; have hfz14_1 := blk_frozen BK588.out 1) | (refine gL_ 61 6 Tryz.func61 #[.agg #[.int .i64 a0_0, .slice A0_1 l0_1.length c0_1]] ?_; (with_reducible refine (spec_IsContext.calls k a0_0 _ _ l0_1 true _ ?side1 ?side2 A3.out).mono ?_); (case side1 => exact s4_); (case side2 => exact HC0_1.out); rintro e w15 ⟨rfl, hb⟩; refine ⟨_, rfl, ?_⟩; have n_ := ac_ (blk_below (g := gb588) (o := .cells #[.int .i64 a0_0, .slice A0_1 l0_1.length c0_1] 29 (0, 0)) q8_23 hb) <| Aside0.mk (below_step q8_20 hb); clear BK588 HB; obtain ⟨BK588, HB⟩ := n_; (try clear hb); have hcz16_0 : w15.cell? ⟨gb588, 0, none⟩ = some (.int .i64 a0_0) := (blk_cell BK588.out 0).trans rfl; have hcz16_1 : w15.cell? ⟨gb588, 1, none⟩ = some (.slice A0_1 l0_1.length c0_1) := (blk_cell BK588.out 1).trans rfl; have hfz16_0 := blk_frozen BK588.out 0; have hfz16_1 := blk_frozen BK588.out 1) | (go_at_call 86; (with_reducible refine (spec_IsSet.calls a0_0 a1 false _ A5.out).mono ?_); rintro e w' ⟨rfl, ⟨nd, rfl⟩⟩))
   go_ret
   exact ⟨s8_, q8_20⟩
 ·
  replace c4 := Bool.eq_false_iff.mpr c4; subst c4
  rw [if_neg (show ¬ (false = true) by decide)] at H
  obtain rfl := Option.some.inj H
  go_enter Tryz.func64, Tryz.ntmps64
  go_wp2_with (first | ((with_reducible refine gate_dst (N := 2) rfl ?_); refine box_event ?hg (N := 2) ?hd (cs := #[.int .i64 a0_0, .slice A0_1 l0_1.length c0_1]) (t := 29) ?hr ?_; (case hd => rfl); (case hg => rfl); (case hr => first | (go_simp; done) | (go_simp; rfl)); intro gb588 hg w17 hbox hb; have n_ := ac_ (below_step s1_ hb) <| ac_ (hbox) <| ac_ ((by rw [hg]; exact (below_size s1_) : w.heap.size ≤ gb588)) <| Aside0.mk ((by rw [hg]; exact (below_size s1_) : w.heap.size ≤ gb588)); clear HB; obtain ⟨HB, BK588, GW588, GE588⟩ := n_; clear hb hbox hg; have hcz18_0 : w17.cell? ⟨gb588, 0, none⟩ = some (.int .i64 a0_0) := (blk_cell BK588.out 0).trans rfl; have hcz18_1 : w17.cell? ⟨gb588, 1, none⟩ = some (.slice A0_1 l0_1.length c0_1) := (blk_cell BK588.out 1).trans rfl; have hfz18_0 := blk_frozen BK588.out 0; have hfz18_1 := blk_frozen BK588.out 1) | (refine gL_ 61 6 Tryz.func61 #[.agg #[.int .i64 a0_0, .slice A0_1 l0_1.length c0_1]] ?_; (with_reducible refine (spec_IsContext.calls k a0_0 _ _ l0_1 false _ ?side1 ?side2 A3.out).mono ?_); (case side1 => exact s4_); (case side2 => exact HC0_1.out); rintro e w19 ⟨rfl, hb⟩; refine ⟨_, rfl, ?_⟩; have n_ := ac_ (blk_below (g := gb588) (o := .cells #[.int .i64 a0_0, .slice A0_1 l0_1.length c0_1] 29 (0, 0)) q8_23 hb) <| Aside0.mk (below_step q8_20 hb); clear BK588 HB; obtain ⟨BK588, HB⟩ := n_; (try clear hb)))
  go_ret
  exact ⟨s8_, q8_20⟩
end Go.Proofs.YtafnamchckehmaaGreatDoor.Pr
namespace Go.Proofs.YtafnamchckehmaaGreatDoor.Pr
open Go.RowKit Go.Proofs.YtafnamchckehmaaGreatDoorW.PrintWords Go.Proofs.YtafnamchckehmaaGreatDoorW.PrintLast Go.Proofs.YtafnamchckehmaaGreatDoorW.PrintMore
attribute [local go_sem] max2_int min2_int max_two min_two max_three min_three max_four min_four
set_option linter.unusedVariables false
set_option linter.unusedSimpArgs false
theorem bnd9_ {α β : Type} {o : Option α} {f : α → Option β} {r : β} (h : o.bind f = some r) : ∃ a, Aside0 (o = some a) ∧ f a = some r := by
 obtain ⟨a, h1, h2⟩ := Option.bind_eq_some_iff.mp h
 exact ⟨a, ⟨h1⟩, h2⟩
theorem q9_1 {P : Prop} (h : P := by repeat (first | (with_reducible first | exact HB.out | apply below_alloc | apply pw_below_drewN | apply below_drew1 | refine below_set ?_ (IsS152.ge HI659.out) | refine below_set ?_ GE655.out) | exact HB.out)) : P := h
theorem q9_4 {P : Prop} (h : P := by (with_reducible repeat (first | refine blk_drewN ?_ _ | refine blk_drew ?_ | refine blk_alloc ?_ _)); exact BK655.out) : P := h
def spec_DrawDirectBase.f (k : Nat) (l0 : List Int) : Option (Int × List Int) := (spec_l1New.f k l0).bind fun bt656 => ((spec_l3Bent.f k bt656.1 bt656.2.1 bt656.2.2).bind fun bt660 => (some (bt660.1, bt660.2.1)))
set_option maxHeartbeats 8000000 in
set_option maxRecDepth 100000 in
theorem spec_DrawDirectBase.calls (k : Nat) (A0 : Option Addr) (c0 : Nat) (l0 : List Int) (r1 : Int) (r2 : List Int) (w : World) (hr0 : Kd.C (Kd.int .u8) w A0 l0.length l0) (hc0 : l0.length ≤ c0) (h : spec_DrawDirectBase.f k l0 = some (r1, r2)) :
  Calls Tryz.prog 109 #[.slice A0 l0.length c0] w fun e w' => ∃ v1_ : Value, e = .returned (.agg #[.int .i64 r1, v1_]) ∧ Kd.R (Kd.int .i64) 3 w' w.heap.size (fun _ => True) v1_ r2 ∧ Below w.heap.size w w' := by
 have hu29 := Tryz.underlying29; have HR0 := Aside0.mk hr0; have HC0 := Aside0.mk hc0; clear hr0 hc0; have HB := Aside0.mk (Below.refl w.heap.size w); have H := h; clear h; unfold spec_DrawDirectBase.f at H; obtain ⟨⟨t656, t657, t658⟩, A2, H⟩ := bnd9_ H; dsimp only at H; obtain ⟨⟨t660, t661, t664, t665⟩, A3, H⟩ := bnd9_ H; dsimp only at H
 simp only [Option.some.injEq, Prod.mk.injEq] at H
 obtain ⟨rfl, rfl⟩ := H
 go_enter Tryz.func109, Tryz.ntmps109
 go_wp2_with (first | ((with_reducible refine gate_dst (N := 2) rfl ?_); refine box_event ?hg (N := 2) ?hd (cs := #[.int .i64 0, .slice none 0 0]) (t := 29) ?hr ?_; (case hd => rfl); (case hg => rfl); (case hr => first | (go_simp; done) | (go_simp; rfl)); intro gb655 hg w4 hbox hb; have n_ := ac_ (below_step s1_ hb) <| ac_ (hbox) <| ac_ ((by rw [hg]; exact (below_size s1_) : w.heap.size ≤ gb655)) <| Aside0.mk ((by rw [hg]; exact (below_size s1_) : w.heap.size ≤ gb655)); clear HB; obtain ⟨HB, BK655, GW655, GE655⟩ := n_; clear hb hbox hg) | (refine gL_ 144 4 Tryz.func144 #[.slice A0 l0.length c0] ?_; (with_reducible refine (spec_l1New.calls k _ _ l0 t656 t657 t658 w _ ?side1 ?side2 ?side3 A2.out).mono ?_); (case side1 => repeat (first | (with_reducible first | exact HB.out | apply below_alloc | apply pw_below_drewN | apply below_drew1 | refine below_set ?_ GE655.out) | exact HB.out)); (case side2 => exact HR0.out); (case side3 => exact HC0.out); rintro e w5 ⟨g659, rfl, hi, hb, hb2⟩; refine ⟨_, rfl, ?_⟩; have n_ := ac_ (blk_below (g := gb655) (o := .cells #[.int .i64 0, .slice none 0 0] 29 (0, 0)) q9_4 hb2) <| ac_ (hb) <| ac_ (hi) <| ac_ (IsS152.ne_blk hi (blk_below (g := gb655) (o := .cells #[.int .i64 0, .slice none 0 0] 29 (0, 0)) q9_4 hb2) (by decide)) <| Aside0.mk (Ne.symm (IsS152.ne_blk hi (blk_below (g := gb655) (o := .cells #[.int .i64 0, .slice none 0 0] 29 (0, 0)) q9_4 hb2) (by decide))); clear BK655 HB; obtain ⟨BK655, HB, HI659, NB659_655, NB655_659⟩ := n_; (try clear hb hb2 hi)) | (refine gL_ 161 5 Tryz.func161 #[.pointer (some ⟨g659, 0, none⟩)] ?_; (with_reducible refine (spec_l3Bent.calls k g659 t656 t657 t658 t660 t661 t664 t665 w _ ?side1 ?side2 A3.out).mono ?_); (case side1 => repeat (first | (with_reducible first | exact HI659.out | apply IsS152.alloc | apply IsS152.drewN | apply IsS152.drew | apply IsS152.set_1 | apply IsS152.set_2 | refine IsS152.far ?_ NB659_655.out _) | exact HI659.out)); (case side2 => exact q9_1); rintro e w6 ⟨v662, rfl, ho0, hi, hb, hk⟩; refine ⟨_, rfl, ?_⟩; have n_ := ac_ (KeepBut.blk hk (g' := gb655) (o := .cells #[.int .i64 0, .slice none 0 0] 29 (0, 0)) q9_4 NB655_659.out (by simp)) <| ac_ (Kd.R_lower ho0 (below_size q9_1)) <| ac_ (hb) <| Aside0.mk (hi); clear BK655 HB HI659; obtain ⟨BK655, HO663, HB, HI659⟩ := n_; (try clear hb hk hi ho0); have hnb7 := NB655_659.out; have hnc7 := NB659_655.out; have hcz8_0 : w6.cell? ⟨gb655, 0, none⟩ = some (.int .i64 0) := (blk_cell BK655.out 0).trans rfl; have hcz8_1 : w6.cell? ⟨gb655, 1, none⟩ = some (.slice none 0 0) := (blk_cell BK655.out 1).trans rfl; have hfz8_0 := blk_frozen BK655.out 0; have hfz8_1 := blk_frozen BK655.out 1; obtain ⟨Ao9, co9, eo9⟩ := Kd.R_slice HO663.out; subst eo9))
 refine bodyPost_ret (results_cell_row rfl _ _ gb655 29 #[.int .i64 t660, .slice Ao9 t661.length co9] (0, 0) _ rfl (by (with_reducible repeat (first | refine blk_drewN ?_ _ | refine blk_drew ?_ | refine blk_alloc ?_ _)); refine blk_put (cs := #[.int .i64 t660, .slice none 0 0]) ?_ 1 _ rfl; (with_reducible repeat (first | refine blk_drewN ?_ _ | refine blk_drew ?_ | refine blk_alloc ?_ _)); refine blk_put (cs := #[.int .i64 0, .slice none 0 0]) ?_ 0 _ rfl; (with_reducible repeat (first | refine blk_drewN ?_ _ | refine blk_drew ?_ | refine blk_alloc ?_ _)); exact BK655.out) Tryz.underlying29 rfl (by kernel_rfl)) rfl ?_
 exact ⟨_, (by first | rfl | (simp [errW_none, errW_some] <;> rfl) | (simp [*, errW_none, errW_some] <;> rfl)), (by (with_reducible repeat (first | apply Kd.R_alloc | apply Kd.R_drewN | apply Kd.R_drew)); exact Kd.R_mono (Kd.R_far (p := ⟨gb655, 1, none⟩) (Kd.R_far (p := ⟨gb655, 0, none⟩) (Kd.R_types HO663.out BK655.out (by decide)) (fun _ hk => hk.2) (.int .i64 t660)) (fun _ hk => hk.2) (.slice Ao9 t661.length co9)) (fun _ hk => trivial)), q9_1⟩
def impl_ElementsOf.l0 : Nat → Int → List Int → Int → Option (List Int)
 | 0, _, _, _ => none
 | k + 1, x0, x3, x6 => if x6 < 8 then ((impl_HasElement.f x0 x6).bind fun t669 => (if t669 = true then (if x3.length < 17592186044416 then (impl_ElementsOf.l0 k x0 (x3 ++ [x6]) (wrap64 (x6 + 1))) else (none)) else (impl_ElementsOf.l0 k x0 x3 (wrap64 (x6 + 1))))) else (some x3)
def impl_ElementsOf.f (k : Nat) (a0 : Int) : Option (List Int) := impl_ElementsOf.l0 k a0 (([] : List Int)) 0
set_option maxHeartbeats 8000000 in
set_option maxRecDepth 100000 in
theorem impl_ElementsOf.calls (k : Nat) (a0 : Int) (r : List Int) (w : World) (h : impl_ElementsOf.f k a0 = some r) :
  Calls Tryz.prog 155 #[.int .i64 a0] w fun e w' => ∃ v0_ : Value, e = .returned (v0_) ∧ Kd.R (Kd.int .i64) 3 w' w.heap.size (fun _ => True) v0_ r ∧ Below w.heap.size w w' := by
 have HB := Aside0.mk (Below.refl w.heap.size w); have H := h; clear h; unfold impl_ElementsOf.f at H; obtain ⟨y666, hy666⟩ : ∃ y_ : List Int, y_ = (([] : List Int)) := ⟨_, rfl⟩
 replace H : (impl_ElementsOf.l0 k a0 y666 0) = some r := by first | (rw [hy666]; with_reducible exact H) | (have H2_ := (Option.bind_some _ _).symm.trans H; rw [hy666]; with_reducible exact H2_) | (have H2_ := (Option.bind_some _ _).symm.trans H; with_reducible exact H2_) | with_reducible exact H | (rw [hy666]; exact H) | exact H
 have Ny666 := Aside0.mk hy666; clear hy666; have H' := Aside0.mk H; clear H
 go_enter Tryz.func155, Tryz.ntmps155
 go_wp2_with (first | ((with_reducible refine gate_dst (N := 5) rfl ?_); refine Kd.R_lit (Kd.int .i64) _ 3 ?hg (N := 5) ?hd (xs := ([] : List Int)) (inner := []) (ok := fun _ => True) (okp := fun _ => True) ?hr ?hp (fun _ hk => hk) trivial (Below.refl _ _) (Nat.le_refl _) (by simp) ?_; (case hd => rfl); (case hg => rfl); (case hr => first | (go_simp; done) | (go_simp; rfl)); (case hp => exact (Reps.none _ _)); intro v667 w2 ho3 hb hg_ hnew_; clear hg_ hnew_; (first | rw [← Ny666.out] at ho3 | (simp only [Int.reduceToNat] at ho3; rw [← Ny666.out] at ho3)); have n_ := ac_ (Kd.R_lower ho3 (below_size s1_)) <| Aside0.mk (below_step s1_ hb); clear HB; obtain ⟨HO668, HB⟩ := n_; clear hb ho3))
 go_loopg [3, 6] k (fun kq v3 v6 w' => ∃ (x3_1 : List Int) (x6_1 : Int), v6 = .int .i64 x6_1 ∧ Aside0 (impl_ElementsOf.l0 kq a0 x3_1 x6_1 = some r) ∧ Aside0 (kq ≤ k) ∧ Aside0 (Kd.R (Kd.int .i64) 3 w' w.heap.size (fun _ => True) v3 x3_1) ∧ Aside0 (Below w.heap.size w w'))
 case atStart => exact ⟨(y666), (0), s2_, H', ⟨Nat.le_refl _⟩, ⟨(by (with_reducible repeat (first | apply Kd.R_alloc | apply Kd.R_drewN | apply Kd.R_drew)); exact HO668.out)⟩, ⟨s1_⟩⟩
 case round =>
  clear H'
  try clear c1
  try clear p2
  obtain ⟨x3_1, x6_1, rfl, HA, HK1, HO_3, HB⟩ := hrel
  cases gk with
  | zero => exact absurd HA.out (by simp [impl_ElementsOf.l0])
  | succ k1 =>
   have H := HA.out; clear HA
   simp only [impl_ElementsOf.l0] at H
   by_cases c4 : x6_1 < 8
   ·
    rw [if_pos c4] at H; have c4b0 : decide (x6_1 < 8) = true := decide_eq_true c4; clear c4; obtain ⟨t669, A5, H⟩ := bnd9_ H
    by_cases c6 : t669 = true
    ·
     subst c6; rw [if_pos rfl] at H
     by_cases c7 : x3_1.length < 17592186044416
     ·
      rw [if_pos c7] at H; have LMc7 := Aside0.mk c7; clear c7; obtain ⟨y670, hy670⟩ : ∃ y_ : List Int, y_ = (x3_1 ++ [x6_1]) := ⟨_, rfl⟩
      replace H : (impl_ElementsOf.l0 k1 a0 y670 (wrap64 (x6_1 + 1))) = some r := by first | (rw [hy670]; with_reducible exact H) | (have H2_ := (Option.bind_some _ _).symm.trans H; rw [hy670]; with_reducible exact H2_) | (have H2_ := (Option.bind_some _ _).symm.trans H; with_reducible exact H2_) | with_reducible exact H | (rw [hy670]; exact H) | exact H
      have Ny670 := Aside0.mk hy670; clear hy670; have H' := Aside0.mk H; clear H
      go_wp2_with (first | (refine gL_ 212 11 Tryz.func212 #[.int .i64 a0, .int .i64 x6_1] ?_; (with_reducible refine (impl_HasElement.calls a0 x6_1 true _ A5.out).mono ?_); rintro e w' ⟨rfl, ⟨nd, rfl⟩⟩; refine ⟨_, rfl, ?_⟩) | ((with_reducible refine gate_builtin (b := .append) (xs := #[.tmp 12, .tmp 14]) rfl ?_); at_builtin; refine Kd.R_append (Kd.int .i64) (w0 := w) w.heap.size rfl (.tmp 12) (.tmp 14) 27 3 (.int .i64 0) 8 rfl Tryz.underlying27 info3 rfl (by decide) (by omega) u3 x3_1 x6_1 [.int .i64 x6_1] (fun _ => True) (fun _ => False) rfl rfl ?aP (fun _ hk => hk.elim) ?aF ?aO ?aB ?aS ?aL ?_; (case aP => exact rfl); (case aB => exact s1_); (case aF => exact (fun _ _ => trivial)); (case aO => exact s9_); (case aS => exact (below_size s1_)); (case aL => have := LMc7.out; omega); intro v671 w8 ho hb hg hat; rw [← Ny670.out] at ho; have n_ := ac_ (hb) <| Aside0.mk (ho); clear HB HO_3; obtain ⟨HB, HO672⟩ := n_; clear ho hb hg hat))
      go_roundg k1
      case measure => have := HK1.out; omega
      case rel => exact ⟨(y670), (wrap64 (x6_1 + 1)), s2_, H', ⟨by have := HK1.out; omega⟩, ⟨(by (with_reducible repeat (first | apply Kd.R_alloc | apply Kd.R_drewN | apply Kd.R_drew)); exact HO672.out)⟩, ⟨s1_⟩⟩
     ·
      rw [if_neg c7] at H
      exact absurd H (by simp)
    ·
     replace c6 := Bool.eq_false_iff.mpr c6; subst c6
     rw [if_neg (show ¬ (false = true) by decide)] at H
     have H' := Aside0.mk H; clear H
     go_wp2_with (first | (refine gL_ 212 11 Tryz.func212 #[.int .i64 a0, .int .i64 x6_1] ?_; (with_reducible refine (impl_HasElement.calls a0 x6_1 false _ A5.out).mono ?_); rintro e w' ⟨rfl, ⟨nd, rfl⟩⟩; refine ⟨_, rfl, ?_⟩))
     go_roundg k1
     case measure => have := HK1.out; omega
     case rel => exact ⟨(x3_1), (wrap64 (x6_1 + 1)), s2_, H', ⟨by have := HK1.out; omega⟩, ⟨s9_⟩, ⟨s1_⟩⟩
   ·
    rw [if_neg c4] at H; have c4b0 : decide (x6_1 < 8) = false := decide_eq_false c4; clear c4; obtain rfl := Option.some.inj H
    go_wp2
    go_ret
    exact ⟨_, (by first | rfl | (simp [errW_none, errW_some] <;> rfl) | (simp [*, errW_none, errW_some] <;> rfl)), s9_, s1_⟩
theorem q9_13 {P : Prop} (h : P := by (with_reducible repeat (first | apply Kd.R_alloc | apply Kd.R_drewN | apply Kd.R_drew)); exact HO_5.out) : P := h
def spec_l9Draw.l0 : Nat → Int → List (S48) → Int → Int → List Int → Int → Int → Option ((List (S48)) × Int × Int)
 | 0, _, _, _, _, _, _, _ => none
 | k + 1, x1, x5, x6, x7, x1000, x1001, x1002 => if x7 < x6 then ((spec_l9Make.f x1000 x1001 x1002 x1).bind fun bt706 => (if x5.length < 8796093022208 then (spec_l9Draw.l0 k x1 (x5 ++ [(⟨bt706.1, bt706.2.1⟩ : S48)]) x6 (wrap64 (x7 + 1)) x1000 bt706.2.2.1 bt706.2.2.2) else (none))) else (some (x5, x1001, x1002))
def spec_l9Draw.f (k : Nat) (s0_0 : List Int) (s0_1 : Int) (s0_2 : Int) (a1 : Int) : Option ((List (S48)) × Int × Int) := (spec_l1Below.f s0_0 s0_1 s0_2 5).bind fun bt703 => (spec_l9Draw.l0 k a1 (([] : List (S48))) bt703.1 0 s0_0 bt703.2.1 bt703.2.2)
set_option maxHeartbeats 8000000 in
set_option maxRecDepth 100000 in
theorem spec_l9Draw.calls (k : Nat) (g : Nat) (s0_0 : List Int) (s0_1 : Int) (s0_2 : Int) (a1 : Int) (r1 : List (S48)) (r2 : Int) (r3 : Int) (w0 w : World) (hI : IsS152 w0 w g s0_0 s0_1 s0_2) (hB : Below w0.heap.size w0 w) (h : spec_l9Draw.f k s0_0 s0_1 s0_2 a1 = some (r1, r2, r3)) :
  Calls Tryz.prog 179 #[.pointer (some ⟨g, 0, none⟩), .int .i64 a1] w fun e w' => ∃ v0_ : Value, e = .returned (v0_) ∧ Kd.R k48 48 w' w.heap.size (fun _ => True) v0_ r1 ∧ IsS152 w0 w' g s0_0 r2 r3 ∧ Below w0.heap.size w0 w' ∧ KeepBut w w' g none := by
 have HI0 := Aside0.mk hI; have HK := Aside0.mk (KeepBut.refl w g none); have HL := Aside0.mk hB.size; clear hI; have HW0 := Aside0.mk hB.size; have HB := Aside0.mk hB; clear hB; have H := h; clear h; unfold spec_l9Draw.f at H; obtain ⟨y700, hy700⟩ : ∃ y_ : List (S48), y_ = (([] : List (S48))) := ⟨_, rfl⟩
 replace H : ((spec_l1Below.f s0_0 s0_1 s0_2 5).bind fun bt703 => (spec_l9Draw.l0 k a1 y700 bt703.1 0 s0_0 bt703.2.1 bt703.2.2)) = some (r1, r2, r3) := by first | (rw [hy700]; with_reducible exact H) | (have H2_ := (Option.bind_some _ _).symm.trans H; rw [hy700]; with_reducible exact H2_) | (have H2_ := (Option.bind_some _ _).symm.trans H; with_reducible exact H2_) | with_reducible exact H | (rw [hy700]; exact H) | exact H
 have Ny700 := Aside0.mk hy700; clear hy700; obtain ⟨⟨t703, t704, t705⟩, A3, H⟩ := bnd9_ H; dsimp only at H; have H' := Aside0.mk H; clear H
 go_enter Tryz.func179, Tryz.ntmps179
 go_wp2_with (first | ((with_reducible refine gate_dst (N := 8) rfl ?_); refine Kd.R_lit k48 _ 48 ?hg (N := 8) ?hd (xs := ([] : List (S48))) (inner := []) (ok := fun _ => True) (okp := fun _ => True) ?hr ?hp (fun _ hk => hk) trivial (Below.refl _ _) (Nat.le_refl _) (by simp) ?_; (case hd => rfl); (case hg => rfl); (case hr => first | (go_simp; done) | (go_simp; rfl)); (case hp => exact (Reps.none _ _)); intro v701 w4 ho5 hb hg_ hnew_; clear hg_ hnew_; (first | rw [← Ny700.out] at ho5 | (simp only [Int.reduceToNat] at ho5; rw [← Ny700.out] at ho5)); have n_ := ac_ (Kd.R_lower ho5 (keep_size (w := w) (g := g) (row := none) s6_)) <| ac_ (IsS152.below s5_ hb) <| ac_ (KeepBut.trans s6_ (KeepBut.of_below hb g none) (.inl rfl)) <| Aside0.mk (below_step s11_ hb); clear HI0 HK HB; obtain ⟨HO702, HI0, HK, HB⟩ := n_; clear hb ho5) | (refine gL_ 146 10 Tryz.func146 #[.pointer (some ⟨g, 0, none⟩), .int .i64 5] ?_; (with_reducible refine (spec_l1Below.calls g s0_0 s0_1 s0_2 5 t703 t704 t705 w0 _ ?side1 ?side2 A3.out).mono ?_); (case side1 => exact s5_); (case side2 => exact s11_); rintro e w6 ⟨rfl, hi, hb, hk⟩; refine ⟨_, rfl, ?_⟩; have n_ := ac_ (Kd.R_mono (Kd.R_keep (IsS152.apart (show IsS152 w0 _ g s0_0 s0_1 s0_2 from s5_) (by (with_reducible repeat (first | apply Kd.R_alloc | apply Kd.R_drewN | apply Kd.R_drew)); exact HO702.out) (by decide)) hk (fun _ h => h.2)) (fun _ h => h.1)) <| ac_ (KeepBut.trans s6_ hk (.inl rfl)) <| ac_ (hb) <| Aside0.mk (hi); clear HO702 HK HB HI0; obtain ⟨HO702, HK, HB, HI0⟩ := n_; (try clear hb hk hi)))
 go_loopg [5, 7] k (fun kq v5 v7 w' => ∃ (x5_1 : List (S48)) (x7_1 : Int) (x1001_1 : Int) (x1002_1 : Int), v7 = .int .i64 x7_1 ∧ Aside0 (spec_l9Draw.l0 kq a1 x5_1 t703 x7_1 s0_0 x1001_1 x1002_1 = some (r1, r2, r3)) ∧ Aside0 (kq ≤ k) ∧ Aside0 (Kd.R k48 48 w' w.heap.size (fun _ => True) v5 x5_1) ∧ Aside0 (IsS152 w0 w' g s0_0 x1001_1 x1002_1) ∧ Aside0 (KeepBut w w' g none) ∧ Aside0 (Below w0.heap.size w0 w'))
 case atStart => exact ⟨(y700), (0), (t704), (t705), (by first | rfl | (simp; done) | (simp [*]; done) | (simp [i64_w, i32_w]; done)), H', ⟨Nat.le_refl _⟩, ⟨(by (with_reducible repeat (first | apply Kd.R_alloc | apply Kd.R_drewN | apply Kd.R_drew)); exact HO702.out)⟩, ⟨s5_⟩, ⟨s6_⟩, ⟨s11_⟩⟩
 case round =>
  clear H'
  try clear c1
  try clear p2
  obtain ⟨x5_1, x7_1, x1001_1, x1002_1, rfl, HA, HK1, HO_5, HI0, HK, HB⟩ := hrel
  cases gk with
  | zero => exact absurd HA.out (by simp [spec_l9Draw.l0])
  | succ k1 =>
   have H := HA.out; clear HA
   simp only [spec_l9Draw.l0] at H
   by_cases c7 : x7_1 < t703
   ·
    rw [if_pos c7] at H; have c7b0 : decide (x7_1 < t703) = true := decide_eq_true c7; clear c7; obtain ⟨⟨t706, t707, t708, t709⟩, A8, H⟩ := bnd9_ H; dsimp only at H
    by_cases c9 : x5_1.length < 8796093022208
    ·
     rw [if_pos c9] at H; have LMc9 := Aside0.mk c9; clear c9; obtain ⟨y710, hy710⟩ : ∃ y_ : List (S48), y_ = (x5_1 ++ [(⟨t706, t707⟩ : S48)]) := ⟨_, rfl⟩
     replace H : (spec_l9Draw.l0 k1 a1 y710 t703 (wrap64 (x7_1 + 1)) s0_0 t708 t709) = some (r1, r2, r3) := by first | (rw [hy710]; with_reducible exact H) | (have H2_ := (Option.bind_some _ _).symm.trans H; rw [hy710]; with_reducible exact H2_) | (have H2_ := (Option.bind_some _ _).symm.trans H; with_reducible exact H2_) | with_reducible exact H | (rw [hy710]; exact H) | exact H
     have Ny710 := Aside0.mk hy710; clear hy710; have H' := Aside0.mk H; clear H
     go_wp2_with (first | (refine gL_ 172 19 Tryz.func172 #[.pointer (some ⟨g, 0, none⟩), .int .i64 a1] ?_; (with_reducible refine (spec_l9Make.calls g s0_0 x1001_1 x1002_1 a1 t706 t707 t708 t709 w0 _ ?side1 ?side2 A8.out).mono ?_); (case side1 => exact s5_); (case side2 => exact s11_); rintro e w10 ⟨rfl, hi, hb, hk⟩; refine ⟨_, rfl, ?_⟩; have n_ := ac_ (Kd.R_mono (Kd.R_keep (IsS152.apart (show IsS152 w0 _ g s0_0 x1001_1 x1002_1 from s5_) q9_13 (by decide)) hk (fun _ h => h.2)) (fun _ h => h.1)) <| ac_ (KeepBut.trans s6_ hk (.inl rfl)) <| ac_ (hb) <| Aside0.mk (hi); clear HO_5 HK HB HI0; obtain ⟨HO_5, HK, HB, HI0⟩ := n_; (try clear hb hk hi)) | ((with_reducible refine gate_builtin (b := .append) (xs := #[.tmp 16, .tmp 20]) rfl ?_); at_builtin; refine Kd.R_append k48 w.heap.size rfl (.tmp 16) (.tmp 20) 24 48 (.agg #[(.int .i64 0), (.int .i64 0)]) 16 rfl Tryz.underlying24 info48 rfl (by decide) (by omega) u5 x5_1 (⟨t706, t707⟩ : S48) [.int .i64 t706, .int .i64 t707] (fun _ => True) (fun _ => False) rfl rfl ?aP (fun _ hk => hk.elim) ?aF ?aO (Below.refl _ _) ?aS ?aL ?_; (case aP => exact k48_mkM _ _ _ (⟨t706, t707⟩ : S48)); (case aF => exact (fun _ _ => trivial)); (case aO => exact q9_13); (case aS => exact (keep_size (w := w) (g := g) (row := none) s6_)); (case aL => have := LMc9.out; omega); intro v711 w11 ho hb hg hat; rw [← Ny710.out] at ho; have n_ := ac_ (IsS152.grown s5_ hg (IsS152.own_ne HI0.out HO_5.out (by decide))) <| ac_ (below_weaken s11_ HL.out hb) <| ac_ (KeepBut.trans s6_ (KeepBut.of_grown hg g) (Kd.R_base2 HO_5.out)) <| Aside0.mk (ho); clear HI0 HB HK HO_5; obtain ⟨HI0, HB, HK, HO712⟩ := n_; clear ho hb hg hat))
     go_roundg k1
     case measure => have := HK1.out; omega
     case rel => exact ⟨(y710), (wrap64 (x7_1 + 1)), (t708), (t709), (by first | rfl | (simp; done) | (simp [*]; done) | (simp [i64_w, i32_w]; done)), H', ⟨by have := HK1.out; omega⟩, ⟨(by (with_reducible repeat (first | apply Kd.R_alloc | apply Kd.R_drewN | apply Kd.R_drew)); exact HO712.out)⟩, ⟨s5_⟩, ⟨s6_⟩, ⟨s11_⟩⟩
    ·
     rw [if_neg c9] at H
     exact absurd H (by simp)
   ·
    rw [if_neg c7] at H; have c7b0 : decide (x7_1 < t703) = false := decide_eq_false c7; clear c7
    simp only [Option.some.injEq, Prod.mk.injEq] at H
    obtain ⟨rfl, rfl, rfl⟩ := H
    go_wp2
    go_ret
    exact ⟨_, (by first | rfl | (simp [errW_none, errW_some] <;> rfl) | (simp [*, errW_none, errW_some] <;> rfl)), q9_13, s5_, s11_, s6_⟩
theorem q9_18 {P : Prop} (h : P := by (with_reducible repeat (first | apply Kd.R_alloc | apply Kd.R_drewN | apply Kd.R_drew)); exact HO715.out) : P := h
def spec_l9Bent.f (k : Nat) (s0_0 : List Int) (s0_1 : Int) (s0_2 : Int) (a1 : Int) : Option ((List (S48)) × Int × Int) := (spec_l9Draw.f k s0_0 s0_1 s0_2 a1).bind fun bt713 => ((spec_l1Once.f s0_0 bt713.2.1 bt713.2.2 10).bind fun bt718 => (if bt718.1 = true then ((spec_l2Bent.f s0_0 bt718.2.1 bt718.2.2).bind fun bt721 => ((spec_l2Bent.f s0_0 bt721.2.1 bt721.2.2).bind fun bt724 => (if bt713.1.length < 8796093022208 then (some ((bt713.1 ++ [(⟨bt721.1, bt724.1⟩ : S48)]), bt724.2.1, bt724.2.2)) else (none)))) else (some (bt713.1, bt718.2.1, bt718.2.2))))
set_option maxHeartbeats 8000000 in
set_option maxRecDepth 100000 in
theorem spec_l9Bent.calls (k : Nat) (g : Nat) (s0_0 : List Int) (s0_1 : Int) (s0_2 : Int) (a1 : Int) (r1 : List (S48)) (r2 : Int) (r3 : Int) (w0 w : World) (hI : IsS152 w0 w g s0_0 s0_1 s0_2) (hB : Below w0.heap.size w0 w) (h : spec_l9Bent.f k s0_0 s0_1 s0_2 a1 = some (r1, r2, r3)) :
  Calls Tryz.prog 148 #[.pointer (some ⟨g, 0, none⟩), .int .i64 a1] w fun e w' => ∃ v0_ : Value, e = .returned (v0_) ∧ Kd.R k48 48 w' w.heap.size (fun _ => True) v0_ r1 ∧ IsS152 w0 w' g s0_0 r2 r3 ∧ Below w0.heap.size w0 w' ∧ KeepBut w w' g none := by
 have hu48 := Tryz.underlying48; have HI0 := Aside0.mk hI; have HK := Aside0.mk (KeepBut.refl w g none); have HL := Aside0.mk hB.size; clear hI; have HW0 := Aside0.mk hB.size; have HB := Aside0.mk hB; clear hB; have H := h; clear h; unfold spec_l9Bent.f at H; obtain ⟨⟨t713, t716, t717⟩, A3, H⟩ := bnd9_ H; dsimp only at H; obtain ⟨⟨t718, t719, t720⟩, A4, H⟩ := bnd9_ H; dsimp only at H
 by_cases c5 : t718 = true
 ·
  subst c5; rw [if_pos rfl] at H; obtain ⟨⟨t721, t722, t723⟩, A6, H⟩ := bnd9_ H; dsimp only at H; obtain ⟨⟨t724, t725, t726⟩, A7, H⟩ := bnd9_ H; dsimp only at H
  by_cases c8 : t713.length < 8796093022208
  ·
   rw [if_pos c8] at H; have LMc8 := Aside0.mk c8; clear c8; obtain ⟨y727, hy727⟩ : ∃ y_ : List (S48), y_ = (t713 ++ [(⟨t721, t724⟩ : S48)]) := ⟨_, rfl⟩
   replace H : (some (y727, t725, t726)) = some (r1, r2, r3) := by first | (rw [hy727]; with_reducible exact H) | (have H2_ := (Option.bind_some _ _).symm.trans H; rw [hy727]; with_reducible exact H2_) | (have H2_ := (Option.bind_some _ _).symm.trans H; with_reducible exact H2_) | with_reducible exact H | (rw [hy727]; exact H) | exact H
   have Ny727 := Aside0.mk hy727; clear hy727
   simp only [Option.some.injEq, Prod.mk.injEq] at H
   obtain ⟨rfl, rfl, rfl⟩ := H
   go_enter Tryz.func148, Tryz.ntmps148
   go_wp2_with (first | (refine gL_ 179 8 Tryz.func179 #[.pointer (some ⟨g, 0, none⟩), .int .i64 a1] ?_; (with_reducible refine (spec_l9Draw.calls k g s0_0 s0_1 s0_2 a1 t713 t716 t717 w0 _ ?side1 ?side2 A3.out).mono ?_); (case side1 => exact s5_); (case side2 => exact s11_); rintro e w9 ⟨v714, rfl, ho0, hi, hb, hk⟩; refine ⟨_, rfl, ?_⟩; have n_ := ac_ (Kd.R_lower ho0 (keep_size (w := w) (g := g) (row := none) s6_)) <| ac_ (KeepBut.trans s6_ hk (.inl rfl)) <| ac_ (hb) <| Aside0.mk (hi); clear HK HB HI0; obtain ⟨HO715, HK, HB, HI0⟩ := n_; (try clear hb hk hi ho0)) | (refine gL_ 145 10 Tryz.func145 #[.pointer (some ⟨g, 0, none⟩), .int .i64 10] ?_; (with_reducible refine (spec_l1Once.calls g s0_0 t716 t717 10 true t719 t720 w0 _ ?side1 ?side2 A4.out).mono ?_); (case side1 => exact s5_); (case side2 => exact s11_); rintro e w10 ⟨rfl, hi, hb, hk⟩; refine ⟨_, rfl, ?_⟩; have n_ := ac_ (Kd.R_mono (Kd.R_keep (IsS152.apart (show IsS152 w0 _ g s0_0 t716 t717 from s5_) q9_18 (by decide)) hk (fun _ h => h.2)) (fun _ h => h.1)) <| ac_ (KeepBut.trans s6_ hk (.inl rfl)) <| ac_ (hb) <| Aside0.mk (hi); clear HO715 HK HB HI0; obtain ⟨HO715, HK, HB, HI0⟩ := n_; (try clear hb hk hi)) | (refine gL_ 176 13 Tryz.func176 #[.pointer (some ⟨g, 0, none⟩)] ?_; (with_reducible refine (spec_l2Bent.calls g s0_0 t719 t720 t721 t722 t723 w0 _ ?side1 ?side2 A6.out).mono ?_); (case side1 => exact s5_); (case side2 => exact s11_); rintro e w11 ⟨rfl, hi, hb, hk⟩; refine ⟨_, rfl, ?_⟩; have n_ := ac_ (Kd.R_mono (Kd.R_keep (IsS152.apart (show IsS152 w0 _ g s0_0 t719 t720 from s5_) q9_18 (by decide)) hk (fun _ h => h.2)) (fun _ h => h.1)) <| ac_ (KeepBut.trans s6_ hk (.inl rfl)) <| ac_ (hb) <| Aside0.mk (hi); clear HO715 HK HB HI0; obtain ⟨HO715, HK, HB, HI0⟩ := n_; (try clear hb hk hi)) | (refine gL_ 176 15 Tryz.func176 #[.pointer (some ⟨g, 0, none⟩)] ?_; (with_reducible refine (spec_l2Bent.calls g s0_0 t722 t723 t724 t725 t726 w0 _ ?side1 ?side2 A7.out).mono ?_); (case side1 => exact s5_); (case side2 => exact s11_); rintro e w12 ⟨rfl, hi, hb, hk⟩; refine ⟨_, rfl, ?_⟩; have n_ := ac_ (Kd.R_mono (Kd.R_keep (IsS152.apart (show IsS152 w0 _ g s0_0 t722 t723 from s5_) q9_18 (by decide)) hk (fun _ h => h.2)) (fun _ h => h.1)) <| ac_ (KeepBut.trans s6_ hk (.inl rfl)) <| ac_ (hb) <| Aside0.mk (hi); clear HO715 HK HB HI0; obtain ⟨HO715, HK, HB, HI0⟩ := n_; (try clear hb hk hi)) | ((with_reducible refine gate_builtin (b := .append) (xs := #[.tmp 11, .tmp 17]) rfl ?_); at_builtin; refine Kd.R_append k48 w.heap.size rfl (.tmp 11) (.tmp 17) 24 48 (.agg #[(.int .i64 0), (.int .i64 0)]) 16 rfl Tryz.underlying24 info48 rfl (by decide) (by omega) v714 t713 (⟨t721, t724⟩ : S48) [.int .i64 t721, .int .i64 t724] (fun _ => True) (fun _ => False) rfl rfl ?aP (fun _ hk => hk.elim) ?aF ?aO (Below.refl _ _) ?aS ?aL ?_; (case aP => exact k48_mkM _ _ _ (⟨t721, t724⟩ : S48)); (case aF => exact (fun _ _ => trivial)); (case aO => exact q9_18); (case aS => exact (keep_size (w := w) (g := g) (row := none) s6_)); (case aL => have := LMc8.out; omega); intro v728 w13 ho hb hg hat; rw [← Ny727.out] at ho; have n_ := ac_ (IsS152.grown s5_ hg (IsS152.own_ne HI0.out HO715.out (by decide))) <| ac_ (below_weaken s11_ HL.out hb) <| ac_ (KeepBut.trans s6_ (KeepBut.of_grown hg g) (Kd.R_base2 HO715.out)) <| Aside0.mk (ho); clear HI0 HB HK HO715; obtain ⟨HI0, HB, HK, HO729⟩ := n_; clear ho hb hg hat))
   go_ret
   exact ⟨_, (by first | rfl | (simp [errW_none, errW_some] <;> rfl) | (simp [*, errW_none, errW_some] <;> rfl)), (by (with_reducible repeat (first | apply Kd.R_alloc | apply Kd.R_drewN | apply Kd.R_drew)); exact HO729.out), s5_, s11_, s6_⟩
  ·
   rw [if_neg c8] at H
   exact absurd H (by simp)
 ·
  replace c5 := Bool.eq_false_iff.mpr c5; subst c5
  rw [if_neg (show ¬ (false = true) by decide)] at H
  simp only [Option.some.injEq, Prod.mk.injEq] at H
  obtain ⟨rfl, rfl, rfl⟩ := H
  go_enter Tryz.func148, Tryz.ntmps148
  go_wp2_with (first | (refine gL_ 179 8 Tryz.func179 #[.pointer (some ⟨g, 0, none⟩), .int .i64 a1] ?_; (with_reducible refine (spec_l9Draw.calls k g s0_0 s0_1 s0_2 a1 t713 t716 t717 w0 _ ?side1 ?side2 A3.out).mono ?_); (case side1 => exact s5_); (case side2 => exact s11_); rintro e w14 ⟨v714, rfl, ho0, hi, hb, hk⟩; refine ⟨_, rfl, ?_⟩; have n_ := ac_ (Kd.R_lower ho0 (keep_size (w := w) (g := g) (row := none) s6_)) <| ac_ (KeepBut.trans s6_ hk (.inl rfl)) <| ac_ (hb) <| Aside0.mk (hi); clear HK HB HI0; obtain ⟨HO715, HK, HB, HI0⟩ := n_; (try clear hb hk hi ho0)) | (refine gL_ 145 10 Tryz.func145 #[.pointer (some ⟨g, 0, none⟩), .int .i64 10] ?_; (with_reducible refine (spec_l1Once.calls g s0_0 t716 t717 10 false t719 t720 w0 _ ?side1 ?side2 A4.out).mono ?_); (case side1 => exact s5_); (case side2 => exact s11_); rintro e w15 ⟨rfl, hi, hb, hk⟩; refine ⟨_, rfl, ?_⟩; have n_ := ac_ (Kd.R_mono (Kd.R_keep (IsS152.apart (show IsS152 w0 _ g s0_0 t716 t717 from s5_) q9_18 (by decide)) hk (fun _ h => h.2)) (fun _ h => h.1)) <| ac_ (KeepBut.trans s6_ hk (.inl rfl)) <| ac_ (hb) <| Aside0.mk (hi); clear HO715 HK HB HI0; obtain ⟨HO715, HK, HB, HI0⟩ := n_; (try clear hb hk hi)))
  go_ret
  exact ⟨_, (by first | rfl | (simp [errW_none, errW_some] <;> rfl) | (simp [*, errW_none, errW_some] <;> rfl)), q9_18, s5_, s11_, s6_⟩
theorem q9_19 {P : Prop} (h : P := by repeat (first | (with_reducible first | exact HI733.out | apply IsS152.alloc | apply IsS152.drewN | apply IsS152.drew | apply IsS152.set_1 | apply IsS152.set_2) | exact HI733.out)) : P := h
theorem q9_20 {P : Prop} (h : P := by repeat (first | (with_reducible first | exact HB.out | apply below_alloc | apply pw_below_drewN | apply below_drew1 | refine below_set ?_ (IsS152.ge HI733.out)) | exact HB.out)) : P := h
theorem q9_23 {P : Prop} (h : P := by (with_reducible repeat (first | apply Kd.R_alloc | apply Kd.R_drewN | apply Kd.R_drew)); exact HO736.out) : P := h
def spec_DrawClosedBy.f (k : Nat) (l0 : List Int) : Option ((List (S48)) × Int) := (spec_l1New.f k l0).bind fun bt730 => ((spec_l9Bent.f k bt730.1 bt730.2.1 bt730.2.2 5).bind fun bt734 => ((spec_l1Once.f bt730.1 bt734.2.1 bt734.2.2 12).bind fun bt739 => (if bt739.1 = true then ((spec_l2Bent.f bt730.1 bt739.2.1 bt739.2.2).bind fun bt742 => (some (bt734.1, bt742.1))) else ((spec_l1Below.f bt730.1 bt739.2.1 bt739.2.2 32).bind fun bt745 => (some (bt734.1, bt745.1))))))
set_option maxHeartbeats 8000000 in
set_option maxRecDepth 100000 in
theorem spec_DrawClosedBy.calls (k : Nat) (A0 : Option Addr) (c0 : Nat) (l0 : List Int) (r1 : List (S48)) (r2 : Int) (w : World) (hr0 : Kd.C (Kd.int .u8) w A0 l0.length l0) (hc0 : l0.length ≤ c0) (h : spec_DrawClosedBy.f k l0 = some (r1, r2)) :
  Calls Tryz.prog 69 #[.slice A0 l0.length c0] w fun e w' => ∃ v0_ : Value, e = .returned (.tuple #[v0_, .int .i64 r2]) ∧ Kd.R k48 48 w' w.heap.size (fun _ => True) v0_ r1 ∧ Below w.heap.size w w' := by
 have HR0 := Aside0.mk hr0; have HC0 := Aside0.mk hc0; clear hr0 hc0; have HB := Aside0.mk (Below.refl w.heap.size w); have H := h; clear h; unfold spec_DrawClosedBy.f at H; obtain ⟨⟨t730, t731, t732⟩, A2, H⟩ := bnd9_ H; dsimp only at H; obtain ⟨⟨t734, t737, t738⟩, A3, H⟩ := bnd9_ H; dsimp only at H; obtain ⟨⟨t739, t740, t741⟩, A4, H⟩ := bnd9_ H; dsimp only at H
 by_cases c5 : t739 = true
 ·
  subst c5; rw [if_pos rfl] at H; obtain ⟨⟨t742, t743, t744⟩, A6, H⟩ := bnd9_ H; dsimp only at H
  simp only [Option.some.injEq, Prod.mk.injEq] at H
  obtain ⟨rfl, rfl⟩ := H
  go_enter Tryz.func69, Tryz.ntmps69
  go_wp2_with (first | (refine gL_ 144 7 Tryz.func144 #[.slice A0 l0.length c0] ?_; (with_reducible refine (spec_l1New.calls k _ _ l0 t730 t731 t732 w _ ?side1 ?side2 ?side3 A2.out).mono ?_); (case side1 => exact s1_); (case side2 => exact HR0.out); (case side3 => exact HC0.out); rintro e w7 ⟨g733, rfl, hi, hb, hb2⟩; refine ⟨_, rfl, ?_⟩; have n_ := ac_ (hb) <| Aside0.mk (hi); clear HB; obtain ⟨HB, HI733⟩ := n_; (try clear hb hb2 hi)) | (refine gL_ 148 9 Tryz.func148 #[.pointer (some ⟨g733, 0, none⟩), .int .i64 5] ?_; (with_reducible refine (spec_l9Bent.calls k g733 t730 t731 t732 5 t734 t737 t738 w _ ?side1 ?side2 A3.out).mono ?_); (case side1 => exact q9_19); (case side2 => exact q9_20); rintro e w8 ⟨v735, rfl, ho0, hi, hb, hk⟩; refine ⟨_, rfl, ?_⟩; have n_ := ac_ (Kd.R_lower ho0 (below_size q9_20)) <| ac_ (hb) <| Aside0.mk (hi); clear HB HI733; obtain ⟨HO736, HB, HI733⟩ := n_; (try clear hb hk hi ho0)) | (refine gL_ 145 11 Tryz.func145 #[.pointer (some ⟨g733, 0, none⟩), .int .i64 12] ?_; (with_reducible refine (spec_l1Once.calls g733 t730 t737 t738 12 true t740 t741 w _ ?side1 ?side2 A4.out).mono ?_); (case side1 => exact q9_19); (case side2 => exact q9_20); rintro e w9 ⟨rfl, hi, hb, hk⟩; refine ⟨_, rfl, ?_⟩; have n_ := ac_ (Kd.R_mono (Kd.R_keep (IsS152.apart (show IsS152 w _ g733 t730 t737 t738 from q9_19) q9_23 (by decide)) hk (fun _ h => h.2)) (fun _ h => h.1)) <| ac_ (hb) <| Aside0.mk (hi); clear HO736 HB HI733; obtain ⟨HO736, HB, HI733⟩ := n_; (try clear hb hk hi)) | (refine gL_ 176 14 Tryz.func176 #[.pointer (some ⟨g733, 0, none⟩)] ?_; (with_reducible refine (spec_l2Bent.calls g733 t730 t740 t741 t742 t743 t744 w _ ?side1 ?side2 A6.out).mono ?_); (case side1 => exact q9_19); (case side2 => exact q9_20); rintro e w10 ⟨rfl, hi, hb, hk⟩; refine ⟨_, rfl, ?_⟩; have n_ := ac_ (Kd.R_mono (Kd.R_keep (IsS152.apart (show IsS152 w _ g733 t730 t740 t741 from q9_19) q9_23 (by decide)) hk (fun _ h => h.2)) (fun _ h => h.1)) <| ac_ (hb) <| Aside0.mk (hi); clear HO736 HB HI733; obtain ⟨HO736, HB, HI733⟩ := n_; (try clear hb hk hi)))
  go_ret2
  exact ⟨_, (by first | rfl | (simp [errW_none, errW_some] <;> rfl) | (simp [*, errW_none, errW_some] <;> rfl)), q9_23, q9_20⟩
 ·
  replace c5 := Bool.eq_false_iff.mpr c5; subst c5
  rw [if_neg (show ¬ (false = true) by decide)] at H
  obtain ⟨⟨t745, t746, t747⟩, A11, H⟩ := bnd9_ H; dsimp only at H
  simp only [Option.some.injEq, Prod.mk.injEq] at H
  obtain ⟨rfl, rfl⟩ := H
  go_enter Tryz.func69, Tryz.ntmps69
  go_wp2_with (first | (refine gL_ 144 7 Tryz.func144 #[.slice A0 l0.length c0] ?_; (with_reducible refine (spec_l1New.calls k _ _ l0 t730 t731 t732 w _ ?side1 ?side2 ?side3 A2.out).mono ?_); (case side1 => exact s1_); (case side2 => exact HR0.out); (case side3 => exact HC0.out); rintro e w12 ⟨g733, rfl, hi, hb, hb2⟩; refine ⟨_, rfl, ?_⟩; have n_ := ac_ (hb) <| Aside0.mk (hi); clear HB; obtain ⟨HB, HI733⟩ := n_; (try clear hb hb2 hi)) | (refine gL_ 148 9 Tryz.func148 #[.pointer (some ⟨g733, 0, none⟩), .int .i64 5] ?_; (with_reducible refine (spec_l9Bent.calls k g733 t730 t731 t732 5 t734 t737 t738 w _ ?side1 ?side2 A3.out).mono ?_); (case side1 => exact q9_19); (case side2 => exact q9_20); rintro e w13 ⟨v735, rfl, ho0, hi, hb, hk⟩; refine ⟨_, rfl, ?_⟩; have n_ := ac_ (Kd.R_lower ho0 (below_size q9_20)) <| ac_ (hb) <| Aside0.mk (hi); clear HB HI733; obtain ⟨HO736, HB, HI733⟩ := n_; (try clear hb hk hi ho0)) | (refine gL_ 145 11 Tryz.func145 #[.pointer (some ⟨g733, 0, none⟩), .int .i64 12] ?_; (with_reducible refine (spec_l1Once.calls g733 t730 t737 t738 12 false t740 t741 w _ ?side1 ?side2 A4.out).mono ?_); (case side1 => exact q9_19); (case side2 => exact q9_20); rintro e w14 ⟨rfl, hi, hb, hk⟩; refine ⟨_, rfl, ?_⟩; have n_ := ac_ (Kd.R_mono (Kd.R_keep (IsS152.apart (show IsS152 w _ g733 t730 t737 t738 from q9_19) q9_23 (by decide)) hk (fun _ h => h.2)) (fun _ h => h.1)) <| ac_ (hb) <| Aside0.mk (hi); clear HO736 HB HI733; obtain ⟨HO736, HB, HI733⟩ := n_; (try clear hb hk hi)) | (refine gL_ 146 17 Tryz.func146 #[.pointer (some ⟨g733, 0, none⟩), .int .i64 32] ?_; (with_reducible refine (spec_l1Below.calls g733 t730 t740 t741 32 t745 t746 t747 w _ ?side1 ?side2 A11.out).mono ?_); (case side1 => exact q9_19); (case side2 => exact q9_20); rintro e w15 ⟨rfl, hi, hb, hk⟩; refine ⟨_, rfl, ?_⟩; have n_ := ac_ (Kd.R_mono (Kd.R_keep (IsS152.apart (show IsS152 w _ g733 t730 t740 t741 from q9_19) q9_23 (by decide)) hk (fun _ h => h.2)) (fun _ h => h.1)) <| ac_ (hb) <| Aside0.mk (hi); clear HO736 HB HI733; obtain ⟨HO736, HB, HI733⟩ := n_; (try clear hb hk hi)))
  go_ret2
  exact ⟨_, (by first | rfl | (simp [errW_none, errW_some] <;> rfl) | (simp [*, errW_none, errW_some] <;> rfl)), q9_23, q9_20⟩
def spec_DrawOneStep.f (k : Nat) (l0 : List Int) : Option ((List (S48)) × Int) := (spec_DrawClosedBy.f k l0).bind fun bt748 => (some (bt748.1, bt748.2))
set_option maxHeartbeats 8000000 in
set_option maxRecDepth 100000 in
theorem spec_DrawOneStep.calls (k : Nat) (A0 : Option Addr) (c0 : Nat) (l0 : List Int) (r1 : List (S48)) (r2 : Int) (w : World) (hr0 : Kd.C (Kd.int .u8) w A0 l0.length l0) (hc0 : l0.length ≤ c0) (h : spec_DrawOneStep.f k l0 = some (r1, r2)) :
  Calls Tryz.prog 112 #[.slice A0 l0.length c0] w fun e w' => ∃ v0_ : Value, e = .returned (.tuple #[v0_, .int .i64 r2]) ∧ Kd.R k48 48 w' w.heap.size (fun _ => True) v0_ r1 ∧ Below w.heap.size w w' := by
 have HR0 := Aside0.mk hr0; have HC0 := Aside0.mk hc0; clear hr0 hc0; have HB := Aside0.mk (Below.refl w.heap.size w); have H := h; clear h; unfold spec_DrawOneStep.f at H; obtain ⟨⟨t748, t749⟩, A2, H⟩ := bnd9_ H; dsimp only at H
 simp only [Option.some.injEq, Prod.mk.injEq] at H
 obtain ⟨rfl, rfl⟩ := H
 go_enter Tryz.func112, Tryz.ntmps112
 go_wp2_with (first | ((with_reducible refine gate_callee (f := 69) rfl ?_); refine goesL_ (some 8) rfl rfl Tryz.func69 (by kernel_rfl) rfl #[.slice A0 l0.length c0] rfl (by (try simp only [List.map_toArray, List.map_cons, List.map_nil]); first | done | rfl | (simp only [List.length_drop, List.length_take]; rfl)) ?_; (with_reducible refine (spec_DrawClosedBy.calls k _ _ l0 t748 t749 _ ?side1 ?side2 A2.out).mono ?_); (case side1 => repeat (first | exact HR0.out | (with_reducible refine Kd.C_alloc ?_ _) | (with_reducible refine Kd.C_drewN ?_ _) | (with_reducible refine Kd.C_drew ?_))); (case side2 => exact HC0.out); rintro e w3 ⟨v750, rfl, ho0, hb⟩; refine ⟨_, rfl, ?_⟩; have n_ := ac_ (Kd.R_lower ho0 (below_size s1_)) <| Aside0.mk (below_step s1_ hb); clear HB; obtain ⟨HO751, HB⟩ := n_; (try clear hb ho0)))
 go_ret2
 exact ⟨_, (by first | rfl | (simp [errW_none, errW_some] <;> rfl) | (simp [*, errW_none, errW_some] <;> rfl)), (by (with_reducible repeat (first | apply Kd.R_alloc | apply Kd.R_drewN | apply Kd.R_drew)); exact HO751.out), s1_⟩
theorem q9_25 {P : Prop} (h : P := by repeat (first | (with_reducible first | exact HB.out | apply below_alloc | apply pw_below_drewN | apply below_drew1 | refine below_set ?_ GE752.out) | exact HB.out)) : P := h
theorem q9_28 {P : Prop} (h : P := by (with_reducible repeat (first | refine blk_drewN ?_ _ | refine blk_drew ?_ | refine blk_alloc ?_ _)); exact BK752.out) : P := h
def spec_l12New.l0 : Nat → Int → Int → Int → Int → List Int → Option (Int)
 | 0, _, _, _, _, _ => none
 | k + 1, x1, x5, x6, x753000, x753001 => if x6 < x753000 then ((spec_l2Has.f x1 x6).bind fun t754 => (if t754 = true then (if 0 ≤ (IntKind.u64.wrap (x6)) then ((spec_l4Closure.f k x753000 x753001 (wrap64 (x1 - (shl .i64 1 (IntKind.u64.wrap (x6)))))).bind fun t755 => (spec_l12New.l0 k x1 (wrap64 (x5 - (Go.bits .and .i64 x5 t755))) (wrap64 (x6 + 1)) x753000 x753001)) else (none)) else (spec_l12New.l0 k x1 x5 (wrap64 (x6 + 1)) x753000 x753001))) else (some x5)
def spec_l12New.f (k : Nat) (a0_0 : Int) (l0_1 : List Int) (a1 : Int) : Option (Int) := (spec_l4Closure.f k a0_0 l0_1 a1).bind fun t753 => (spec_l12New.l0 k a1 (wrap64 (t753 - a1)) 0 a0_0 l0_1)
set_option maxHeartbeats 8000000 in
set_option maxRecDepth 100000 in
theorem spec_l12New.calls (k : Nat) (a0_0 : Int) (A0_1 : Option Addr) (c0_1 : Nat) (l0_1 : List Int) (a1 : Int) (r : Int) (w : World) (hr0_1 : Kd.C (Kd.int .i64) w A0_1 l0_1.length l0_1) (hc0_1 : l0_1.length ≤ c0_1) (h : spec_l12New.f k a0_0 l0_1 a1 = some r) :
  Calls Tryz.prog 206 #[.agg #[.int .i64 a0_0, .slice A0_1 l0_1.length c0_1], .int .i64 a1] w fun e w' => e = .returned (.int .i64 r) ∧ Below w.heap.size w w' := by
 have hu29 := Tryz.underlying29; have HR0_1 := Aside0.mk hr0_1; have HC0_1 := Aside0.mk hc0_1; clear hr0_1 hc0_1; have HB := Aside0.mk (Below.refl w.heap.size w); have H := h; clear h; unfold spec_l12New.f at H; obtain ⟨t753, A3, H⟩ := bnd9_ H; have H' := Aside0.mk H; clear H
 go_enter Tryz.func206, Tryz.ntmps206
 go_wp2_with (first | ((with_reducible refine gate_dst (N := 2) rfl ?_); refine box_event ?hg (N := 2) ?hd (cs := #[.int .i64 a0_0, .slice A0_1 l0_1.length c0_1]) (t := 29) ?hr ?_; (case hd => rfl); (case hg => rfl); (case hr => first | (go_simp; done) | (go_simp; rfl)); intro gb752 hg w4 hbox hb; have n_ := ac_ (below_step s1_ hb) <| ac_ (hbox) <| ac_ ((by rw [hg]; exact (below_size s1_) : w.heap.size ≤ gb752)) <| Aside0.mk ((by rw [hg]; exact (below_size s1_) : w.heap.size ≤ gb752)); clear HB; obtain ⟨HB, BK752, GW752, GE752⟩ := n_; clear hb hbox hg; have hcz5_0 : w4.cell? ⟨gb752, 0, none⟩ = some (.int .i64 a0_0) := (blk_cell BK752.out 0).trans rfl; have hcz5_1 : w4.cell? ⟨gb752, 1, none⟩ = some (.slice A0_1 l0_1.length c0_1) := (blk_cell BK752.out 1).trans rfl; have hfz5_0 := blk_frozen BK752.out 0; have hfz5_1 := blk_frozen BK752.out 1) | (refine gL_ 135 10 Tryz.func135 #[.agg #[.int .i64 a0_0, .slice A0_1 l0_1.length c0_1], .int .i64 a1] ?_; (with_reducible refine (spec_l4Closure.calls k a0_0 _ _ l0_1 a1 t753 _ ?side1 ?side2 A3.out).mono ?_); (case side1 => repeat (first | exact (Kd.C_below HR0_1.out HB.out) | (with_reducible refine Kd.C_alloc ?_ _) | (with_reducible refine Kd.C_drewN ?_ _) | (with_reducible refine Kd.C_drew ?_))); (case side2 => exact HC0_1.out); rintro e w6 ⟨rfl, hb⟩; refine ⟨_, rfl, ?_⟩; have n_ := ac_ (blk_below (g := gb752) (o := .cells #[.int .i64 a0_0, .slice A0_1 l0_1.length c0_1] 29 (0, 0)) q9_28 hb) <| Aside0.mk (below_step q9_25 hb); clear BK752 HB; obtain ⟨BK752, HB⟩ := n_; (try clear hb)))
 go_loopg [5, 6] k (fun kq v5 v6 w' => ∃ (x5_1 : Int) (x6_1 : Int), v5 = .int .i64 x5_1 ∧ v6 = .int .i64 x6_1 ∧ Aside0 (spec_l12New.l0 kq a1 x5_1 x6_1 a0_0 l0_1 = some r) ∧ Aside0 (kq ≤ k) ∧ Aside0 (w'.heap[gb752]? = some (.cells #[.int .i64 a0_0, (.slice A0_1 l0_1.length c0_1)] 29 (0, 0))) ∧ Aside0 (Below w.heap.size w w'))
 case atStart => exact ⟨(wrap64 (t753 - a1)), (0), s2_, s2_, H', ⟨Nat.le_refl _⟩, ⟨q9_28⟩, ⟨q9_25⟩⟩
 case round =>
  clear H'
  try clear c1
  try clear c2
  try clear p2
  try clear p6
  try clear hcz5_0
  try clear hcz5_1
  try clear hfz5_0
  try clear hfz5_1
  obtain ⟨x5_1, x6_1, rfl, rfl, HA, HK1, BK752, HB⟩ := hrel
  cases gk with
  | zero => exact absurd HA.out (by simp [spec_l12New.l0])
  | succ k1 =>
   have H := HA.out; clear HA
   simp only [spec_l12New.l0] at H
   by_cases c7 : x6_1 < a0_0
   ·
    rw [if_pos c7] at H; have c7b0 : decide (x6_1 < a0_0) = true := decide_eq_true c7; clear c7; obtain ⟨t754, A8, H⟩ := bnd9_ H
    by_cases c9 : t754 = true
    ·
     subst c9; rw [if_pos rfl] at H; obtain ⟨ji10, hji10⟩ : ∃ j_ : Int, (IntKind.u64.wrap (x6_1)) = j_ := ⟨_, rfl⟩
     replace H : (if 0 ≤ (ji10) then ((spec_l4Closure.f k1 a0_0 l0_1 (wrap64 (a1 - (shl .i64 1 (ji10))))).bind fun t755 => (spec_l12New.l0 k1 a1 (wrap64 (x5_1 - (Go.bits .and .i64 x5_1 t755))) (wrap64 (x6_1 + 1)) a0_0 l0_1)) else (none)) = some r := by first | (rw [hji10] at H; exact H) | (simp only [hji10] at H ⊢; exact H)
     (try rw [hji10] at A8)
     by_cases c11 : 0 ≤ (ji10)
     ·
      rw [if_pos c11] at H; have c11b0 := eq_true c11; have c11b1 : decide (0 ≤ (ji10)) = true := decide_eq_true c11; clear c11; obtain ⟨ji12, hji12⟩ : ∃ j_ : Int, (shl .i64 1 (ji10)) = j_ := ⟨_, rfl⟩
      replace H : ((spec_l4Closure.f k1 a0_0 l0_1 (wrap64 (a1 - (ji12)))).bind fun t755 => (spec_l12New.l0 k1 a1 (wrap64 (x5_1 - (Go.bits .and .i64 x5_1 t755))) (wrap64 (x6_1 + 1)) a0_0 l0_1)) = some r := by first | (rw [hji12] at H; exact H) | (simp only [hji12] at H ⊢; exact H)
      (try rw [hji12] at A8)
      have hji12_ : (IntKind.i64.wrap (1 * 2 ^ min (ji10).toNat 64)) = ji12 := hji12; have hji12z : (ji10) ≤ 64 → (IntKind.i64.wrap (1 * 2 ^ (ji10).toNat)) = ji12 := shl_small hji12
      have hji12u : (IntKind.i64.wrap (2 ^ min (ji10).toNat 64)) = ji12 := by have h_ := hji12_; rw [Int.one_mul] at h_; exact h_
      have hji12v : (ji10) ≤ 64 → (IntKind.i64.wrap (2 ^ (ji10).toNat)) = ji12 := fun hle_ => by have h_ := hji12z hle_; rw [Int.one_mul] at h_; exact h_
      have hji12y : (wrap64 (1 * 2 ^ min (ji10).toNat 64)) = ji12 := (i64_w _).symm.trans hji12_
      have hji12x : (ji10) ≤ 64 → (wrap64 (1 * 2 ^ (ji10).toNat)) = ji12 := fun h_ => (i64_w _).symm.trans (hji12z h_)
      obtain ⟨t755, A13, H⟩ := bnd9_ H; have H' := Aside0.mk H; clear H; have hcz14_0 : wr.cell? ⟨gb752, 0, none⟩ = some (.int .i64 a0_0) := (blk_cell BK752.out 0).trans rfl; have hcz14_1 : wr.cell? ⟨gb752, 1, none⟩ = some (.slice A0_1 l0_1.length c0_1) := (blk_cell BK752.out 1).trans rfl; have hfz14_0 := blk_frozen BK752.out 0; have hfz14_1 := blk_frozen BK752.out 1
      go_wp2_with (first | (refine gL_ 215 21 Tryz.func215 #[.int .i64 a1, .int .i64 x6_1] ?_; (with_reducible refine (spec_l2Has.calls a1 x6_1 true _ A8.out).mono ?_); rintro e w' ⟨rfl, ⟨nd, rfl⟩⟩; refine ⟨_, rfl, ?_⟩) | ((with_reducible refine gate_callee (f := 135) rfl ?_); refine goesL_ (some 28) rfl rfl Tryz.func135 (by kernel_rfl) rfl #[.agg #[.int .i64 a0_0, .slice A0_1 l0_1.length c0_1], .int .i64 (wrap64 (a1 - (ji12)))] rfl (by (try simp only [List.map_toArray, List.map_cons, List.map_nil]); first | done | (simp only [hji12]; rfl) | rfl | (simp only [List.length_drop, List.length_take]; rfl)) ?_; (with_reducible refine (spec_l4Closure.calls k1 a0_0 _ _ l0_1 (wrap64 (a1 - (ji12))) t755 _ ?side1 ?side2 A13.out).mono ?_); (case side1 => repeat (first | exact (Kd.C_below HR0_1.out q9_25) | (with_reducible refine Kd.C_alloc ?_ _) | (with_reducible refine Kd.C_drewN ?_ _) | (with_reducible refine Kd.C_drew ?_))); (case side2 => exact HC0_1.out); rintro e w15 ⟨rfl, hb⟩; refine ⟨_, rfl, ?_⟩; have n_ := ac_ (blk_below (g := gb752) (o := .cells #[.int .i64 a0_0, .slice A0_1 l0_1.length c0_1] 29 (0, 0)) q9_28 hb) <| Aside0.mk (below_step q9_25 hb); clear BK752 HB; obtain ⟨BK752, HB⟩ := n_; (try clear hb)))
      go_roundg k1
      case measure => have := HK1.out; omega
      case rel => exact ⟨(wrap64 (x5_1 - (Go.bits .and .i64 x5_1 t755))), (wrap64 (x6_1 + 1)), s2_, s2_, H', ⟨by have := HK1.out; omega⟩, ⟨q9_28⟩, ⟨q9_25⟩⟩
     ·
      rw [if_neg c11] at H
      exact absurd H (by simp)
    ·
     replace c9 := Bool.eq_false_iff.mpr c9; subst c9
     rw [if_neg (show ¬ (false = true) by decide)] at H
     have H' := Aside0.mk H; clear H; have hcz16_0 : wr.cell? ⟨gb752, 0, none⟩ = some (.int .i64 a0_0) := (blk_cell BK752.out 0).trans rfl; have hcz16_1 : wr.cell? ⟨gb752, 1, none⟩ = some (.slice A0_1 l0_1.length c0_1) := (blk_cell BK752.out 1).trans rfl; have hfz16_0 := blk_frozen BK752.out 0; have hfz16_1 := blk_frozen BK752.out 1
     go_wp2_with (first | (refine gL_ 215 21 Tryz.func215 #[.int .i64 a1, .int .i64 x6_1] ?_; (with_reducible refine (spec_l2Has.calls a1 x6_1 false _ A8.out).mono ?_); rintro e w' ⟨rfl, ⟨nd, rfl⟩⟩; refine ⟨_, rfl, ?_⟩))
     go_roundg k1
     case measure => have := HK1.out; omega
     case rel => exact ⟨(x5_1), (wrap64 (x6_1 + 1)), s2_, s2_, H', ⟨by have := HK1.out; omega⟩, ⟨q9_28⟩, ⟨q9_25⟩⟩
   ·
    rw [if_neg c7] at H; have c7b0 : decide (x6_1 < a0_0) = false := decide_eq_false c7; clear c7; obtain rfl := Option.some.inj H; have hcz17_0 : wr.cell? ⟨gb752, 0, none⟩ = some (.int .i64 a0_0) := (blk_cell BK752.out 0).trans rfl; have hcz17_1 : wr.cell? ⟨gb752, 1, none⟩ = some (.slice A0_1 l0_1.length c0_1) := (blk_cell BK752.out 1).trans rfl; have hfz17_0 := blk_frozen BK752.out 0; have hfz17_1 := blk_frozen BK752.out 1
    go_wp2
    go_ret
    exact ⟨(by first | rfl | (simp [errW_none, errW_some] <;> rfl) | (simp [*, errW_none, errW_some] <;> rfl)), q9_25⟩
theorem q9_30 {P : Prop} (h : P := by repeat (first | exact (Kd.C_below HR0_1.out (by repeat (first | (with_reducible first | exact HB.out | apply below_alloc | apply pw_below_drewN | apply below_drew1 | refine below_set ?_ GE756.out) | exact HB.out))) | (with_reducible refine Kd.C_alloc ?_ _) | (with_reducible refine Kd.C_drewN ?_ _) | (with_reducible refine Kd.C_drew ?_))) : P := h
theorem q9_32 {P : Prop} (h : P := by repeat (first | (with_reducible first | exact HB.out | apply below_alloc | apply pw_below_drewN | apply below_drew1 | refine below_set ?_ GE756.out) | exact HB.out)) : P := h
theorem q9_35 {P : Prop} (h : P := by (with_reducible repeat (first | refine blk_drewN ?_ _ | refine blk_drew ?_ | refine blk_alloc ?_ _)); exact BK756.out) : P := h
theorem q9_36 {P : Prop} (h : P := by (with_reducible repeat (first | apply Kd.R_alloc | apply Kd.R_drewN | apply Kd.R_drew)); exact HO759.out) : P := h
def spec_ProperPremises.l0 : Nat → List Int → Int → Int → List Int → Option (List Int)
 | 0, _, _, _, _ => none
 | k + 1, x3, x4, x757000, x757001 => (spec_FullSet.f x757000).bind fun t761 => (if x4 ≤ t761 then ((spec_l12New.f k x757000 x757001 x4).bind fun t762 => (if t762 = 0 then (spec_ProperPremises.l0 k x3 (wrap64 (x4 + 1)) x757000 x757001) else (if x3.length < 17592186044416 then (spec_ProperPremises.l0 k (x3 ++ [x4]) (wrap64 (x4 + 1)) x757000 x757001) else (none)))) else ((spec_SortLectic.f k x3).bind fun t766 => (some t766)))
def spec_ProperPremises.f (k : Nat) (a0_0 : Int) (l0_1 : List Int) : Option (List Int) := (some (([] : List Int) : List Int)).bind fun y757 => ((spec_IsContext.f k a0_0 l0_1).bind fun t760 => (if t760 = true then (spec_ProperPremises.l0 k y757 0 a0_0 l0_1) else (some y757)))
set_option maxHeartbeats 8000000 in
set_option maxRecDepth 100000 in
theorem spec_ProperPremises.calls (k : Nat) (a0_0 : Int) (A0_1 : Option Addr) (c0_1 : Nat) (l0_1 : List Int) (r : List Int) (w : World) (hr0_1 : Kd.C (Kd.int .i64) w A0_1 l0_1.length l0_1) (hc0_1 : l0_1.length ≤ c0_1) (h : spec_ProperPremises.f k a0_0 l0_1 = some r) :
  Calls Tryz.prog 115 #[.agg #[.int .i64 a0_0, .slice A0_1 l0_1.length c0_1]] w fun e w' => ∃ v0_ : Value, e = .returned (v0_) ∧ Kd.R (Kd.int .i64) 3 w' w.heap.size (fun _ => True) v0_ r ∧ Below w.heap.size w w' := by
 have hu29 := Tryz.underlying29; have HR0_1 := Aside0.mk hr0_1; have HC0_1 := Aside0.mk hc0_1; clear hr0_1 hc0_1; have HB := Aside0.mk (Below.refl w.heap.size w); have H := h; clear h; unfold spec_ProperPremises.f at H; obtain ⟨y757, hy757⟩ : ∃ y_ : List Int, y_ = (([] : List Int)) := ⟨_, rfl⟩
 replace H : ((spec_IsContext.f k a0_0 l0_1).bind fun t760 => (if t760 = true then (spec_ProperPremises.l0 k y757 0 a0_0 l0_1) else (some y757))) = some r := by first | (rw [hy757]; with_reducible exact H) | (have H2_ := (Option.bind_some _ _).symm.trans H; rw [hy757]; with_reducible exact H2_) | (have H2_ := (Option.bind_some _ _).symm.trans H; with_reducible exact H2_) | with_reducible exact H | (rw [hy757]; exact H) | exact H
 have Ny757 := Aside0.mk hy757; clear hy757; obtain ⟨t760, A2, H⟩ := bnd9_ H
 by_cases c3 : t760 = true
 ·
  subst c3; rw [if_pos rfl] at H; have H' := Aside0.mk H; clear H
  go_enter Tryz.func115, Tryz.ntmps115
  go_wp2_with (first | ((with_reducible refine gate_dst (N := 1) rfl ?_); refine box_event ?hg (N := 1) ?hd (cs := #[.int .i64 a0_0, .slice A0_1 l0_1.length c0_1]) (t := 29) ?hr ?_; (case hd => rfl); (case hg => rfl); (case hr => first | (go_simp; done) | (go_simp; rfl)); intro gb756 hg w4 hbox hb; have n_ := ac_ (below_step s1_ hb) <| ac_ (hbox) <| ac_ ((by rw [hg]; exact (below_size s1_) : w.heap.size ≤ gb756)) <| Aside0.mk ((by rw [hg]; exact (below_size s1_) : w.heap.size ≤ gb756)); clear HB; obtain ⟨HB, BK756, GW756, GE756⟩ := n_; clear hb hbox hg) | ((with_reducible refine gate_dst (N := 5) rfl ?_); refine Kd.R_lit (Kd.int .i64) _ 3 ?hg (N := 5) ?hd (xs := ([] : List Int)) (inner := []) (ok := fun _ => True) (okp := fun _ => True) ?hr ?hp (fun _ hk => hk) trivial (Below.refl _ _) (Nat.le_refl _) (by simp) ?_; (case hd => rfl); (case hg => rfl); (case hr => first | (go_simp; done) | (go_simp; rfl)); (case hp => exact (Reps.none _ _)); intro v758 w5 ho6 hb hg_ hnew_; clear hg_ hnew_; (first | rw [← Ny757.out] at ho6 | (simp only [Int.reduceToNat] at ho6; rw [← Ny757.out] at ho6)); have n_ := ac_ (Kd.R_lower ho6 (below_size q9_32)) <| ac_ (blk_below (g := gb756) (o := .cells #[.int .i64 a0_0, .slice A0_1 l0_1.length c0_1] 29 (0, 0)) q9_35 hb) <| Aside0.mk (below_step q9_32 hb); clear BK756 HB; obtain ⟨HO759, BK756, HB⟩ := n_; clear hb ho6; have hcz7_0 : w5.cell? ⟨gb756, 0, none⟩ = some (.int .i64 a0_0) := (blk_cell BK756.out 0).trans rfl; have hcz7_1 : w5.cell? ⟨gb756, 1, none⟩ = some (.slice A0_1 l0_1.length c0_1) := (blk_cell BK756.out 1).trans rfl; have hfz7_0 := blk_frozen BK756.out 0; have hfz7_1 := blk_frozen BK756.out 1) | (refine gL_ 61 7 Tryz.func61 #[.agg #[.int .i64 a0_0, .slice A0_1 l0_1.length c0_1]] ?_; (with_reducible refine (spec_IsContext.calls k a0_0 _ _ l0_1 true _ ?side1 ?side2 A2.out).mono ?_); (case side1 => exact s4_); (case side2 => exact HC0_1.out); rintro e w8 ⟨rfl, hb⟩; refine ⟨_, rfl, ?_⟩; have n_ := ac_ (Kd.R_below q9_36 hb) <| ac_ (blk_below (g := gb756) (o := .cells #[.int .i64 a0_0, .slice A0_1 l0_1.length c0_1] 29 (0, 0)) q9_35 hb) <| Aside0.mk (below_step q9_32 hb); clear HO759 BK756 HB; obtain ⟨HO759, BK756, HB⟩ := n_; (try clear hb)))
  go_loopg [3, 4] k (fun kq v3 v4 w' => ∃ (x3_1 : List Int) (x4_1 : Int), v4 = .int .i64 x4_1 ∧ Aside0 (spec_ProperPremises.l0 kq x3_1 x4_1 a0_0 l0_1 = some r) ∧ Aside0 (kq ≤ k) ∧ Aside0 (Kd.R (Kd.int .i64) 3 w' w.heap.size (fun _ => True) v3 x3_1) ∧ Aside0 (w'.heap[gb756]? = some (.cells #[.int .i64 a0_0, (.slice A0_1 l0_1.length c0_1)] 29 (0, 0))) ∧ Aside0 (Below w.heap.size w w'))
  case atStart => exact ⟨(y757), (0), s2_, H', ⟨Nat.le_refl _⟩, ⟨q9_36⟩, ⟨q9_35⟩, ⟨q9_32⟩⟩
  case round =>
   clear H'
   try clear c1
   try clear p2
   try clear c3
   try clear c6
   try clear hcz7_0
   try clear hcz7_1
   try clear hfz7_0
   try clear hfz7_1
   obtain ⟨x3_1, x4_1, rfl, HA, HK1, HO_3, BK756, HB⟩ := hrel
   cases gk with
   | zero => exact absurd HA.out (by simp [spec_ProperPremises.l0])
   | succ k1 =>
    have H := HA.out; clear HA
    simp only [spec_ProperPremises.l0] at H
    obtain ⟨t761, A9, H⟩ := bnd9_ H
    by_cases c10 : x4_1 ≤ t761
    ·
     rw [if_pos c10] at H; have c10b0 : decide (x4_1 ≤ t761) = true := decide_eq_true c10; clear c10; obtain ⟨t762, A11, H⟩ := bnd9_ H
     by_cases c12 : t762 = 0
     ·
      rw [if_pos c12] at H; have c12b0 : (t762 == 0) = true := beq_iff_eq.mpr c12; have c12b1 : (t762 != 0) = false := bne_eq_false_iff_eq.mpr c12; clear c12; have H' := Aside0.mk H; clear H; have hcz13_0 : wr.cell? ⟨gb756, 0, none⟩ = some (.int .i64 a0_0) := (blk_cell BK756.out 0).trans rfl; have hcz13_1 : wr.cell? ⟨gb756, 1, none⟩ = some (.slice A0_1 l0_1.length c0_1) := (blk_cell BK756.out 1).trans rfl; have hfz13_0 := blk_frozen BK756.out 0; have hfz13_1 := blk_frozen BK756.out 1
      go_wp2_with (first | (refine gL_ 62 13 Tryz.func62 #[.int .i64 a0_0] ?_; (with_reducible refine (spec_FullSet.calls a0_0 t761 _ A9.out).mono ?_); rintro e w' ⟨rfl, ⟨nd, rfl⟩⟩; refine ⟨_, rfl, ?_⟩) | (refine gL_ 206 19 Tryz.func206 #[.agg #[.int .i64 a0_0, .slice A0_1 l0_1.length c0_1], .int .i64 x4_1] ?_; (with_reducible refine (spec_l12New.calls k1 a0_0 _ _ l0_1 x4_1 t762 _ ?side1 ?side2 A11.out).mono ?_); (case side1 => exact q9_30); (case side2 => exact HC0_1.out); rintro e w14 ⟨rfl, hb⟩; refine ⟨_, rfl, ?_⟩; have n_ := ac_ (Kd.R_below s9_ hb) <| ac_ (blk_below (g := gb756) (o := .cells #[.int .i64 a0_0, .slice A0_1 l0_1.length c0_1] 29 (0, 0)) q9_35 hb) <| Aside0.mk (below_step q9_32 hb); clear HO_3 BK756 HB; obtain ⟨HO_3, BK756, HB⟩ := n_; (try clear hb)))
      go_roundg k1
      case measure => have := HK1.out; omega
      case rel => exact ⟨(x3_1), (wrap64 (x4_1 + 1)), s2_, H', ⟨by have := HK1.out; omega⟩, ⟨s9_⟩, ⟨q9_35⟩, ⟨q9_32⟩⟩
     ·
      rw [if_neg c12] at H; have c12b0 : (t762 == 0) = false := beq_eq_false_iff_ne.mpr c12; have c12b1 : (t762 != 0) = true := bne_iff_ne.mpr c12
      by_cases c15 : x3_1.length < 17592186044416
      ·
       rw [if_pos c15] at H; have LMc15 := Aside0.mk c15; clear c15; obtain ⟨y763, hy763⟩ : ∃ y_ : List Int, y_ = (x3_1 ++ [x4_1]) := ⟨_, rfl⟩
       replace H : (spec_ProperPremises.l0 k1 y763 (wrap64 (x4_1 + 1)) a0_0 l0_1) = some r := by first | (rw [hy763]; with_reducible exact H) | (have H2_ := (Option.bind_some _ _).symm.trans H; rw [hy763]; with_reducible exact H2_) | (have H2_ := (Option.bind_some _ _).symm.trans H; with_reducible exact H2_) | with_reducible exact H | (rw [hy763]; exact H) | exact H
       have Ny763 := Aside0.mk hy763; clear hy763; have H' := Aside0.mk H; clear H; have hcz16_0 : wr.cell? ⟨gb756, 0, none⟩ = some (.int .i64 a0_0) := (blk_cell BK756.out 0).trans rfl; have hcz16_1 : wr.cell? ⟨gb756, 1, none⟩ = some (.slice A0_1 l0_1.length c0_1) := (blk_cell BK756.out 1).trans rfl; have hfz16_0 := blk_frozen BK756.out 0; have hfz16_1 := blk_frozen BK756.out 1
       go_wp2_with (first | (refine gL_ 62 13 Tryz.func62 #[.int .i64 a0_0] ?_; (with_reducible refine (spec_FullSet.calls a0_0 t761 _ A9.out).mono ?_); rintro e w' ⟨rfl, ⟨nd, rfl⟩⟩; refine ⟨_, rfl, ?_⟩) | (refine gL_ 206 19 Tryz.func206 #[.agg #[.int .i64 a0_0, .slice A0_1 l0_1.length c0_1], .int .i64 x4_1] ?_; (with_reducible refine (spec_l12New.calls k1 a0_0 _ _ l0_1 x4_1 t762 _ ?side1 ?side2 A11.out).mono ?_); (case side1 => exact q9_30); (case side2 => exact HC0_1.out); rintro e w17 ⟨rfl, hb⟩; refine ⟨_, rfl, ?_⟩; have n_ := ac_ (Kd.R_below s9_ hb) <| ac_ (blk_below (g := gb756) (o := .cells #[.int .i64 a0_0, .slice A0_1 l0_1.length c0_1] 29 (0, 0)) q9_35 hb) <| Aside0.mk (below_step q9_32 hb); clear HO_3 BK756 HB; obtain ⟨HO_3, BK756, HB⟩ := n_; (try clear hb)) | ((with_reducible refine gate_builtin (b := .append) (xs := #[.tmp 21, .tmp 23]) rfl ?_); at_builtin; refine Kd.R_append (Kd.int .i64) (w0 := w) w.heap.size rfl (.tmp 21) (.tmp 23) 27 3 (.int .i64 0) 8 rfl Tryz.underlying27 info3 rfl (by decide) (by omega) u3 x3_1 x4_1 [.int .i64 x4_1] (fun _ => True) (fun _ => False) rfl rfl ?aP (fun _ hk => hk.elim) ?aF ?aO ?aB ?aS ?aL ?_; (case aP => exact rfl); (case aB => exact q9_32); (case aF => exact (fun _ _ => trivial)); (case aO => exact s9_); (case aS => exact (below_size q9_32)); (case aL => have := LMc15.out; omega); intro v764 w18 ho hb hg hat; rw [← Ny763.out] at ho; have n_ := ac_ (blk_grown (g := gb756) (o := .cells #[.int .i64 a0_0, .slice A0_1 l0_1.length c0_1] 29 (0, 0)) q9_35 hg (Kd.R_ne HO_3.out BK756.out (by decide))) <| ac_ (hb) <| Aside0.mk (ho); clear BK756 HB HO_3; obtain ⟨BK756, HB, HO765⟩ := n_; clear ho hb hg hat))
       go_roundg k1
       case measure => have := HK1.out; omega
       case rel => exact ⟨(y763), (wrap64 (x4_1 + 1)), s2_, H', ⟨by have := HK1.out; omega⟩, ⟨(by (with_reducible repeat (first | apply Kd.R_alloc | apply Kd.R_drewN | apply Kd.R_drew)); exact HO765.out)⟩, ⟨q9_35⟩, ⟨q9_32⟩⟩
      ·
       rw [if_neg c15] at H
       exact absurd H (by simp)
    ·
     rw [if_neg c10] at H; have c10b0 : decide (x4_1 ≤ t761) = false := decide_eq_false c10; clear c10; obtain ⟨t766, A19, H⟩ := bnd9_ H; obtain rfl := Option.some.inj H; have hcz20_0 : wr.cell? ⟨gb756, 0, none⟩ = some (.int .i64 a0_0) := (blk_cell BK756.out 0).trans rfl; have hcz20_1 : wr.cell? ⟨gb756, 1, none⟩ = some (.slice A0_1 l0_1.length c0_1) := (blk_cell BK756.out 1).trans rfl; have hfz20_0 := blk_frozen BK756.out 0; have hfz20_1 := blk_frozen BK756.out 1
     go_wp2_with (first | (refine gL_ 62 13 Tryz.func62 #[.int .i64 a0_0] ?_; (with_reducible refine (spec_FullSet.calls a0_0 t761 _ A9.out).mono ?_); rintro e w' ⟨rfl, ⟨nd, rfl⟩⟩; refine ⟨_, rfl, ?_⟩; obtain ⟨Ao21, co21, eo21⟩ := Kd.R_slice HO_3.out; subst eo21) | (refine gL_ 139 26 Tryz.func139 #[.slice Ao21 x3_1.length co21] ?_; (with_reducible refine (spec_SortLectic.calls k1 _ _ x3_1 t766 _ ?side1 ?side2 A19.out).mono ?_); (case side1 => repeat (first | exact (Kd.R_reads' HO_3.out).2.2 | (with_reducible refine Kd.C_alloc ?_ _) | (with_reducible refine Kd.C_drewN ?_ _) | (with_reducible refine Kd.C_drew ?_))); (case side2 => exact (Kd.R_reads' HO_3.out).2.1); rintro e w22 ⟨v767, rfl, ho0, hb⟩; refine ⟨_, rfl, ?_⟩; have n_ := ac_ (Kd.R_elder' s9_ (Kd.R_base ho0) hb) <| ac_ (Kd.R_lower (Kd.R_new' ho0 (Kd.R_lt s9_)) (below_size q9_32)) <| ac_ (blk_below (g := gb756) (o := .cells #[.int .i64 a0_0, .slice A0_1 l0_1.length c0_1] 29 (0, 0)) q9_35 hb) <| Aside0.mk (below_step q9_32 hb); clear HO_3 BK756 HB; obtain ⟨HO_3, HO768, BK756, HB⟩ := n_; (try clear hb ho0)))
     go_ret
     exact ⟨_, (by first | rfl | (simp [errW_none, errW_some] <;> rfl) | (simp [*, errW_none, errW_some] <;> rfl)), (by (with_reducible repeat (first | apply Kd.R_alloc | apply Kd.R_drewN | apply Kd.R_drew)); exact Kd.R_mono HO768.out (fun _ hk => trivial)), q9_32⟩
 ·
  replace c3 := Bool.eq_false_iff.mpr c3; subst c3
  rw [if_neg (show ¬ (false = true) by decide)] at H
  obtain rfl := Option.some.inj H
  go_enter Tryz.func115, Tryz.ntmps115
  go_wp2_with (first | ((with_reducible refine gate_dst (N := 1) rfl ?_); refine box_event ?hg (N := 1) ?hd (cs := #[.int .i64 a0_0, .slice A0_1 l0_1.length c0_1]) (t := 29) ?hr ?_; (case hd => rfl); (case hg => rfl); (case hr => first | (go_simp; done) | (go_simp; rfl)); intro gb756 hg w23 hbox hb; have n_ := ac_ (below_step s1_ hb) <| ac_ (hbox) <| ac_ ((by rw [hg]; exact (below_size s1_) : w.heap.size ≤ gb756)) <| Aside0.mk ((by rw [hg]; exact (below_size s1_) : w.heap.size ≤ gb756)); clear HB; obtain ⟨HB, BK756, GW756, GE756⟩ := n_; clear hb hbox hg) | ((with_reducible refine gate_dst (N := 5) rfl ?_); refine Kd.R_lit (Kd.int .i64) _ 3 ?hg (N := 5) ?hd (xs := ([] : List Int)) (inner := []) (ok := fun _ => True) (okp := fun _ => True) ?hr ?hp (fun _ hk => hk) trivial (Below.refl _ _) (Nat.le_refl _) (by simp) ?_; (case hd => rfl); (case hg => rfl); (case hr => first | (go_simp; done) | (go_simp; rfl)); (case hp => exact (Reps.none _ _)); intro v758 w24 ho25 hb hg_ hnew_; clear hg_ hnew_; (first | rw [← Ny757.out] at ho25 | (simp only [Int.reduceToNat] at ho25; rw [← Ny757.out] at ho25)); have n_ := ac_ (Kd.R_lower ho25 (below_size q9_32)) <| ac_ (blk_below (g := gb756) (o := .cells #[.int .i64 a0_0, .slice A0_1 l0_1.length c0_1] 29 (0, 0)) q9_35 hb) <| Aside0.mk (below_step q9_32 hb); clear BK756 HB; obtain ⟨HO759, BK756, HB⟩ := n_; clear hb ho25; have hcz26_0 : w24.cell? ⟨gb756, 0, none⟩ = some (.int .i64 a0_0) := (blk_cell BK756.out 0).trans rfl; have hcz26_1 : w24.cell? ⟨gb756, 1, none⟩ = some (.slice A0_1 l0_1.length c0_1) := (blk_cell BK756.out 1).trans rfl; have hfz26_0 := blk_frozen BK756.out 0; have hfz26_1 := blk_frozen BK756.out 1) | (refine gL_ 61 7 Tryz.func61 #[.agg #[.int .i64 a0_0, .slice A0_1 l0_1.length c0_1]] ?_; (with_reducible refine (spec_IsContext.calls k a0_0 _ _ l0_1 false _ ?side1 ?side2 A2.out).mono ?_); (case side1 => exact s4_); (case side2 => exact HC0_1.out); rintro e w27 ⟨rfl, hb⟩; refine ⟨_, rfl, ?_⟩; have n_ := ac_ (Kd.R_below q9_36 hb) <| ac_ (blk_below (g := gb756) (o := .cells #[.int .i64 a0_0, .slice A0_1 l0_1.length c0_1] 29 (0, 0)) q9_35 hb) <| Aside0.mk (below_step q9_32 hb); clear HO759 BK756 HB; obtain ⟨HO759, BK756, HB⟩ := n_; (try clear hb)))
  go_ret
  exact ⟨_, (by first | rfl | (simp [errW_none, errW_some] <;> rfl) | (simp [*, errW_none, errW_some] <;> rfl)), q9_36, q9_32⟩
end Go.Proofs.YtafnamchckehmaaGreatDoor.Pr
