/- What the law needs of the program's functions as plain functions, of the proofs that their calls answer so, and of plain laws: gathered by a program of this place (pack.py) out of its printed texts. No condition beyond what each statement says. -/
import Derived.Test.YtafnamchckehmaaZFnReduced2
import Derived.Test.YtafnamchckehmaaZFnReduced3
import Derived.Test.YtafnamchckehmaaZFnReduced5
namespace Go.Proofs.Ytafnamchckehmaa.Pr
open Go.RowKit Go.Proofs.YtafnamchckehmaaW.PrintWords Go.Proofs.YtafnamchckehmaaW.PrintLast Go.Proofs.YtafnamchckehmaaW.PrintMore
attribute [local go_sem] max2_int min2_int max_two min_two max_three min_three max_four min_four
set_option linter.unusedVariables false
set_option linter.unusedSimpArgs false
theorem bnd5_ {α β : Type} {o : Option α} {f : α → Option β} {r : β} (h : o.bind f = some r) : ∃ a, Aside0 (o = some a) ∧ f a = some r := by
 obtain ⟨a, h1, h2⟩ := Option.bind_eq_some_iff.mp h
 exact ⟨a, ⟨h1⟩, h2⟩
def impl_beyond.l0 : Nat → Int → Int → List Int → Int → Int → Option (Int)
 | 0, _, _, _, _, _ => none
 | k + 1, x1, x2, x9, x10, x11 => if x11 < x10 then (if 0 ≤ x11 then (if x11 < (x9.length : Int) then (if (rd x9 x11) = x1 then (impl_beyond.l0 k x1 x2 x9 x10 (wrap64 (x11 + 1))) else ((impl_inSet.f x1 (rd x9 x11)).bind fun t289 => (if t289 = true then (impl_beyond.l0 k x1 (Go.bits .and .i64 x2 (rd x9 x11)) x9 x10 (wrap64 (x11 + 1))) else (impl_beyond.l0 k x1 x2 x9 x10 (wrap64 (x11 + 1)))))) else (none)) else (none)) else (some x2)
def impl_beyond.f (k : Nat) (l0 : List Int) (a1 : Int) (a2 : Int) : Option (Int) := impl_beyond.l0 k a1 a2 l0 (l0.length : Int) 0
set_option maxHeartbeats 8000000 in
set_option maxRecDepth 100000 in
theorem impl_beyond.calls (k : Nat) (A0 : Option Addr) (c0 : Nat) (l0 : List Int) (a1 : Int) (a2 : Int) (r : Int) (w : World) (hr0 : Kd.C (Kd.int .i64) w A0 l0.length l0) (hc0 : l0.length ≤ c0) (h : impl_beyond.f k l0 a1 a2 = some r) :
  Calls Try.prog 43 #[.slice A0 l0.length c0, .int .i64 a1, .int .i64 a2] w fun e w' => e = .returned (.int .i64 r) ∧ Drawn0 w w' := by
 have HR0 := Aside0.mk hr0; have HC0 := Aside0.mk hc0; clear hr0 hc0; have H := h; clear h; unfold impl_beyond.f at H; have H' := Aside0.mk H; clear H
 go_enter Try.func43, Try.ntmps43
 go_wp2
 go_loopg [2, 11] k (fun kq v2 v11 w' => ∃ (x2_1 : Int) (x11_1 : Int), v2 = .int .i64 x2_1 ∧ v11 = .int .i64 x11_1 ∧ Aside0 (impl_beyond.l0 kq a1 x2_1 l0 (l0.length : Int) x11_1 = some r) ∧ Aside0 (kq ≤ k) ∧ Drawn0 w w')
 case atStart => exact ⟨(a2), (0), s2_, s2_, H', ⟨Nat.le_refl _⟩, s9_⟩
 case round =>
  clear H'
  try clear p2
  obtain ⟨x2_1, x11_1, rfl, rfl, HA, HK1, ⟨m1, rfl⟩⟩ := hrel
  cases gk with
  | zero => exact absurd HA.out (by simp [impl_beyond.l0])
  | succ k1 =>
   have H := HA.out; clear HA
   simp only [impl_beyond.l0] at H
   by_cases c4 : x11_1 < (l0.length : Int)
   ·
    rw [if_pos c4] at H; have c4b0 : decide (x11_1 < (l0.length : Int)) = true := decide_eq_true c4; clear c4
    by_cases c5 : 0 ≤ x11_1
    ·
     rw [if_pos c5] at H; have c5b0 : decide (0 ≤ x11_1) = true := decide_eq_true c5; clear c5
     by_cases c6 : x11_1 < (l0.length : Int)
     ·
      rw [if_pos c6] at H; have c6b0 : decide (x11_1 < (l0.length : Int)) = true := decide_eq_true c6; clear c6
      by_cases c7 : (rd l0 x11_1) = a1
      ·
       rw [if_pos c7] at H; have c7b0 : ((rd l0 x11_1) == a1) = true := beq_iff_eq.mpr c7; have c7b1 : ((rd l0 x11_1) != a1) = false := bne_eq_false_iff_eq.mpr c7; clear c7; have H' := Aside0.mk H; clear H; have p288 : 0 ≤ (x11_1 : Int) := of_decide_eq_true s4_; have q288 : x11_1 < (l0.length : Int) := of_decide_eq_true s4_; obtain ⟨ad288, e288, hx288_0⟩ := Kd.at_int HR0.out x11_1 p288 q288
       cases e288
       replace p288 := eq_true p288; replace q288 := eq_true q288
       go_wp2
       go_roundg k1
       case measure => have := HK1.out; omega
       case rel => exact ⟨(x2_1), (wrap64 (x11_1 + 1)), s2_, s2_, H', ⟨by have := HK1.out; omega⟩, s9_⟩
      ·
       rw [if_neg c7] at H; have c7b0 : ((rd l0 x11_1) == a1) = false := beq_eq_false_iff_ne.mpr c7; have c7b1 : ((rd l0 x11_1) != a1) = true := bne_iff_ne.mpr c7; obtain ⟨t289, A8, H⟩ := bnd5_ H
       by_cases c9 : t289 = true
       ·
        subst c9; rw [if_pos rfl] at H; have H' := Aside0.mk H; clear H; have p288 : 0 ≤ (x11_1 : Int) := of_decide_eq_true s4_; have q288 : x11_1 < (l0.length : Int) := of_decide_eq_true s4_; obtain ⟨ad288, e288, hx288_0⟩ := Kd.at_int HR0.out x11_1 p288 q288
        cases e288
        replace p288 := eq_true p288; replace q288 := eq_true q288
        go_wp2_with (first | (go_at_call 49; (with_reducible refine (impl_inSet.calls a1 (rd l0 x11_1) true _ A8.out).mono ?_); rintro e w' ⟨rfl, ⟨nd, rfl⟩⟩))
        go_roundg k1
        case measure => have := HK1.out; omega
        case rel => exact ⟨(Go.bits .and .i64 x2_1 (rd l0 x11_1)), (wrap64 (x11_1 + 1)), s2_, s2_, H', ⟨by have := HK1.out; omega⟩, s9_⟩
       ·
        replace c9 := Bool.eq_false_iff.mpr c9; subst c9
        rw [if_neg (show ¬ (false = true) by decide)] at H
        have H' := Aside0.mk H; clear H; have p288 : 0 ≤ (x11_1 : Int) := of_decide_eq_true s4_; have q288 : x11_1 < (l0.length : Int) := of_decide_eq_true s4_; obtain ⟨ad288, e288, hx288_0⟩ := Kd.at_int HR0.out x11_1 p288 q288
        cases e288
        replace p288 := eq_true p288; replace q288 := eq_true q288
        go_wp2_with (first | (go_at_call 49; (with_reducible refine (impl_inSet.calls a1 (rd l0 x11_1) false _ A8.out).mono ?_); rintro e w' ⟨rfl, ⟨nd, rfl⟩⟩))
        go_roundg k1
        case measure => have := HK1.out; omega
        case rel => exact ⟨(x2_1), (wrap64 (x11_1 + 1)), s2_, s2_, H', ⟨by have := HK1.out; omega⟩, s9_⟩
     ·
      rw [if_neg c6] at H
      exact absurd H (by simp)
    ·
     rw [if_neg c5] at H
     exact absurd H (by simp)
   ·
    rw [if_neg c4] at H; have c4b0 : decide (x11_1 < (l0.length : Int)) = false := decide_eq_false c4; clear c4; obtain rfl := Option.some.inj H
    go_wp2
    go_ret
    exact ⟨s2_, s9_⟩
def spec_FullSet.f (a0 : Int) : Option (Int) := (spec_l1In.f a0 0 8).bind fun t322 => (if t322 = true then (if 0 ≤ (IntKind.u64.wrap (a0)) then (some (wrap64 ((shl .i64 1 (IntKind.u64.wrap (a0))) - 1))) else (none)) else (some 0))
set_option maxHeartbeats 8000000 in
set_option maxRecDepth 100000 in
theorem spec_FullSet.calls (a0 : Int) (r : Int) (w : World) (h : spec_FullSet.f a0 = some r) :
  Calls Try.prog 70 #[.int .i64 a0] w fun e w' => e = .returned (.int .i64 r) ∧ Drawn0 w w' := by
 have H := h; clear h; unfold spec_FullSet.f at H; obtain ⟨t322, A2, H⟩ := bnd5_ H
 by_cases c3 : t322 = true
 ·
  subst c3; rw [if_pos rfl] at H; obtain ⟨ji4, hji4⟩ : ∃ j_ : Int, (IntKind.u64.wrap (a0)) = j_ := ⟨_, rfl⟩
  replace H : (if 0 ≤ (ji4) then (some (wrap64 ((shl .i64 1 (ji4)) - 1))) else (none)) = some r := by first | (rw [hji4] at H; exact H) | (simp only [hji4] at H ⊢; exact H)
  (try rw [hji4] at A2)
  by_cases c5 : 0 ≤ (ji4)
  ·
   rw [if_pos c5] at H; have c5b0 := eq_true c5; have c5b1 : decide (0 ≤ (ji4)) = true := decide_eq_true c5; clear c5; obtain ⟨ji6, hji6⟩ : ∃ j_ : Int, (shl .i64 1 (ji4)) = j_ := ⟨_, rfl⟩
   replace H : (some (wrap64 ((ji6) - 1))) = some r := by first | (rw [hji6] at H; exact H) | (simp only [hji6] at H ⊢; exact H)
   (try rw [hji6] at A2)
   have hji6_ : (IntKind.i64.wrap (1 * 2 ^ min (ji4).toNat 64)) = ji6 := hji6; have hji6z : (ji4) ≤ 64 → (IntKind.i64.wrap (1 * 2 ^ (ji4).toNat)) = ji6 := shl_small hji6
   have hji6u : (IntKind.i64.wrap (2 ^ min (ji4).toNat 64)) = ji6 := by have h_ := hji6_; rw [Int.one_mul] at h_; exact h_
   have hji6v : (ji4) ≤ 64 → (IntKind.i64.wrap (2 ^ (ji4).toNat)) = ji6 := fun hle_ => by have h_ := hji6z hle_; rw [Int.one_mul] at h_; exact h_
   have hji6y : (wrap64 (1 * 2 ^ min (ji4).toNat 64)) = ji6 := (i64_w _).symm.trans hji6_
   have hji6x : (ji4) ≤ 64 → (wrap64 (1 * 2 ^ (ji4).toNat)) = ji6 := fun h_ => (i64_w _).symm.trans (hji6z h_)
   obtain rfl := Option.some.inj H
   go_enter Try.func70, Try.ntmps70
   go_wp2_with (first | (refine gL_ 53 4 Try.func53 #[.int .i64 a0, .int .i64 0, .int .i64 8] ?_; (with_reducible refine (spec_l1In.calls a0 0 8 true _ A2.out).mono ?_); rintro e w' ⟨rfl, ⟨nd, rfl⟩⟩; refine ⟨_, rfl, ?_⟩))
   go_ret
   exact ⟨(by first | rfl | (simp; done) | (simp only [← hji4, ← hji6] <;> (first | rfl | simp)) | (simp [*]; done)), (by repeat (first | exact Drawn0.refl _ | apply Drawn0.step))⟩
  ·
   rw [if_neg c5] at H
   exact absurd H (by simp)
 ·
  replace c3 := Bool.eq_false_iff.mpr c3; subst c3
  rw [if_neg (show ¬ (false = true) by decide)] at H
  obtain rfl := Option.some.inj H
  go_enter Try.func70, Try.ntmps70
  go_wp2_with (first | (refine gL_ 53 4 Try.func53 #[.int .i64 a0, .int .i64 0, .int .i64 8] ?_; (with_reducible refine (spec_l1In.calls a0 0 8 false _ A2.out).mono ?_); rintro e w' ⟨rfl, ⟨nd, rfl⟩⟩; refine ⟨_, rfl, ?_⟩))
  go_ret
  exact ⟨(by first | rfl | (simp; done) | (simp [*]; done) | (simp [i64_w, i32_w]; done)), (by repeat (first | exact Drawn0.refl _ | apply Drawn0.step))⟩
def spec_CountOf.l0 : Nat → Int → Int → Option (Int)
 | 0, _, _ => none
 | k + 1, x0, x3 => if x0 > 0 then (spec_CountOf.l0 k (x0 / 2) (wrap64 (x3 + (Go.bits .and .i64 x0 1)))) else (some x3)
def spec_CountOf.f (k : Nat) (a0 : Int) : Option (Int) := (spec_IsSet.f 8 a0).bind fun t323 => (if t323 = true then (spec_CountOf.l0 k a0 0) else (some 0))
theorem spec_CountOf.mono_l : ∀ k, (∀ y0 y1, LeO (spec_CountOf.l0 k y0 y1) (spec_CountOf.l0 (k + 1) y0 y1))
 | 0 => fun _ _ r h => by simp [spec_CountOf.l0] at h
 | k + 1 => by
  have ih0 := spec_CountOf.mono_l k
  ·
   intro y0 y1
   unfold spec_CountOf.l0
   with_reducible repeat' first | exact ih0 _ _ | exact LeO.refl _ | exact LeO.none _ | refine LeO.ite ?_ ?_ | refine LeO.bind ?_ (fun _ => ?_)
theorem spec_CountOf.mono : ∀ a0 k, LeO (spec_CountOf.f k a0) (spec_CountOf.f (k + 1) a0) := by
 intro a0 k
 have ih0 := spec_CountOf.mono_l k; unfold spec_CountOf.f
 with_reducible repeat' first | exact ih0 _ _ | exact LeO.refl _ | exact LeO.none _ | refine LeO.ite ?_ ?_ | refine LeO.bind ?_ (fun _ => ?_)
set_option maxHeartbeats 8000000 in
set_option maxRecDepth 100000 in
theorem spec_CountOf.calls (k : Nat) (a0 : Int) (r : Int) (w : World) (h : spec_CountOf.f k a0 = some r) :
  Calls Try.prog 71 #[.int .i64 a0] w fun e w' => e = .returned (.int .i64 r) ∧ Drawn0 w w' := by
 have H := h; clear h; unfold spec_CountOf.f at H; obtain ⟨t323, A2, H⟩ := bnd5_ H
 by_cases c3 : t323 = true
 ·
  subst c3; rw [if_pos rfl] at H; have H' := Aside0.mk H; clear H
  go_enter Try.func71, Try.ntmps71
  go_wp2_with (first | (refine gL_ 59 5 Try.func59 #[.int .i64 8, .int .i64 a0] ?_; (with_reducible refine (spec_IsSet.calls 8 a0 true _ A2.out).mono ?_); rintro e w' ⟨rfl, ⟨nd, rfl⟩⟩; refine ⟨_, rfl, ?_⟩))
  go_loopg [0, 3] k (fun kq v0 v3 w' => ∃ (x0_1 : Int) (x3_1 : Int), v0 = .int .i64 x0_1 ∧ v3 = .int .i64 x3_1 ∧ Aside0 (spec_CountOf.l0 kq x0_1 x3_1 = some r) ∧ Aside0 (kq ≤ k) ∧ Drawn0 w w')
  case atStart => exact ⟨(a0), (0), s2_, s2_, H', ⟨Nat.le_refl _⟩, s9_⟩
  case round =>
   clear H'
   try clear p2
   try clear c3
   obtain ⟨x0_1, x3_1, rfl, rfl, HA, HK1, ⟨m1, rfl⟩⟩ := hrel
   cases gk with
   | zero => exact absurd HA.out (by simp [spec_CountOf.l0])
   | succ k1 =>
    have H := HA.out; clear HA
    simp only [spec_CountOf.l0] at H
    by_cases c4 : x0_1 > 0
    ·
     rw [if_pos c4] at H; have c4b0 : decide (0 < x0_1) = true := decide_eq_true c4; clear c4; have H' := Aside0.mk H; clear H
     go_wp2
     go_roundg k1
     case measure => have := HK1.out; omega
     case rel => exact ⟨(x0_1 / 2), (wrap64 (x3_1 + (Go.bits .and .i64 x0_1 1))), s2_, s2_, H', ⟨by have := HK1.out; omega⟩, s9_⟩
    ·
     rw [if_neg c4] at H; have c4b0 : decide (0 < x0_1) = false := decide_eq_false c4; clear c4; obtain rfl := Option.some.inj H
     go_wp2
     go_ret
     exact ⟨s2_, s9_⟩
 ·
  replace c3 := Bool.eq_false_iff.mpr c3; subst c3
  rw [if_neg (show ¬ (false = true) by decide)] at H
  obtain rfl := Option.some.inj H
  go_enter Try.func71, Try.ntmps71
  go_wp2_with (first | (refine gL_ 59 5 Try.func59 #[.int .i64 8, .int .i64 a0] ?_; (with_reducible refine (spec_IsSet.calls 8 a0 false _ A2.out).mono ?_); rintro e w' ⟨rfl, ⟨nd, rfl⟩⟩; refine ⟨_, rfl, ?_⟩))
  go_ret
  exact ⟨s2_, s9_⟩
def spec_l2Has.f (a0 : Int) (a1 : Int) : Option (Bool) := if 0 ≤ (IntKind.u64.wrap (a1)) then (some ((Go.bits .and .i64 (shr .i64 a0 (IntKind.u64.wrap (a1))) 1) == 1)) else (none)
set_option maxHeartbeats 8000000 in
set_option maxRecDepth 100000 in
theorem spec_l2Has.calls (a0 : Int) (a1 : Int) (r : Bool) (w : World) (h : spec_l2Has.f a0 a1 = some r) :
  Calls Try.prog 57 #[.int .i64 a0, .int .i64 a1] w fun e w' => e = .returned (.bool r) ∧ Drawn0 w w' := by
 have H := h; clear h; unfold spec_l2Has.f at H; obtain ⟨ji3, hji3⟩ : ∃ j_ : Int, (IntKind.u64.wrap (a1)) = j_ := ⟨_, rfl⟩
 replace H : (if 0 ≤ (ji3) then (some ((Go.bits .and .i64 (shr .i64 a0 (ji3)) 1) == 1)) else (none)) = some r := by first | (rw [hji3] at H; exact H) | (simp only [hji3] at H ⊢; exact H)
 by_cases c4 : 0 ≤ (ji3)
 ·
  rw [if_pos c4] at H; have c4b0 := eq_true c4; have c4b1 : decide (0 ≤ (ji3)) = true := decide_eq_true c4; clear c4; obtain ⟨ji5, hji5⟩ : ∃ j_ : Int, (shr .i64 a0 (ji3)) = j_ := ⟨_, rfl⟩
  replace H : (some ((Go.bits .and .i64 (ji5) 1) == 1)) = some r := by first | (rw [hji5] at H; exact H) | (simp only [hji5] at H ⊢; exact H)
  have hji5_ : (a0 / 2 ^ min (ji3).toNat 64) = ji5 := hji5; have hji5z : (ji3) ≤ 64 → (a0 / 2 ^ (ji3).toNat) = ji5 := shr_small hji5; obtain rfl := Option.some.inj H
  go_enter Try.func57, Try.ntmps57
  go_wp2
  go_ret
  exact ⟨(by first | rfl | (simp; done) | (simp only [← hji3, ← hji5] <;> (first | rfl | simp)) | (simp [*]; done)), (by repeat (first | exact Drawn0.refl _ | apply Drawn0.step))⟩
 ·
  rw [if_neg c4] at H
  exact absurd H (by simp)
def spec_l7Pack.l0 : Nat → Int → Int → Int → Int → Int → Option (Int)
 | 0, _, _, _, _, _ => none
 | k + 1, x0, x1, x5, x6, x7 => if x7 < 8 then ((spec_l2Has.f x1 x7).bind fun t324 => (if t324 = true then ((spec_l2Has.f x0 x7).bind fun t325 => (if t325 = true then (if 0 ≤ (IntKind.u64.wrap (x6)) then (spec_l7Pack.l0 k x0 x1 (Go.bits .or .i64 x5 (shl .i64 1 (IntKind.u64.wrap (x6)))) (wrap64 (x6 + 1)) (wrap64 (x7 + 1))) else (none)) else (spec_l7Pack.l0 k x0 x1 x5 (wrap64 (x6 + 1)) (wrap64 (x7 + 1))))) else (spec_l7Pack.l0 k x0 x1 x5 x6 (wrap64 (x7 + 1))))) else (some x5)
def spec_l7Pack.f (k : Nat) (a0 : Int) (a1 : Int) : Option (Int) := spec_l7Pack.l0 k a0 a1 0 0 0
set_option maxHeartbeats 8000000 in
set_option maxRecDepth 100000 in
theorem spec_l7Pack.calls (k : Nat) (a0 : Int) (a1 : Int) (r : Int) (w : World) (h : spec_l7Pack.f k a0 a1 = some r) :
  Calls Try.prog 72 #[.int .i64 a0, .int .i64 a1] w fun e w' => e = .returned (.int .i64 r) ∧ Drawn0 w w' := by
 have H := h; clear h; unfold spec_l7Pack.f at H; have H' := Aside0.mk H; clear H
 go_enter Try.func72, Try.ntmps72
 go_wp2
 go_loopg [5, 6, 7] k (fun kq v5 v6 v7 w' => ∃ (x5_1 : Int) (x6_1 : Int) (x7_1 : Int), v5 = .int .i64 x5_1 ∧ v6 = .int .i64 x6_1 ∧ v7 = .int .i64 x7_1 ∧ Aside0 (spec_l7Pack.l0 kq a0 a1 x5_1 x6_1 x7_1 = some r) ∧ Aside0 (kq ≤ k) ∧ Drawn0 w w')
 case atStart => exact ⟨(0), (0), (0), s2_, s2_, s2_, H', ⟨Nat.le_refl _⟩, s9_⟩
 case round =>
  clear H'
  try clear p2
  obtain ⟨x5_1, x6_1, x7_1, rfl, rfl, rfl, HA, HK1, ⟨m1, rfl⟩⟩ := hrel
  cases gk with
  | zero => exact absurd HA.out (by simp [spec_l7Pack.l0])
  | succ k1 =>
   have H := HA.out; clear HA
   simp only [spec_l7Pack.l0] at H
   by_cases c3 : x7_1 < 8
   ·
    rw [if_pos c3] at H; have c3b0 : decide (x7_1 < 8) = true := decide_eq_true c3; clear c3; obtain ⟨t324, A4, H⟩ := bnd5_ H
    by_cases c5 : t324 = true
    ·
     subst c5; rw [if_pos rfl] at H; obtain ⟨t325, A6, H⟩ := bnd5_ H
     by_cases c7 : t325 = true
     ·
      subst c7; rw [if_pos rfl] at H; obtain ⟨ji8, hji8⟩ : ∃ j_ : Int, (IntKind.u64.wrap (x6_1)) = j_ := ⟨_, rfl⟩
      replace H : (if 0 ≤ (ji8) then (spec_l7Pack.l0 k1 a0 a1 (Go.bits .or .i64 x5_1 (shl .i64 1 (ji8))) (wrap64 (x6_1 + 1)) (wrap64 (x7_1 + 1))) else (none)) = some r := by first | (rw [hji8] at H; exact H) | (simp only [hji8] at H ⊢; exact H)
      (try rw [hji8] at A4)
      (try rw [hji8] at A6)
      by_cases c9 : 0 ≤ (ji8)
      ·
       rw [if_pos c9] at H; have c9b0 := eq_true c9; have c9b1 : decide (0 ≤ (ji8)) = true := decide_eq_true c9; clear c9; obtain ⟨ji10, hji10⟩ : ∃ j_ : Int, (shl .i64 1 (ji8)) = j_ := ⟨_, rfl⟩
       replace H : (spec_l7Pack.l0 k1 a0 a1 (Go.bits .or .i64 x5_1 (ji10)) (wrap64 (x6_1 + 1)) (wrap64 (x7_1 + 1))) = some r := by first | (rw [hji10] at H; exact H) | (simp only [hji10] at H ⊢; exact H)
       (try rw [hji10] at A4)
       (try rw [hji10] at A6)
       have hji10_ : (IntKind.i64.wrap (1 * 2 ^ min (ji8).toNat 64)) = ji10 := hji10; have hji10z : (ji8) ≤ 64 → (IntKind.i64.wrap (1 * 2 ^ (ji8).toNat)) = ji10 := shl_small hji10
       have hji10u : (IntKind.i64.wrap (2 ^ min (ji8).toNat 64)) = ji10 := by have h_ := hji10_; rw [Int.one_mul] at h_; exact h_
       have hji10v : (ji8) ≤ 64 → (IntKind.i64.wrap (2 ^ (ji8).toNat)) = ji10 := fun hle_ => by have h_ := hji10z hle_; rw [Int.one_mul] at h_; exact h_
       have hji10y : (wrap64 (1 * 2 ^ min (ji8).toNat 64)) = ji10 := (i64_w _).symm.trans hji10_
       have hji10x : (ji8) ≤ 64 → (wrap64 (1 * 2 ^ (ji8).toNat)) = ji10 := fun h_ => (i64_w _).symm.trans (hji10z h_)
       have H' := Aside0.mk H; clear H
       go_wp2_with (first | (refine gL_ 57 14 Try.func57 #[.int .i64 a1, .int .i64 x7_1] ?_; (with_reducible refine (spec_l2Has.calls a1 x7_1 true _ A4.out).mono ?_); rintro e w' ⟨rfl, ⟨nd, rfl⟩⟩; refine ⟨_, rfl, ?_⟩) | (refine gL_ 57 17 Try.func57 #[.int .i64 a0, .int .i64 x7_1] ?_; (with_reducible refine (spec_l2Has.calls a0 x7_1 true _ A6.out).mono ?_); rintro e w' ⟨rfl, ⟨nd, rfl⟩⟩; refine ⟨_, rfl, ?_⟩))
       go_roundg k1
       case measure => have := HK1.out; omega
       case rel => exact ⟨(Go.bits .or .i64 x5_1 (ji10)), (wrap64 (x6_1 + 1)), (wrap64 (x7_1 + 1)), (by first | rfl | (simp; done) | (simp only [← hji10] <;> (first | rfl | simp)) | (simp [*]; done)), s2_, s2_, H', ⟨by have := HK1.out; omega⟩, s9_⟩
      ·
       rw [if_neg c9] at H
       exact absurd H (by simp)
     ·
      replace c7 := Bool.eq_false_iff.mpr c7; subst c7
      rw [if_neg (show ¬ (false = true) by decide)] at H
      have H' := Aside0.mk H; clear H
      go_wp2_with (first | (refine gL_ 57 14 Try.func57 #[.int .i64 a1, .int .i64 x7_1] ?_; (with_reducible refine (spec_l2Has.calls a1 x7_1 true _ A4.out).mono ?_); rintro e w' ⟨rfl, ⟨nd, rfl⟩⟩; refine ⟨_, rfl, ?_⟩) | (refine gL_ 57 17 Try.func57 #[.int .i64 a0, .int .i64 x7_1] ?_; (with_reducible refine (spec_l2Has.calls a0 x7_1 false _ A6.out).mono ?_); rintro e w' ⟨rfl, ⟨nd, rfl⟩⟩; refine ⟨_, rfl, ?_⟩))
      go_roundg k1
      case measure => have := HK1.out; omega
      case rel => exact ⟨(x5_1), (wrap64 (x6_1 + 1)), (wrap64 (x7_1 + 1)), s2_, s2_, s2_, H', ⟨by have := HK1.out; omega⟩, s9_⟩
    ·
     replace c5 := Bool.eq_false_iff.mpr c5; subst c5
     rw [if_neg (show ¬ (false = true) by decide)] at H
     have H' := Aside0.mk H; clear H
     go_wp2_with (first | (refine gL_ 57 14 Try.func57 #[.int .i64 a1, .int .i64 x7_1] ?_; (with_reducible refine (spec_l2Has.calls a1 x7_1 false _ A4.out).mono ?_); rintro e w' ⟨rfl, ⟨nd, rfl⟩⟩; refine ⟨_, rfl, ?_⟩))
     go_roundg k1
     case measure => have := HK1.out; omega
     case rel => exact ⟨(x5_1), (x6_1), (wrap64 (x7_1 + 1)), s2_, s2_, s2_, H', ⟨by have := HK1.out; omega⟩, s9_⟩
   ·
    rw [if_neg c3] at H; have c3b0 : decide (x7_1 < 8) = false := decide_eq_false c3; clear c3; obtain rfl := Option.some.inj H
    go_wp2
    go_ret
    exact ⟨s2_, s9_⟩
theorem q5_11 {P : Prop} (h : P := by repeat (first | (with_reducible first | exact HB.out | apply below_alloc | apply pw_below_drewN | apply below_drew1 | refine below_set ?_ GE326.out | refine below_set ?_ GE327.out | refine below_set ?_ GE332.out) | exact HB.out)) : P := h
theorem q5_12 {P : Prop} (h : P := by repeat (first | (with_reducible first | exact HB.out | apply below_alloc | apply pw_below_drewN | apply below_drew1 | refine below_set ?_ GE326.out | refine below_set ?_ GE327.out) | exact HB.out)) : P := h
theorem q5_14 {P : Prop} (h : P := by repeat (first | (with_reducible first | exact HB.out | apply below_alloc | apply pw_below_drewN | apply below_drew1 | refine below_set ?_ GE326.out) | exact HB.out)) : P := h
theorem q5_18 {P : Prop} (h : P := by (with_reducible repeat (first | refine blk_drewN ?_ _ | refine blk_drew ?_ | refine blk_alloc ?_ _)); exact BK326.out) : P := h
theorem q5_19 {P : Prop} (h : P := by (with_reducible repeat (first | refine blk_drewN ?_ _ | refine blk_drew ?_ | refine blk_alloc ?_ _)); exact BK327.out) : P := h
mutual
def spec_DropAttributes.j0 : Nat → Int → Bool → Int → List Int → Option (Int × List Int × Bool)
 | 0, _, _, _, _ => none
 | k + 1, x1, x18, x327000, x327001 => if x18 = true then (some (0, ([] : List Int), false)) else ((spec_FullSet.f x327000).bind fun t330 => ((spec_CountOf.f k (wrap64 (t330 - x1))).bind fun t331 => (spec_DropAttributes.l0 k (wrap64 (t330 - x1)) 0 x327000 x327001 t331 ([] : List Int))))
def spec_DropAttributes.l0 : Nat → Int → Int → Int → List Int → Int → List Int → Option (Int × List Int × Bool)
 | 0, _, _, _, _, _, _ => none
 | k + 1, x6, x8, x327000, x327001, x333000, x333001 => if x8 < (x327001.length : Int) then (if 0 ≤ x8 then ((spec_l7Pack.f k (rd x327001 x8) x6).bind fun t334 => (if x333001.length < 17592186044416 then (spec_DropAttributes.l0 k x6 (wrap64 (x8 + 1)) x327000 x327001 x333000 (x333001 ++ [t334])) else (none))) else (none)) else (some (x333000, x333001, true))
end
def spec_DropAttributes.f (k : Nat) (a0_0 : Int) (l0_1 : List Int) (a1 : Int) : Option (Int × List Int × Bool) := (spec_IsContext.f k a0_0 l0_1).bind fun t328 => (if t328 = true then ((spec_IsSet.f a0_0 a1).bind fun t329 => (spec_DropAttributes.j0 k a1 (!t329) a0_0 l0_1)) else (spec_DropAttributes.j0 k a1 true a0_0 l0_1))
def spec_DropAttributes.T8 : Bool × List (List Nat × List Nat) := (true, [([], []), ([0], [0]), ([], []), ([2], [2]), ([], []), ([3, 4], [3, 4]), ([5], [5]), ([], []), ([6, 7], [6, 7]), ([8], [8]), ([1, 9, 8], [1, 9]), ([0, 1, 2, 3, 4, 5, 6, 7, 8, 9, 10], []), ([11, 10, 10, 0, 1, 2, 3, 4, 5, 6, 7, 8, 9, 10], [10, 11])])
def spec_DropAttributes.B8 : List Nat := [0, 1, 0, 4, 0, 28, 60, 0, 252, 508, 1023, 2047, 4095]
theorem spec_DropAttributes.tab8 : rtab .any (opsOf Try.f33 8) = spec_DropAttributes.T8 := by kernel_rfl
theorem spec_DropAttributes.bits8 : waitsOk spec_DropAttributes.T8.2 spec_DropAttributes.B8 = true := by kernel_rfl
set_option maxHeartbeats 8000000 in
set_option maxRecDepth 100000 in
theorem spec_DropAttributes.calls (k : Nat) (a0_0 : Int) (A0_1 : Option Addr) (c0_1 : Nat) (l0_1 : List Int) (a1 : Int) (r1 : Int) (r2 : List Int) (r3 : Bool) (w : World) (hr0_1 : Kd.C (Kd.int .i64) w A0_1 l0_1.length l0_1) (hc0_1 : l0_1.length ≤ c0_1) (h : spec_DropAttributes.f k a0_0 l0_1 a1 = some (r1, r2, r3)) :
  Calls Try.prog 33 #[.agg #[.int .i64 a0_0, .slice A0_1 l0_1.length c0_1], .int .i64 a1] w fun e w' => ∃ v1_ : Value, e = .returned (.tuple #[.agg #[.int .i64 r1, v1_], .bool r3]) ∧ Kd.R (Kd.int .i64) 3 w' w.heap.size (fun _ => True) v1_ r2 ∧ Below w.heap.size w w' := by
 have hu26 := Try.underlying26; have HR0_1 := Aside0.mk hr0_1; have HC0_1 := Aside0.mk hc0_1; clear hr0_1 hc0_1; have HB := Aside0.mk (Below.refl w.heap.size w); have H := h; clear h; unfold spec_DropAttributes.f at H; have HC3 := Aside0.mk H; clear H
 go_enter Try.func33, Try.ntmps33
 go_upto_region 1 with (first | (refine be_ 2 #[.int .i64 a0_0, .slice A0_1 l0_1.length c0_1] 26 ?_; intro gb326 hg w4 hbox hb; have n_ := ac_ (below_step s1_ hb) <| ac_ (hbox) <| ac_ ((gz_ w hg s1_)) <| Aside0.mk ((gz_ w hg s1_)); clear HB; obtain ⟨HB, BK326, GW326, GE326⟩ := n_; clear hb hbox hg) | (refine be_ 4 #[.int .i64 0, .slice none 0 0] 26 ?_; intro gb327 hg w5 hbox hb; have n_ := ac_ (blk_below (g := gb326) (o := .cells #[.int .i64 a0_0, .slice A0_1 l0_1.length c0_1] 26 (0, 0)) q5_18 hb) <| ac_ (below_step q5_14 hb) <| ac_ (hbox) <| ac_ ((gz_ w hg q5_14)) <| ac_ ((gz_ w hg q5_14)) <| ac_ ((nl_ hg (blk_lt (g := gb326) (o := .cells #[.int .i64 a0_0, .slice A0_1 l0_1.length c0_1] 26 (0, 0)) q5_18))) <| Aside0.mk ((ng_ hg (blk_lt (g := gb326) (o := .cells #[.int .i64 a0_0, .slice A0_1 l0_1.length c0_1] 26 (0, 0)) q5_18))); clear BK326 HB; obtain ⟨BK326, HB, BK327, GW327, GE327, NB326_327, NB327_326⟩ := n_; clear hb hbox hg))
 (try simp only [Act.put, List.setIfInBounds_toArray, List.set_cons_zero, List.set_cons_succ])
 go_cut [18] (fun v18 wc => ∃ (kq : Nat) (x18_2 : Bool), v18 = .bool x18_2 ∧ Aside0 (spec_DropAttributes.j0 kq a1 x18_2 a0_0 l0_1 = some (r1, r2, r3)) ∧ Aside0 (kq ≤ k) ∧ Aside0 (wc.heap[gb326]? = some (.cells #[.int .i64 a0_0, (.slice A0_1 l0_1.length c0_1)] 26 (0, 0))) ∧ Aside0 (wc.heap[gb327]? = some (.cells #[.int .i64 0, (.slice none 0 0)] 26 (0, 0))) ∧ Aside0 (Below w.heap.size w wc))
 case first =>
  have H := HC3.out; clear HC3; obtain ⟨t328, A6, H⟩ := bnd5_ H
  by_cases c7 : t328 = true
  ·
   subst c7; rw [if_pos rfl] at H; obtain ⟨t329, A8, H⟩ := bnd5_ H; have H' := Aside0.mk H; clear H; have hnb9 := NB326_327.out; have hnc9 := NB327_326.out; have hcz10_0 : w5.cell? ⟨gb326, 0, none⟩ = some (.int .i64 a0_0) := (blk_cell BK326.out 0).trans rfl; have hcz10_1 : w5.cell? ⟨gb326, 1, none⟩ = some (.slice A0_1 l0_1.length c0_1) := (blk_cell BK326.out 1).trans rfl; have hfz10_0 := blk_frozen BK326.out 0; have hfz10_1 := blk_frozen BK326.out 1
   go_wp2_with (first | (refine gL_ 20 10 Try.func20 #[.agg #[.int .i64 a0_0, .slice A0_1 l0_1.length c0_1]] ?_; (with_reducible refine (spec_IsContext.calls k a0_0 _ _ l0_1 true _ ?side1 ?side2 A6.out).mono ?_); (case side1 => exact s3_); (case side2 => exact HC0_1.out); rintro e w11 ⟨rfl, hb⟩; refine ⟨_, rfl, ?_⟩; have n_ := ac_ (blk_below (g := gb326) (o := .cells #[.int .i64 a0_0, .slice A0_1 l0_1.length c0_1] 26 (0, 0)) q5_18 hb) <| ac_ (blk_below (g := gb327) (o := .cells #[.int .i64 0, .slice none 0 0] 26 (0, 0)) q5_19 hb) <| Aside0.mk (below_step q5_12 hb); clear BK326 BK327 HB; obtain ⟨BK326, BK327, HB⟩ := n_; (try clear hb); have hcz12_0 : w11.cell? ⟨gb326, 0, none⟩ = some (.int .i64 a0_0) := (blk_cell BK326.out 0).trans rfl; have hcz12_1 : w11.cell? ⟨gb326, 1, none⟩ = some (.slice A0_1 l0_1.length c0_1) := (blk_cell BK326.out 1).trans rfl; have hfz12_0 := blk_frozen BK326.out 0; have hfz12_1 := blk_frozen BK326.out 1) | (go_at_call 59; (with_reducible refine (spec_IsSet.calls a0_0 a1 t329 _ A8.out).mono ?_); rintro e w' ⟨rfl, ⟨nd, rfl⟩⟩))
   go_meet
   case rel => exact ⟨_, (!t329), s2_, H', ⟨(by first | omega | exact Nat.le_refl _)⟩, ⟨q5_18⟩, ⟨q5_19⟩, ⟨q5_12⟩⟩
  ·
   replace c7 := Bool.eq_false_iff.mpr c7; subst c7
   rw [if_neg (show ¬ (false = true) by decide)] at H
   have H' := Aside0.mk H; clear H; have hnb13 := NB326_327.out; have hnc13 := NB327_326.out; have hcz14_0 : w5.cell? ⟨gb326, 0, none⟩ = some (.int .i64 a0_0) := (blk_cell BK326.out 0).trans rfl; have hcz14_1 : w5.cell? ⟨gb326, 1, none⟩ = some (.slice A0_1 l0_1.length c0_1) := (blk_cell BK326.out 1).trans rfl; have hfz14_0 := blk_frozen BK326.out 0; have hfz14_1 := blk_frozen BK326.out 1
   go_wp2_with (first | (refine gL_ 20 10 Try.func20 #[.agg #[.int .i64 a0_0, .slice A0_1 l0_1.length c0_1]] ?_; (with_reducible refine (spec_IsContext.calls k a0_0 _ _ l0_1 false _ ?side1 ?side2 A6.out).mono ?_); (case side1 => exact s3_); (case side2 => exact HC0_1.out); rintro e w15 ⟨rfl, hb⟩; refine ⟨_, rfl, ?_⟩; have n_ := ac_ (blk_below (g := gb326) (o := .cells #[.int .i64 a0_0, .slice A0_1 l0_1.length c0_1] 26 (0, 0)) q5_18 hb) <| ac_ (blk_below (g := gb327) (o := .cells #[.int .i64 0, .slice none 0 0] 26 (0, 0)) q5_19 hb) <| Aside0.mk (below_step q5_12 hb); clear BK326 BK327 HB; obtain ⟨BK326, BK327, HB⟩ := n_; (try clear hb)))
   go_meet
   case rel => exact ⟨_, (true), s2_, H', ⟨(by first | omega | exact Nat.le_refl _)⟩, ⟨q5_18⟩, ⟨q5_19⟩, ⟨q5_12⟩⟩
 case rest =>
  clear HC3
  try clear c1
  try clear c2
  try clear p2
  try clear c3
  try clear c7
  try clear c9
  try clear c13
  try clear hcz10_0
  try clear hcz10_1
  try clear hcz12_0
  try clear hcz12_1
  try clear hcz14_0
  try clear hcz14_1
  try clear hfz10_0
  try clear hfz10_1
  try clear hfz12_0
  try clear hfz12_1
  try clear hfz14_0
  try clear hfz14_1
  obtain ⟨kq, x18_2, rfl, HA, HJ2, BK326, BK327, HB⟩ := hcut
  cases kq with
  | zero => exact absurd HA.out (by simp [spec_DropAttributes.j0])
  | succ kj2 =>
   have H := HA.out; clear HA
   simp only [spec_DropAttributes.j0] at H
   by_cases c16 : x18_2 = true
   ·
    subst c16; rw [if_pos rfl] at H
    simp only [Option.some.injEq, Prod.mk.injEq] at H
    obtain ⟨rfl, rfl, rfl⟩ := H; have hnb17 := NB327_326.out; have hnc17 := NB326_327.out; have hcz18_0 : wc.cell? ⟨gb327, 0, none⟩ = some (.int .i64 0) := (blk_cell BK327.out 0).trans rfl; have hcz18_1 : wc.cell? ⟨gb327, 1, none⟩ = some (.slice none 0 0) := (blk_cell BK327.out 1).trans rfl; have hfz18_0 := blk_frozen BK327.out 0; have hfz18_1 := blk_frozen BK327.out 1
    go_wp2
    refine bodyPost_ret (results_ct rfl _ _ gb327 26 #[.int .i64 0, .slice none 0 0] (0, 0) _ rfl (by (with_reducible repeat (first | refine blk_drewN ?_ _ | refine blk_drew ?_ | refine blk_alloc ?_ _)); refine blk_put (cs := #[.int .i64 0, .slice none 0 0]) ?_ 1 _ rfl; (with_reducible repeat (first | refine blk_drewN ?_ _ | refine blk_drew ?_ | refine blk_alloc ?_ _)); refine blk_put (cs := #[.int .i64 0, .slice none 0 0]) ?_ 0 _ rfl; (with_reducible repeat (first | refine blk_drewN ?_ _ | refine blk_drew ?_ | refine blk_alloc ?_ _)); exact BK327.out) Try.underlying26 rfl (by kernel_rfl)) rfl ?_
    exact ⟨_, (by first | rfl | (simp [errW_none, errW_some] <;> rfl) | (simp [*, errW_none, errW_some] <;> rfl)), s13_, q5_12⟩
   ·
    replace c16 := Bool.eq_false_iff.mpr c16; subst c16
    rw [if_neg (show ¬ (false = true) by decide)] at H
    obtain ⟨t330, A19, H⟩ := bnd5_ H; obtain ⟨t331, A20, H⟩ := bnd5_ H; have H' := Aside0.mk H; clear H; have hnb21 := NB326_327.out; have hnc21 := NB327_326.out; have hcz22_0 : wc.cell? ⟨gb326, 0, none⟩ = some (.int .i64 a0_0) := (blk_cell BK326.out 0).trans rfl; have hcz22_1 : wc.cell? ⟨gb326, 1, none⟩ = some (.slice A0_1 l0_1.length c0_1) := (blk_cell BK326.out 1).trans rfl; have hfz22_0 := blk_frozen BK326.out 0; have hfz22_1 := blk_frozen BK326.out 1
    go_wp2_with (first | (refine gL_ 70 22 Try.func70 #[.int .i64 a0_0] ?_; (with_reducible refine (spec_FullSet.calls a0_0 t330 _ A19.out).mono ?_); rintro e w' ⟨rfl, ⟨nd, rfl⟩⟩; refine ⟨_, rfl, ?_⟩; (try (rw [drewN_self wc]; generalize hq_ : World.drewN wc _ = wc; have n0_ : Aside0 (wc.heap[gb326]? = some (.cells #[.int .i64 a0_0, .slice A0_1 l0_1.length c0_1] 26 (0, 0))) := ⟨by rw [← hq_]; exact q5_18⟩; have n1_ : Aside0 (wc.heap[gb327]? = some (.cells #[.int .i64 0, .slice none 0 0] 26 (0, 0))) := ⟨by rw [← hq_]; exact q5_19⟩; have n2_ : Aside0 (Below w.heap.size w wc) := ⟨by rw [← hq_]; exact q5_12⟩; clear BK326 BK327 HB hq_; have BK326 := n0_; have BK327 := n1_; have HB := n2_; clear n0_ n1_ n2_))) | (refine gL_ 71 26 Try.func71 #[.int .i64 (wrap64 (t330 - a1))] ?_; (with_reducible refine (spec_CountOf.calls kj2 (wrap64 (t330 - a1)) t331 _ A20.out).mono ?_); rintro e w' ⟨rfl, ⟨nd, rfl⟩⟩; refine ⟨_, rfl, ?_⟩; (try (rw [drewN_self wc]; generalize hq_ : World.drewN wc _ = wc; have n0_ : Aside0 (wc.heap[gb326]? = some (.cells #[.int .i64 a0_0, .slice A0_1 l0_1.length c0_1] 26 (0, 0))) := ⟨by rw [← hq_]; exact q5_18⟩; have n1_ : Aside0 (wc.heap[gb327]? = some (.cells #[.int .i64 0, .slice none 0 0] 26 (0, 0))) := ⟨by rw [← hq_]; exact q5_19⟩; have n2_ : Aside0 (Below w.heap.size w wc) := ⟨by rw [← hq_]; exact q5_12⟩; clear BK326 BK327 HB hq_; have BK326 := n0_; have BK327 := n1_; have HB := n2_; clear n0_ n1_ n2_))) | (refine be_ 7 #[.int .i64 0, .slice none 0 0] 26 ?_; intro gb332 hg w23 hbox hb; have n_ := ac_ (blk_below (g := gb326) (o := .cells #[.int .i64 a0_0, .slice A0_1 l0_1.length c0_1] 26 (0, 0)) q5_18 hb) <| ac_ (blk_below (g := gb327) (o := .cells #[.int .i64 0, .slice none 0 0] 26 (0, 0)) q5_19 hb) <| ac_ (below_step q5_12 hb) <| ac_ (hbox) <| ac_ ((gz_ w hg q5_12)) <| ac_ ((gz_ w hg q5_12)) <| ac_ ((nl_ hg (blk_lt (g := gb326) (o := .cells #[.int .i64 a0_0, .slice A0_1 l0_1.length c0_1] 26 (0, 0)) q5_18))) <| ac_ ((ng_ hg (blk_lt (g := gb326) (o := .cells #[.int .i64 a0_0, .slice A0_1 l0_1.length c0_1] 26 (0, 0)) q5_18))) <| ac_ ((nl_ hg (blk_lt (g := gb327) (o := .cells #[.int .i64 0, .slice none 0 0] 26 (0, 0)) q5_19))) <| Aside0.mk ((ng_ hg (blk_lt (g := gb327) (o := .cells #[.int .i64 0, .slice none 0 0] 26 (0, 0)) q5_19))); clear BK326 BK327 HB; obtain ⟨BK326, BK327, HB, BK332, GW332, GE332, NB326_332, NB332_326, NB327_332, NB332_327⟩ := n_; clear hb hbox hg; have hnb24 := NB332_326.out; have hnc24 := NB326_332.out; have hnb25 := NB332_327.out; have hnc25 := NB327_332.out; have hcz26_0 : w23.cell? ⟨gb332, 0, none⟩ = some (.int .i64 0) := (blk_cell BK332.out 0).trans rfl; have hcz26_1 : w23.cell? ⟨gb332, 1, none⟩ = some (.slice none 0 0) := (blk_cell BK332.out 1).trans rfl; have hfz26_0 := blk_frozen BK332.out 0; have hfz26_1 := blk_frozen BK332.out 1))
    go_loopg [8] kj2 (fun kq v8 w' => ∃ (x8_2 : Int) (x333001_2 : List Int) (u333001 : Value), v8 = .int .i64 x8_2 ∧ Aside0 (spec_DropAttributes.l0 kq (wrap64 (t330 - a1)) x8_2 a0_0 l0_1 t331 x333001_2 = some (r1, r2, r3)) ∧ Aside0 (kq ≤ kj2) ∧ Aside0 (Kd.R (Kd.int .i64) 3 w' w.heap.size (fun _ => True) u333001 x333001_2) ∧ Aside0 (w'.heap[gb326]? = some (.cells #[.int .i64 a0_0, (.slice A0_1 l0_1.length c0_1)] 26 (0, 0))) ∧ Aside0 (w'.heap[gb327]? = some (.cells #[.int .i64 0, (.slice none 0 0)] 26 (0, 0))) ∧ Aside0 (w'.heap[gb332]? = some (.cells #[.int .i64 t331, u333001] 26 (0, 0))) ∧ Aside0 (Below w.heap.size w w'))
    case atStart => exact ⟨(0), (([] : List Int)), (.slice none 0 0), s2_, H', ⟨Nat.le_refl _⟩, ⟨s13_⟩, ⟨(by (with_reducible repeat (first | refine blk_drewN ?_ _ | refine blk_drew ?_ | refine blk_alloc ?_ _)); refine blk_far ?_ NB326_332.out _; (with_reducible repeat (first | refine blk_drewN ?_ _ | refine blk_drew ?_ | refine blk_alloc ?_ _)); refine blk_far ?_ NB326_332.out _; (with_reducible repeat (first | refine blk_drewN ?_ _ | refine blk_drew ?_ | refine blk_alloc ?_ _)); exact BK326.out)⟩, ⟨(by (with_reducible repeat (first | refine blk_drewN ?_ _ | refine blk_drew ?_ | refine blk_alloc ?_ _)); refine blk_far ?_ NB327_332.out _; (with_reducible repeat (first | refine blk_drewN ?_ _ | refine blk_drew ?_ | refine blk_alloc ?_ _)); refine blk_far ?_ NB327_332.out _; (with_reducible repeat (first | refine blk_drewN ?_ _ | refine blk_drew ?_ | refine blk_alloc ?_ _)); exact BK327.out)⟩, ⟨(by (with_reducible repeat (first | refine blk_drewN ?_ _ | refine blk_drew ?_ | refine blk_alloc ?_ _)); refine blk_put (cs := #[.int .i64 t331, .slice none 0 0]) ?_ 1 _ rfl; (with_reducible repeat (first | refine blk_drewN ?_ _ | refine blk_drew ?_ | refine blk_alloc ?_ _)); refine blk_put (cs := #[.int .i64 0, .slice none 0 0]) ?_ 0 _ rfl; (with_reducible repeat (first | refine blk_drewN ?_ _ | refine blk_drew ?_ | refine blk_alloc ?_ _)); exact BK332.out)⟩, ⟨q5_11⟩⟩
    case round =>
     clear H'
     try clear c1
     try clear c2
     try clear p2
     try clear c3
     try clear p6
     try clear c7
     try clear c9
     try clear c13
     try clear c16
     try clear c17
     try clear c20
     try clear c21
     try clear c24
     try clear c25
     try clear hcz10_0
     try clear hcz10_1
     try clear hcz12_0
     try clear hcz12_1
     try clear hcz14_0
     try clear hcz14_1
     try clear hcz18_0
     try clear hcz18_1
     try clear hcz22_0
     try clear hcz22_1
     try clear hcz26_0
     try clear hcz26_1
     try clear hfz10_0
     try clear hfz10_1
     try clear hfz12_0
     try clear hfz12_1
     try clear hfz14_0
     try clear hfz14_1
     try clear hfz18_0
     try clear hfz18_1
     try clear hfz22_0
     try clear hfz22_1
     try clear hfz26_0
     try clear hfz26_1
     try clear p2
     obtain ⟨x8_2, x333001_2, u333001, rfl, HA, HK2, HO_333001, BK326, BK327, BK332, HB⟩ := hrel
     cases gk with
     | zero => exact absurd HA.out (by simp [spec_DropAttributes.l0])
     | succ k2 =>
      have H := HA.out; clear HA
      simp only [spec_DropAttributes.l0] at H
      by_cases c27 : x8_2 < (l0_1.length : Int)
      ·
       rw [if_pos c27] at H; have c27b0 : decide (x8_2 < (l0_1.length : Int)) = true := decide_eq_true c27; clear c27
       by_cases c28 : 0 ≤ x8_2
       ·
        rw [if_pos c28] at H; have c28b0 : decide (0 ≤ x8_2) = true := decide_eq_true c28; clear c28; obtain ⟨t334, A29, H⟩ := bnd5_ H
        by_cases c30 : x333001_2.length < 17592186044416
        ·
         rw [if_pos c30] at H; have LMc30 := Aside0.mk c30; clear c30; obtain ⟨y335, hy335⟩ : ∃ y_ : List Int, y_ = (x333001_2 ++ [t334]) := ⟨_, rfl⟩
         replace H : (spec_DropAttributes.l0 k2 (wrap64 (t330 - a1)) (wrap64 (x8_2 + 1)) a0_0 l0_1 t331 y335) = some (r1, r2, r3) := by first | (rw [hy335]; with_reducible exact H) | (have H2_ := (Option.bind_some _ _).symm.trans H; rw [hy335]; with_reducible exact H2_) | (have H2_ := (Option.bind_some _ _).symm.trans H; with_reducible exact H2_) | with_reducible exact H | (rw [hy335]; exact H) | exact H
         have Ny335 := Aside0.mk hy335; clear hy335; have H' := Aside0.mk H; clear H; have hnb31 := NB326_327.out; have hnc31 := NB327_326.out; have hnb32 := NB326_332.out; have hnc32 := NB332_326.out; have hcz33_0 : wr.cell? ⟨gb326, 0, none⟩ = some (.int .i64 a0_0) := (blk_cell BK326.out 0).trans rfl; have hcz33_1 : wr.cell? ⟨gb326, 1, none⟩ = some (.slice A0_1 l0_1.length c0_1) := (blk_cell BK326.out 1).trans rfl; have hfz33_0 := blk_frozen BK326.out 0; have hfz33_1 := blk_frozen BK326.out 1
         try go_wp2
         have n0_ := Aside0.mk (Kd.R_drew HO_333001.out); have n1_ := Aside0.mk (blk_drew BK326.out); have n2_ := Aside0.mk (blk_drew BK327.out); have n3_ := Aside0.mk (blk_drew BK332.out); have n4_ := Aside0.mk (below_drew1 HB.out); clear HO_333001; clear BK326; clear BK327; clear BK332; clear HB; have HO_333001 := n0_; have BK326 := n1_; have BK327 := n2_; have BK332 := n3_; have HB := n4_; clear n0_ n1_ n2_ n3_ n4_
         have p333 : 0 ≤ (x8_2 : Int) := of_decide_eq_true (by first | (with_reducible assumption) | assumption)
         have q333 : x8_2 < (l0_1.length : Int) := of_decide_eq_true (by first | (with_reducible assumption) | assumption)
         obtain ⟨ad333, e333, hx333_0⟩ := Kd.at_int HR0_1.out x8_2 p333 q333; have hw333_0 := hx333_0
         cases e333
         replace hx333_0 := (HB.out.cell (World.block_lt_of_cell? w _ hx333_0)).trans hx333_0; replace p333 := eq_true p333; replace q333 := eq_true q333
         refine start_ (n := 13) (S := fun w' => w'.cell? ⟨gb332, 0, none⟩ = some (.int .i64 t331) ∧ w'.cell? ⟨gb332, 1, none⟩ = some (u333001) ∧ w'.cell? ⟨gb326, 0, none⟩ = some (.int .i64 a0_0) ∧ w'.cell? ⟨gb326, 1, none⟩ = some (.slice (some ad333) l0_1.length c0_1) ∧ w'.cell? (ad333.add (x8_2).toNat) = some (.int .i64 (rd l0_1 x8_2))) (ds := [12]) (tb_ 13 0) (by kernel_rfl) rfl rfl ⟨(blk_cell BK332.out 0).trans rfl, (blk_cell BK332.out 1).trans rfl, (blk_cell BK326.out 0).trans rfl, (blk_cell BK326.out 1).trans rfl, ((HB.out.cell (World.block_lt_of_cell? w _ hw333_0)).trans hw333_0)⟩ (fun hHeld => ?_); refine with_tabW spec_DropAttributes.tab8 spec_DropAttributes.bits8 (fun HT_ HW_ => ?_)
         generalize wr.drew = w34 at HO_333001 BK326 BK327 BK332 HB hx333_0 hHeld ⊢
         refine pl_ 0 35 (tb_ 13 1) ?_; refine pl_ 2 37 (tb_ 13 5) ?_; refine pl_ 4 39 (tb_ 13 21) ?_; refine pl_ 7 42 (tb_ 13 149) ?_; refine tk_ 1 36 (tb_ 13 151) hHeld ?_; refine tk_ 3 38 (tb_ 13 159) hHeld ?_; refine pl_ 5 40 (tb_ 13 191) ?_; refine tk_ 6 41 (tb_ 13 255) hHeld ?_
         refine on_ 8 43 (tb_ 13 511) (fun K hK => ?_)
         refine goes_ Try.func72 (by kernel_rfl) rfl #[.int .i64 (rd l0_1 x8_2), .int .i64 (wrap64 (t330 - a1))] (by rfl) rfl rfl s0_ ?_
         with_reducible refine (spec_l7Pack.calls k2 (rd l0_1 x8_2) (wrap64 (t330 - a1)) t334 _ A29.out).mono ?_
         rintro e w' ⟨rfl, ⟨nd, rfl⟩⟩
         refine ⟨_, rfl, ?_⟩
         refine hK.out _ _ ⟨(blk_cell BK332.out 0).trans rfl, (blk_cell BK332.out 1).trans rfl, (blk_cell BK326.out 0).trans rfl, (blk_cell BK326.out 1).trans rfl, ((HB.out.cell (World.block_lt_of_cell? w _ hw333_0)).trans hw333_0)⟩ (fun hHeld => ?_)
         clear hK K
         refine norm_ (a' := ?_) ?_ ?_
         rotate_left
         ·
          show Act.put _ (some 43) _ = _
          simp only [Act.put, List.setIfInBounds_toArray, List.set_cons_zero, List.set_cons_succ, i64_w, i32_w]
          rfl
         refine on_ 9 44 (tb_ 13 1023) (fun K hK => ?_)
         refine value_ (w1 := ?_) (v := ?_) (by rfl) rfl ?_ ?_
         rotate_left 2
         ·
          go_simp
          constructor
          ·
           rfl
          ·
           rfl
         refine hK.out _ _ ⟨(blk_cell (blk_alloc BK332.out _) 0).trans rfl, (blk_cell (blk_alloc BK332.out _) 1).trans rfl, (blk_cell (blk_alloc BK326.out _) 0).trans rfl, (blk_cell (blk_alloc BK326.out _) 1).trans rfl, (World.cell?_alloc_lt _ _ _ (World.block_lt_of_cell? _ _ (((HB.out.cell (World.block_lt_of_cell? w _ hw333_0)).trans hw333_0)))).trans (((HB.out.cell (World.block_lt_of_cell? w _ hw333_0)).trans hw333_0))⟩ (fun hHeld => ?_)
         clear hK K
         refine norm_ (a' := ?_) ?_ ?_
         rotate_left
         ·
          show Act.put _ (some 44) _ = _
          simp only [Act.put, List.setIfInBounds_toArray, List.set_cons_zero, List.set_cons_succ, i64_w, i32_w]
          rfl
         refine on_ 10 45 (tb_ 13 2047) (fun K hK => ?_)
         refine Kd.R_append_step (Kd.int .i64) (w0 := w) w.heap.size (by rfl) (.tmp 36) (.tmp 44) 24 3 (.int .i64 0) 8 rfl Try.underlying24 info3 rfl (by decide) (by omega) u333001 x333001_2 t334 [.int .i64 t334] (fun _ => True) (fun _ => False) rfl rfl ?aP (fun _ hk => hk.elim) ?aF ?aO ?aB ?aS ?aL ?_
         (case aP => exact rfl)
         (case aB => exact q5_11)
         (case aF => exact (fun _ _ => trivial))
         (case aO => exact (by (with_reducible repeat (first | apply Kd.R_alloc | apply Kd.R_drewN | apply Kd.R_drew)); exact HO_333001.out))
         (case aS => exact (below_size q5_11))
         (case aL => have := LMc30.out; omega)
         intro v336 w35 ho hb hg hat
         rw [← Ny335.out] at ho
         have n0_ := Aside0.mk (blk_grown (g := gb326) (o := .cells #[.int .i64 a0_0, .slice (some ad333) l0_1.length c0_1] 26 (0, 0)) q5_18 hg (Kd.R_ne HO_333001.out BK326.out (by decide)))
         have n1_ := Aside0.mk (blk_grown (g := gb327) (o := .cells #[.int .i64 0, .slice none 0 0] 26 (0, 0)) q5_19 hg (Kd.R_ne HO_333001.out BK327.out (by decide)))
         have n2_ := Aside0.mk (blk_grown (g := gb332) (o := .cells #[.int .i64 t331, u333001] 26 (0, 0)) (by (with_reducible repeat (first | refine blk_drewN ?_ _ | refine blk_drew ?_ | refine blk_alloc ?_ _)); exact BK332.out) hg (Kd.R_ne HO_333001.out BK332.out (by decide)))
         have n3_ := Aside0.mk (hb); have n4_ := Aside0.mk (ho); clear BK326; clear BK327; clear BK332; clear HB; clear HO_333001; have BK326 := n0_; have BK327 := n1_; have BK332 := n2_; have HB := n3_; have HO337 := n4_; clear n0_ n1_ n2_ n3_ n4_; clear ho hb hg hat; obtain ⟨Ao36, co36, eo36⟩ := Kd.R_slice HO337.out
         (first | subst eo36 | (injection eo36 with f1_ f2_ f3_; have f4_ := f1_.symm; have f5_ := f3_.symm; clear f1_ f2_ f3_; subst f4_; subst f5_))
         refine hK.out _ _ ⟨(blk_cell BK332.out 0).trans rfl, (blk_cell BK332.out 1).trans rfl, (blk_cell BK326.out 0).trans rfl, (blk_cell BK326.out 1).trans rfl, ((HB.out.cell (World.block_lt_of_cell? w _ hw333_0)).trans hw333_0)⟩ (fun hHeld => ?_)
         clear hK K
         refine norm_ (a' := ?_) ?_ ?_
         rotate_left
         ·
          show Act.put _ (some 45) _ = _
          simp only [Act.put, List.setIfInBounds_toArray, List.set_cons_zero, List.set_cons_succ, i64_w, i32_w]
          rfl
         refine pl_ 11 46 (tb_ 13 4095) ?_
         refine last_ (i := 12) (N := none) (tb_ 13 8191) rfl rfl (one_of HT_.out (by kernel_rfl)) (by decide) (fun K hK => ?_)
         have hs37 : w35.cell? ⟨gb332, 1, none⟩ = some (u333001) := (blk_cell BK332.out 1).trans rfl; have hfs37 := blk_frozen BK332.out 1; have hns37_0 := NB326_332.out; have hns37_1 := NB327_332.out; have hms37_0 := NB332_326.out; have hms37_1 := NB332_327.out
         refine skip_ (w1 := ?_) (by rfl) rfl ?_ ?_
         rotate_left
         ·
          go_simp
          rfl
         refine hK.out _ _ ?_
         clear hK K
         refine done_ (done_of HT_.out (by kernel_rfl)) ?_
         try go_wp2
         go_roundg k2
         case measure => have := HJ2.out; have := HK2.out; omega
         case rel => exact ⟨(wrap64 (x8_2 + 1)), (y335), (.slice Ao36 y335.length co36), s2_, H', ⟨by have := HJ2.out; have := HK2.out; omega⟩, ⟨(by (with_reducible repeat (first | apply Kd.R_alloc | apply Kd.R_drewN | apply Kd.R_drew)); exact Kd.R_mono (Kd.R_far (p := ⟨gb332, 1, none⟩) (Kd.R_types HO337.out BK332.out (by decide)) (fun _ hk => hk.2) (.slice Ao36 y335.length co36)) (fun _ hk => trivial))⟩, ⟨(by (with_reducible repeat (first | refine blk_drewN ?_ _ | refine blk_drew ?_ | refine blk_alloc ?_ _)); refine blk_far ?_ NB326_332.out _; (with_reducible repeat (first | refine blk_drewN ?_ _ | refine blk_drew ?_ | refine blk_alloc ?_ _)); exact BK326.out)⟩, ⟨(by (with_reducible repeat (first | refine blk_drewN ?_ _ | refine blk_drew ?_ | refine blk_alloc ?_ _)); refine blk_far ?_ NB327_332.out _; (with_reducible repeat (first | refine blk_drewN ?_ _ | refine blk_drew ?_ | refine blk_alloc ?_ _)); exact BK327.out)⟩, ⟨(by (with_reducible repeat (first | refine blk_drewN ?_ _ | refine blk_drew ?_ | refine blk_alloc ?_ _)); refine blk_put (cs := #[.int .i64 t331, u333001]) ?_ 1 _ rfl; (with_reducible repeat (first | refine blk_drewN ?_ _ | refine blk_drew ?_ | refine blk_alloc ?_ _)); exact BK332.out)⟩, ⟨q5_11⟩⟩
        ·
         rw [if_neg c30] at H
         exact absurd H (by simp)
       ·
        rw [if_neg c28] at H
        exact absurd H (by simp)
      ·
       rw [if_neg c27] at H; have c27b0 : decide (x8_2 < (l0_1.length : Int)) = false := decide_eq_false c27; clear c27
       simp only [Option.some.injEq, Prod.mk.injEq] at H
       obtain ⟨rfl, rfl, rfl⟩ := H; have hnb38 := NB326_327.out; have hnc38 := NB327_326.out; have hnb39 := NB326_332.out; have hnc39 := NB332_326.out; have hcz40_0 : wr.cell? ⟨gb326, 0, none⟩ = some (.int .i64 a0_0) := (blk_cell BK326.out 0).trans rfl; have hcz40_1 : wr.cell? ⟨gb326, 1, none⟩ = some (.slice A0_1 l0_1.length c0_1) := (blk_cell BK326.out 1).trans rfl; have hfz40_0 := blk_frozen BK326.out 0; have hfz40_1 := blk_frozen BK326.out 1; have hnb41 := NB332_327.out; have hnc41 := NB327_332.out; have hcz42_0 : wr.cell? ⟨gb332, 0, none⟩ = some (.int .i64 t331) := (blk_cell BK332.out 0).trans rfl; have hcz42_1 : wr.cell? ⟨gb332, 1, none⟩ = some (u333001) := (blk_cell BK332.out 1).trans rfl; have hfz42_0 := blk_frozen BK332.out 0; have hfz42_1 := blk_frozen BK332.out 1; have hcz43_0 : wr.cell? ⟨gb327, 0, none⟩ = some (.int .i64 0) := (blk_cell BK327.out 0).trans rfl; have hcz43_1 : wr.cell? ⟨gb327, 1, none⟩ = some (.slice none 0 0) := (blk_cell BK327.out 1).trans rfl
       have hfz43_0 := blk_frozen BK327.out 0; have hfz43_1 := blk_frozen BK327.out 1; obtain ⟨Ao44, co44, eo44⟩ := Kd.R_slice HO_333001.out; subst eo44
       go_wp2
       refine bodyPost_ret (results_ct rfl _ _ gb327 26 #[.int .i64 t331, .slice Ao44 x333001_2.length co44] (0, 0) _ rfl (by (with_reducible repeat (first | refine blk_drewN ?_ _ | refine blk_drew ?_ | refine blk_alloc ?_ _)); refine blk_put (cs := #[.int .i64 t331, .slice none 0 0]) ?_ 1 _ rfl; (with_reducible repeat (first | refine blk_drewN ?_ _ | refine blk_drew ?_ | refine blk_alloc ?_ _)); refine blk_put (cs := #[.int .i64 0, .slice none 0 0]) ?_ 0 _ rfl; (with_reducible repeat (first | refine blk_drewN ?_ _ | refine blk_drew ?_ | refine blk_alloc ?_ _)); exact BK327.out) Try.underlying26 rfl (by kernel_rfl)) rfl ?_
       exact ⟨_, (by first | rfl | (simp [errW_none, errW_some] <;> rfl) | (simp [*, errW_none, errW_some] <;> rfl)), (by (with_reducible repeat (first | apply Kd.R_alloc | apply Kd.R_drewN | apply Kd.R_drew)); exact Kd.R_mono (Kd.R_far (p := ⟨gb327, 1, none⟩) (Kd.R_far (p := ⟨gb327, 0, none⟩) (Kd.R_types HO_333001.out BK327.out (by decide)) (fun _ hk => hk.2) (.int .i64 t331)) (fun _ hk => hk.2) (.slice Ao44 x333001_2.length co44)) (fun _ hk => trivial)), q5_11⟩
def spec_l2In.l0 : Nat → List Int → Int → Int → Option (Bool)
 | 0, _, _, _ => none
 | k + 1, x0, x1, x5 => if x5 < (x0.length : Int) then (if 0 ≤ x5 then (if (rd x0 x5) = x1 then (some true) else (spec_l2In.l0 k x0 x1 (wrap64 (x5 + 1)))) else (none)) else (some false)
def spec_l2In.f (k : Nat) (l0 : List Int) (a1 : Int) : Option (Bool) := spec_l2In.l0 k l0 a1 0
set_option maxHeartbeats 8000000 in
set_option maxRecDepth 100000 in
theorem spec_l2In.calls (k : Nat) (A0 : Option Addr) (c0 : Nat) (l0 : List Int) (a1 : Int) (r : Bool) (w : World) (hr0 : Kd.C (Kd.int .i64) w A0 l0.length l0) (hc0 : l0.length ≤ c0) (h : spec_l2In.f k l0 a1 = some r) :
  Calls Try.prog 64 #[.slice A0 l0.length c0, .int .i64 a1] w fun e w' => e = .returned (.bool r) ∧ Drawn0 w w' := by
 have HR0 := Aside0.mk hr0; have HC0 := Aside0.mk hc0; clear hr0 hc0; have H := h; clear h; unfold spec_l2In.f at H; have H' := Aside0.mk H; clear H
 go_enter Try.func64, Try.ntmps64
 go_wp2
 go_loopg [5] k (fun kq v5 w' => ∃ (x5_1 : Int), v5 = .int .i64 x5_1 ∧ Aside0 (spec_l2In.l0 kq l0 a1 x5_1 = some r) ∧ Aside0 (kq ≤ k) ∧ Drawn0 w w')
 case atStart => exact ⟨(0), s2_, H', ⟨Nat.le_refl _⟩, s9_⟩
 case round =>
  clear H'
  try clear p2
  obtain ⟨x5_1, rfl, HA, HK1, ⟨m1, rfl⟩⟩ := hrel
  cases gk with
  | zero => exact absurd HA.out (by simp [spec_l2In.l0])
  | succ k1 =>
   have H := HA.out; clear HA
   simp only [spec_l2In.l0] at H
   by_cases c3 : x5_1 < (l0.length : Int)
   ·
    rw [if_pos c3] at H; have c3b0 : decide (x5_1 < (l0.length : Int)) = true := decide_eq_true c3; clear c3
    by_cases c4 : 0 ≤ x5_1
    ·
     rw [if_pos c4] at H; have c4b0 : decide (0 ≤ x5_1) = true := decide_eq_true c4; clear c4
     by_cases c5 : (rd l0 x5_1) = a1
     ·
      rw [if_pos c5] at H; have c5b0 : ((rd l0 x5_1) == a1) = true := beq_iff_eq.mpr c5; have c5b1 : ((rd l0 x5_1) != a1) = false := bne_eq_false_iff_eq.mpr c5; clear c5; obtain rfl := Option.some.inj H; have p338 : 0 ≤ (x5_1 : Int) := of_decide_eq_true s4_; have q338 : x5_1 < (l0.length : Int) := of_decide_eq_true s4_; obtain ⟨ad338, e338, hx338_0⟩ := Kd.at_int HR0.out x5_1 p338 q338
      cases e338
      replace p338 := eq_true p338; replace q338 := eq_true q338
      go_wp2
      go_ret
      exact ⟨s2_, s9_⟩
     ·
      rw [if_neg c5] at H; have c5b0 : ((rd l0 x5_1) == a1) = false := beq_eq_false_iff_ne.mpr c5; have c5b1 : ((rd l0 x5_1) != a1) = true := bne_iff_ne.mpr c5; have H' := Aside0.mk H; clear H; have p338 : 0 ≤ (x5_1 : Int) := of_decide_eq_true s4_; have q338 : x5_1 < (l0.length : Int) := of_decide_eq_true s4_; obtain ⟨ad338, e338, hx338_0⟩ := Kd.at_int HR0.out x5_1 p338 q338
      cases e338
      replace p338 := eq_true p338; replace q338 := eq_true q338
      go_wp2
      go_roundg k1
      case measure => have := HK1.out; omega
      case rel => exact ⟨(wrap64 (x5_1 + 1)), s2_, H', ⟨by have := HK1.out; omega⟩, s9_⟩
    ·
     rw [if_neg c4] at H
     exact absurd H (by simp)
   ·
    rw [if_neg c3] at H; have c3b0 : decide (x5_1 < (l0.length : Int)) = false := decide_eq_false c3; clear c3; obtain rfl := Option.some.inj H
    go_wp2
    go_ret
    exact ⟨s2_, s9_⟩
theorem q5_24 {P : Prop} (h : P := by repeat (first | (with_reducible first | exact HB.out | apply below_alloc | apply pw_below_drewN | apply below_drew1 | refine below_set ?_ GE339.out) | exact HB.out)) : P := h
theorem q5_27 {P : Prop} (h : P := by (with_reducible repeat (first | refine blk_drewN ?_ _ | refine blk_drew ?_ | refine blk_alloc ?_ _)); exact BK339.out) : P := h
def spec_l3Column.l0 : Nat → Int → Int → Int → Int → List Int → Option (Int)
 | 0, _, _, _, _, _ => none
 | k + 1, x1, x5, x6, x340000, x340001 => if x6 < (x340001.length : Int) then (if 0 ≤ x6 then ((spec_l2Has.f (rd x340001 x6) x1).bind fun t341 => (if t341 = true then (if 0 ≤ (IntKind.u64.wrap (x6)) then (spec_l3Column.l0 k x1 (Go.bits .or .i64 x5 (shl .i64 1 (IntKind.u64.wrap (x6)))) (wrap64 (x6 + 1)) x340000 x340001) else (none)) else (spec_l3Column.l0 k x1 x5 (wrap64 (x6 + 1)) x340000 x340001))) else (none)) else (some x5)
def spec_l3Column.f (k : Nat) (a0_0 : Int) (l0_1 : List Int) (a1 : Int) : Option (Int) := spec_l3Column.l0 k a1 0 0 a0_0 l0_1
set_option maxHeartbeats 8000000 in
set_option maxRecDepth 100000 in
theorem spec_l3Column.calls (k : Nat) (a0_0 : Int) (A0_1 : Option Addr) (c0_1 : Nat) (l0_1 : List Int) (a1 : Int) (r : Int) (w : World) (hr0_1 : Kd.C (Kd.int .i64) w A0_1 l0_1.length l0_1) (hc0_1 : l0_1.length ≤ c0_1) (h : spec_l3Column.f k a0_0 l0_1 a1 = some r) :
  Calls Try.prog 65 #[.agg #[.int .i64 a0_0, .slice A0_1 l0_1.length c0_1], .int .i64 a1] w fun e w' => e = .returned (.int .i64 r) ∧ Below w.heap.size w w' := by
 have hu26 := Try.underlying26; have HR0_1 := Aside0.mk hr0_1; have HC0_1 := Aside0.mk hc0_1; clear hr0_1 hc0_1; have HB := Aside0.mk (Below.refl w.heap.size w); have H := h; clear h; unfold spec_l3Column.f at H; have H' := Aside0.mk H; clear H
 go_enter Try.func65, Try.ntmps65
 go_wp2_with (first | (refine be_ 2 #[.int .i64 a0_0, .slice A0_1 l0_1.length c0_1] 26 ?_; intro gb339 hg w3 hbox hb; have n_ := ac_ (below_step s1_ hb) <| ac_ (hbox) <| ac_ ((gz_ w hg s1_)) <| Aside0.mk ((gz_ w hg s1_)); clear HB; obtain ⟨HB, BK339, GW339, GE339⟩ := n_; clear hb hbox hg))
 go_loopg [5, 6] k (fun kq v5 v6 w' => ∃ (x5_1 : Int) (x6_1 : Int), v5 = .int .i64 x5_1 ∧ v6 = .int .i64 x6_1 ∧ Aside0 (spec_l3Column.l0 kq a1 x5_1 x6_1 a0_0 l0_1 = some r) ∧ Aside0 (kq ≤ k) ∧ Aside0 (w'.heap[gb339]? = some (.cells #[.int .i64 a0_0, (.slice A0_1 l0_1.length c0_1)] 26 (0, 0))) ∧ Aside0 (Below w.heap.size w w'))
 case atStart => exact ⟨(0), (0), s2_, s2_, H', ⟨Nat.le_refl _⟩, ⟨q5_27⟩, ⟨q5_24⟩⟩
 case round =>
  clear H'
  try clear p2
  obtain ⟨x5_1, x6_1, rfl, rfl, HA, HK1, BK339, HB⟩ := hrel
  cases gk with
  | zero => exact absurd HA.out (by simp [spec_l3Column.l0])
  | succ k1 =>
   have H := HA.out; clear HA
   simp only [spec_l3Column.l0] at H
   by_cases c4 : x6_1 < (l0_1.length : Int)
   ·
    rw [if_pos c4] at H; have c4b0 : decide (x6_1 < (l0_1.length : Int)) = true := decide_eq_true c4; clear c4
    by_cases c5 : 0 ≤ x6_1
    ·
     rw [if_pos c5] at H; have c5b0 : decide (0 ≤ x6_1) = true := decide_eq_true c5; clear c5; obtain ⟨t341, A6, H⟩ := bnd5_ H
     by_cases c7 : t341 = true
     ·
      subst c7; rw [if_pos rfl] at H; obtain ⟨ji8, hji8⟩ : ∃ j_ : Int, (IntKind.u64.wrap (x6_1)) = j_ := ⟨_, rfl⟩
      replace H : (if 0 ≤ (ji8) then (spec_l3Column.l0 k1 a1 (Go.bits .or .i64 x5_1 (shl .i64 1 (ji8))) (wrap64 (x6_1 + 1)) a0_0 l0_1) else (none)) = some r := by first | (rw [hji8] at H; exact H) | (simp only [hji8] at H ⊢; exact H)
      (try rw [hji8] at A6)
      by_cases c9 : 0 ≤ (ji8)
      ·
       rw [if_pos c9] at H; have c9b0 := eq_true c9; have c9b1 : decide (0 ≤ (ji8)) = true := decide_eq_true c9; clear c9; obtain ⟨ji10, hji10⟩ : ∃ j_ : Int, (shl .i64 1 (ji8)) = j_ := ⟨_, rfl⟩
       replace H : (spec_l3Column.l0 k1 a1 (Go.bits .or .i64 x5_1 (ji10)) (wrap64 (x6_1 + 1)) a0_0 l0_1) = some r := by first | (rw [hji10] at H; exact H) | (simp only [hji10] at H ⊢; exact H)
       (try rw [hji10] at A6)
       have hji10_ : (IntKind.i64.wrap (1 * 2 ^ min (ji8).toNat 64)) = ji10 := hji10; have hji10z : (ji8) ≤ 64 → (IntKind.i64.wrap (1 * 2 ^ (ji8).toNat)) = ji10 := shl_small hji10
       have hji10u : (IntKind.i64.wrap (2 ^ min (ji8).toNat 64)) = ji10 := by have h_ := hji10_; rw [Int.one_mul] at h_; exact h_
       have hji10v : (ji8) ≤ 64 → (IntKind.i64.wrap (2 ^ (ji8).toNat)) = ji10 := fun hle_ => by have h_ := hji10z hle_; rw [Int.one_mul] at h_; exact h_
       have hji10y : (wrap64 (1 * 2 ^ min (ji8).toNat 64)) = ji10 := (i64_w _).symm.trans hji10_
       have hji10x : (ji8) ≤ 64 → (wrap64 (1 * 2 ^ (ji8).toNat)) = ji10 := fun h_ => (i64_w _).symm.trans (hji10z h_)
       have H' := Aside0.mk H; clear H; have hcz11_0 : wr.cell? ⟨gb339, 0, none⟩ = some (.int .i64 a0_0) := (blk_cell BK339.out 0).trans rfl; have hcz11_1 : wr.cell? ⟨gb339, 1, none⟩ = some (.slice A0_1 l0_1.length c0_1) := (blk_cell BK339.out 1).trans rfl; have hfz11_0 := blk_frozen BK339.out 0; have hfz11_1 := blk_frozen BK339.out 1; have p340 : 0 ≤ (x6_1 : Int) := of_decide_eq_true s4_; have q340 : x6_1 < (l0_1.length : Int) := of_decide_eq_true s4_; obtain ⟨ad340, e340, hx340_0⟩ := Kd.at_int HR0_1.out x6_1 p340 q340
       cases e340
       replace hx340_0 := (HB.out.cell (World.block_lt_of_cell? w _ hx340_0)).trans hx340_0; replace p340 := eq_true p340; replace q340 := eq_true q340
       go_wp2_with (first | (refine gL_ 57 20 Try.func57 #[.int .i64 (rd l0_1 x6_1), .int .i64 a1] ?_; (with_reducible refine (spec_l2Has.calls (rd l0_1 x6_1) a1 true _ A6.out).mono ?_); rintro e w' ⟨rfl, ⟨nd, rfl⟩⟩; refine ⟨_, rfl, ?_⟩))
       go_roundg k1
       case measure => have := HK1.out; omega
       case rel => exact ⟨(Go.bits .or .i64 x5_1 (ji10)), (wrap64 (x6_1 + 1)), (by first | rfl | (simp; done) | (simp only [← hji10] <;> (first | rfl | simp)) | (simp [*]; done)), s2_, H', ⟨by have := HK1.out; omega⟩, ⟨q5_27⟩, ⟨q5_24⟩⟩
      ·
       rw [if_neg c9] at H
       exact absurd H (by simp)
     ·
      replace c7 := Bool.eq_false_iff.mpr c7; subst c7
      rw [if_neg (show ¬ (false = true) by decide)] at H
      have H' := Aside0.mk H; clear H; have hcz12_0 : wr.cell? ⟨gb339, 0, none⟩ = some (.int .i64 a0_0) := (blk_cell BK339.out 0).trans rfl; have hcz12_1 : wr.cell? ⟨gb339, 1, none⟩ = some (.slice A0_1 l0_1.length c0_1) := (blk_cell BK339.out 1).trans rfl; have hfz12_0 := blk_frozen BK339.out 0; have hfz12_1 := blk_frozen BK339.out 1; have p340 : 0 ≤ (x6_1 : Int) := of_decide_eq_true s4_; have q340 : x6_1 < (l0_1.length : Int) := of_decide_eq_true s4_; obtain ⟨ad340, e340, hx340_0⟩ := Kd.at_int HR0_1.out x6_1 p340 q340
      cases e340
      replace hx340_0 := (HB.out.cell (World.block_lt_of_cell? w _ hx340_0)).trans hx340_0; replace p340 := eq_true p340; replace q340 := eq_true q340
      go_wp2_with (first | (refine gL_ 57 20 Try.func57 #[.int .i64 (rd l0_1 x6_1), .int .i64 a1] ?_; (with_reducible refine (spec_l2Has.calls (rd l0_1 x6_1) a1 false _ A6.out).mono ?_); rintro e w' ⟨rfl, ⟨nd, rfl⟩⟩; refine ⟨_, rfl, ?_⟩))
      go_roundg k1
      case measure => have := HK1.out; omega
      case rel => exact ⟨(x5_1), (wrap64 (x6_1 + 1)), s2_, s2_, H', ⟨by have := HK1.out; omega⟩, ⟨q5_27⟩, ⟨q5_24⟩⟩
    ·
     rw [if_neg c5] at H
     exact absurd H (by simp)
   ·
    rw [if_neg c4] at H; have c4b0 : decide (x6_1 < (l0_1.length : Int)) = false := decide_eq_false c4; clear c4; obtain rfl := Option.some.inj H; have hcz13_0 : wr.cell? ⟨gb339, 0, none⟩ = some (.int .i64 a0_0) := (blk_cell BK339.out 0).trans rfl; have hcz13_1 : wr.cell? ⟨gb339, 1, none⟩ = some (.slice A0_1 l0_1.length c0_1) := (blk_cell BK339.out 1).trans rfl; have hfz13_0 := blk_frozen BK339.out 0; have hfz13_1 := blk_frozen BK339.out 1
    go_wp2
    go_ret
    exact ⟨(by first | rfl | (simp [errW_none, errW_some] <;> rfl) | (simp [*, errW_none, errW_some] <;> rfl)), q5_24⟩
end Go.Proofs.Ytafnamchckehmaa.Pr
namespace Go.Proofs.Ytafnamchckehmaa.Pr
open Go.RowKit Go.Proofs.YtafnamchckehmaaW.PrintWords Go.Proofs.YtafnamchckehmaaW.PrintLast Go.Proofs.YtafnamchckehmaaW.PrintMore
attribute [local go_sem] max2_int min2_int max_two min_two max_three min_three max_four min_four
set_option linter.unusedVariables false
set_option linter.unusedSimpArgs false
theorem bnd6_ {α β : Type} {o : Option α} {f : α → Option β} {r : β} (h : o.bind f = some r) : ∃ a, Aside0 (o = some a) ∧ f a = some r := by
 obtain ⟨a, h1, h2⟩ := Option.bind_eq_some_iff.mp h
 exact ⟨a, ⟨h1⟩, h2⟩
theorem q6_1 {P : Prop} (h : P := by repeat (first | (with_reducible first | exact HB.out | apply below_alloc | apply pw_below_drewN | apply below_drew1 | refine below_set ?_ GE342.out | refine below_set ?_ GE343.out | refine below_set ?_ GE345.out) | exact HB.out)) : P := h
theorem q6_2 {P : Prop} (h : P := by repeat (first | (with_reducible first | exact HB.out | apply below_alloc | apply pw_below_drewN | apply below_drew1 | refine below_set ?_ GE342.out | refine below_set ?_ GE343.out) | exact HB.out)) : P := h
theorem q6_3 {P : Prop} (h : P := by repeat (first | exact (Kd.R_reads' HO_346001.out).2.2 | (with_reducible refine Kd.C_alloc ?_ _) | (with_reducible refine Kd.C_drewN ?_ _) | (with_reducible refine Kd.C_drew ?_))) : P := h
theorem q6_5 {P : Prop} (h : P := by repeat (first | (with_reducible first | exact HB.out | apply below_alloc | apply pw_below_drewN | apply below_drew1 | refine below_set ?_ GE342.out) | exact HB.out)) : P := h
theorem q6_9 {P : Prop} (h : P := by (with_reducible repeat (first | refine blk_drewN ?_ _ | refine blk_drew ?_ | refine blk_alloc ?_ _)); exact BK342.out) : P := h
theorem q6_10 {P : Prop} (h : P := by (with_reducible repeat (first | refine blk_drewN ?_ _ | refine blk_drew ?_ | refine blk_alloc ?_ _)); exact BK343.out) : P := h
theorem q6_11 {P : Prop} (h : P := by (with_reducible repeat (first | refine blk_drewN ?_ _ | refine blk_drew ?_ | refine blk_alloc ?_ _)); exact BK345.out) : P := h
theorem q6_12 {P : Prop} (h : P := by (with_reducible repeat (first | apply Kd.R_alloc | apply Kd.R_drewN | apply Kd.R_drew)); exact HO_346001.out) : P := h
mutual
def spec_Clarify.l0 : Nat → Int → Int → List Int → Int → List Int → Option (Int × List Int × Bool)
 | 0, _, _, _, _, _ => none
 | k + 1, x5, x343000, x343001, x346000, x346001 => if x5 < (x343001.length : Int) then (if 0 ≤ x5 then ((spec_l2In.f k x346001 (rd x343001 x5)).bind fun t347 => (if t347 = true then (spec_Clarify.l0 k (wrap64 (x5 + 1)) x343000 x343001 x346000 x346001) else (if x346001.length < 17592186044416 then (spec_Clarify.l0 k (wrap64 (x5 + 1)) x343000 x343001 x346000 (x346001 ++ [rd x343001 x5])) else (none)))) else (none)) else (spec_Clarify.l1 k 0 0 x346000 x346001)
def spec_Clarify.l1 : Nat → Int → Int → Int → List Int → Option (Int × List Int × Bool)
 | 0, _, _, _, _ => none
 | k + 1, x6, x7, x346000, x346001 => if x7 < x346000 then (spec_Clarify.l2 k x6 x7 0 x346000 x346001) else ((spec_DropAttributes.f k x346000 x346001 x6).bind fun bt352 => (some (bt352.1, bt352.2.1, bt352.2.2)))
def spec_Clarify.l2 : Nat → Int → Int → Int → Int → List Int → Option (Int × List Int × Bool)
 | 0, _, _, _, _, _ => none
 | k + 1, x6, x7, x8, x346000, x346001 => if x8 < x7 then ((spec_l3Column.f k x346000 x346001 x8).bind fun t358 => ((spec_l3Column.f k x346000 x346001 x7).bind fun t359 => (if t358 = t359 then (if 0 ≤ (IntKind.u64.wrap (x7)) then (spec_Clarify.l2 k (Go.bits .or .i64 x6 (shl .i64 1 (IntKind.u64.wrap (x7)))) x7 (wrap64 (x8 + 1)) x346000 x346001) else (none)) else (spec_Clarify.l2 k x6 x7 (wrap64 (x8 + 1)) x346000 x346001)))) else (spec_Clarify.l1 k x6 (wrap64 (x7 + 1)) x346000 x346001)
end
def spec_Clarify.f (k : Nat) (a0_0 : Int) (l0_1 : List Int) : Option (Int × List Int × Bool) := (spec_IsContext.f k a0_0 l0_1).bind fun t344 => (if t344 = true then (spec_Clarify.l0 k 0 a0_0 l0_1 a0_0 ([] : List Int)) else (some (0, ([] : List Int), false)))
def spec_Clarify.T7 : Bool × List (List Nat × List Nat) := (true, [([], []), ([0], [0]), ([], []), ([2], [2]), ([], []), ([3, 4], [3, 4]), ([5], [5]), ([1, 6], [1, 6]), ([7], [7])])
def spec_Clarify.B7 : List Nat := [0, 1, 0, 4, 0, 28, 60, 127, 255]
theorem spec_Clarify.tab7 : rtab .any (opsOf Try.f27 7) = spec_Clarify.T7 := s8_
theorem spec_Clarify.bits7 : waitsOk spec_Clarify.T7.2 spec_Clarify.B7 = true := s8_
def spec_Clarify.T8 : Bool × List (List Nat × List Nat) := (true, [([], []), ([0], [0]), ([], []), ([2], [2]), ([], []), ([3, 4], [3, 4]), ([5], [5]), ([6], [6]), ([1, 7], [1, 7]), ([0, 1, 2, 3, 4, 5, 6, 7, 8], []), ([9, 8, 8, 0, 1, 2, 3, 4, 5, 6, 7, 8], [8, 9])])
def spec_Clarify.B8 : List Nat := [0, 1, 0, 4, 0, 28, 60, 124, 255, 511, 1023]
theorem spec_Clarify.tab8 : rtab .any (opsOf Try.f27 8) = spec_Clarify.T8 := s8_
theorem spec_Clarify.bits8 : waitsOk spec_Clarify.T8.2 spec_Clarify.B8 = true := s8_
set_option maxHeartbeats 8000000 in
set_option maxRecDepth 100000 in
theorem spec_Clarify.calls (k : Nat) (a0_0 : Int) (A0_1 : Option Addr) (c0_1 : Nat) (l0_1 : List Int) (r1 : Int) (r2 : List Int) (r3 : Bool) (w : World) (hr0_1 : Kd.C (Kd.int .i64) w A0_1 l0_1.length l0_1) (hc0_1 : l0_1.length ≤ c0_1) (h : spec_Clarify.f k a0_0 l0_1 = some (r1, r2, r3)) :
  Calls Try.prog 27 #[.agg #[.int .i64 a0_0, .slice A0_1 l0_1.length c0_1]] w fun e w' => ∃ v1_ : Value, e = .returned (.tuple #[.agg #[.int .i64 r1, v1_], .bool r3]) ∧ Kd.R (Kd.int .i64) 3 w' w.heap.size (fun _ => True) v1_ r2 ∧ Below w.heap.size w w' := by
 have hu26 := Try.underlying26; have HR0_1 := Aside0.mk hr0_1; have HC0_1 := Aside0.mk hc0_1; clear hr0_1 hc0_1; have HB := Aside0.mk (Below.refl w.heap.size w); have H := h; clear h; unfold spec_Clarify.f at H; obtain ⟨t344, A2, H⟩ := bnd6_ H
 by_cases c3 : t344 = true
 ·
  subst c3; rw [if_pos rfl] at H; have H' := Aside0.mk H; clear H
  go_enter Try.func27, Try.ntmps27
  go_wp2_with (first | (refine be_ 1 #[.int .i64 a0_0, .slice A0_1 l0_1.length c0_1] 26 ?_; intro gb342 hg w4 hbox hb; have n_ := ac_ (below_step s1_ hb) <| ac_ (hbox) <| ac_ ((gz_ w hg s1_)) <| Aside0.mk ((gz_ w hg s1_)); clear HB; obtain ⟨HB, BK342, GW342, GE342⟩ := n_; clear hb hbox hg) | (refine be_ 2 #[.int .i64 0, .slice none 0 0] 26 ?_; intro gb343 hg w5 hbox hb; have n_ := ac_ (blk_below (g := gb342) (o := .cells #[.int .i64 a0_0, .slice A0_1 l0_1.length c0_1] 26 (0, 0)) q6_9 hb) <| ac_ (below_step q6_5 hb) <| ac_ (hbox) <| ac_ ((gz_ w hg q6_5)) <| ac_ ((gz_ w hg q6_5)) <| ac_ ((nl_ hg (blk_lt (g := gb342) (o := .cells #[.int .i64 a0_0, .slice A0_1 l0_1.length c0_1] 26 (0, 0)) q6_9))) <| Aside0.mk ((ng_ hg (blk_lt (g := gb342) (o := .cells #[.int .i64 a0_0, .slice A0_1 l0_1.length c0_1] 26 (0, 0)) q6_9))); clear BK342 HB; obtain ⟨BK342, HB, BK343, GW343, GE343, NB342_343, NB343_342⟩ := n_; clear hb hbox hg; have hnb6 := NB342_343.out; have hnc6 := NB343_342.out; have hcz7_0 : w5.cell? ⟨gb342, 0, none⟩ = some (.int .i64 a0_0) := (blk_cell BK342.out 0).trans rfl; have hcz7_1 : w5.cell? ⟨gb342, 1, none⟩ = some (.slice A0_1 l0_1.length c0_1) := (blk_cell BK342.out 1).trans rfl; have hfz7_0 := blk_frozen BK342.out 0; have hfz7_1 := blk_frozen BK342.out 1) | (refine gL_ 20 12 Try.func20 #[.agg #[.int .i64 a0_0, .slice A0_1 l0_1.length c0_1]] ?_; (with_reducible refine (spec_IsContext.calls k a0_0 _ _ l0_1 true _ ?side1 ?side2 A2.out).mono ?_); (case side1 => exact s3_); (case side2 => exact HC0_1.out); rintro e w8 ⟨rfl, hb⟩; refine ⟨_, rfl, ?_⟩; have n_ := ac_ (blk_below (g := gb342) (o := .cells #[.int .i64 a0_0, .slice A0_1 l0_1.length c0_1] 26 (0, 0)) q6_9 hb) <| ac_ (blk_below (g := gb343) (o := .cells #[.int .i64 0, .slice none 0 0] 26 (0, 0)) q6_10 hb) <| Aside0.mk (below_step q6_2 hb); clear BK342 BK343 HB; obtain ⟨BK342, BK343, HB⟩ := n_; (try clear hb); have hcz9_0 : w8.cell? ⟨gb342, 0, none⟩ = some (.int .i64 a0_0) := (blk_cell BK342.out 0).trans rfl; have hcz9_1 : w8.cell? ⟨gb342, 1, none⟩ = some (.slice A0_1 l0_1.length c0_1) := (blk_cell BK342.out 1).trans rfl; have hfz9_0 := blk_frozen BK342.out 0; have hfz9_1 := blk_frozen BK342.out 1) | (refine be_ 4 #[.int .i64 0, .slice none 0 0] 26 ?_; intro gb345 hg w10 hbox hb; have n_ := ac_ (blk_below (g := gb342) (o := .cells #[.int .i64 a0_0, .slice A0_1 l0_1.length c0_1] 26 (0, 0)) q6_9 hb) <| ac_ (blk_below (g := gb343) (o := .cells #[.int .i64 0, .slice none 0 0] 26 (0, 0)) q6_10 hb) <| ac_ (below_step q6_2 hb) <| ac_ (hbox) <| ac_ ((gz_ w hg q6_2)) <| ac_ ((gz_ w hg q6_2)) <| ac_ ((nl_ hg (blk_lt (g := gb342) (o := .cells #[.int .i64 a0_0, .slice A0_1 l0_1.length c0_1] 26 (0, 0)) q6_9))) <| ac_ ((ng_ hg (blk_lt (g := gb342) (o := .cells #[.int .i64 a0_0, .slice A0_1 l0_1.length c0_1] 26 (0, 0)) q6_9))) <| ac_ ((nl_ hg (blk_lt (g := gb343) (o := .cells #[.int .i64 0, .slice none 0 0] 26 (0, 0)) q6_10))) <| Aside0.mk ((ng_ hg (blk_lt (g := gb343) (o := .cells #[.int .i64 0, .slice none 0 0] 26 (0, 0)) q6_10))); clear BK342 BK343 HB; obtain ⟨BK342, BK343, HB, BK345, GW345, GE345, NB342_345, NB345_342, NB343_345, NB345_343⟩ := n_; clear hb hbox hg; have hnb11 := NB345_342.out; have hnc11 := NB342_345.out; have hnb12 := NB345_343.out; have hnc12 := NB343_345.out; have hcz13_0 : w10.cell? ⟨gb345, 0, none⟩ = some (.int .i64 0) := (blk_cell BK345.out 0).trans rfl; have hcz13_1 : w10.cell? ⟨gb345, 1, none⟩ = some (.slice none 0 0) := (blk_cell BK345.out 1).trans rfl; have hfz13_0 := blk_frozen BK345.out 0; have hfz13_1 := blk_frozen BK345.out 1))
  go_loopg [5] k (fun kq v5 w' => ∃ (x5_1 : Int) (x346001_1 : List Int) (u346001 : Value), v5 = .int .i64 x5_1 ∧ Aside0 (spec_Clarify.l0 kq x5_1 a0_0 l0_1 a0_0 x346001_1 = some (r1, r2, r3)) ∧ Aside0 (kq ≤ k) ∧ Aside0 (Kd.R (Kd.int .i64) 3 w' w.heap.size (fun _ => True) u346001 x346001_1) ∧ Aside0 (w'.heap[gb342]? = some (.cells #[.int .i64 a0_0, (.slice A0_1 l0_1.length c0_1)] 26 (0, 0))) ∧ Aside0 (w'.heap[gb343]? = some (.cells #[.int .i64 0, (.slice none 0 0)] 26 (0, 0))) ∧ Aside0 (w'.heap[gb345]? = some (.cells #[.int .i64 a0_0, u346001] 26 (0, 0))) ∧ Aside0 (Below w.heap.size w w'))
  case atStart => exact ⟨(0), (([] : List Int)), (.slice none 0 0), s2_, H', ⟨Nat.le_refl _⟩, ⟨s13_⟩, ⟨(by (with_reducible repeat (first | refine blk_drewN ?_ _ | refine blk_drew ?_ | refine blk_alloc ?_ _)); refine blk_far ?_ NB342_345.out _; (with_reducible repeat (first | refine blk_drewN ?_ _ | refine blk_drew ?_ | refine blk_alloc ?_ _)); refine blk_far ?_ NB342_345.out _; (with_reducible repeat (first | refine blk_drewN ?_ _ | refine blk_drew ?_ | refine blk_alloc ?_ _)); exact BK342.out)⟩, ⟨(by (with_reducible repeat (first | refine blk_drewN ?_ _ | refine blk_drew ?_ | refine blk_alloc ?_ _)); refine blk_far ?_ NB343_345.out _; (with_reducible repeat (first | refine blk_drewN ?_ _ | refine blk_drew ?_ | refine blk_alloc ?_ _)); refine blk_far ?_ NB343_345.out _; (with_reducible repeat (first | refine blk_drewN ?_ _ | refine blk_drew ?_ | refine blk_alloc ?_ _)); exact BK343.out)⟩, ⟨(by (with_reducible repeat (first | refine blk_drewN ?_ _ | refine blk_drew ?_ | refine blk_alloc ?_ _)); refine blk_put (cs := #[.int .i64 a0_0, .slice none 0 0]) ?_ 1 _ rfl; (with_reducible repeat (first | refine blk_drewN ?_ _ | refine blk_drew ?_ | refine blk_alloc ?_ _)); refine blk_put (cs := #[.int .i64 0, .slice none 0 0]) ?_ 0 _ rfl; (with_reducible repeat (first | refine blk_drewN ?_ _ | refine blk_drew ?_ | refine blk_alloc ?_ _)); exact BK345.out)⟩, ⟨q6_1⟩⟩
  case round =>
   clear H'
   try clear c1
   try clear c2
   try clear p2
   try clear c3
   try clear c6
   try clear c11
   try clear c12
   try clear hcz13_0
   try clear hcz13_1
   try clear hcz7_0
   try clear hcz7_1
   try clear hcz9_0
   try clear hcz9_1
   try clear hfz13_0
   try clear hfz13_1
   try clear hfz7_0
   try clear hfz7_1
   try clear hfz9_0
   try clear hfz9_1
   obtain ⟨x5_1, x346001_1, u346001, rfl, HA, HK1, HO_346001, BK342, BK343, BK345, HB⟩ := hrel
   cases gk with
   | zero => exact absurd HA.out (by simp [spec_Clarify.l0])
   | succ k1 =>
    have H := HA.out; clear HA
    simp only [spec_Clarify.l0] at H
    by_cases c14 : x5_1 < (l0_1.length : Int)
    ·
     rw [if_pos c14] at H; have c14b0 : decide (x5_1 < (l0_1.length : Int)) = true := decide_eq_true c14; clear c14
     by_cases c15 : 0 ≤ x5_1
     ·
      rw [if_pos c15] at H; have c15b0 : decide (0 ≤ x5_1) = true := decide_eq_true c15; clear c15; obtain ⟨t347, A16, H⟩ := bnd6_ H
      by_cases c17 : t347 = true
      ·
       subst c17; rw [if_pos rfl] at H; have H' := Aside0.mk H; clear H; have hnb18 := NB342_343.out; have hnc18 := NB343_342.out; have hnb19 := NB342_345.out; have hnc19 := NB345_342.out; have hcz20_0 : wr.cell? ⟨gb342, 0, none⟩ = some (.int .i64 a0_0) := (blk_cell BK342.out 0).trans rfl; have hcz20_1 : wr.cell? ⟨gb342, 1, none⟩ = some (.slice A0_1 l0_1.length c0_1) := (blk_cell BK342.out 1).trans rfl; have hfz20_0 := blk_frozen BK342.out 0; have hfz20_1 := blk_frozen BK342.out 1
       try go_wp2
       have n0_ := Aside0.mk (Kd.R_drew HO_346001.out); have n1_ := Aside0.mk (blk_drew BK342.out); have n2_ := Aside0.mk (blk_drew BK343.out); have n3_ := Aside0.mk (blk_drew BK345.out); have n4_ := Aside0.mk (below_drew1 HB.out); clear HO_346001; clear BK342; clear BK343; clear BK345; clear HB; have HO_346001 := n0_; have BK342 := n1_; have BK343 := n2_; have BK345 := n3_; have HB := n4_; clear n0_ n1_ n2_ n3_ n4_; have p346 : 0 ≤ (x5_1 : Int) := of_decide_eq_true s4_; have q346 : x5_1 < (l0_1.length : Int) := of_decide_eq_true s4_; obtain ⟨ad346, e346, hx346_0⟩ := Kd.at_int HR0_1.out x5_1 p346 q346; have hw346_0 := hx346_0
       cases e346
       replace hx346_0 := (HB.out.cell (World.block_lt_of_cell? w _ hx346_0)).trans hx346_0; replace p346 := eq_true p346; replace q346 := eq_true q346; obtain ⟨Ao22, co22, eo22⟩ := Kd.R_slice HO_346001.out
       (first | subst eo22 | (injection eo22 with f1_ f2_ f3_; have f4_ := f1_.symm; have f5_ := f3_.symm; clear f1_ f2_ f3_; subst f4_; subst f5_))
       refine start_ (n := 9) (S := fun w' => w'.cell? ⟨gb345, 0, none⟩ = some (.int .i64 a0_0) ∧ w'.cell? ⟨gb345, 1, none⟩ = some (.slice Ao22 x346001_1.length co22) ∧ w'.cell? ⟨gb342, 0, none⟩ = some (.int .i64 a0_0) ∧ w'.cell? ⟨gb342, 1, none⟩ = some (.slice (some ad346) l0_1.length c0_1) ∧ w'.cell? (ad346.add (x5_1).toNat) = some (.int .i64 (rd l0_1 x5_1))) (ds := []) (tb_ 9 0) s8_ rfl rfl ⟨(blk_cell BK345.out 0).trans rfl, (blk_cell BK345.out 1).trans rfl, (blk_cell BK342.out 0).trans rfl, (blk_cell BK342.out 1).trans rfl, ((HB.out.cell (World.block_lt_of_cell? w _ hw346_0)).trans hw346_0)⟩ (fun hHeld => ?_); refine with_tabW spec_Clarify.tab7 spec_Clarify.bits7 (fun HT_ HW_ => ?_)
       generalize wr.drew = w21 at HO_346001 BK342 BK343 BK345 HB hx346_0 hHeld ⊢
       refine pl_ 0 25 (tb_ 9 1) ?_; refine pl_ 2 27 (tb_ 9 5) ?_; refine pl_ 4 29 (tb_ 9 21) ?_; refine tk_ 1 26 (tb_ 9 23) hHeld ?_; refine tk_ 3 28 (tb_ 9 31) hHeld ?_; refine pl_ 5 30 (tb_ 9 63) ?_; refine tk_ 6 31 (tb_ 9 127) hHeld ?_
       refine on_ 7 32 (tb_ 9 255) (fun K hK => ?_)
       refine goes_ Try.func64 s8_ rfl #[.slice Ao22 x346001_1.length co22, .int .i64 (rd l0_1 x5_1)] (by rfl) rfl rfl s0_ ?_
       with_reducible refine (spec_l2In.calls k1 _ _ x346001_1 (rd l0_1 x5_1) true _ ?side1 ?side2 A16.out).mono ?_
       (case side1 => exact q6_3)
       (case side2 => exact (Kd.R_reads' HO_346001.out).2.1)
       rintro e w' ⟨rfl, ⟨nd, rfl⟩⟩
       refine ⟨_, rfl, ?_⟩
       refine hK.out _ _ ⟨(blk_cell BK345.out 0).trans rfl, (blk_cell BK345.out 1).trans rfl, (blk_cell BK342.out 0).trans rfl, (blk_cell BK342.out 1).trans rfl, ((HB.out.cell (World.block_lt_of_cell? w _ hw346_0)).trans hw346_0)⟩ (fun hHeld => ?_)
       clear hK K
       refine norm_ (a' := ?_) ?_ ?_
       rotate_left
       ·
        show Act.put _ (some 32) _ = _
        exact s7_
       refine pl_ 8 33 (tb_ 9 511) ?_
       refine done_ (done_of HT_.out s8_) ?_
       try go_wp2
       go_roundg k1
       case measure => have := HK1.out; omega
       case rel => exact ⟨(wrap64 (x5_1 + 1)), (x346001_1), (.slice Ao22 x346001_1.length co22), s2_, H', ⟨by have := HK1.out; omega⟩, ⟨q6_12⟩, ⟨q6_9⟩, ⟨q6_10⟩, ⟨q6_11⟩, ⟨q6_1⟩⟩
      ·
       replace c17 := Bool.eq_false_iff.mpr c17; subst c17
       rw [if_neg (show ¬ (false = true) by decide)] at H
       by_cases c23 : x346001_1.length < 17592186044416
       ·
        rw [if_pos c23] at H; have LMc23 := Aside0.mk c23; clear c23; obtain ⟨y349, hy349⟩ : ∃ y_ : List Int, y_ = (x346001_1 ++ [rd l0_1 x5_1]) := ⟨_, rfl⟩
        replace H : (spec_Clarify.l0 k1 (wrap64 (x5_1 + 1)) a0_0 l0_1 a0_0 y349) = some (r1, r2, r3) := by first | (rw [hy349]; with_reducible exact H) | (have H2_ := (Option.bind_some _ _).symm.trans H; rw [hy349]; with_reducible exact H2_) | (have H2_ := (Option.bind_some _ _).symm.trans H; with_reducible exact H2_) | with_reducible exact H | (rw [hy349]; exact H) | exact H
        have Ny349 := Aside0.mk hy349; clear hy349; have H' := Aside0.mk H; clear H; have hnb24 := NB342_343.out; have hnc24 := NB343_342.out; have hnb25 := NB342_345.out; have hnc25 := NB345_342.out; have hcz26_0 : wr.cell? ⟨gb342, 0, none⟩ = some (.int .i64 a0_0) := (blk_cell BK342.out 0).trans rfl; have hcz26_1 : wr.cell? ⟨gb342, 1, none⟩ = some (.slice A0_1 l0_1.length c0_1) := (blk_cell BK342.out 1).trans rfl; have hfz26_0 := blk_frozen BK342.out 0; have hfz26_1 := blk_frozen BK342.out 1
        try go_wp2
        have n0_ := Aside0.mk (Kd.R_drew HO_346001.out); have n1_ := Aside0.mk (blk_drew BK342.out); have n2_ := Aside0.mk (blk_drew BK343.out); have n3_ := Aside0.mk (blk_drew BK345.out); have n4_ := Aside0.mk (below_drew1 HB.out); clear HO_346001; clear BK342; clear BK343; clear BK345; clear HB; have HO_346001 := n0_; have BK342 := n1_; have BK343 := n2_; have BK345 := n3_; have HB := n4_; clear n0_ n1_ n2_ n3_ n4_; have p346 : 0 ≤ (x5_1 : Int) := of_decide_eq_true s4_; have q346 : x5_1 < (l0_1.length : Int) := of_decide_eq_true s4_; obtain ⟨ad346, e346, hx346_0⟩ := Kd.at_int HR0_1.out x5_1 p346 q346; have hw346_0 := hx346_0
        cases e346
        replace hx346_0 := (HB.out.cell (World.block_lt_of_cell? w _ hx346_0)).trans hx346_0; replace p346 := eq_true p346; replace q346 := eq_true q346; obtain ⟨Ao28, co28, eo28⟩ := Kd.R_slice HO_346001.out
        (first | subst eo28 | (injection eo28 with f1_ f2_ f3_; have f4_ := f1_.symm; have f5_ := f3_.symm; clear f1_ f2_ f3_; subst f4_; subst f5_))
        refine start_ (n := 9) (S := fun w' => w'.cell? ⟨gb345, 0, none⟩ = some (.int .i64 a0_0) ∧ w'.cell? ⟨gb345, 1, none⟩ = some (.slice Ao28 x346001_1.length co28) ∧ w'.cell? ⟨gb342, 0, none⟩ = some (.int .i64 a0_0) ∧ w'.cell? ⟨gb342, 1, none⟩ = some (.slice (some ad346) l0_1.length c0_1) ∧ w'.cell? (ad346.add (x5_1).toNat) = some (.int .i64 (rd l0_1 x5_1))) (ds := []) (tb_ 9 0) s8_ rfl rfl ⟨(blk_cell BK345.out 0).trans rfl, (blk_cell BK345.out 1).trans rfl, (blk_cell BK342.out 0).trans rfl, (blk_cell BK342.out 1).trans rfl, ((HB.out.cell (World.block_lt_of_cell? w _ hw346_0)).trans hw346_0)⟩ (fun hHeld => ?_); refine with_tabW spec_Clarify.tab7 spec_Clarify.bits7 (fun HT_ HW_ => ?_)
        generalize wr.drew = w27 at HO_346001 BK342 BK343 BK345 HB hx346_0 hHeld ⊢
        refine pl_ 0 25 (tb_ 9 1) ?_; refine pl_ 2 27 (tb_ 9 5) ?_; refine pl_ 4 29 (tb_ 9 21) ?_; refine tk_ 1 26 (tb_ 9 23) hHeld ?_; refine tk_ 3 28 (tb_ 9 31) hHeld ?_; refine pl_ 5 30 (tb_ 9 63) ?_; refine tk_ 6 31 (tb_ 9 127) hHeld ?_
        refine on_ 7 32 (tb_ 9 255) (fun K hK => ?_)
        refine goes_ Try.func64 s8_ rfl #[.slice Ao28 x346001_1.length co28, .int .i64 (rd l0_1 x5_1)] (by rfl) rfl rfl s0_ ?_
        with_reducible refine (spec_l2In.calls k1 _ _ x346001_1 (rd l0_1 x5_1) false _ ?side1 ?side2 A16.out).mono ?_
        (case side1 => exact q6_3)
        (case side2 => exact (Kd.R_reads' HO_346001.out).2.1)
        rintro e w' ⟨rfl, ⟨nd, rfl⟩⟩
        refine ⟨_, rfl, ?_⟩
        refine hK.out _ _ ⟨(blk_cell BK345.out 0).trans rfl, (blk_cell BK345.out 1).trans rfl, (blk_cell BK342.out 0).trans rfl, (blk_cell BK342.out 1).trans rfl, ((HB.out.cell (World.block_lt_of_cell? w _ hw346_0)).trans hw346_0)⟩ (fun hHeld => ?_)
        clear hK K
        refine norm_ (a' := ?_) ?_ ?_
        rotate_left
        ·
         show Act.put _ (some 32) _ = _
         exact s7_
        refine pl_ 8 33 (tb_ 9 511) ?_
        refine done_ (done_of HT_.out s8_) ?_
        try go_wp2
        (try (rw [drewN_self w27]; generalize hq_ : World.drewN w27 _ = w27; have n0_ : Aside0 (Kd.R (Kd.int .i64) 3 w27 w.heap.size (fun _ => True) (.slice Ao28 x346001_1.length co28) x346001_1) := ⟨by rw [← hq_]; exact q6_12⟩; have n1_ : Aside0 (w27.heap[gb342]? = some (.cells #[.int .i64 a0_0, .slice (some ad346) l0_1.length c0_1] 26 (0, 0))) := ⟨by rw [← hq_]; exact q6_9⟩; have n2_ : Aside0 (w27.heap[gb343]? = some (.cells #[.int .i64 0, .slice none 0 0] 26 (0, 0))) := ⟨by rw [← hq_]; exact q6_10⟩; have n3_ : Aside0 (w27.heap[gb345]? = some (.cells #[.int .i64 a0_0, .slice Ao28 x346001_1.length co28] 26 (0, 0))) := ⟨by rw [← hq_]; exact q6_11⟩; have n4_ : Aside0 (Below w.heap.size w w27) := ⟨by rw [← hq_]; exact q6_1⟩; clear HO_346001 BK342 BK343 BK345 HB hq_; have HO_346001 := n0_; have BK342 := n1_; have BK343 := n2_; have BK345 := n3_; have HB := n4_; clear n0_ n1_ n2_ n3_ n4_))
        have n0_ := Aside0.mk (Kd.R_drew HO_346001.out); have n1_ := Aside0.mk (blk_drew BK342.out); have n2_ := Aside0.mk (blk_drew BK343.out); have n3_ := Aside0.mk (blk_drew BK345.out); have n4_ := Aside0.mk (below_drew1 HB.out); clear HO_346001; clear BK342; clear BK343; clear BK345; clear HB; have HO_346001 := n0_; have BK342 := n1_; have BK343 := n2_; have BK345 := n3_; have HB := n4_; clear n0_ n1_ n2_ n3_ n4_; have p348 : 0 ≤ (x5_1 : Int) := of_decide_eq_true s4_; have q348 : x5_1 < (l0_1.length : Int) := of_decide_eq_true s4_; obtain ⟨ad348, e348, hx348_0⟩ := Kd.at_int HR0_1.out x5_1 p348 q348; have hw348_0 := hx348_0
        obtain rfl : ad346 = ad348 := (by injection e348)
        replace hx348_0 := (HB.out.cell (World.block_lt_of_cell? w _ hx348_0)).trans hx348_0; replace p348 := eq_true p348; replace q348 := eq_true q348
        refine start_ (n := 11) (S := fun w' => w'.cell? ⟨gb345, 0, none⟩ = some (.int .i64 a0_0) ∧ w'.cell? ⟨gb345, 1, none⟩ = some (.slice Ao28 x346001_1.length co28) ∧ w'.cell? ⟨gb342, 0, none⟩ = some (.int .i64 a0_0) ∧ w'.cell? ⟨gb342, 1, none⟩ = some (.slice (some ad346) l0_1.length c0_1) ∧ w'.cell? (ad346.add (x5_1).toNat) = some (.int .i64 (rd l0_1 x5_1))) (ds := [10]) (tb_ 11 0) s8_ rfl rfl ⟨(blk_cell BK345.out 0).trans rfl, (blk_cell BK345.out 1).trans rfl, (blk_cell BK342.out 0).trans rfl, (blk_cell BK342.out 1).trans rfl, ((HB.out.cell (World.block_lt_of_cell? w _ hw348_0)).trans hw348_0)⟩ (fun hHeld => ?_); refine with_tabW spec_Clarify.tab8 spec_Clarify.bits8 (fun HT_ HW_ => ?_)
        generalize w27.drew = w29 at HO_346001 BK342 BK343 BK345 HB hx348_0 hHeld ⊢
        refine pl_ 0 34 (tb_ 11 1) ?_; refine pl_ 2 36 (tb_ 11 5) ?_; refine pl_ 4 38 (tb_ 11 21) ?_; refine tk_ 1 35 (tb_ 11 23) hHeld ?_; refine tk_ 3 37 (tb_ 11 31) hHeld ?_; refine pl_ 5 39 (tb_ 11 63) ?_; refine tk_ 6 40 (tb_ 11 127) hHeld ?_
        refine on_ 7 41 (tb_ 11 255) (fun K hK => ?_)
        refine value_ (w1 := ?_) (v := ?_) (by rfl) rfl ?_ ?_
        rotate_left 2
        ·
         go_simp
         constructor
         ·
          rfl
         ·
          rfl
        refine hK.out _ _ ⟨(blk_cell (blk_alloc BK345.out _) 0).trans rfl, (blk_cell (blk_alloc BK345.out _) 1).trans rfl, (blk_cell (blk_alloc BK342.out _) 0).trans rfl, (blk_cell (blk_alloc BK342.out _) 1).trans rfl, (World.cell?_alloc_lt _ _ _ (World.block_lt_of_cell? _ _ (((HB.out.cell (World.block_lt_of_cell? w _ hw348_0)).trans hw348_0)))).trans (((HB.out.cell (World.block_lt_of_cell? w _ hw348_0)).trans hw348_0))⟩ (fun hHeld => ?_)
        clear hK K
        refine norm_ (a' := ?_) ?_ ?_
        rotate_left
        ·
         show Act.put _ (some 41) _ = _
         exact s7_
        refine on_ 8 42 (tb_ 11 511) (fun K hK => ?_)
        refine Kd.R_append_step (Kd.int .i64) (w0 := w) w.heap.size (by rfl) (.tmp 35) (.tmp 41) 24 3 (.int .i64 0) 8 rfl Try.underlying24 info3 rfl (by decide) (by omega) (.slice Ao28 x346001_1.length co28) x346001_1 (rd l0_1 x5_1) [.int .i64 (rd l0_1 x5_1)] (fun _ => True) (fun _ => False) rfl rfl ?aP (fun _ hk => hk.elim) ?aF ?aO ?aB ?aS ?aL ?_
        (case aP => exact rfl)
        (case aB => exact q6_1)
        (case aF => exact (fun _ _ => trivial))
        (case aO => exact q6_12)
        (case aS => exact (below_size q6_1))
        (case aL => have := LMc23.out; omega)
        intro v350 w30 ho hb hg hat
        rw [← Ny349.out] at ho
        have n0_ := Aside0.mk (blk_grown (g := gb342) (o := .cells #[.int .i64 a0_0, .slice (some ad346) l0_1.length c0_1] 26 (0, 0)) q6_9 hg (Kd.R_ne HO_346001.out BK342.out (by decide)))
        have n1_ := Aside0.mk (blk_grown (g := gb343) (o := .cells #[.int .i64 0, .slice none 0 0] 26 (0, 0)) q6_10 hg (Kd.R_ne HO_346001.out BK343.out (by decide)))
        have n2_ := Aside0.mk (blk_grown (g := gb345) (o := .cells #[.int .i64 a0_0, .slice Ao28 x346001_1.length co28] 26 (0, 0)) q6_11 hg (Kd.R_ne HO_346001.out BK345.out (by decide)))
        have n3_ := Aside0.mk (hb); have n4_ := Aside0.mk (ho); clear BK342; clear BK343; clear BK345; clear HB; clear HO_346001; have BK342 := n0_; have BK343 := n1_; have BK345 := n2_; have HB := n3_; have HO351 := n4_; clear n0_ n1_ n2_ n3_ n4_; clear ho hb hg hat; obtain ⟨Ao31, co31, eo31⟩ := Kd.R_slice HO351.out
        (first | subst eo31 | (injection eo31 with f1_ f2_ f3_; have f4_ := f1_.symm; have f5_ := f3_.symm; clear f1_ f2_ f3_; subst f4_; subst f5_))
        refine hK.out _ _ ⟨(blk_cell BK345.out 0).trans rfl, (blk_cell BK345.out 1).trans rfl, (blk_cell BK342.out 0).trans rfl, (blk_cell BK342.out 1).trans rfl, ((HB.out.cell (World.block_lt_of_cell? w _ hw348_0)).trans hw348_0)⟩ (fun hHeld => ?_)
        clear hK K
        refine norm_ (a' := ?_) ?_ ?_
        rotate_left
        ·
         show Act.put _ (some 42) _ = _
         exact s7_
        refine pl_ 9 43 (tb_ 11 1023) ?_
        refine last_ (i := 10) (N := none) (tb_ 11 2047) rfl rfl (one_of HT_.out s8_) (by decide) (fun K hK => ?_)
        have hs32 : w30.cell? ⟨gb345, 1, none⟩ = some (.slice Ao28 x346001_1.length co28) := (blk_cell BK345.out 1).trans rfl; have hfs32 := blk_frozen BK345.out 1; have hns32_0 := NB342_345.out; have hns32_1 := NB343_345.out; have hms32_0 := NB345_342.out; have hms32_1 := NB345_343.out
        refine skip_ (w1 := ?_) (by rfl) rfl ?_ ?_
        rotate_left
        ·
         go_simp
         rfl
        refine hK.out _ _ ?_
        clear hK K
        refine done_ (done_of HT_.out s8_) ?_
        try go_wp2
        go_roundg k1
        case measure => have := HK1.out; omega
        case rel => exact ⟨(wrap64 (x5_1 + 1)), (y349), (.slice Ao31 y349.length co31), s2_, H', ⟨by have := HK1.out; omega⟩, ⟨(by (with_reducible repeat (first | apply Kd.R_alloc | apply Kd.R_drewN | apply Kd.R_drew)); exact Kd.R_mono (Kd.R_far (p := ⟨gb345, 1, none⟩) (Kd.R_types HO351.out BK345.out (by decide)) (fun _ hk => hk.2) (.slice Ao31 y349.length co31)) (fun _ hk => trivial))⟩, ⟨(by (with_reducible repeat (first | refine blk_drewN ?_ _ | refine blk_drew ?_ | refine blk_alloc ?_ _)); refine blk_far ?_ NB342_345.out _; (with_reducible repeat (first | refine blk_drewN ?_ _ | refine blk_drew ?_ | refine blk_alloc ?_ _)); exact BK342.out)⟩, ⟨(by (with_reducible repeat (first | refine blk_drewN ?_ _ | refine blk_drew ?_ | refine blk_alloc ?_ _)); refine blk_far ?_ NB343_345.out _; (with_reducible repeat (first | refine blk_drewN ?_ _ | refine blk_drew ?_ | refine blk_alloc ?_ _)); exact BK343.out)⟩, ⟨(by (with_reducible repeat (first | refine blk_drewN ?_ _ | refine blk_drew ?_ | refine blk_alloc ?_ _)); refine blk_put (cs := #[.int .i64 a0_0, .slice Ao28 x346001_1.length co28]) ?_ 1 _ rfl; (with_reducible repeat (first | refine blk_drewN ?_ _ | refine blk_drew ?_ | refine blk_alloc ?_ _)); exact BK345.out)⟩, ⟨q6_1⟩⟩
       ·
        rw [if_neg c23] at H
        exact absurd H (by simp)
     ·
      rw [if_neg c15] at H
      exact absurd H (by simp)
    ·
     rw [if_neg c14] at H; have c14b0 : decide (x5_1 < (l0_1.length : Int)) = false := decide_eq_false c14; clear c14; have H' := Aside0.mk H; clear H; have hnb33 := NB342_343.out; have hnc33 := NB343_342.out; have hnb34 := NB342_345.out; have hnc34 := NB345_342.out; have hcz35_0 : wr.cell? ⟨gb342, 0, none⟩ = some (.int .i64 a0_0) := (blk_cell BK342.out 0).trans rfl; have hcz35_1 : wr.cell? ⟨gb342, 1, none⟩ = some (.slice A0_1 l0_1.length c0_1) := (blk_cell BK342.out 1).trans rfl; have hfz35_0 := blk_frozen BK342.out 0; have hfz35_1 := blk_frozen BK342.out 1
     go_wp2
     go_loopg [6, 7] k1 (fun kq v6 v7 w' => ∃ (x6_2 : Int) (x7_2 : Int), v6 = .int .i64 x6_2 ∧ v7 = .int .i64 x7_2 ∧ Aside0 (spec_Clarify.l1 kq x6_2 x7_2 a0_0 x346001_1 = some (r1, r2, r3)) ∧ Aside0 (kq ≤ k1) ∧ Aside0 (Kd.R (Kd.int .i64) 3 w' w.heap.size (fun _ => True) u346001 x346001_1) ∧ Aside0 (w'.heap[gb342]? = some (.cells #[.int .i64 a0_0, (.slice A0_1 l0_1.length c0_1)] 26 (0, 0))) ∧ Aside0 (w'.heap[gb343]? = some (.cells #[.int .i64 0, (.slice none 0 0)] 26 (0, 0))) ∧ Aside0 (w'.heap[gb345]? = some (.cells #[.int .i64 a0_0, u346001] 26 (0, 0))) ∧ Aside0 (Below w.heap.size w w'))
     case atStart => exact ⟨(0), (0), s2_, s2_, H', ⟨Nat.le_refl _⟩, ⟨q6_12⟩, ⟨q6_9⟩, ⟨q6_10⟩, ⟨q6_11⟩, ⟨q6_1⟩⟩
     case round =>
      clear H'
      try clear c1
      try clear c2
      try clear p2
      try clear c3
      try clear p3
      try clear q3
      try clear hx3
      try clear c6
      try clear p6
      try clear c11
      try clear c12
      try clear c14
      try clear c14b0
      try clear c15
      try clear c15b0
      try clear c17
      try clear c18
      try clear c19
      try clear c20
      try clear c23
      try clear c24
      try clear c25
      try clear c27
      try clear c33
      try clear c34
      try clear p34
      try clear q34
      try clear hx34
      try clear hcz13_0
      try clear hcz13_1
      try clear hcz20_0
      try clear hcz20_1
      try clear hcz26_0
      try clear hcz26_1
      try clear hcz35_0
      try clear hcz35_1
      try clear hcz7_0
      try clear hcz7_1
      try clear hcz9_0
      try clear hcz9_1
      try clear hfz13_0
      try clear hfz13_1
      try clear hfz20_0
      try clear hfz20_1
      try clear hfz26_0
      try clear hfz26_1
      try clear hfz35_0
      try clear hfz35_1
      try clear hfz7_0
      try clear hfz7_1
      try clear hfz9_0
      try clear hfz9_1
      try clear hx346_0
      try clear hx348_0
      try clear p2
      try clear p346
      try clear p348
      try clear q346
      try clear q348
      obtain ⟨x6_2, x7_2, rfl, rfl, HA, HK2, HO_346001, BK342, BK343, BK345, HB⟩ := hrel
      cases gk with
      | zero => exact absurd HA.out (by simp [spec_Clarify.l1])
      | succ k2 =>
       have H := HA.out; clear HA
       simp only [spec_Clarify.l1] at H
       by_cases c36 : x7_2 < a0_0
       ·
        rw [if_pos c36] at H; have c36b0 : decide (x7_2 < a0_0) = true := decide_eq_true c36; clear c36; have H' := Aside0.mk H; clear H; have hnb37 := NB345_342.out; have hnc37 := NB342_345.out; have hnb38 := NB345_343.out; have hnc38 := NB343_345.out; have hcz39_0 : wr.cell? ⟨gb345, 0, none⟩ = some (.int .i64 a0_0) := (blk_cell BK345.out 0).trans rfl; have hcz39_1 : wr.cell? ⟨gb345, 1, none⟩ = some (u346001) := (blk_cell BK345.out 1).trans rfl; have hfz39_0 := blk_frozen BK345.out 0; have hfz39_1 := blk_frozen BK345.out 1
        go_wp2
        go_loopg [6, 8] k2 (fun kq v6 v8 w' => ∃ (x6_3 : Int) (x8_3 : Int), v6 = .int .i64 x6_3 ∧ v8 = .int .i64 x8_3 ∧ Aside0 (spec_Clarify.l2 kq x6_3 x7_2 x8_3 a0_0 x346001_1 = some (r1, r2, r3)) ∧ Aside0 (kq ≤ k2) ∧ Aside0 (Kd.R (Kd.int .i64) 3 w' w.heap.size (fun _ => True) u346001 x346001_1) ∧ Aside0 (w'.heap[gb342]? = some (.cells #[.int .i64 a0_0, (.slice A0_1 l0_1.length c0_1)] 26 (0, 0))) ∧ Aside0 (w'.heap[gb343]? = some (.cells #[.int .i64 0, (.slice none 0 0)] 26 (0, 0))) ∧ Aside0 (w'.heap[gb345]? = some (.cells #[.int .i64 a0_0, u346001] 26 (0, 0))) ∧ Aside0 (Below w.heap.size w w'))
        case atStart => exact ⟨(x6_2), (0), s2_, s2_, H', ⟨Nat.le_refl _⟩, ⟨q6_12⟩, ⟨q6_9⟩, ⟨q6_10⟩, ⟨q6_11⟩, ⟨q6_1⟩⟩
        case round =>
         clear H'
         try clear c1
         try clear c2
         try clear p2
         try clear c3
         try clear p3
         try clear q3
         try clear hx3
         try clear c6
         try clear p6
         try clear c11
         try clear c12
         try clear c14
         try clear c14b0
         try clear c15
         try clear c15b0
         try clear c17
         try clear c18
         try clear c19
         try clear c20
         try clear c23
         try clear c24
         try clear c25
         try clear c27
         try clear c33
         try clear c34
         try clear p34
         try clear q34
         try clear hx34
         try clear c36
         try clear c36b0
         try clear c37
         try clear c38
         try clear hcz13_0
         try clear hcz13_1
         try clear hcz20_0
         try clear hcz20_1
         try clear hcz26_0
         try clear hcz26_1
         try clear hcz35_0
         try clear hcz35_1
         try clear hcz39_0
         try clear hcz39_1
         try clear hcz7_0
         try clear hcz7_1
         try clear hcz9_0
         try clear hcz9_1
         try clear hfz13_0
         try clear hfz13_1
         try clear hfz20_0
         try clear hfz20_1
         try clear hfz26_0
         try clear hfz26_1
         try clear hfz35_0
         try clear hfz35_1
         try clear hfz39_0
         try clear hfz39_1
         try clear hfz7_0
         try clear hfz7_1
         try clear hfz9_0
         try clear hfz9_1
         try clear hx346_0
         try clear hx348_0
         try clear p2
         try clear p3
         try clear p34
         try clear p346
         try clear p348
         try clear p6
         try clear q3
         try clear q34
         try clear q346
         try clear q348
         obtain ⟨x6_3, x8_3, rfl, rfl, HA, HK3, HO_346001, BK342, BK343, BK345, HB⟩ := hrel
         cases gk with
         | zero => exact absurd HA.out (by simp [spec_Clarify.l2])
         | succ k3 =>
          have H := HA.out; clear HA
          simp only [spec_Clarify.l2] at H
          by_cases c40 : x8_3 < x7_2
          ·
           rw [if_pos c40] at H; have c40b0 : decide (x8_3 < x7_2) = true := decide_eq_true c40; clear c40; obtain ⟨t358, A41, H⟩ := bnd6_ H; obtain ⟨t359, A42, H⟩ := bnd6_ H
           by_cases c43 : t358 = t359
           ·
            rw [if_pos c43] at H; have c43b0 : (t358 == t359) = true := beq_iff_eq.mpr c43; have c43b1 : (t358 != t359) = false := bne_eq_false_iff_eq.mpr c43; clear c43; obtain ⟨ji44, hji44⟩ : ∃ j_ : Int, (IntKind.u64.wrap (x7_2)) = j_ := ⟨_, rfl⟩
            replace H : (if 0 ≤ (ji44) then (spec_Clarify.l2 k3 (Go.bits .or .i64 x6_3 (shl .i64 1 (ji44))) x7_2 (wrap64 (x8_3 + 1)) a0_0 x346001_1) else (none)) = some (r1, r2, r3) := by first | (rw [hji44] at H; exact H) | (simp only [hji44] at H ⊢; exact H)
            (try rw [hji44] at A41)
            (try rw [hji44] at A42)
            by_cases c45 : 0 ≤ (ji44)
            ·
             rw [if_pos c45] at H; have c45b0 := eq_true c45; have c45b1 : decide (0 ≤ (ji44)) = true := decide_eq_true c45; clear c45; obtain ⟨ji46, hji46⟩ : ∃ j_ : Int, (shl .i64 1 (ji44)) = j_ := ⟨_, rfl⟩
             replace H : (spec_Clarify.l2 k3 (Go.bits .or .i64 x6_3 (ji46)) x7_2 (wrap64 (x8_3 + 1)) a0_0 x346001_1) = some (r1, r2, r3) := by first | (rw [hji46] at H; exact H) | (simp only [hji46] at H ⊢; exact H)
             (try rw [hji46] at A41)
             (try rw [hji46] at A42)
             have hji46_ : (IntKind.i64.wrap (1 * 2 ^ min (ji44).toNat 64)) = ji46 := hji46; have hji46z : (ji44) ≤ 64 → (IntKind.i64.wrap (1 * 2 ^ (ji44).toNat)) = ji46 := shl_small hji46
             have hji46u : (IntKind.i64.wrap (2 ^ min (ji44).toNat 64)) = ji46 := by have h_ := hji46_; rw [Int.one_mul] at h_; exact h_
             have hji46v : (ji44) ≤ 64 → (IntKind.i64.wrap (2 ^ (ji44).toNat)) = ji46 := fun hle_ => by have h_ := hji46z hle_; rw [Int.one_mul] at h_; exact h_
             have hji46y : (wrap64 (1 * 2 ^ min (ji44).toNat 64)) = ji46 := (i64_w _).symm.trans hji46_
             have hji46x : (ji44) ≤ 64 → (wrap64 (1 * 2 ^ (ji44).toNat)) = ji46 := fun h_ => (i64_w _).symm.trans (hji46z h_)
             have H' := Aside0.mk H; clear H
             try go_wp2
             have n0_ := Aside0.mk (Kd.R_drew HO_346001.out); have n1_ := Aside0.mk (blk_drew BK342.out); have n2_ := Aside0.mk (blk_drew BK343.out); have n3_ := Aside0.mk (blk_drew BK345.out); have n4_ := Aside0.mk (below_drew1 HB.out); clear HO_346001; clear BK342; clear BK343; clear BK345; clear HB; have HO_346001 := n0_; have BK342 := n1_; have BK343 := n2_; have BK345 := n3_; have HB := n4_; clear n0_ n1_ n2_ n3_ n4_; obtain ⟨Ao48, co48, eo48⟩ := Kd.R_slice HO_346001.out
             (first | subst eo48 | (injection eo48 with f1_ f2_ f3_; have f4_ := f1_.symm; have f5_ := f3_.symm; clear f1_ f2_ f3_; subst f4_; subst f5_))
             refine start_ (n := 7) (S := fun w' => w'.cell? ⟨gb345, 0, none⟩ = some (.int .i64 a0_0) ∧ w'.cell? ⟨gb345, 1, none⟩ = some (.slice Ao48 x346001_1.length co48)) (ds := []) (tb_ 7 0) s8_ rfl rfl ⟨(blk_cell BK345.out 0).trans rfl, (blk_cell BK345.out 1).trans rfl⟩ (fun hHeld => ?_)
             generalize wr.drew = w47 at HO_346001 BK342 BK343 BK345 HB hHeld ⊢
             refine pl_ 1 56 (tb_ 7 2) ?_; refine pl_ 4 59 (tb_ 7 18) ?_
             refine take_ (i := 0) (N := some 55) (v := ?_) (a' := ?_) (tb_ 7 19) rfl rfl s8_ (fun _ _ _ h => h) (Or.inl ⟨by rfl, ?_⟩) hHeld ?_ ?_
             rotate_left
             ·
              rintro w' ⟨s0, s1⟩
              go_simp; with_reducible rfl
             rotate_left
             ·
              exact s7_
             refine take_ (i := 3) (N := some 58) (v := ?_) (a' := ?_) (tb_ 7 27) rfl rfl s8_ (fun _ _ _ h => h) (Or.inl ⟨by rfl, ?_⟩) hHeld ?_ ?_
             rotate_left
             ·
              rintro w' ⟨s0, s1⟩
              go_simp; with_reducible rfl
             rotate_left
             ·
              exact s7_
             refine one_ (i := 2) (N := some 57) (tb_ 7 31) rfl rfl s8_ (by decide) (fun K hK => ?_)
             refine goes_ Try.func65 s8_ rfl #[.agg #[.int .i64 a0_0, .slice Ao48 x346001_1.length co48], .int .i64 x8_3] (by rfl) rfl rfl s0_ ?_
             with_reducible refine (spec_l3Column.calls k3 a0_0 _ _ x346001_1 x8_3 t358 _ ?side1 ?side2 A41.out).mono ?_
             (case side1 => exact q6_3)
             (case side2 => exact (Kd.R_reads' HO_346001.out).2.1)
             rintro e w49 ⟨rfl, hb⟩
             refine ⟨_, rfl, ?_⟩
             have n0_ := Aside0.mk (Kd.R_below q6_12 hb); have n1_ := Aside0.mk (blk_below (g := gb342) (o := .cells #[.int .i64 a0_0, .slice A0_1 l0_1.length c0_1] 26 (0, 0)) q6_9 hb); have n2_ := Aside0.mk (blk_below (g := gb343) (o := .cells #[.int .i64 0, .slice none 0 0] 26 (0, 0)) q6_10 hb); have n3_ := Aside0.mk (blk_below (g := gb345) (o := .cells #[.int .i64 a0_0, .slice Ao48 x346001_1.length co48] 26 (0, 0)) q6_11 hb); have n4_ := Aside0.mk (below_step q6_1 hb); clear HO_346001; clear BK342; clear BK343; clear BK345; clear HB; have HO_346001 := n0_; have BK342 := n1_; have BK343 := n2_; have BK345 := n3_; have HB := n4_; clear n0_ n1_ n2_ n3_ n4_
             (try clear hb)
             (try clear hb2)
             (try clear hk)
             (try clear hi)
             refine hK.out _ _ ⟨(blk_cell BK345.out 0).trans rfl, (blk_cell BK345.out 1).trans rfl⟩ (fun hHeld => ?_)
             clear hK K
             refine norm_ (a' := ?_) ?_ ?_
             rotate_left
             ·
              show Act.put _ (some 57) _ = _
              exact s7_
             refine one_ (i := 5) (N := some 60) (tb_ 7 63) rfl rfl s8_ (by decide) (fun K hK => ?_)
             refine goes_ Try.func65 s8_ rfl #[.agg #[.int .i64 a0_0, .slice Ao48 x346001_1.length co48], .int .i64 x7_2] (by rfl) rfl rfl s0_ ?_
             with_reducible refine (spec_l3Column.calls k3 a0_0 _ _ x346001_1 x7_2 t359 _ ?side1 ?side2 A42.out).mono ?_
             (case side1 => exact q6_3)
             (case side2 => exact (Kd.R_reads' HO_346001.out).2.1)
             rintro e w50 ⟨rfl, hb⟩
             refine ⟨_, rfl, ?_⟩
             have n0_ := Aside0.mk (Kd.R_below q6_12 hb); have n1_ := Aside0.mk (blk_below (g := gb342) (o := .cells #[.int .i64 a0_0, .slice A0_1 l0_1.length c0_1] 26 (0, 0)) q6_9 hb); have n2_ := Aside0.mk (blk_below (g := gb343) (o := .cells #[.int .i64 0, .slice none 0 0] 26 (0, 0)) q6_10 hb); have n3_ := Aside0.mk (blk_below (g := gb345) (o := .cells #[.int .i64 a0_0, .slice Ao48 x346001_1.length co48] 26 (0, 0)) q6_11 hb); have n4_ := Aside0.mk (below_step q6_1 hb); clear HO_346001; clear BK342; clear BK343; clear BK345; clear HB; have HO_346001 := n0_; have BK342 := n1_; have BK343 := n2_; have BK345 := n3_; have HB := n4_; clear n0_ n1_ n2_ n3_ n4_
             (try clear hb)
             (try clear hb2)
             (try clear hk)
             (try clear hi)
             refine hK.out _ _ ⟨(blk_cell BK345.out 0).trans rfl, (blk_cell BK345.out 1).trans rfl⟩ (fun hHeld => ?_)
             clear hK K
             refine norm_ (a' := ?_) ?_ ?_
             rotate_left
             ·
              show Act.put _ (some 60) _ = _
              exact s7_
             refine pl_ 6 61 (tb_ 7 127) ?_
             refine done_ s8_ ?_
             try go_wp2
             go_roundg k3
             case measure => have := HK1.out; have := HK2.out; have := HK3.out; omega
             case rel => exact ⟨(Go.bits .or .i64 x6_3 (ji46)), (wrap64 (x8_3 + 1)), (by first | rfl | (simp; done) | (simp only [← hji46] <;> (first | rfl | simp)) | (simp [*]; done)), s2_, H', ⟨by have := HK1.out; have := HK2.out; have := HK3.out; omega⟩, ⟨q6_12⟩, ⟨q6_9⟩, ⟨q6_10⟩, ⟨q6_11⟩, ⟨q6_1⟩⟩
            ·
             rw [if_neg c45] at H
             exact absurd H (by simp)
           ·
            rw [if_neg c43] at H; have c43b0 : (t358 == t359) = false := beq_eq_false_iff_ne.mpr c43; have c43b1 : (t358 != t359) = true := bne_iff_ne.mpr c43; have H' := Aside0.mk H; clear H
            try go_wp2
            have n0_ := Aside0.mk (Kd.R_drew HO_346001.out); have n1_ := Aside0.mk (blk_drew BK342.out); have n2_ := Aside0.mk (blk_drew BK343.out); have n3_ := Aside0.mk (blk_drew BK345.out); have n4_ := Aside0.mk (below_drew1 HB.out); clear HO_346001; clear BK342; clear BK343; clear BK345; clear HB; have HO_346001 := n0_; have BK342 := n1_; have BK343 := n2_; have BK345 := n3_; have HB := n4_; clear n0_ n1_ n2_ n3_ n4_; obtain ⟨Ao52, co52, eo52⟩ := Kd.R_slice HO_346001.out
            (first | subst eo52 | (injection eo52 with f1_ f2_ f3_; have f4_ := f1_.symm; have f5_ := f3_.symm; clear f1_ f2_ f3_; subst f4_; subst f5_))
            refine start_ (n := 7) (S := fun w' => w'.cell? ⟨gb345, 0, none⟩ = some (.int .i64 a0_0) ∧ w'.cell? ⟨gb345, 1, none⟩ = some (.slice Ao52 x346001_1.length co52)) (ds := []) (tb_ 7 0) s8_ rfl rfl ⟨(blk_cell BK345.out 0).trans rfl, (blk_cell BK345.out 1).trans rfl⟩ (fun hHeld => ?_)
            generalize wr.drew = w51 at HO_346001 BK342 BK343 BK345 HB hHeld ⊢
            refine pl_ 1 56 (tb_ 7 2) ?_; refine pl_ 4 59 (tb_ 7 18) ?_
            refine take_ (i := 0) (N := some 55) (v := ?_) (a' := ?_) (tb_ 7 19) rfl rfl s8_ (fun _ _ _ h => h) (Or.inl ⟨by rfl, ?_⟩) hHeld ?_ ?_
            rotate_left
            ·
             rintro w' ⟨s0, s1⟩
             go_simp; with_reducible rfl
            rotate_left
            ·
             exact s7_
            refine take_ (i := 3) (N := some 58) (v := ?_) (a' := ?_) (tb_ 7 27) rfl rfl s8_ (fun _ _ _ h => h) (Or.inl ⟨by rfl, ?_⟩) hHeld ?_ ?_
            rotate_left
            ·
             rintro w' ⟨s0, s1⟩
             go_simp; with_reducible rfl
            rotate_left
            ·
             exact s7_
            refine one_ (i := 2) (N := some 57) (tb_ 7 31) rfl rfl s8_ (by decide) (fun K hK => ?_)
            refine goes_ Try.func65 s8_ rfl #[.agg #[.int .i64 a0_0, .slice Ao52 x346001_1.length co52], .int .i64 x8_3] (by rfl) rfl rfl s0_ ?_
            with_reducible refine (spec_l3Column.calls k3 a0_0 _ _ x346001_1 x8_3 t358 _ ?side1 ?side2 A41.out).mono ?_
            (case side1 => exact q6_3)
            (case side2 => exact (Kd.R_reads' HO_346001.out).2.1)
            rintro e w53 ⟨rfl, hb⟩
            refine ⟨_, rfl, ?_⟩
            have n0_ := Aside0.mk (Kd.R_below q6_12 hb); have n1_ := Aside0.mk (blk_below (g := gb342) (o := .cells #[.int .i64 a0_0, .slice A0_1 l0_1.length c0_1] 26 (0, 0)) q6_9 hb); have n2_ := Aside0.mk (blk_below (g := gb343) (o := .cells #[.int .i64 0, .slice none 0 0] 26 (0, 0)) q6_10 hb); have n3_ := Aside0.mk (blk_below (g := gb345) (o := .cells #[.int .i64 a0_0, .slice Ao52 x346001_1.length co52] 26 (0, 0)) q6_11 hb); have n4_ := Aside0.mk (below_step q6_1 hb); clear HO_346001; clear BK342; clear BK343; clear BK345; clear HB; have HO_346001 := n0_; have BK342 := n1_; have BK343 := n2_; have BK345 := n3_; have HB := n4_; clear n0_ n1_ n2_ n3_ n4_
            (try clear hb)
            (try clear hb2)
            (try clear hk)
            (try clear hi)
            refine hK.out _ _ ⟨(blk_cell BK345.out 0).trans rfl, (blk_cell BK345.out 1).trans rfl⟩ (fun hHeld => ?_)
            clear hK K
            refine norm_ (a' := ?_) ?_ ?_
            rotate_left
            ·
             show Act.put _ (some 57) _ = _
             exact s7_
            refine one_ (i := 5) (N := some 60) (tb_ 7 63) rfl rfl s8_ (by decide) (fun K hK => ?_)
            refine goes_ Try.func65 s8_ rfl #[.agg #[.int .i64 a0_0, .slice Ao52 x346001_1.length co52], .int .i64 x7_2] (by rfl) rfl rfl s0_ ?_
            with_reducible refine (spec_l3Column.calls k3 a0_0 _ _ x346001_1 x7_2 t359 _ ?side1 ?side2 A42.out).mono ?_
            (case side1 => exact q6_3)
            (case side2 => exact (Kd.R_reads' HO_346001.out).2.1)
            rintro e w54 ⟨rfl, hb⟩
            refine ⟨_, rfl, ?_⟩
            have n0_ := Aside0.mk (Kd.R_below q6_12 hb); have n1_ := Aside0.mk (blk_below (g := gb342) (o := .cells #[.int .i64 a0_0, .slice A0_1 l0_1.length c0_1] 26 (0, 0)) q6_9 hb); have n2_ := Aside0.mk (blk_below (g := gb343) (o := .cells #[.int .i64 0, .slice none 0 0] 26 (0, 0)) q6_10 hb); have n3_ := Aside0.mk (blk_below (g := gb345) (o := .cells #[.int .i64 a0_0, .slice Ao52 x346001_1.length co52] 26 (0, 0)) q6_11 hb); have n4_ := Aside0.mk (below_step q6_1 hb); clear HO_346001; clear BK342; clear BK343; clear BK345; clear HB; have HO_346001 := n0_; have BK342 := n1_; have BK343 := n2_; have BK345 := n3_; have HB := n4_; clear n0_ n1_ n2_ n3_ n4_
            (try clear hb)
            (try clear hb2)
            (try clear hk)
            (try clear hi)
            refine hK.out _ _ ⟨(blk_cell BK345.out 0).trans rfl, (blk_cell BK345.out 1).trans rfl⟩ (fun hHeld => ?_)
            clear hK K
            refine norm_ (a' := ?_) ?_ ?_
            rotate_left
            ·
             show Act.put _ (some 60) _ = _
             exact s7_
            refine pl_ 6 61 (tb_ 7 127) ?_
            refine done_ s8_ ?_
            try go_wp2
            go_roundg k3
            case measure => have := HK1.out; have := HK2.out; have := HK3.out; omega
            case rel => exact ⟨(x6_3), (wrap64 (x8_3 + 1)), s2_, s2_, H', ⟨by have := HK1.out; have := HK2.out; have := HK3.out; omega⟩, ⟨q6_12⟩, ⟨q6_9⟩, ⟨q6_10⟩, ⟨q6_11⟩, ⟨q6_1⟩⟩
          ·
           rw [if_neg c40] at H; have c40b0 : decide (x8_3 < x7_2) = false := decide_eq_false c40; clear c40; have H' := Aside0.mk H; clear H
           go_wp2
           go_roundg k3
           case measure => have := HK1.out; have := HK2.out; have := HK3.out; omega
           case rel => exact ⟨(x6_3), (wrap64 (x7_2 + 1)), s2_, s2_, H', ⟨by have := HK1.out; have := HK2.out; have := HK3.out; omega⟩, ⟨q6_12⟩, ⟨q6_9⟩, ⟨q6_10⟩, ⟨q6_11⟩, ⟨q6_1⟩⟩
       ·
        rw [if_neg c36] at H; have c36b0 : decide (x7_2 < a0_0) = false := decide_eq_false c36; clear c36; obtain ⟨⟨t352, t353, t356⟩, A55, H⟩ := bnd6_ H; dsimp only at H
        simp only [Option.some.injEq, Prod.mk.injEq] at H
        obtain ⟨rfl, rfl, rfl⟩ := H; have hnb56 := NB345_342.out; have hnc56 := NB342_345.out; have hnb57 := NB345_343.out; have hnc57 := NB343_345.out; have hcz58_0 : wr.cell? ⟨gb345, 0, none⟩ = some (.int .i64 a0_0) := (blk_cell BK345.out 0).trans rfl; have hcz58_1 : wr.cell? ⟨gb345, 1, none⟩ = some (u346001) := (blk_cell BK345.out 1).trans rfl; have hfz58_0 := blk_frozen BK345.out 0; have hfz58_1 := blk_frozen BK345.out 1; obtain ⟨Ao59, co59, eo59⟩ := Kd.R_slice HO_346001.out; subst eo59
        go_wp2_with (first | (refine gL_ 33 70 Try.func33 #[.agg #[.int .i64 a0_0, .slice Ao59 x346001_1.length co59], .int .i64 x6_2] ?_; (with_reducible refine (spec_DropAttributes.calls k2 a0_0 _ _ x346001_1 x6_2 t352 t353 t356 _ ?side1 ?side2 A55.out).mono ?_); (case side1 => exact q6_3); (case side2 => exact (Kd.R_reads' HO_346001.out).2.1); rintro e w60 ⟨v354, rfl, ho0, hb⟩; refine ⟨_, rfl, ?_⟩; have n_ := ac_ (Kd.R_elder' q6_12 (Kd.R_base ho0) hb) <| ac_ (Kd.R_lower (Kd.R_new' ho0 (Kd.R_lt q6_12)) (below_size q6_1)) <| ac_ (blk_below (g := gb342) (o := .cells #[.int .i64 a0_0, .slice A0_1 l0_1.length c0_1] 26 (0, 0)) q6_9 hb) <| ac_ (blk_below (g := gb343) (o := .cells #[.int .i64 0, .slice none 0 0] 26 (0, 0)) q6_10 hb) <| ac_ (blk_below (g := gb345) (o := .cells #[.int .i64 a0_0, .slice Ao59 x346001_1.length co59] 26 (0, 0)) q6_11 hb) <| Aside0.mk (below_step q6_1 hb); clear HO_346001 BK342 BK343 BK345 HB; obtain ⟨HO_346001, HO355, BK342, BK343, BK345, HB⟩ := n_; (try clear hb ho0)) | (refine be_ 9 #[.int .i64 0, .slice none 0 0] 26 ?_; intro gb357 hg w61 hbox hb; have n_ := ac_ (Kd.R_below q6_12 hb) <| ac_ (Kd.R_below (by (with_reducible repeat (first | apply Kd.R_alloc | apply Kd.R_drewN | apply Kd.R_drew)); exact HO355.out) hb) <| ac_ (blk_below (g := gb342) (o := .cells #[.int .i64 a0_0, .slice A0_1 l0_1.length c0_1] 26 (0, 0)) q6_9 hb) <| ac_ (blk_below (g := gb343) (o := .cells #[.int .i64 0, .slice none 0 0] 26 (0, 0)) q6_10 hb) <| ac_ (blk_below (g := gb345) (o := .cells #[.int .i64 a0_0, .slice Ao59 x346001_1.length co59] 26 (0, 0)) q6_11 hb) <| ac_ (below_step q6_1 hb) <| ac_ (hbox) <| ac_ ((gz_ w hg q6_1)) <| ac_ ((gz_ w hg q6_1)) <| ac_ ((nl_ hg (blk_lt (g := gb342) (o := .cells #[.int .i64 a0_0, .slice A0_1 l0_1.length c0_1] 26 (0, 0)) q6_9))) <| ac_ ((ng_ hg (blk_lt (g := gb342) (o := .cells #[.int .i64 a0_0, .slice A0_1 l0_1.length c0_1] 26 (0, 0)) q6_9))) <| ac_ ((nl_ hg (blk_lt (g := gb343) (o := .cells #[.int .i64 0, .slice none 0 0] 26 (0, 0)) q6_10))) <| ac_ ((ng_ hg (blk_lt (g := gb343) (o := .cells #[.int .i64 0, .slice none 0 0] 26 (0, 0)) q6_10))) <| ac_ ((nl_ hg (blk_lt (g := gb345) (o := .cells #[.int .i64 a0_0, .slice Ao59 x346001_1.length co59] 26 (0, 0)) q6_11))) <| Aside0.mk ((ng_ hg (blk_lt (g := gb345) (o := .cells #[.int .i64 a0_0, .slice Ao59 x346001_1.length co59] 26 (0, 0)) q6_11))); clear HO_346001 HO355 BK342 BK343 BK345 HB; obtain ⟨HO_346001, HO355, BK342, BK343, BK345, HB, BK357, GW357, GE357, NB342_357, NB357_342, NB343_357, NB357_343, NB345_357, NB357_345⟩ := n_; clear hb hbox hg; have hnb62 := NB357_342.out; have hnc62 := NB342_357.out; have hnb63 := NB357_343.out; have hnc63 := NB343_357.out; have hnb64 := NB357_345.out; have hnc64 := NB345_357.out; have hcz65_0 : w61.cell? ⟨gb357, 0, none⟩ = some (.int .i64 0) := (blk_cell BK357.out 0).trans rfl; have hcz65_1 : w61.cell? ⟨gb357, 1, none⟩ = some (.slice none 0 0) := (blk_cell BK357.out 1).trans rfl; have hfz65_0 := blk_frozen BK357.out 0; have hfz65_1 := blk_frozen BK357.out 1; obtain ⟨Ao66, co66, eo66⟩ := Kd.R_slice HO355.out; subst eo66; have hnb67 := NB343_342.out; have hnc67 := NB342_343.out; have hcz68_0 : w61.cell? ⟨gb343, 0, none⟩ = some (.int .i64 0) := (blk_cell BK343.out 0).trans rfl; have hcz68_1 : w61.cell? ⟨gb343, 1, none⟩ = some (.slice none 0 0) := (blk_cell BK343.out 1).trans rfl; have hfz68_0 := blk_frozen BK343.out 0; have hfz68_1 := blk_frozen BK343.out 1))
        refine bodyPost_ret (results_ct rfl _ _ gb343 26 #[.int .i64 t352, .slice Ao66 t353.length co66] (0, 0) _ rfl (by (with_reducible repeat (first | refine blk_drewN ?_ _ | refine blk_drew ?_ | refine blk_alloc ?_ _)); refine blk_put (cs := #[.int .i64 t352, .slice none 0 0]) ?_ 1 _ rfl; (with_reducible repeat (first | refine blk_drewN ?_ _ | refine blk_drew ?_ | refine blk_alloc ?_ _)); refine blk_put (cs := #[.int .i64 0, .slice none 0 0]) ?_ 0 _ rfl; (with_reducible repeat (first | refine blk_drewN ?_ _ | refine blk_drew ?_ | refine blk_alloc ?_ _)); refine blk_far ?_ NB343_357.out _; (with_reducible repeat (first | refine blk_drewN ?_ _ | refine blk_drew ?_ | refine blk_alloc ?_ _)); refine blk_far ?_ NB343_357.out _; (with_reducible repeat (first | refine blk_drewN ?_ _ | refine blk_drew ?_ | refine blk_alloc ?_ _)); exact BK343.out) Try.underlying26 rfl s8_) rfl ?_
        exact ⟨_, (by first | rfl | (simp [errW_none, errW_some] <;> rfl) | (simp [*, errW_none, errW_some] <;> rfl)), (by (with_reducible repeat (first | apply Kd.R_alloc | apply Kd.R_drewN | apply Kd.R_drew)); exact Kd.R_mono (Kd.R_far (p := ⟨gb343, 1, none⟩) (Kd.R_far (p := ⟨gb343, 0, none⟩) (Kd.R_far (p := ⟨gb357, 1, none⟩) (Kd.R_far (p := ⟨gb357, 0, none⟩) (Kd.R_types (Kd.R_types HO355.out BK357.out (by decide)) BK343.out (by decide)) (fun _ hk => hk.1.2) (.int .i64 t352)) (fun _ hk => hk.1.2) (.slice Ao66 t353.length co66)) (fun _ hk => hk.2) (.int .i64 t352)) (fun _ hk => hk.2) (.slice Ao66 t353.length co66)) (fun _ hk => trivial)), (by repeat (first | (with_reducible first | exact HB.out | apply below_alloc | apply pw_below_drewN | apply below_drew1 | refine below_set ?_ GE342.out | refine below_set ?_ GE343.out | refine below_set ?_ GE345.out | refine below_set ?_ GE357.out) | exact HB.out))⟩
 ·
  replace c3 := Bool.eq_false_iff.mpr c3; subst c3
  rw [if_neg (show ¬ (false = true) by decide)] at H
  simp only [Option.some.injEq, Prod.mk.injEq] at H
  obtain ⟨rfl, rfl, rfl⟩ := H
  go_enter Try.func27, Try.ntmps27
  go_wp2_with (first | (refine be_ 1 #[.int .i64 a0_0, .slice A0_1 l0_1.length c0_1] 26 ?_; intro gb342 hg w69 hbox hb; have n_ := ac_ (below_step s1_ hb) <| ac_ (hbox) <| ac_ ((gz_ w hg s1_)) <| Aside0.mk ((gz_ w hg s1_)); clear HB; obtain ⟨HB, BK342, GW342, GE342⟩ := n_; clear hb hbox hg) | (refine be_ 2 #[.int .i64 0, .slice none 0 0] 26 ?_; intro gb343 hg w70 hbox hb; have n_ := ac_ (blk_below (g := gb342) (o := .cells #[.int .i64 a0_0, .slice A0_1 l0_1.length c0_1] 26 (0, 0)) q6_9 hb) <| ac_ (below_step q6_5 hb) <| ac_ (hbox) <| ac_ ((gz_ w hg q6_5)) <| ac_ ((gz_ w hg q6_5)) <| ac_ ((nl_ hg (blk_lt (g := gb342) (o := .cells #[.int .i64 a0_0, .slice A0_1 l0_1.length c0_1] 26 (0, 0)) q6_9))) <| Aside0.mk ((ng_ hg (blk_lt (g := gb342) (o := .cells #[.int .i64 a0_0, .slice A0_1 l0_1.length c0_1] 26 (0, 0)) q6_9))); clear BK342 HB; obtain ⟨BK342, HB, BK343, GW343, GE343, NB342_343, NB343_342⟩ := n_; clear hb hbox hg; have hnb71 := NB342_343.out; have hnc71 := NB343_342.out; have hcz72_0 : w70.cell? ⟨gb342, 0, none⟩ = some (.int .i64 a0_0) := (blk_cell BK342.out 0).trans rfl; have hcz72_1 : w70.cell? ⟨gb342, 1, none⟩ = some (.slice A0_1 l0_1.length c0_1) := (blk_cell BK342.out 1).trans rfl; have hfz72_0 := blk_frozen BK342.out 0; have hfz72_1 := blk_frozen BK342.out 1) | (refine gL_ 20 12 Try.func20 #[.agg #[.int .i64 a0_0, .slice A0_1 l0_1.length c0_1]] ?_; (with_reducible refine (spec_IsContext.calls k a0_0 _ _ l0_1 false _ ?side1 ?side2 A2.out).mono ?_); (case side1 => exact s3_); (case side2 => exact HC0_1.out); rintro e w73 ⟨rfl, hb⟩; refine ⟨_, rfl, ?_⟩; have n_ := ac_ (blk_below (g := gb342) (o := .cells #[.int .i64 a0_0, .slice A0_1 l0_1.length c0_1] 26 (0, 0)) q6_9 hb) <| ac_ (blk_below (g := gb343) (o := .cells #[.int .i64 0, .slice none 0 0] 26 (0, 0)) q6_10 hb) <| Aside0.mk (below_step q6_2 hb); clear BK342 BK343 HB; obtain ⟨BK342, BK343, HB⟩ := n_; (try clear hb); have hcz74_0 : w73.cell? ⟨gb343, 0, none⟩ = some (.int .i64 0) := (blk_cell BK343.out 0).trans rfl; have hcz74_1 : w73.cell? ⟨gb343, 1, none⟩ = some (.slice none 0 0) := (blk_cell BK343.out 1).trans rfl; have hfz74_0 := blk_frozen BK343.out 0; have hfz74_1 := blk_frozen BK343.out 1))
  refine bodyPost_ret (results_ct rfl _ _ gb343 26 #[.int .i64 0, .slice none 0 0] (0, 0) _ rfl (by (with_reducible repeat (first | refine blk_drewN ?_ _ | refine blk_drew ?_ | refine blk_alloc ?_ _)); refine blk_put (cs := #[.int .i64 0, .slice none 0 0]) ?_ 1 _ rfl; (with_reducible repeat (first | refine blk_drewN ?_ _ | refine blk_drew ?_ | refine blk_alloc ?_ _)); refine blk_put (cs := #[.int .i64 0, .slice none 0 0]) ?_ 0 _ rfl; (with_reducible repeat (first | refine blk_drewN ?_ _ | refine blk_drew ?_ | refine blk_alloc ?_ _)); exact BK343.out) Try.underlying26 rfl s8_) rfl ?_
  exact ⟨_, (by first | rfl | (simp [errW_none, errW_some] <;> rfl) | (simp [*, errW_none, errW_some] <;> rfl)), s13_, q6_2⟩
end Go.Proofs.Ytafnamchckehmaa.Pr
