/- Functions of the program as plain functions, each with the proof that its call answers so. Written by a program of this place (myprint.py over the kit's print). No condition beyond what each statement says. -/
import Derived.Test.YtjkbmdbecplgiaaPr0
import Derived.Test.YtjkbmdbecplgiaaPr5
namespace Go.Proofs.Ytjkbmdbecplgiaa.Pr
open Go.RowKit Go.Proofs.YtjkbmdbecplgiaaW.PrintWords Go.Proofs.YtjkbmdbecplgiaaW.PrintLast Go.Proofs.YtjkbmdbecplgiaaW.PrintMore
attribute [local go_sem] max2_int min2_int max_two min_two max_three min_three max_four min_four   -- for this text's walks alone
set_option linter.unusedVariables false
set_option linter.unusedSimpArgs false

/-! ### spec_l10All: function 64 -/
theorem q7_1 {P : Prop} (h : P := by repeat (first | exact HR1.out | (with_reducible refine Kd.C_alloc ?_ _) | (with_reducible refine Kd.C_drewN ?_ _) | (with_reducible refine Kd.C_drew ?_))) : P := h
theorem q7_2 {P : Prop} (h : P := by first | (with_reducible assumption) | assumption) : P := h
def spec_l10All.l0 : Nat → List (S25) → List (S25) → Int → Option (Bool)
 | 0, _, _, _ => none
 | k + 1, x0, x1, x5 => if x5 < (x0.length : Int) then (if 0 ≤ x5 then ((spec_l9Closed.f k x1 ((rd_T25 x0 x5).f0)).bind fun t291 => (if (Go.bits .and .i64 t291 ((rd_T25 x0 x5).f1)) = ((rd_T25 x0 x5).f1) then (spec_l10All.l0 k x0 x1 (wrap64 (x5 + 1))) else (some false))) else (none)) else (some true)
def spec_l10All.f (k : Nat) (l0 : List (S25)) (l1 : List (S25)) : Option (Bool) := spec_l10All.l0 k l0 l1 0
theorem spec_l10All.mono_l : ∀ k, (∀ y0 y1 y2, LeO (spec_l10All.l0 k y0 y1 y2) (spec_l10All.l0 (k + 1) y0 y1 y2))
 | 0 => fun _ _ _ r h => by simp [spec_l10All.l0] at h
 | k + 1 => by
  have ih0 := spec_l10All.mono_l k
  ·
   intro y0 y1 y2
   unfold spec_l10All.l0
   repeat' first
   | (with_reducible exact ih0 _ _ _)
   | (with_reducible exact spec_l9Closed.mono _ _ _)
   | (with_reducible exact LeO.refl _)
   | (with_reducible exact LeO.none _)
   | (with_reducible refine LeO.ite ?_ ?_)
   | (with_reducible refine LeO.bind ?_ (fun _ => ?_))
   | exact ih0 _ _ _
   | exact spec_l9Closed.mono _ _ _
   | exact LeO.none _
   | refine LeO.ite ?_ ?_
   | refine LeO.bind ?_ (fun _ => ?_)
theorem spec_l10All.mono : ∀ a0 a1 k, LeO (spec_l10All.f k a0 a1) (spec_l10All.f (k + 1) a0 a1) := by
 intro a0 a1 k
 have ih0 := spec_l10All.mono_l k
 unfold spec_l10All.f
 repeat' first
   | (with_reducible exact ih0 _ _ _)
   | (with_reducible exact spec_l9Closed.mono _ _ _)
   | (with_reducible exact LeO.refl _)
   | (with_reducible exact LeO.none _)
   | (with_reducible refine LeO.ite ?_ ?_)
   | (with_reducible refine LeO.bind ?_ (fun _ => ?_))
   | exact ih0 _ _ _
   | exact spec_l9Closed.mono _ _ _
   | exact LeO.none _
   | refine LeO.ite ?_ ?_
   | refine LeO.bind ?_ (fun _ => ?_)
set_option maxHeartbeats 8000000 in
set_option maxRecDepth 100000 in
theorem spec_l10All.calls (k : Nat) (A0 : Option Addr) (c0 : Nat) (l0 : List (S25)) (A1 : Option Addr) (c1 : Nat) (l1 : List (S25)) (r : Bool) (w : World) (hr0 : Kd.C k25 w A0 l0.length l0) (hc0 : l0.length ≤ c0) (hr1 : Kd.C k25 w A1 l1.length l1) (hc1 : l1.length ≤ c1) (h : spec_l10All.f k l0 l1 = some r) :
  Calls Try.prog 64 #[.slice A0 l0.length c0, .slice A1 l1.length c1] w fun e w' => e = .returned (.bool r) ∧ Drawn0 w w' := by
 have HR0 := Aside0.mk hr0
 have HC0 := Aside0.mk hc0
 clear hr0 hc0
 have HR1 := Aside0.mk hr1
 have HC1 := Aside0.mk hc1
 clear hr1 hc1
 have H : (spec_l10All.l0 k l0 l1 0) = some r := h
 clear h
 have H' := Aside0.mk H
 clear H
 go_enter Try.func64, Try.ntmps64
 go_wp2
 repeat (go_quiet (fail); try go_wp2)
 go_loopg [5] k (fun kq v5 w' => ∃ (x5_1 : Int), v5 = .int .i64 x5_1 ∧ Aside0 (spec_l10All.l0 kq l0 l1 x5_1 = some r) ∧ Aside0 (kq ≤ k) ∧ Drawn0 w w')
 case atStart => exact ⟨(0), (by first | rfl | (simp; done) | (simp [*]; done)), H', ⟨Nat.le_refl _⟩, by repeat (first | exact Drawn0.refl _ | apply Drawn0.step)⟩
 case round =>
  clear H'
  try clear c1
  try clear p2
  obtain ⟨x5_1, rfl, HA, HK1, ⟨m1, rfl⟩⟩ := hrel
  cases gk with
  | zero => exact absurd HA.out (by simp [spec_l10All.l0])
  | succ k1 =>
   have H := HA.out
   clear HA
   simp only [spec_l10All.l0] at H
   by_cases c3 : x5_1 < (l0.length : Int)
   ·
    rw [if_pos c3] at H
    have c3b0 : decide (x5_1 < (l0.length : Int)) = true := decide_eq_true c3
    clear c3
    by_cases c4 : 0 ≤ x5_1
    ·
     rw [if_pos c4] at H
     have c4b0 : decide (0 ≤ x5_1) = true := decide_eq_true c4
     clear c4
     replace H := Option.bind_eq_some_iff.mp H
     obtain ⟨t291, A50, H⟩ := H
     replace H : (if (Go.bits .and .i64 t291 ((rd_T25 l0 x5_1).f1)) = ((rd_T25 l0 x5_1).f1) then (spec_l10All.l0 k1 l0 l1 (wrap64 (x5_1 + 1))) else (some false)) = some r := H
     have A5 := Aside0.mk A50
     clear A50
     by_cases c6 : (Go.bits .and .i64 t291 ((rd_T25 l0 x5_1).f1)) = ((rd_T25 l0 x5_1).f1)
     ·
      rw [if_pos c6] at H
      have c6b0 : ((Go.bits .and .i64 t291 ((rd_T25 l0 x5_1).f1)) == ((rd_T25 l0 x5_1).f1)) = true := beq_iff_eq.mpr c6
      have c6b1 : ((Go.bits .and .i64 t291 ((rd_T25 l0 x5_1).f1)) != ((rd_T25 l0 x5_1).f1)) = false := bne_eq_false_iff_eq.mpr c6
      clear c6
      have H' := Aside0.mk H
      clear H
      have p290 : 0 ≤ (x5_1 : Int) := of_decide_eq_true q7_2
      have q290 : x5_1 < (l0.length : Int) := of_decide_eq_true q7_2
      obtain ⟨ad290, e290, hx290_0, hx290_1⟩ := at_T25 HR0.out x5_1 p290 q290
      cases e290
      replace p290 := eq_true p290
      replace q290 := eq_true q290
      go_wp2_with (first | (go_at_call 63; (with_reducible refine (spec_l9Closed.calls k1 _ _ l1 ((rd_T25 l0 x5_1).f0) t291 _ ?side1 ?side2 A5.out).mono ?_); (case side1 => exact q7_1); (case side2 => exact HC1.out); rintro e w' ⟨rfl, ⟨nd, rfl⟩⟩; (try first | exact ⟨rfl, _, World.drewN_drewN _ _ _⟩ | exact ⟨rfl, _, Eq.trans (World.drewN_drewN _ _ _) (congrArg (World.drewN _) (Nat.add_assoc _ _ _))⟩); have p292 : 0 ≤ (x5_1 : Int) := of_decide_eq_true q7_2; have q292 : x5_1 < (l0.length : Int) := of_decide_eq_true q7_2; obtain ⟨ad292, e292, hx292_0, hx292_1⟩ := at_T25 HR0.out x5_1 p292 q292; obtain rfl : ad290 = ad292 := (by injection e292); replace p292 := eq_true p292; replace q292 := eq_true q292; have p293 : 0 ≤ (x5_1 : Int) := of_decide_eq_true q7_2; have q293 : x5_1 < (l0.length : Int) := of_decide_eq_true q7_2; obtain ⟨ad293, e293, hx293_0, hx293_1⟩ := at_T25 HR0.out x5_1 p293 q293; obtain rfl : ad290 = ad293 := (by injection e293); replace p293 := eq_true p293; replace q293 := eq_true q293))
      repeat (go_quiet (first | (go_at_call 63; (with_reducible refine (spec_l9Closed.calls k1 _ _ l1 ((rd_T25 l0 x5_1).f0) t291 _ ?side1 ?side2 A5.out).mono ?_); (case side1 => exact q7_1); (case side2 => exact HC1.out); rintro e w' ⟨rfl, ⟨nd, rfl⟩⟩; (try first | exact ⟨rfl, _, World.drewN_drewN _ _ _⟩ | exact ⟨rfl, _, Eq.trans (World.drewN_drewN _ _ _) (congrArg (World.drewN _) (Nat.add_assoc _ _ _))⟩); have p292 : 0 ≤ (x5_1 : Int) := of_decide_eq_true q7_2; have q292 : x5_1 < (l0.length : Int) := of_decide_eq_true q7_2; obtain ⟨ad292, e292, hx292_0, hx292_1⟩ := at_T25 HR0.out x5_1 p292 q292; obtain rfl : ad290 = ad292 := (by injection e292); replace p292 := eq_true p292; replace q292 := eq_true q292; have p293 : 0 ≤ (x5_1 : Int) := of_decide_eq_true q7_2; have q293 : x5_1 < (l0.length : Int) := of_decide_eq_true q7_2; obtain ⟨ad293, e293, hx293_0, hx293_1⟩ := at_T25 HR0.out x5_1 p293 q293; obtain rfl : ad290 = ad293 := (by injection e293); replace p293 := eq_true p293; replace q293 := eq_true q293)); try go_wp2_with (first | (go_at_call 63; (with_reducible refine (spec_l9Closed.calls k1 _ _ l1 ((rd_T25 l0 x5_1).f0) t291 _ ?side1 ?side2 A5.out).mono ?_); (case side1 => exact q7_1); (case side2 => exact HC1.out); rintro e w' ⟨rfl, ⟨nd, rfl⟩⟩; (try first | exact ⟨rfl, _, World.drewN_drewN _ _ _⟩ | exact ⟨rfl, _, Eq.trans (World.drewN_drewN _ _ _) (congrArg (World.drewN _) (Nat.add_assoc _ _ _))⟩); have p292 : 0 ≤ (x5_1 : Int) := of_decide_eq_true q7_2; have q292 : x5_1 < (l0.length : Int) := of_decide_eq_true q7_2; obtain ⟨ad292, e292, hx292_0, hx292_1⟩ := at_T25 HR0.out x5_1 p292 q292; obtain rfl : ad290 = ad292 := (by injection e292); replace p292 := eq_true p292; replace q292 := eq_true q292; have p293 : 0 ≤ (x5_1 : Int) := of_decide_eq_true q7_2; have q293 : x5_1 < (l0.length : Int) := of_decide_eq_true q7_2; obtain ⟨ad293, e293, hx293_0, hx293_1⟩ := at_T25 HR0.out x5_1 p293 q293; obtain rfl : ad290 = ad293 := (by injection e293); replace p293 := eq_true p293; replace q293 := eq_true q293)))
      go_roundg k1
      case measure => have := HK1.out; omega
      case rel => exact ⟨(wrap64 (x5_1 + 1)), (by first | rfl | (simp; done) | (simp [*]; done)), H', ⟨by have := HK1.out; omega⟩, by repeat (first | exact Drawn0.refl _ | apply Drawn0.step)⟩
     ·
      rw [if_neg c6] at H
      have c6b0 : ((Go.bits .and .i64 t291 ((rd_T25 l0 x5_1).f1)) == ((rd_T25 l0 x5_1).f1)) = false := beq_eq_false_iff_ne.mpr c6
      have c6b1 : ((Go.bits .and .i64 t291 ((rd_T25 l0 x5_1).f1)) != ((rd_T25 l0 x5_1).f1)) = true := bne_iff_ne.mpr c6
      obtain rfl := Option.some.inj H
      have p290 : 0 ≤ (x5_1 : Int) := of_decide_eq_true q7_2
      have q290 : x5_1 < (l0.length : Int) := of_decide_eq_true q7_2
      obtain ⟨ad290, e290, hx290_0, hx290_1⟩ := at_T25 HR0.out x5_1 p290 q290
      cases e290
      replace p290 := eq_true p290
      replace q290 := eq_true q290
      go_wp2_with (first | (go_at_call 63; (with_reducible refine (spec_l9Closed.calls k1 _ _ l1 ((rd_T25 l0 x5_1).f0) t291 _ ?side1 ?side2 A5.out).mono ?_); (case side1 => exact q7_1); (case side2 => exact HC1.out); rintro e w' ⟨rfl, ⟨nd, rfl⟩⟩; (try first | exact ⟨rfl, _, World.drewN_drewN _ _ _⟩ | exact ⟨rfl, _, Eq.trans (World.drewN_drewN _ _ _) (congrArg (World.drewN _) (Nat.add_assoc _ _ _))⟩); have p292 : 0 ≤ (x5_1 : Int) := of_decide_eq_true q7_2; have q292 : x5_1 < (l0.length : Int) := of_decide_eq_true q7_2; obtain ⟨ad292, e292, hx292_0, hx292_1⟩ := at_T25 HR0.out x5_1 p292 q292; obtain rfl : ad290 = ad292 := (by injection e292); replace p292 := eq_true p292; replace q292 := eq_true q292; have p293 : 0 ≤ (x5_1 : Int) := of_decide_eq_true q7_2; have q293 : x5_1 < (l0.length : Int) := of_decide_eq_true q7_2; obtain ⟨ad293, e293, hx293_0, hx293_1⟩ := at_T25 HR0.out x5_1 p293 q293; obtain rfl : ad290 = ad293 := (by injection e293); replace p293 := eq_true p293; replace q293 := eq_true q293))
      repeat (go_quiet (first | (go_at_call 63; (with_reducible refine (spec_l9Closed.calls k1 _ _ l1 ((rd_T25 l0 x5_1).f0) t291 _ ?side1 ?side2 A5.out).mono ?_); (case side1 => exact q7_1); (case side2 => exact HC1.out); rintro e w' ⟨rfl, ⟨nd, rfl⟩⟩; (try first | exact ⟨rfl, _, World.drewN_drewN _ _ _⟩ | exact ⟨rfl, _, Eq.trans (World.drewN_drewN _ _ _) (congrArg (World.drewN _) (Nat.add_assoc _ _ _))⟩); have p292 : 0 ≤ (x5_1 : Int) := of_decide_eq_true q7_2; have q292 : x5_1 < (l0.length : Int) := of_decide_eq_true q7_2; obtain ⟨ad292, e292, hx292_0, hx292_1⟩ := at_T25 HR0.out x5_1 p292 q292; obtain rfl : ad290 = ad292 := (by injection e292); replace p292 := eq_true p292; replace q292 := eq_true q292; have p293 : 0 ≤ (x5_1 : Int) := of_decide_eq_true q7_2; have q293 : x5_1 < (l0.length : Int) := of_decide_eq_true q7_2; obtain ⟨ad293, e293, hx293_0, hx293_1⟩ := at_T25 HR0.out x5_1 p293 q293; obtain rfl : ad290 = ad293 := (by injection e293); replace p293 := eq_true p293; replace q293 := eq_true q293)); try go_wp2_with (first | (go_at_call 63; (with_reducible refine (spec_l9Closed.calls k1 _ _ l1 ((rd_T25 l0 x5_1).f0) t291 _ ?side1 ?side2 A5.out).mono ?_); (case side1 => exact q7_1); (case side2 => exact HC1.out); rintro e w' ⟨rfl, ⟨nd, rfl⟩⟩; (try first | exact ⟨rfl, _, World.drewN_drewN _ _ _⟩ | exact ⟨rfl, _, Eq.trans (World.drewN_drewN _ _ _) (congrArg (World.drewN _) (Nat.add_assoc _ _ _))⟩); have p292 : 0 ≤ (x5_1 : Int) := of_decide_eq_true q7_2; have q292 : x5_1 < (l0.length : Int) := of_decide_eq_true q7_2; obtain ⟨ad292, e292, hx292_0, hx292_1⟩ := at_T25 HR0.out x5_1 p292 q292; obtain rfl : ad290 = ad292 := (by injection e292); replace p292 := eq_true p292; replace q292 := eq_true q292; have p293 : 0 ≤ (x5_1 : Int) := of_decide_eq_true q7_2; have q293 : x5_1 < (l0.length : Int) := of_decide_eq_true q7_2; obtain ⟨ad293, e293, hx293_0, hx293_1⟩ := at_T25 HR0.out x5_1 p293 q293; obtain rfl : ad290 = ad293 := (by injection e293); replace p293 := eq_true p293; replace q293 := eq_true q293)))
      go_ret
      exact ⟨by first | rfl | (simp; done) | (simp [*]; done), by repeat (first | exact Drawn0.refl _ | apply Drawn0.step)⟩
    ·
     rw [if_neg c4] at H
     exact absurd H (by simp)
   ·
    rw [if_neg c3] at H
    have c3b0 : decide (x5_1 < (l0.length : Int)) = false := decide_eq_false c3
    clear c3
    obtain rfl := Option.some.inj H
    go_wp2
    repeat (go_quiet (fail); try go_wp2)
    go_ret
    exact ⟨by first | rfl | (simp; done) | (simp [*]; done), by repeat (first | exact Drawn0.refl _ | apply Drawn0.step)⟩

/-! ### spec_AreEquivalent: function 31 -/
theorem q7_3 {P : Prop} (h : P := by repeat (first | exact (Kd.C_below HR0.out HB.out) | (with_reducible refine Kd.C_alloc ?_ _) | (with_reducible refine Kd.C_drewN ?_ _) | (with_reducible refine Kd.C_drew ?_))) : P := h
theorem q7_4 {P : Prop} (h : P := by repeat (first | exact (Kd.C_below HR1.out HB.out) | (with_reducible refine Kd.C_alloc ?_ _) | (with_reducible refine Kd.C_drewN ?_ _) | (with_reducible refine Kd.C_drew ?_))) : P := h
theorem q7_5 {P : Prop} (h : P := by repeat (first | exact HR0.out | (with_reducible refine Kd.C_alloc ?_ _) | (with_reducible refine Kd.C_drewN ?_ _) | (with_reducible refine Kd.C_drew ?_))) : P := h
theorem q7_6 {P : Prop} (h : P := by (try simp only [List.map_toArray, List.map_cons, List.map_nil]); first | done | rfl | (simp only [List.length_drop, List.length_take]; rfl)) : P := h
theorem q7_7 {P : Prop} (h : P := by repeat (first | (with_reducible first | exact HB.out | apply below_alloc | apply pw_below_drewN | apply below_drew1) | exact HB.out)) : P := h
theorem q7_8 {P : Prop} (h : P := by rw [if_neg (show ¬ (false = true) by decide)] at H; exact H) : P := h
def spec_AreEquivalent.f (k : Nat) (l0 : List (S25)) (l1 : List (S25)) : Option (Bool) := (spec_l9Sets.f k l0).bind fun t294 => (if t294 = true then ((spec_l9Sets.f k l1).bind fun t295 => (if t295 = true then ((spec_l10All.f k l0 l1).bind fun t296 => (if t296 = true then ((spec_l10All.f k l1 l0).bind fun t297 => (some t297)) else (some false))) else (some false))) else (some false))
theorem spec_AreEquivalent.mono : ∀ a0 a1 k, LeO (spec_AreEquivalent.f k a0 a1) (spec_AreEquivalent.f (k + 1) a0 a1) := by
 intro a0 a1 k
 unfold spec_AreEquivalent.f
 repeat' first
   | (with_reducible exact spec_l10All.mono _ _ _)
   | (with_reducible exact spec_l9Sets.mono _ _)
   | (with_reducible exact LeO.refl _)
   | (with_reducible exact LeO.none _)
   | (with_reducible refine LeO.ite ?_ ?_)
   | (with_reducible refine LeO.bind ?_ (fun _ => ?_))
   | exact spec_l10All.mono _ _ _
   | exact spec_l9Sets.mono _ _
   | exact LeO.none _
   | refine LeO.ite ?_ ?_
   | refine LeO.bind ?_ (fun _ => ?_)
set_option maxHeartbeats 8000000 in
set_option maxRecDepth 100000 in
theorem spec_AreEquivalent.calls (k : Nat) (A0 : Option Addr) (c0 : Nat) (l0 : List (S25)) (A1 : Option Addr) (c1 : Nat) (l1 : List (S25)) (r : Bool) (w : World) (hr0 : Kd.C k25 w A0 l0.length l0) (hc0 : l0.length ≤ c0) (hr1 : Kd.C k25 w A1 l1.length l1) (hc1 : l1.length ≤ c1) (h : spec_AreEquivalent.f k l0 l1 = some r) :
  Calls Try.prog 31 #[.slice A0 l0.length c0, .slice A1 l1.length c1] w fun e w' => e = .returned (.bool r) ∧ Below w.heap.size w w' := by
 have HR0 := Aside0.mk hr0
 have HC0 := Aside0.mk hc0
 clear hr0 hc0
 have HR1 := Aside0.mk hr1
 have HC1 := Aside0.mk hc1
 clear hr1 hc1
 have HB := Aside0.mk (Below.refl w.heap.size w)
 have H : ((spec_l9Sets.f k l0).bind fun t294 => (if t294 = true then ((spec_l9Sets.f k l1).bind fun t295 => (if t295 = true then ((spec_l10All.f k l0 l1).bind fun t296 => (if t296 = true then ((spec_l10All.f k l1 l0).bind fun t297 => (some t297)) else (some false))) else (some false))) else (some false))) = some r := h
 clear h
 replace H := Option.bind_eq_some_iff.mp H
 obtain ⟨t294, A30, H⟩ := H
 replace H : (if t294 = true then ((spec_l9Sets.f k l1).bind fun t295 => (if t295 = true then ((spec_l10All.f k l0 l1).bind fun t296 => (if t296 = true then ((spec_l10All.f k l1 l0).bind fun t297 => (some t297)) else (some false))) else (some false))) else (some false)) = some r := H
 have A3 := Aside0.mk A30
 clear A30
 by_cases c4 : t294 = true
 ·
  subst c4
  have H1 : ((spec_l9Sets.f k l1).bind fun t295 => (if t295 = true then ((spec_l10All.f k l0 l1).bind fun t296 => (if t296 = true then ((spec_l10All.f k l1 l0).bind fun t297 => (some t297)) else (some false))) else (some false))) = some r := by rw [if_pos rfl] at H; exact H
  clear H
  have H := H1
  clear H1
  replace H := Option.bind_eq_some_iff.mp H
  obtain ⟨t295, A50, H⟩ := H
  replace H : (if t295 = true then ((spec_l10All.f k l0 l1).bind fun t296 => (if t296 = true then ((spec_l10All.f k l1 l0).bind fun t297 => (some t297)) else (some false))) else (some false)) = some r := H
  have A5 := Aside0.mk A50
  clear A50
  by_cases c6 : t295 = true
  ·
   subst c6
   have H1 : ((spec_l10All.f k l0 l1).bind fun t296 => (if t296 = true then ((spec_l10All.f k l1 l0).bind fun t297 => (some t297)) else (some false))) = some r := by rw [if_pos rfl] at H; exact H
   clear H
   have H := H1
   clear H1
   replace H := Option.bind_eq_some_iff.mp H
   obtain ⟨t296, A70, H⟩ := H
   replace H : (if t296 = true then ((spec_l10All.f k l1 l0).bind fun t297 => (some t297)) else (some false)) = some r := H
   have A7 := Aside0.mk A70
   clear A70
   by_cases c8 : t296 = true
   ·
    subst c8
    have H1 : ((spec_l10All.f k l1 l0).bind fun t297 => (some t297)) = some r := by rw [if_pos rfl] at H; exact H
    clear H
    have H := H1
    clear H1
    replace H := Option.bind_eq_some_iff.mp H
    obtain ⟨t297, A90, H⟩ := H
    replace H : (some t297) = some r := H
    have A9 := Aside0.mk A90
    clear A90
    obtain rfl := Option.some.inj H
    go_enter Try.func31, Try.ntmps31
    go_wp2_with (first | ((with_reducible refine gate_callee (f := 61) rfl ?_); refine goesL_ (some 6) rfl rfl Try.func61 (by kernel_rfl) rfl #[.slice A0 l0.length c0] rfl q7_6 ?_; (with_reducible refine (spec_l9Sets.calls k _ _ l0 true _ ?side1 ?side2 A3.out).mono ?_); (case side1 => exact q7_5); (case side2 => exact HC0.out); rintro e w10 ⟨rfl, hb⟩; refine ⟨_, rfl, ?_⟩; have n0_ := Aside0.mk (below_step q7_7 hb); clear HB; have HB := n0_; clear n0_; (try clear hb); (try clear hb2); (try clear hk); (try clear hi)) | (go_at_call 61; (with_reducible refine (spec_l9Sets.calls k _ _ l1 true _ ?side1 ?side2 A5.out).mono ?_); (case side1 => exact q7_4); (case side2 => exact HC1.out); rintro e w11 ⟨rfl, hb⟩; have n0_ := Aside0.mk (below_step q7_7 hb); clear HB; have HB := n0_; clear n0_; (try clear hb); (try clear hb2); (try clear hk); (try clear hi)) | (go_at_call 64; (with_reducible refine (spec_l10All.calls k _ _ l0 _ _ l1 true _ ?side1 ?side2 ?side3 ?side4 A7.out).mono ?_); (case side1 => exact q7_3); (case side2 => exact HC0.out); (case side3 => exact q7_4); (case side4 => exact HC1.out); rintro e w' ⟨rfl, ⟨nd, rfl⟩⟩) | (go_at_call 64; (with_reducible refine (spec_l10All.calls k _ _ l1 _ _ l0 t297 _ ?side1 ?side2 ?side3 ?side4 A9.out).mono ?_); (case side1 => repeat (first | exact (Kd.C_below HR1.out q7_7) | (with_reducible refine Kd.C_alloc ?_ _) | (with_reducible refine Kd.C_drewN ?_ _) | (with_reducible refine Kd.C_drew ?_))); (case side2 => exact HC1.out); (case side3 => repeat (first | exact (Kd.C_below HR0.out q7_7) | (with_reducible refine Kd.C_alloc ?_ _) | (with_reducible refine Kd.C_drewN ?_ _) | (with_reducible refine Kd.C_drew ?_))); (case side4 => exact HC0.out); rintro e w' ⟨rfl, ⟨nd, rfl⟩⟩))
    go_ret
    exact ⟨by first | rfl | (simp [errW_none, errW_some] <;> rfl) | (simp [*, errW_none, errW_some] <;> rfl), by repeat (first | (with_reducible first | exact HB.out | apply below_alloc | apply pw_below_drewN | apply below_drew1) | exact HB.out)⟩
   ·
    replace c8 := Bool.eq_false_iff.mpr c8
    subst c8
    have H1 : (some false) = some r := q7_8
    clear H
    have H := H1
    clear H1
    obtain rfl := Option.some.inj H
    go_enter Try.func31, Try.ntmps31
    go_wp2_with (first | ((with_reducible refine gate_callee (f := 61) rfl ?_); refine goesL_ (some 6) rfl rfl Try.func61 (by kernel_rfl) rfl #[.slice A0 l0.length c0] rfl q7_6 ?_; (with_reducible refine (spec_l9Sets.calls k _ _ l0 true _ ?side1 ?side2 A3.out).mono ?_); (case side1 => exact q7_5); (case side2 => exact HC0.out); rintro e w12 ⟨rfl, hb⟩; refine ⟨_, rfl, ?_⟩; have n0_ := Aside0.mk (below_step q7_7 hb); clear HB; have HB := n0_; clear n0_; (try clear hb); (try clear hb2); (try clear hk); (try clear hi)) | (go_at_call 61; (with_reducible refine (spec_l9Sets.calls k _ _ l1 true _ ?side1 ?side2 A5.out).mono ?_); (case side1 => exact q7_4); (case side2 => exact HC1.out); rintro e w13 ⟨rfl, hb⟩; have n0_ := Aside0.mk (below_step q7_7 hb); clear HB; have HB := n0_; clear n0_; (try clear hb); (try clear hb2); (try clear hk); (try clear hi)) | (go_at_call 64; (with_reducible refine (spec_l10All.calls k _ _ l0 _ _ l1 false _ ?side1 ?side2 ?side3 ?side4 A7.out).mono ?_); (case side1 => exact q7_3); (case side2 => exact HC0.out); (case side3 => exact q7_4); (case side4 => exact HC1.out); rintro e w' ⟨rfl, ⟨nd, rfl⟩⟩))
    go_ret
    exact ⟨by first | rfl | (simp [errW_none, errW_some] <;> rfl) | (simp [*, errW_none, errW_some] <;> rfl), by repeat (first | (with_reducible first | exact HB.out | apply below_alloc | apply pw_below_drewN | apply below_drew1) | exact HB.out)⟩
  ·
   replace c6 := Bool.eq_false_iff.mpr c6
   subst c6
   have H1 : (some false) = some r := q7_8
   clear H
   have H := H1
   clear H1
   obtain rfl := Option.some.inj H
   go_enter Try.func31, Try.ntmps31
   go_wp2_with (first | ((with_reducible refine gate_callee (f := 61) rfl ?_); refine goesL_ (some 6) rfl rfl Try.func61 (by kernel_rfl) rfl #[.slice A0 l0.length c0] rfl q7_6 ?_; (with_reducible refine (spec_l9Sets.calls k _ _ l0 true _ ?side1 ?side2 A3.out).mono ?_); (case side1 => exact q7_5); (case side2 => exact HC0.out); rintro e w14 ⟨rfl, hb⟩; refine ⟨_, rfl, ?_⟩; have n0_ := Aside0.mk (below_step q7_7 hb); clear HB; have HB := n0_; clear n0_; (try clear hb); (try clear hb2); (try clear hk); (try clear hi)) | (go_at_call 61; (with_reducible refine (spec_l9Sets.calls k _ _ l1 false _ ?side1 ?side2 A5.out).mono ?_); (case side1 => exact q7_4); (case side2 => exact HC1.out); rintro e w15 ⟨rfl, hb⟩; have n0_ := Aside0.mk (below_step q7_7 hb); clear HB; have HB := n0_; clear n0_; (try clear hb); (try clear hb2); (try clear hk); (try clear hi)))
   go_ret
   exact ⟨by first | rfl | (simp [errW_none, errW_some] <;> rfl) | (simp [*, errW_none, errW_some] <;> rfl), by repeat (first | (with_reducible first | exact HB.out | apply below_alloc | apply pw_below_drewN | apply below_drew1) | exact HB.out)⟩
 ·
  replace c4 := Bool.eq_false_iff.mpr c4
  subst c4
  have H1 : (some false) = some r := q7_8
  clear H
  have H := H1
  clear H1
  obtain rfl := Option.some.inj H
  go_enter Try.func31, Try.ntmps31
  go_wp2_with (first | ((with_reducible refine gate_callee (f := 61) rfl ?_); refine goesL_ (some 6) rfl rfl Try.func61 (by kernel_rfl) rfl #[.slice A0 l0.length c0] rfl q7_6 ?_; (with_reducible refine (spec_l9Sets.calls k _ _ l0 false _ ?side1 ?side2 A3.out).mono ?_); (case side1 => exact q7_5); (case side2 => exact HC0.out); rintro e w16 ⟨rfl, hb⟩; refine ⟨_, rfl, ?_⟩; have n0_ := Aside0.mk (below_step q7_7 hb); clear HB; have HB := n0_; clear n0_; (try clear hb); (try clear hb2); (try clear hk); (try clear hi)))
  go_ret
  exact ⟨by first | rfl | (simp [errW_none, errW_some] <;> rfl) | (simp [*, errW_none, errW_some] <;> rfl), by repeat (first | (with_reducible first | exact HB.out | apply below_alloc | apply pw_below_drewN | apply below_drew1) | exact HB.out)⟩

/-! ### laws_szStepS: function 33 -/
def laws_szStepS.f (l0 : List (S66)) (a1 : Int) : Option (Int) := if (wrap64 (a1 - (l0.length : Int))) < 0 then (some (-1)) else (some (wrap64 (a1 - (l0.length : Int))))
set_option maxHeartbeats 8000000 in
set_option maxRecDepth 100000 in
theorem laws_szStepS.calls (A0 : Option Addr) (c0 : Nat) (l0 : List (S66)) (a1 : Int) (r : Int) (w : World) (hr0 : Kd.C k66 w A0 l0.length l0) (hc0 : l0.length ≤ c0) (h : laws_szStepS.f l0 a1 = some r) :
  Calls Try.prog 33 #[.slice A0 l0.length c0, .int .i64 a1] w fun e w' => e = .returned (.int .i64 r) ∧ Drawn0 w w' := by
 have HR0 := Aside0.mk hr0
 have HC0 := Aside0.mk hc0
 clear hr0 hc0
 have H : (if (wrap64 (a1 - (l0.length : Int))) < 0 then (some (-1)) else (some (wrap64 (a1 - (l0.length : Int))))) = some r := h
 clear h
 by_cases c3 : (wrap64 (a1 - (l0.length : Int))) < 0
 ·
  rw [if_pos c3] at H
  have c3b0 : decide ((wrap64 (a1 - (l0.length : Int))) < 0) = true := decide_eq_true c3
  clear c3
  obtain rfl := Option.some.inj H
  go_enter Try.func33, Try.ntmps33
  go_wp2
  go_ret
  exact ⟨by first | rfl | (simp; done) | (simp [*]; done), by repeat (first | exact Drawn0.refl _ | apply Drawn0.step)⟩
 ·
  rw [if_neg c3] at H
  have c3b0 : decide ((wrap64 (a1 - (l0.length : Int))) < 0) = false := decide_eq_false c3
  clear c3
  obtain rfl := Option.some.inj H
  go_enter Try.func33, Try.ntmps33
  go_wp2
  go_ret
  exact ⟨by first | rfl | (simp; done) | (simp [*]; done), by repeat (first | exact Drawn0.refl _ | apply Drawn0.step)⟩

end Go.Proofs.Ytjkbmdbecplgiaa.Pr
