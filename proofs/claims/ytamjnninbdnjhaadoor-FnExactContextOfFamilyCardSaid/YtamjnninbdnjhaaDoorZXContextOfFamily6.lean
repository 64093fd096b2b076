/- What the law needs of the program's functions as plain functions, of the proofs that their calls answer so, and of plain laws: gathered by a program of this place (pack.py) out of its printed texts. No condition beyond what each statement says. -/
import Derived.Test.YtamjnninbdnjhaaDoorZXContextOfFamily2
import Derived.Test.YtamjnninbdnjhaaDoorZXContextOfFamily3
import Derived.Test.YtamjnninbdnjhaaDoorZXContextOfFamily5
namespace Go.Proofs.YtamjnninbdnjhaaDoor.Pr
open Go.RowKit Go.Proofs.YtamjnninbdnjhaaDoorW.PrintWords Go.Proofs.YtamjnninbdnjhaaDoorW.PrintLast Go.Proofs.YtamjnninbdnjhaaDoorW.PrintMore
attribute [local go_sem] max2_int min2_int max_two min_two max_three min_three max_four min_four   -- for this text's walks alone
set_option linter.unusedVariables false
set_option linter.unusedSimpArgs false
def bits_TrailingZeros.f (a0 : Int) : Option (Int) := (bits_TrailingZeros64.f a0).bind fun t131 => (some t131)
set_option maxHeartbeats 8000000 in
set_option maxRecDepth 100000 in
theorem bits_TrailingZeros.calls (a0 : Int) (r : Int) (w : World) (htab : Tab64 w) (h : bits_TrailingZeros.f a0 = some r) :
  Calls Tryd.prog 61 #[.int .u64 a0] w fun e w' => e = .returned (.int .i64 r) ∧ Drawn0 w w' := by
 have HTB := Aside0.mk htab
 clear htab
 have H : ((bits_TrailingZeros64.f a0).bind fun t131 => (some t131)) = some r := h
 clear h
 replace H := Option.bind_eq_some_iff.mp H
 obtain ⟨t131, A20, H⟩ := H
 replace H : (some t131) = some r := H
 have A2 := Aside0.mk A20
 clear A20
 obtain rfl := Option.some.inj H
 go_enter Tryd.func61, Tryd.ntmps61
 go_wp2_with (first | ((with_reducible refine gate_callee (f := 73) rfl ?_); refine goesL_ (some 7) rfl rfl Tryd.func73 (by kernel_rfl) rfl #[.int .u64 a0] rfl (by (try simp only [List.map_toArray, List.map_cons, List.map_nil]); first | done | rfl | (simp only [List.length_drop, List.length_take]; rfl)) ?_; (with_reducible refine (bits_TrailingZeros64.calls a0 t131 _ ?tab A2.out).mono ?_); (case tab => first | exact HTB.out | (refine Tab64.below HTB.out ?_; repeat (first | (with_reducible first | exact HB.out | apply below_alloc | apply pw_below_drewN | apply below_drew1) | exact HB.out)) | (repeat (first | exact HTB.out | apply Tab64.drewN | apply Tab64.drew | apply Tab64.alloc))); rintro e w' ⟨rfl, ⟨nd, rfl⟩⟩; refine ⟨_, rfl, ?_⟩))
 go_ret
 exact ⟨by first | rfl | (simp; done) | (simp [*]; done) | (simp [i64_w, i32_w]; done), by repeat (first | exact Drawn0.refl _ | apply Drawn0.step)⟩
theorem q4_1 {P : Prop} (h : P := by (try simp only [List.map_toArray, List.map_cons, List.map_nil]); first | done | rfl | (simp only [List.length_drop, List.length_take]; rfl)) : P := h
theorem q4_2 {P : Prop} (h : P := by first | rfl | (simp; done) | (simp [*]; done) | (simp [i64_w, i32_w]; done)) : P := h
theorem q4_3 {P : Prop} (h : P := by rw [if_neg (show ¬ (false = true) by decide)] at H; exact H) : P := h
def impl_BeforeSet.j0 : Nat → Int → Int → Bool → Option (Bool)
 | 0, _, _, _ => none
 | k + 1, x0, x1, x17 => if x17 = true then (some false) else ((bits_TrailingZeros.f (IntKind.u64.wrap (Go.bits .xor .i64 x0 x1))).bind fun t134 => ((impl_HasElement.f x1 t134).bind fun t135 => (some t135)))
def impl_BeforeSet.f (k : Nat) (a0 : Int) (a1 : Int) : Option (Bool) := (impl_isAnySet.f a0).bind fun t132 => (if t132 = true then ((impl_isAnySet.f a1).bind fun t133 => (if t133 = true then (impl_BeforeSet.j0 k a0 a1 (a0 == a1)) else (impl_BeforeSet.j0 k a0 a1 true))) else (impl_BeforeSet.j0 k a0 a1 true))
set_option maxHeartbeats 8000000 in
set_option maxRecDepth 100000 in
theorem impl_BeforeSet.calls (k : Nat) (a0 : Int) (a1 : Int) (r : Bool) (w : World) (htab : Tab64 w) (h : impl_BeforeSet.f k a0 a1 = some r) :
  Calls Tryd.prog 44 #[.int .i64 a0, .int .i64 a1] w fun e w' => e = .returned (.bool r) ∧ Drawn0 w w' := by
 have HTB := Aside0.mk htab
 clear htab
 have H : ((impl_isAnySet.f a0).bind fun t132 => (if t132 = true then ((impl_isAnySet.f a1).bind fun t133 => (if t133 = true then (impl_BeforeSet.j0 k a0 a1 (a0 == a1)) else (impl_BeforeSet.j0 k a0 a1 true))) else (impl_BeforeSet.j0 k a0 a1 true))) = some r := h
 clear h
 have HC3 := Aside0.mk H
 clear H
 go_enter Tryd.func44, Tryd.ntmps44
 go_upto_region 1 with (fail)
 go_cut [17] (fun v17 wc => ∃ (kq : Nat) (x17_2 : Bool), v17 = .bool x17_2 ∧ Aside0 (impl_BeforeSet.j0 kq a0 a1 x17_2 = some r) ∧ Aside0 (kq ≤ k) ∧ Drawn0 w wc)
 case first =>
  have H := HC3.out
  clear HC3
  replace H := Option.bind_eq_some_iff.mp H
  obtain ⟨t132, A40, H⟩ := H
  replace H : (if t132 = true then ((impl_isAnySet.f a1).bind fun t133 => (if t133 = true then (impl_BeforeSet.j0 k a0 a1 (a0 == a1)) else (impl_BeforeSet.j0 k a0 a1 true))) else (impl_BeforeSet.j0 k a0 a1 true)) = some r := H
  have A4 := Aside0.mk A40
  clear A40
  by_cases c5 : t132 = true
  ·
   subst c5
   have H1 : ((impl_isAnySet.f a1).bind fun t133 => (if t133 = true then (impl_BeforeSet.j0 k a0 a1 (a0 == a1)) else (impl_BeforeSet.j0 k a0 a1 true))) = some r := by rw [if_pos rfl] at H; exact H
   clear H
   have H := H1
   clear H1
   replace H := Option.bind_eq_some_iff.mp H
   obtain ⟨t133, A60, H⟩ := H
   replace H : (if t133 = true then (impl_BeforeSet.j0 k a0 a1 (a0 == a1)) else (impl_BeforeSet.j0 k a0 a1 true)) = some r := H
   have A6 := Aside0.mk A60
   clear A60
   by_cases c7 : t133 = true
   ·
    subst c7
    have H1 : (impl_BeforeSet.j0 k a0 a1 (a0 == a1)) = some r := by rw [if_pos rfl] at H; exact H
    clear H
    have H := H1
    clear H1
    have H' := Aside0.mk H
    clear H
    go_wp2_with (first | ((with_reducible refine gate_callee (f := 59) rfl ?_); refine goesL_ (some 6) rfl rfl Tryd.func59 (by kernel_rfl) rfl #[.int .i64 a0] rfl q4_1 ?_; (with_reducible refine (impl_isAnySet.calls a0 true _ A4.out).mono ?_); rintro e w' ⟨rfl, ⟨nd, rfl⟩⟩; refine ⟨_, rfl, ?_⟩) | (go_at_call 59; (with_reducible refine (impl_isAnySet.calls a1 true _ A6.out).mono ?_); rintro e w' ⟨rfl, ⟨nd, rfl⟩⟩))
    go_meet
    case rel => exact ⟨_, ((a0 == a1)), q4_2, H', ⟨by first | omega | exact Nat.le_refl _⟩, by repeat (first | exact Drawn0.refl _ | apply Drawn0.step)⟩
   ·
    replace c7 := Bool.eq_false_iff.mpr c7
    subst c7
    have H1 : (impl_BeforeSet.j0 k a0 a1 true) = some r := q4_3
    clear H
    have H := H1
    clear H1
    have H' := Aside0.mk H
    clear H
    go_wp2_with (first | ((with_reducible refine gate_callee (f := 59) rfl ?_); refine goesL_ (some 6) rfl rfl Tryd.func59 (by kernel_rfl) rfl #[.int .i64 a0] rfl q4_1 ?_; (with_reducible refine (impl_isAnySet.calls a0 true _ A4.out).mono ?_); rintro e w' ⟨rfl, ⟨nd, rfl⟩⟩; refine ⟨_, rfl, ?_⟩) | (go_at_call 59; (with_reducible refine (impl_isAnySet.calls a1 false _ A6.out).mono ?_); rintro e w' ⟨rfl, ⟨nd, rfl⟩⟩))
    go_meet
    case rel => exact ⟨_, (true), q4_2, H', ⟨by first | omega | exact Nat.le_refl _⟩, by repeat (first | exact Drawn0.refl _ | apply Drawn0.step)⟩
  ·
   replace c5 := Bool.eq_false_iff.mpr c5
   subst c5
   have H1 : (impl_BeforeSet.j0 k a0 a1 true) = some r := q4_3
   clear H
   have H := H1
   clear H1
   have H' := Aside0.mk H
   clear H
   go_wp2_with (first | ((with_reducible refine gate_callee (f := 59) rfl ?_); refine goesL_ (some 6) rfl rfl Tryd.func59 (by kernel_rfl) rfl #[.int .i64 a0] rfl q4_1 ?_; (with_reducible refine (impl_isAnySet.calls a0 false _ A4.out).mono ?_); rintro e w' ⟨rfl, ⟨nd, rfl⟩⟩; refine ⟨_, rfl, ?_⟩))
   go_meet
   case rel => exact ⟨_, (true), q4_2, H', ⟨by first | omega | exact Nat.le_refl _⟩, by repeat (first | exact Drawn0.refl _ | apply Drawn0.step)⟩
 case rest =>
  clear HC3
  try clear p2
  try clear c4
  try clear c5
  try clear c7
  obtain ⟨kq, x17_2, rfl, HA, HJ2, ⟨mc2, rfl⟩⟩ := hcut
  cases kq with
  | zero => exact absurd HA.out (by simp [impl_BeforeSet.j0])
  | succ kj2 =>
   have H := HA.out
   clear HA
   simp only [impl_BeforeSet.j0] at H
   by_cases c8 : x17_2 = true
   ·
    subst c8
    have H1 : (some false) = some r := by rw [if_pos rfl] at H; exact H
    clear H
    have H := H1
    clear H1
    obtain rfl := Option.some.inj H
    go_wp2
    go_ret
    exact ⟨by first | rfl | (simp; done) | (simp [*]; done) | (simp [i64_w, i32_w]; done), by repeat (first | exact Drawn0.refl _ | apply Drawn0.step)⟩
   ·
    replace c8 := Bool.eq_false_iff.mpr c8
    subst c8
    have H1 : ((bits_TrailingZeros.f (IntKind.u64.wrap (Go.bits .xor .i64 a0 a1))).bind fun t134 => ((impl_HasElement.f a1 t134).bind fun t135 => (some t135))) = some r := q4_3
    clear H
    have H := H1
    clear H1
    replace H := Option.bind_eq_some_iff.mp H
    obtain ⟨t134, A90, H⟩ := H
    replace H : ((impl_HasElement.f a1 t134).bind fun t135 => (some t135)) = some r := H
    have A9 := Aside0.mk A90
    clear A90
    replace H := Option.bind_eq_some_iff.mp H
    obtain ⟨t135, A100, H⟩ := H
    replace H : (some t135) = some r := H
    have A10 := Aside0.mk A100
    clear A100
    obtain rfl := Option.some.inj H
    go_wp2_with (first | ((with_reducible refine gate_callee (f := 61) rfl ?_); refine goesL_ (some 23) rfl rfl Tryd.func61 (by kernel_rfl) rfl #[.int .u64 (IntKind.u64.wrap (Go.bits .xor .i64 a0 a1))] rfl q4_1 ?_; (with_reducible refine (bits_TrailingZeros.calls (IntKind.u64.wrap (Go.bits .xor .i64 a0 a1)) t134 _ ?tab A9.out).mono ?_); (case tab => first | exact HTB.out | (refine Tab64.below HTB.out ?_; repeat (first | (with_reducible first | exact HB.out | apply below_alloc | apply pw_below_drewN | apply below_drew1) | exact HB.out)) | (repeat (first | exact HTB.out | apply Tab64.drewN | apply Tab64.drew | apply Tab64.alloc))); rintro e w' ⟨rfl, ⟨nd, rfl⟩⟩; refine ⟨_, rfl, ?_⟩) | ((with_reducible refine gate_callee (f := 60) rfl ?_); refine goesL_ (some 24) rfl rfl Tryd.func60 (by kernel_rfl) rfl #[.int .i64 a1, .int .i64 t134] rfl q4_1 ?_; (with_reducible refine (impl_HasElement.calls a1 t134 t135 _ A10.out).mono ?_); rintro e w' ⟨rfl, ⟨nd, rfl⟩⟩; refine ⟨_, rfl, ?_⟩))
    go_ret
    exact ⟨by first | rfl | (simp; done) | (simp [*]; done) | (simp [i64_w, i32_w]; done), by repeat (first | exact Drawn0.refl _ | apply Drawn0.step)⟩
theorem q4_4 {P : Prop} (h : P := by repeat (first | exact HR1.out | (with_reducible refine Kd.C_alloc ?_ _) | (with_reducible refine Kd.C_drewN ?_ _) | (with_reducible refine Kd.C_drew ?_))) : P := h
theorem q4_5 {P : Prop} (h : P := by (try simp only [List.map_toArray, List.map_cons, List.map_nil]); first | done | rfl | (simp only [List.length_drop, List.length_take]; rfl)) : P := h
theorem q4_6 {P : Prop} (h : P := by first | rfl | (simp; done) | (simp [*]; done) | (simp [i64_w, i32_w]; done)) : P := h
theorem q4_7 {P : Prop} (h : P := by rw [if_neg (show ¬ (false = true) by decide)] at H; exact H) : P := h
theorem q4_8 {P : Prop} (h : P := by first | (with_reducible assumption) | assumption) : P := h
theorem q4_9 {P : Prop} (h : P := by rw [if_pos rfl] at H; exact H) : P := h
mutual
def impl_IsClosureFamily.j0 : Nat → Int → List Int → Bool → Option (Bool)
 | 0, _, _, _ => none
 | k + 1, x0, x1, x18 => if x18 = true then (some false) else (impl_IsClosureFamily.l0 k x0 x1 x1 (x1.length : Int) 0)
def impl_IsClosureFamily.l0 : Nat → Int → List Int → List Int → Int → Int → Option (Bool)
 | 0, _, _, _, _, _ => none
 | k + 1, x0, x1, x19, x20, x21 => if x21 < x20 then (if 0 ≤ x21 then (if x21 < (x19.length : Int) then ((impl_IsSet.f x0 (rd x19 x21)).bind fun t140 => (if t140 = true then (if x21 > 0 then (if 0 ≤ (wrap64 (x21 - 1)) then (if (wrap64 (x21 - 1)) < (x1.length : Int) then ((impl_BeforeSet.f k (rd x1 (wrap64 (x21 - 1))) (rd x19 x21)).bind fun t142 => (impl_IsClosureFamily.j2 k x0 x1 x21 (rd x19 x21) x19 x20 x21 (!t142))) else (none)) else (none)) else (impl_IsClosureFamily.j2 k x0 x1 x21 (rd x19 x21) x19 x20 x21 false)) else (impl_IsClosureFamily.j2 k x0 x1 x21 (rd x19 x21) x19 x20 x21 true))) else (none)) else (none)) else (some true)
def impl_IsClosureFamily.j2 : Nat → Int → List Int → Int → Int → List Int → Int → Int → Bool → Option (Bool)
 | 0, _, _, _, _, _, _, _, _ => none
 | k + 1, x0, x1, x5, x6, x19, x20, x21, x43 => if x43 = true then (some false) else (if 0 ≤ x5 then (if x5 ≤ (x1.length : Int) then (impl_IsClosureFamily.l1 k x0 x1 x6 x19 x20 x21 (x1.take (x5 : Int).toNat) ((x1.take (x5 : Int).toNat).length : Int) 0) else (none)) else (none))
def impl_IsClosureFamily.l1 : Nat → Int → List Int → Int → List Int → Int → Int → List Int → Int → Int → Option (Bool)
 | 0, _, _, _, _, _, _, _, _, _ => none
 | k + 1, x0, x1, x6, x19, x20, x21, x46, x47, x48 => if x48 < x47 then (if 0 ≤ x48 then (if x48 < (x46.length : Int) then ((slices_Contains_int.f k x1 (Go.bits .and .i64 x6 (rd x46 x48))).bind fun t145 => (if t145 = true then (impl_IsClosureFamily.l1 k x0 x1 x6 x19 x20 x21 x46 x47 (wrap64 (x48 + 1))) else (some false))) else (none)) else (none)) else (impl_IsClosureFamily.l0 k x0 x1 x19 x20 (wrap64 (x21 + 1)))
end
def impl_IsClosureFamily.f (k : Nat) (a0 : Int) (l1 : List Int) : Option (Bool) := (impl_within.f a0 0 6).bind fun t136 => (if t136 = true then ((impl_FullSet.f a0).bind fun t137 => ((slices_Contains_int.f k l1 t137).bind fun t138 => (impl_IsClosureFamily.j0 k a0 l1 (!t138)))) else (impl_IsClosureFamily.j0 k a0 l1 true))
set_option maxHeartbeats 8000000 in
set_option maxRecDepth 100000 in
theorem impl_IsClosureFamily.calls (k : Nat) (a0 : Int) (A1 : Option Addr) (c1 : Nat) (l1 : List Int) (r : Bool) (w : World) (hr1 : Kd.C (Kd.int .i64) w A1 l1.length l1) (hc1 : l1.length ≤ c1) (htab : Tab64 w) (h : impl_IsClosureFamily.f k a0 l1 = some r) :
  Calls Tryd.prog 17 #[.int .i64 a0, .slice A1 l1.length c1] w fun e w' => e = .returned (.bool r) ∧ Drawn0 w w' := by
 have HTB := Aside0.mk htab
 clear htab
 have HR1 := Aside0.mk hr1
 have HC1 := Aside0.mk hc1
 clear hr1 hc1
 have H : ((impl_within.f a0 0 6).bind fun t136 => (if t136 = true then ((impl_FullSet.f a0).bind fun t137 => ((slices_Contains_int.f k l1 t137).bind fun t138 => (impl_IsClosureFamily.j0 k a0 l1 (!t138)))) else (impl_IsClosureFamily.j0 k a0 l1 true))) = some r := h
 clear h
 have HC3 := Aside0.mk H
 clear H
 go_enter Tryd.func17, Tryd.ntmps17
 go_upto_region 1 with (fail)
 go_cut [18] (fun v18 wc => ∃ (kq : Nat) (x18_2 : Bool), v18 = .bool x18_2 ∧ Aside0 (impl_IsClosureFamily.j0 kq a0 l1 x18_2 = some r) ∧ Aside0 (kq ≤ k) ∧ Drawn0 w wc)
 case first =>
  have H := HC3.out
  clear HC3
  replace H := Option.bind_eq_some_iff.mp H
  obtain ⟨t136, A40, H⟩ := H
  replace H : (if t136 = true then ((impl_FullSet.f a0).bind fun t137 => ((slices_Contains_int.f k l1 t137).bind fun t138 => (impl_IsClosureFamily.j0 k a0 l1 (!t138)))) else (impl_IsClosureFamily.j0 k a0 l1 true)) = some r := H
  have A4 := Aside0.mk A40
  clear A40
  by_cases c5 : t136 = true
  ·
   subst c5
   have H1 : ((impl_FullSet.f a0).bind fun t137 => ((slices_Contains_int.f k l1 t137).bind fun t138 => (impl_IsClosureFamily.j0 k a0 l1 (!t138)))) = some r := q4_9
   clear H
   have H := H1
   clear H1
   replace H := Option.bind_eq_some_iff.mp H
   obtain ⟨t137, A60, H⟩ := H
   replace H : ((slices_Contains_int.f k l1 t137).bind fun t138 => (impl_IsClosureFamily.j0 k a0 l1 (!t138))) = some r := H
   have A6 := Aside0.mk A60
   clear A60
   replace H := Option.bind_eq_some_iff.mp H
   obtain ⟨t138, A70, H⟩ := H
   replace H : (impl_IsClosureFamily.j0 k a0 l1 (!t138)) = some r := H
   have A7 := Aside0.mk A70
   clear A70
   have H' := Aside0.mk H
   clear H
   go_wp2_with (first | ((with_reducible refine gate_callee (f := 40) rfl ?_); refine goesL_ (some 10) rfl rfl Tryd.func40 (by kernel_rfl) rfl #[.int .i64 a0, .int .i64 0, .int .i64 6] rfl q4_5 ?_; (with_reducible refine (impl_within.calls a0 0 6 true _ A4.out).mono ?_); rintro e w' ⟨rfl, ⟨nd, rfl⟩⟩; refine ⟨_, rfl, ?_⟩) | (go_at_call 42; (with_reducible refine (impl_FullSet.calls a0 t137 _ A6.out).mono ?_); rintro e w' ⟨rfl, ⟨nd, rfl⟩⟩) | (go_at_call 41; (with_reducible refine (slices_Contains_int.calls k _ _ l1 t137 t138 _ ?side1 ?side2 A7.out).mono ?_); (case side1 => exact q4_4); (case side2 => exact HC1.out); rintro e w' ⟨rfl, ⟨nd, rfl⟩⟩))
   go_meet
   case rel => exact ⟨_, (!t138), q4_6, H', ⟨by first | omega | exact Nat.le_refl _⟩, by repeat (first | exact Drawn0.refl _ | apply Drawn0.step)⟩
  ·
   replace c5 := Bool.eq_false_iff.mpr c5
   subst c5
   have H1 : (impl_IsClosureFamily.j0 k a0 l1 true) = some r := q4_7
   clear H
   have H := H1
   clear H1
   have H' := Aside0.mk H
   clear H
   go_wp2_with (first | ((with_reducible refine gate_callee (f := 40) rfl ?_); refine goesL_ (some 10) rfl rfl Tryd.func40 (by kernel_rfl) rfl #[.int .i64 a0, .int .i64 0, .int .i64 6] rfl q4_5 ?_; (with_reducible refine (impl_within.calls a0 0 6 false _ A4.out).mono ?_); rintro e w' ⟨rfl, ⟨nd, rfl⟩⟩; refine ⟨_, rfl, ?_⟩))
   go_meet
   case rel => exact ⟨_, (true), q4_6, H', ⟨by first | omega | exact Nat.le_refl _⟩, by repeat (first | exact Drawn0.refl _ | apply Drawn0.step)⟩
 case rest =>
  clear HC3
  try clear c1
  try clear p2
  try clear c4
  try clear c5
  obtain ⟨kq, x18_2, rfl, HA, HJ2, ⟨mc2, rfl⟩⟩ := hcut
  cases kq with
  | zero => exact absurd HA.out (by simp [impl_IsClosureFamily.j0])
  | succ kj2 =>
   have H := HA.out
   clear HA
   simp only [impl_IsClosureFamily.j0] at H
   by_cases c8 : x18_2 = true
   ·
    subst c8
    have H1 : (some false) = some r := q4_9
    clear H
    have H := H1
    clear H1
    obtain rfl := Option.some.inj H
    go_wp2
    go_ret
    exact ⟨by first | rfl | (simp; done) | (simp [*]; done) | (simp [i64_w, i32_w]; done), by repeat (first | exact Drawn0.refl _ | apply Drawn0.step)⟩
   ·
    replace c8 := Bool.eq_false_iff.mpr c8
    subst c8
    have H1 : (impl_IsClosureFamily.l0 kj2 a0 l1 l1 (l1.length : Int) 0) = some r := q4_7
    clear H
    have H := H1
    clear H1
    have H' := Aside0.mk H
    clear H
    go_wp2
    go_loopg [21] kj2 (fun kq v21 w' => ∃ (x21_2 : Int), v21 = .int .i64 x21_2 ∧ Aside0 (impl_IsClosureFamily.l0 kq a0 l1 l1 (l1.length : Int) x21_2 = some r) ∧ Aside0 (kq ≤ kj2) ∧ Drawn0 w w')
    case atStart => exact ⟨(0), q4_6, H', ⟨Nat.le_refl _⟩, by repeat (first | exact Drawn0.refl _ | apply Drawn0.step)⟩
    case round =>
     clear H'
     try clear c1
     try clear c2
     try clear p2
     try clear c4
     try clear c5
     try clear c8
     try clear p2
     obtain ⟨x21_2, rfl, HA, HK2, ⟨m2, rfl⟩⟩ := hrel
     cases gk with
     | zero => exact absurd HA.out (by simp [impl_IsClosureFamily.l0])
     | succ k2 =>
      have H := HA.out
      clear HA
      simp only [impl_IsClosureFamily.l0] at H
      by_cases c9 : x21_2 < (l1.length : Int)
      ·
       rw [if_pos c9] at H
       have c9b0 : decide (x21_2 < (l1.length : Int)) = true := decide_eq_true c9
       clear c9
       by_cases c10 : 0 ≤ x21_2
       ·
        rw [if_pos c10] at H
        have c10b0 : decide (0 ≤ x21_2) = true := decide_eq_true c10
        clear c10
        by_cases c11 : x21_2 < (l1.length : Int)
        ·
         rw [if_pos c11] at H
         have c11b0 : decide (x21_2 < (l1.length : Int)) = true := decide_eq_true c11
         clear c11
         have HC12 := Aside0.mk H
         clear H
         have p139 : 0 ≤ (x21_2 : Int) := of_decide_eq_true q4_8
         have q139 : x21_2 < (l1.length : Int) := of_decide_eq_true q4_8
         obtain ⟨ad139, e139, hx139_0⟩ := Kd.at_int HR1.out x21_2 p139 q139
         cases e139
         replace p139 := eq_true p139
         replace q139 := eq_true q139
         go_upto_region 6 with (fail)
         go_cut [43] (fun v43 wc => ∃ (kq : Nat) (x43_11 : Bool), v43 = .bool x43_11 ∧ Aside0 (impl_IsClosureFamily.j2 kq a0 l1 x21_2 (rd l1 x21_2) l1 (l1.length : Int) x21_2 x43_11 = some r) ∧ Aside0 (kq ≤ k2) ∧ Drawn0 w wc)
         case first =>
          have H := HC12.out
          clear HC12
          replace H := Option.bind_eq_some_iff.mp H
          obtain ⟨t140, A130, H⟩ := H
          replace H : (if t140 = true then (if x21_2 > 0 then (if 0 ≤ (wrap64 (x21_2 - 1)) then (if (wrap64 (x21_2 - 1)) < (l1.length : Int) then ((impl_BeforeSet.f k2 (rd l1 (wrap64 (x21_2 - 1))) (rd l1 x21_2)).bind fun t142 => (impl_IsClosureFamily.j2 k2 a0 l1 x21_2 (rd l1 x21_2) l1 (l1.length : Int) x21_2 (!t142))) else (none)) else (none)) else (impl_IsClosureFamily.j2 k2 a0 l1 x21_2 (rd l1 x21_2) l1 (l1.length : Int) x21_2 false)) else (impl_IsClosureFamily.j2 k2 a0 l1 x21_2 (rd l1 x21_2) l1 (l1.length : Int) x21_2 true)) = some r := H
          have A13 := Aside0.mk A130
          clear A130
          by_cases c14 : t140 = true
          ·
           subst c14
           have H1 : (if x21_2 > 0 then (if 0 ≤ (wrap64 (x21_2 - 1)) then (if (wrap64 (x21_2 - 1)) < (l1.length : Int) then ((impl_BeforeSet.f k2 (rd l1 (wrap64 (x21_2 - 1))) (rd l1 x21_2)).bind fun t142 => (impl_IsClosureFamily.j2 k2 a0 l1 x21_2 (rd l1 x21_2) l1 (l1.length : Int) x21_2 (!t142))) else (none)) else (none)) else (impl_IsClosureFamily.j2 k2 a0 l1 x21_2 (rd l1 x21_2) l1 (l1.length : Int) x21_2 false)) = some r := q4_9
           clear H
           have H := H1
           clear H1
           by_cases c15 : x21_2 > 0
           ·
            rw [if_pos c15] at H
            have c15b0 : decide (0 < x21_2) = true := decide_eq_true c15
            clear c15
            (first | rw [c15b0] | (simp only [i64_w, i32_w]; rw [c15b0]) | skip)
            obtain ⟨ji16, hji16⟩ : ∃ j_ : Int, (wrap64 (x21_2 - 1)) = j_ := ⟨_, rfl⟩
            replace H : (if 0 ≤ (ji16) then (if (ji16) < (l1.length : Int) then ((impl_BeforeSet.f k2 (rd l1 (ji16)) (rd l1 x21_2)).bind fun t142 => (impl_IsClosureFamily.j2 k2 a0 l1 x21_2 (rd l1 x21_2) l1 (l1.length : Int) x21_2 (!t142))) else (none)) else (none)) = some r := by first | (rw [hji16] at H; exact H) | (simp only [hji16] at H ⊢; exact H)
            (try rw [hji16] at A13)
            have hji16w : (IntKind.i64.wrap (x21_2 - 1)) = ji16 := (i64_w _).trans hji16
            by_cases c17 : 0 ≤ (ji16)
            ·
             rw [if_pos c17] at H
             have c17b0 : decide (0 ≤ (ji16)) = true := decide_eq_true c17
             clear c17
             by_cases c18 : (ji16) < (l1.length : Int)
             ·
              rw [if_pos c18] at H
              have c18b0 : decide ((ji16) < (l1.length : Int)) = true := decide_eq_true c18
              clear c18
              replace H := Option.bind_eq_some_iff.mp H
              obtain ⟨t142, A190, H⟩ := H
              replace H : (impl_IsClosureFamily.j2 k2 a0 l1 x21_2 (rd l1 x21_2) l1 (l1.length : Int) x21_2 (!t142)) = some r := H
              have A19 := Aside0.mk A190
              clear A190
              have H' := Aside0.mk H
              clear H
              go_wp2_with (first | ((with_reducible refine gate_callee (f := 43) rfl ?_); refine goesL_ (some 28) rfl rfl Tryd.func43 (by kernel_rfl) rfl #[.int .i64 a0, .int .i64 (rd l1 x21_2)] rfl q4_5 ?_; (with_reducible refine (impl_IsSet.calls a0 (rd l1 x21_2) true _ A13.out).mono ?_); rintro e w' ⟨rfl, ⟨nd, rfl⟩⟩; refine ⟨_, rfl, ?_⟩; have p141 : 0 ≤ ((ji16) : Int) := of_decide_eq_true q4_8; have q141 : (ji16) < (l1.length : Int) := of_decide_eq_true q4_8; obtain ⟨ad141, e141, hx141_0⟩ := Kd.at_int HR1.out (ji16) p141 q141; obtain rfl : ad139 = ad141 := (by injection e141); replace p141 := eq_true p141; replace q141 := eq_true q141) | (go_at_call 44; (with_reducible refine (impl_BeforeSet.calls k2 (rd l1 (ji16)) (rd l1 x21_2) t142 _ ?tab A19.out).mono ?_); (case tab => first | exact HTB.out | (refine Tab64.below HTB.out ?_; repeat (first | (with_reducible first | exact HB.out | apply below_alloc | apply pw_below_drewN | apply below_drew1) | exact HB.out)) | (repeat (first | exact HTB.out | apply Tab64.drewN | apply Tab64.drew | apply Tab64.alloc))); rintro e w' ⟨rfl, ⟨nd, rfl⟩⟩))
              go_meet
              case rel => exact ⟨_, (!t142), q4_6, H', ⟨by have := HJ2.out; have := HK2.out; first | omega | exact Nat.le_refl _⟩, by repeat (first | exact Drawn0.refl _ | apply Drawn0.step)⟩
             ·
              rw [if_neg c18] at H
              exact absurd H (by simp)
            ·
             rw [if_neg c17] at H
             exact absurd H (by simp)
           ·
            rw [if_neg c15] at H
            have c15b0 : decide (0 < x21_2) = false := decide_eq_false c15
            clear c15
            (first | rw [c15b0] | (simp only [i64_w, i32_w]; rw [c15b0]) | skip)
            have H' := Aside0.mk H
            clear H
            go_wp2_with (first | ((with_reducible refine gate_callee (f := 43) rfl ?_); refine goesL_ (some 28) rfl rfl Tryd.func43 (by kernel_rfl) rfl #[.int .i64 a0, .int .i64 (rd l1 x21_2)] rfl q4_5 ?_; (with_reducible refine (impl_IsSet.calls a0 (rd l1 x21_2) true _ A13.out).mono ?_); rintro e w' ⟨rfl, ⟨nd, rfl⟩⟩; refine ⟨_, rfl, ?_⟩))
            go_meet
            case rel => exact ⟨_, (false), q4_6, H', ⟨by have := HJ2.out; have := HK2.out; first | omega | exact Nat.le_refl _⟩, by repeat (first | exact Drawn0.refl _ | apply Drawn0.step)⟩
          ·
           replace c14 := Bool.eq_false_iff.mpr c14
           subst c14
           have H1 : (impl_IsClosureFamily.j2 k2 a0 l1 x21_2 (rd l1 x21_2) l1 (l1.length : Int) x21_2 true) = some r := q4_7
           clear H
           have H := H1
           clear H1
           have H' := Aside0.mk H
           clear H
           go_wp2_with (first | ((with_reducible refine gate_callee (f := 43) rfl ?_); refine goesL_ (some 28) rfl rfl Tryd.func43 (by kernel_rfl) rfl #[.int .i64 a0, .int .i64 (rd l1 x21_2)] rfl q4_5 ?_; (with_reducible refine (impl_IsSet.calls a0 (rd l1 x21_2) false _ A13.out).mono ?_); rintro e w' ⟨rfl, ⟨nd, rfl⟩⟩; refine ⟨_, rfl, ?_⟩))
           go_meet
           case rel => exact ⟨_, (true), q4_6, H', ⟨by have := HJ2.out; have := HK2.out; first | omega | exact Nat.le_refl _⟩, by repeat (first | exact Drawn0.refl _ | apply Drawn0.step)⟩
         case rest =>
          clear HC12
          try clear c1
          try clear p1
          try clear q1
          try clear hx1
          try clear c2
          try clear p2
          try clear c4
          try clear c5
          try clear p6
          try clear c8
          try clear c9
          try clear c9b0
          try clear c10
          try clear c10b0
          try clear c11
          try clear c11b0
          try clear p13
          try clear q13
          try clear hx13
          try clear c14
          try clear p14
          try clear q14
          try clear hx14
          try clear c15
          try clear c15b0
          try clear c17
          try clear c17b0
          try clear c18
          try clear c18b0
          try clear hx139_0
          try clear hx141_0
          try clear p139
          try clear p141
          try clear p2
          try clear q139
          try clear q141
          obtain ⟨kq, x43_11, rfl, HA, HJ11, ⟨mc11, rfl⟩⟩ := hcut
          cases kq with
          | zero => exact absurd HA.out (by simp [impl_IsClosureFamily.j2])
          | succ kj11 =>
           have H := HA.out
           clear HA
           simp only [impl_IsClosureFamily.j2] at H
           by_cases c20 : x43_11 = true
           ·
            subst c20
            have H1 : (some false) = some r := q4_9
            clear H
            have H := H1
            clear H1
            obtain rfl := Option.some.inj H
            go_wp2
            go_ret
            exact ⟨by first | rfl | (simp; done) | (simp [*]; done) | (simp [i64_w, i32_w]; done), by repeat (first | exact Drawn0.refl _ | apply Drawn0.step)⟩
           ·
            replace c20 := Bool.eq_false_iff.mpr c20
            subst c20
            have H1 : (if 0 ≤ x21_2 then (if x21_2 ≤ (l1.length : Int) then (impl_IsClosureFamily.l1 kj11 a0 l1 (rd l1 x21_2) l1 (l1.length : Int) x21_2 (l1.take (x21_2 : Int).toNat) ((l1.take (x21_2 : Int).toNat).length : Int) 0) else (none)) else (none)) = some r := q4_7
            clear H
            have H := H1
            clear H1
            by_cases c21 : 0 ≤ x21_2
            ·
             rw [if_pos c21] at H
             have c21b0 := eq_true c21
             have c21b1 : decide (0 ≤ x21_2) = true := decide_eq_true c21
             clear c21
             by_cases c22 : x21_2 ≤ (l1.length : Int)
             ·
              rw [if_pos c22] at H
              have c22b0 := eq_true c22
              have c22b1 : decide (x21_2 ≤ (l1.length : Int)) = true := decide_eq_true c22
              clear c22
              have H' := Aside0.mk H
              clear H
              obtain ⟨i023, hi023, _, hsz23, _⟩ := info_parts info3
              obtain ⟨hcut23, hA23, hC23⟩ := print_take_of (P := Tryd.prog) (Value.int .i64) 0 38 3 .i64 Tryd.underlying38 hi023 hsz23 (some ad139) c1 l1 x21_2 (of_decide_eq_true q4_8) (of_decide_eq_true q4_8) HC1.out
              have HR143 := Aside0.mk (Kd.C_of_reads (h1 := fun _ => rfl) (hA23 _ (Kd.reads_of_C HR1.out)))
              have HC143 := Aside0.mk hC23
              clear hA23 hC23 hi023 hsz23
              have TK := Aside0.mk (show ((l1.take (x21_2 : Int).toNat).length : Int) = max x21_2 0 from by rw [List.length_take]; have h1_ : 0 ≤ x21_2 := (by first | omega | assumption | (apply of_eq_true; assumption)); have h2_ : x21_2 ≤ (l1.length : Int) := (by first | assumption | (apply of_eq_true; assumption)); omega)
              go_wp2
              go_loopg [48] kj11 (fun kq v48 w' => ∃ (x48_4 : Int), v48 = .int .i64 x48_4 ∧ Aside0 (impl_IsClosureFamily.l1 kq a0 l1 (rd l1 x21_2) l1 (l1.length : Int) x21_2 (l1.take (x21_2 : Int).toNat) ((l1.take (x21_2 : Int).toNat).length : Int) x48_4 = some r) ∧ Aside0 (kq ≤ kj11) ∧ Drawn0 w w')
              case atStart => exact ⟨(0), q4_6, H', ⟨Nat.le_refl _⟩, by repeat (first | exact Drawn0.refl _ | apply Drawn0.step)⟩
              case round =>
               clear H'
               try clear c1
               try clear p1
               try clear q1
               try clear hx1
               try clear c2
               try clear p2
               try clear c4
               try clear c5
               try clear p6
               try clear c8
               try clear c9
               try clear c9b0
               try clear c10
               try clear c10b0
               try clear c11
               try clear c11b0
               try clear p13
               try clear q13
               try clear hx13
               try clear c14
               try clear p14
               try clear q14
               try clear hx14
               try clear c15
               try clear c15b0
               try clear c17
               try clear c17b0
               try clear c18
               try clear c18b0
               try clear c20
               try clear c21
               try clear c21b0
               try clear c21b1
               try clear c22
               try clear c22b0
               try clear c22b1
               try clear hx139_0
               try clear hx141_0
               try clear p1
               try clear p13
               try clear p139
               try clear p14
               try clear p141
               try clear p2
               try clear p6
               try clear q1
               try clear q13
               try clear q139
               try clear q14
               try clear q141
               obtain ⟨x48_4, rfl, HA, HK4, ⟨m4, rfl⟩⟩ := hrel
               cases gk with
               | zero => exact absurd HA.out (by simp [impl_IsClosureFamily.l1])
               | succ k4 =>
                have H := HA.out
                clear HA
                simp only [impl_IsClosureFamily.l1] at H
                by_cases c24 : x48_4 < ((l1.take (x21_2 : Int).toNat).length : Int)
                ·
                 rw [if_pos c24] at H
                 have c24b0 : decide (x48_4 < ((l1.take (x21_2 : Int).toNat).length : Int)) = true := decide_eq_true c24
                 have c24b0t : decide (x48_4 < max x21_2 0) = true := by have h_ := c24b0; rw [TK.out] at h_; exact h_
                 clear c24
                 by_cases c25 : 0 ≤ x48_4
                 ·
                  rw [if_pos c25] at H
                  have c25b0 : decide (0 ≤ x48_4) = true := decide_eq_true c25
                  clear c25
                  by_cases c26 : x48_4 < ((l1.take (x21_2 : Int).toNat).length : Int)
                  ·
                   rw [if_pos c26] at H
                   have c26b0 : decide (x48_4 < ((l1.take (x21_2 : Int).toNat).length : Int)) = true := decide_eq_true c26
                   have c26b0t : decide (x48_4 < max x21_2 0) = true := by have h_ := c26b0; rw [TK.out] at h_; exact h_
                   clear c26
                   replace H := Option.bind_eq_some_iff.mp H
                   obtain ⟨t145, A270, H⟩ := H
                   replace H : (if t145 = true then (impl_IsClosureFamily.l1 k4 a0 l1 (rd l1 x21_2) l1 (l1.length : Int) x21_2 (l1.take (x21_2 : Int).toNat) ((l1.take (x21_2 : Int).toNat).length : Int) (wrap64 (x48_4 + 1))) else (some false)) = some r := H
                   have A27 := Aside0.mk A270
                   clear A270
                   by_cases c28 : t145 = true
                   ·
                    subst c28
                    have H1 : (impl_IsClosureFamily.l1 k4 a0 l1 (rd l1 x21_2) l1 (l1.length : Int) x21_2 (l1.take (x21_2 : Int).toNat) ((l1.take (x21_2 : Int).toNat).length : Int) (wrap64 (x48_4 + 1))) = some r := q4_9
                    clear H
                    have H := H1
                    clear H1
                    have H' := Aside0.mk H
                    clear H
                    have p144 : 0 ≤ (x48_4 : Int) := of_decide_eq_true q4_8
                    have q144 : x48_4 < ((l1.take (x21_2 : Int).toNat).length : Int) := of_decide_eq_true q4_8
                    have q144t : (x48_4 < max x21_2 0) = True := eq_true (by have h_ := q144; rw [TK.out] at h_; exact h_)
                    obtain ⟨ad144, e144, hx144_0⟩ := Kd.at_int HR143.out x48_4 p144 q144
                    obtain rfl : ad139 = ad144 := (by injection e144)
                    replace p144 := eq_true p144
                    replace q144 := eq_true q144
                    go_wp2_with (first | ((with_reducible refine gate_callee (f := 41) rfl ?_); refine goesL_ (some 56) rfl rfl Tryd.func41 (by kernel_rfl) rfl #[.slice (some ad139) l1.length c1, .int .i64 (Go.bits .and .i64 (rd l1 x21_2) (rd (l1.take (x21_2 : Int).toNat) x48_4))] rfl q4_5 ?_; (with_reducible refine (slices_Contains_int.calls k4 _ _ l1 (Go.bits .and .i64 (rd l1 x21_2) (rd (l1.take (x21_2 : Int).toNat) x48_4)) true _ ?side1 ?side2 A27.out).mono ?_); (case side1 => exact q4_4); (case side2 => exact HC1.out); rintro e w' ⟨rfl, ⟨nd, rfl⟩⟩; refine ⟨_, rfl, ?_⟩))
                    go_roundg k4
                    case measure => have := HJ2.out; have := HK2.out; have := HJ11.out; have := HK4.out; omega
                    case rel => exact ⟨(wrap64 (x48_4 + 1)), q4_6, H', ⟨by have := HJ2.out; have := HK2.out; have := HJ11.out; have := HK4.out; omega⟩, by repeat (first | exact Drawn0.refl _ | apply Drawn0.step)⟩
                   ·
                    replace c28 := Bool.eq_false_iff.mpr c28
                    subst c28
                    have H1 : (some false) = some r := q4_7
                    clear H
                    have H := H1
                    clear H1
                    obtain rfl := Option.some.inj H
                    have p144 : 0 ≤ (x48_4 : Int) := of_decide_eq_true q4_8
                    have q144 : x48_4 < ((l1.take (x21_2 : Int).toNat).length : Int) := of_decide_eq_true q4_8
                    have q144t : (x48_4 < max x21_2 0) = True := eq_true (by have h_ := q144; rw [TK.out] at h_; exact h_)
                    obtain ⟨ad144, e144, hx144_0⟩ := Kd.at_int HR143.out x48_4 p144 q144
                    obtain rfl : ad139 = ad144 := (by injection e144)
                    replace p144 := eq_true p144
                    replace q144 := eq_true q144
                    go_wp2_with (first | ((with_reducible refine gate_callee (f := 41) rfl ?_); refine goesL_ (some 56) rfl rfl Tryd.func41 (by kernel_rfl) rfl #[.slice (some ad139) l1.length c1, .int .i64 (Go.bits .and .i64 (rd l1 x21_2) (rd (l1.take (x21_2 : Int).toNat) x48_4))] rfl q4_5 ?_; (with_reducible refine (slices_Contains_int.calls k4 _ _ l1 (Go.bits .and .i64 (rd l1 x21_2) (rd (l1.take (x21_2 : Int).toNat) x48_4)) false _ ?side1 ?side2 A27.out).mono ?_); (case side1 => exact q4_4); (case side2 => exact HC1.out); rintro e w' ⟨rfl, ⟨nd, rfl⟩⟩; refine ⟨_, rfl, ?_⟩))
                    go_ret
                    exact ⟨by first | rfl | (simp; done) | (simp [*]; done) | (simp [i64_w, i32_w]; done), by repeat (first | exact Drawn0.refl _ | apply Drawn0.step)⟩
                  ·
                   rw [if_neg c26] at H
                   exact absurd H (by simp)
                 ·
                  rw [if_neg c25] at H
                  exact absurd H (by simp)
                ·
                 rw [if_neg c24] at H
                 have c24b0 : decide (x48_4 < ((l1.take (x21_2 : Int).toNat).length : Int)) = false := decide_eq_false c24
                 have c24b0t : decide (x48_4 < max x21_2 0) = false := by have h_ := c24b0; rw [TK.out] at h_; exact h_
                 clear c24
                 have H' := Aside0.mk H
                 clear H
                 go_wp2
                 go_roundg k4
                 case measure => have := HJ2.out; have := HK2.out; have := HJ11.out; have := HK4.out; omega
                 case rel => exact ⟨(wrap64 (x21_2 + 1)), q4_6, H', ⟨by have := HJ2.out; have := HK2.out; have := HJ11.out; have := HK4.out; omega⟩, by repeat (first | exact Drawn0.refl _ | apply Drawn0.step)⟩
             ·
              rw [if_neg c22] at H
              exact absurd H (by simp)
            ·
             rw [if_neg c21] at H
             exact absurd H (by simp)
        ·
         rw [if_neg c11] at H
         exact absurd H (by simp)
       ·
        rw [if_neg c10] at H
        exact absurd H (by simp)
      ·
       rw [if_neg c9] at H
       have c9b0 : decide (x21_2 < (l1.length : Int)) = false := decide_eq_false c9
       clear c9
       obtain rfl := Option.some.inj H
       go_wp2
       go_ret
       exact ⟨by first | rfl | (simp; done) | (simp [*]; done) | (simp [i64_w, i32_w]; done), by repeat (first | exact Drawn0.refl _ | apply Drawn0.step)⟩
end Go.Proofs.YtamjnninbdnjhaaDoor.Pr
