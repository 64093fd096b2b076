/- What the law needs of the program's functions as plain functions, of the proofs that their calls answer so, and of plain laws: gathered by a program of this place (pack.py) out of its printed texts. No condition beyond what each statement says. -/
import Derived.Test.YtafnamchckehmaaZFnArrows6
import Derived.Test.YtafnamchckehmaaZFnArrows11
import Derived.Test.YtafnamchckehmaaZFnArrows10
namespace Go.Proofs.Ytafnamchckehmaa.Pr
open Go.RowKit Go.Proofs.YtafnamchckehmaaW.PrintWords Go.Proofs.YtafnamchckehmaaW.PrintLast Go.Proofs.YtafnamchckehmaaW.PrintMore
set_option linter.unusedVariables false
theorem pow_wrap (e : Nat) (he : e ≤ 8) : wrap64 ((2 : Int) ^ e) = ((2 ^ e : Nat) : Int) := by
  have h : e = 0 ∨ e = 1 ∨ e = 2 ∨ e = 3 ∨ e = 4 ∨ e = 5 ∨ e = 6 ∨ e = 7 ∨ e = 8 := by omega
  rcases h with rfl | rfl | rfl | rfl | rfl | rfl | rfl | rfl | rfl <;> decide +kernel
/-- what is asked of a predicate on the numbers below n -/
def FnBelow (g : Nat) (lb : Array Value) (n : Nat) (p : Nat → Bool) (w : World) : Prop :=
  ∀ (W : World) (x : Nat), x < n → Below w.heap.size w W → Calls Try.prog g (#[.int .i64 (x : Int)] ++ lb) W fun e w' => e = .returned (.bool (p x)) ∧ Below W.heap.size W w'
set_option maxHeartbeats 4000000 in
set_option maxRecDepth 100000 in
theorem accepted_calls (g : Nat) (lb : Array Value) (eg : ∀ args w, (callFunc g args).run Try.prog w = .ok (.enter g args) w) (n : Nat) (hn : n ≤ 8) (p : Nat → Bool) (w : World) (hp : FnBelow g lb n p w) :
    Calls Try.prog 46 #[.int .i64 (n : Int), .func (.func g) #[] lb] w fun e w' => e = .returned (.int .i64 ((Pu.ofBits p n : Nat) : Int)) ∧ Below w.heap.size w w' := by
  have HP := Aside0.mk hp
  have HN := Aside0.mk hn
  clear hp
  go_enter Try.func46, Try.ntmps46
  go_wp2
  go_loopg [5, 6, 8] (n + 1) (fun kq v5 _ v8 w' => ∃ (x : Nat), v8 = .int .i64 (x : Int) ∧ v5 = .int .i64 ((Pu.ofBits p x : Nat) : Int) ∧ Aside0 (x ≤ n ∧ n - x < kq) ∧ Aside0 (Below w.heap.size w w'))
  case atStart => exact ⟨0, rfl, rfl, ⟨by omega⟩, ⟨Below.refl _ _⟩⟩
  case round =>
    obtain ⟨x, rfl, rfl, HX, HB⟩ := hrel
    by_cases hlt : x < n
    · have c0 : decide ((x : Int) < (n : Int)) = true := decide_eq_true (by omega)
      have c1 : decide (x < n) = true := decide_eq_true hlt
      have c2 : (x < n) = True := eq_true hlt
      have p0 : ((0 : Int) ≤ (x : Int)) = True := eq_true (by omega)
      have hcall := HP.out wr x hlt HB.out
      have HL := Aside0.mk hlt
      have hw : wrap64 ((x : Int) + 1) = ((x + 1 : Nat) : Int) := by have h1 := HX.out; have h2 := HN.out; unfold wrap64; omega
      have HW := Aside0.mk hw
      clear hw hlt
      cases hq : p x with
      | true =>
        rw [hq] at hcall
        have HQ := Aside0.mk hq
        clear hq
        go_wp2_with (go_at_fn g; refine hcall.mono ?_; rintro e w' ⟨rfl, hb⟩)
        go_roundg (gk - 1)
        case measure => have h1 := HX.out; have h2 := HL.out; omega
        case rel =>
          refine ⟨x + 1, by first | rw [HW.out] | rfl, ?_, ⟨by have h1 := HX.out; have h2 := HL.out; omega⟩, ⟨below_step HB.out hb⟩⟩
          have h1 : Pu.ofBits p x < 2 ^ x := Pu.ofBits_lt p x
          have h2 := HL.out
          have h3 := HN.out
          have h4 : Pu.ofBits p x < 256 := Pu.lt_256 (by omega) h1
          have h5 : 2 ^ x ≤ 2 ^ 7 := Nat.pow_le_pow_right (by decide) (by omega)
          rw [show Pu.ofBits p (x + 1) = Pu.ofBits p x ||| 2 ^ x from by rw [Pu.ofBits, if_pos HQ.out], Nat.min_eq_left (show x ≤ 64 by omega), pow_wrap x (by omega), Pu.or_nat (by omega) (by omega)]
      | false =>
        rw [hq] at hcall
        have HQ := Aside0.mk hq
        clear hq
        go_wp2_with (go_at_fn g; refine hcall.mono ?_; rintro e w' ⟨rfl, hb⟩)
        go_roundg (gk - 1)
        case measure => have h1 := HX.out; have h2 := HL.out; omega
        case rel =>
          refine ⟨x + 1, by first | rw [HW.out] | rfl, ?_, ⟨by have h1 := HX.out; have h2 := HL.out; omega⟩, ⟨below_step HB.out hb⟩⟩
          rw [show Pu.ofBits p (x + 1) = Pu.ofBits p x from by rw [Pu.ofBits, HQ.out, if_neg (by decide), Nat.or_zero]]
    · have c0 : decide ((x : Int) < (n : Int)) = false := decide_eq_false (by omega)
      have c1 : decide (x < n) = false := decide_eq_false hlt
      have c2 : (x < n) = False := eq_false hlt
      have HL := Aside0.mk hlt
      clear hlt
      go_wp2
      go_ret
      have h1 := HX.out
      have h2 := HL.out
      obtain rfl : x = n := by omega
      exact ⟨rfl, HB.out⟩
end Go.Proofs.Ytafnamchckehmaa.Pr
