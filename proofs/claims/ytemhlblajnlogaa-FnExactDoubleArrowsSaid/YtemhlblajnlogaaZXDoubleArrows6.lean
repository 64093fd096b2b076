/- What the law needs of the program's functions as plain functions, of the proofs that their calls answer so, and of plain laws: gathered by a program of this place (pack.py) out of its printed texts. No condition beyond what each statement says. -/
import Derived.Test.YtemhlblajnlogaaZXDoubleArrows2
import Derived.Test.YtemhlblajnlogaaZXDoubleArrows3
import Derived.Shelf.Abstract
namespace Go.Proofs.Ytemhlblajnlogaa.Pr
open Go.RowKit Go.Proofs.YtemhlblajnlogaaW.PrintWords Go.Proofs.YtemhlblajnlogaaW.PrintLast Go.Proofs.YtemhlblajnlogaaW.PrintMore
attribute [local go_sem] max2_int min2_int max_two min_two max_three min_three max_four min_four   -- for this text's walks alone
set_option linter.unusedVariables false
set_option linter.unusedSimpArgs false
theorem q2_1 {P : Prop} (h : P := by first | rfl | (simp; done) | (simp [*]; done) | (simp [i64_w, i32_w]; done)) : P := h
theorem q2_2 {P : Prop} (h : P := by first | (with_reducible assumption) | assumption) : P := h
def impl_beyond.l0 : Nat → Int → Int → List Int → Int → Int → Option (Int)
 | 0, _, _, _, _, _ => none
 | k + 1, x1, x2, x9, x10, x11 => if x11 < x10 then (if 0 ≤ x11 then (if x11 < (x9.length : Int) then (if (rd x9 x11) = x1 then (impl_beyond.l0 k x1 x2 x9 x10 (wrap64 (x11 + 1))) else ((impl_inSet.f x1 (rd x9 x11)).bind fun t138 => (if t138 = true then (impl_beyond.l0 k x1 (Go.bits .and .i64 x2 (rd x9 x11)) x9 x10 (wrap64 (x11 + 1))) else (impl_beyond.l0 k x1 x2 x9 x10 (wrap64 (x11 + 1)))))) else (none)) else (none)) else (some x2)
def impl_beyond.f (k : Nat) (l0 : List Int) (a1 : Int) (a2 : Int) : Option (Int) := impl_beyond.l0 k a1 a2 l0 (l0.length : Int) 0
set_option maxHeartbeats 8000000 in
set_option maxRecDepth 100000 in
theorem impl_beyond.calls (k : Nat) (A0 : Option Addr) (c0 : Nat) (l0 : List Int) (a1 : Int) (a2 : Int) (r : Int) (w : World) (hr0 : Kd.C (Kd.int .i64) w A0 l0.length l0) (hc0 : l0.length ≤ c0) (h : impl_beyond.f k l0 a1 a2 = some r) :
  Calls Try.prog 51 #[.slice A0 l0.length c0, .int .i64 a1, .int .i64 a2] w fun e w' => e = .returned (.int .i64 r) ∧ Drawn0 w w' := by
 have HR0 := Aside0.mk hr0
 have HC0 := Aside0.mk hc0
 clear hr0 hc0
 have H : (impl_beyond.l0 k a1 a2 l0 (l0.length : Int) 0) = some r := h
 clear h
 have H' := Aside0.mk H
 clear H
 go_enter Try.func51, Try.ntmps51
 go_wp2
 go_loopg [2, 11] k (fun kq v2 v11 w' => ∃ (x2_1 : Int) (x11_1 : Int), v2 = .int .i64 x2_1 ∧ v11 = .int .i64 x11_1 ∧ Aside0 (impl_beyond.l0 kq a1 x2_1 l0 (l0.length : Int) x11_1 = some r) ∧ Aside0 (kq ≤ k) ∧ Drawn0 w w')
 case atStart => exact ⟨(a2), (0), q2_1, q2_1, H', ⟨Nat.le_refl _⟩, by repeat (first | exact Drawn0.refl _ | apply Drawn0.step)⟩
 case round =>
  clear H'
  try clear p2
  obtain ⟨x2_1, x11_1, rfl, rfl, HA, HK1, ⟨m1, rfl⟩⟩ := hrel
  cases gk with
  | zero => exact absurd HA.out (by simp [impl_beyond.l0])
  | succ k1 =>
   have H := HA.out
   clear HA
   simp only [impl_beyond.l0] at H
   by_cases c4 : x11_1 < (l0.length : Int)
   ·
    rw [if_pos c4] at H
    have c4b0 : decide (x11_1 < (l0.length : Int)) = true := decide_eq_true c4
    clear c4
    by_cases c5 : 0 ≤ x11_1
    ·
     rw [if_pos c5] at H
     have c5b0 : decide (0 ≤ x11_1) = true := decide_eq_true c5
     clear c5
     by_cases c6 : x11_1 < (l0.length : Int)
     ·
      rw [if_pos c6] at H
      have c6b0 : decide (x11_1 < (l0.length : Int)) = true := decide_eq_true c6
      clear c6
      by_cases c7 : (rd l0 x11_1) = a1
      ·
       rw [if_pos c7] at H
       have c7b0 : ((rd l0 x11_1) == a1) = true := beq_iff_eq.mpr c7
       have c7b1 : ((rd l0 x11_1) != a1) = false := bne_eq_false_iff_eq.mpr c7
       clear c7
       have H' := Aside0.mk H
       clear H
       have p137 : 0 ≤ (x11_1 : Int) := of_decide_eq_true q2_2
       have q137 : x11_1 < (l0.length : Int) := of_decide_eq_true q2_2
       obtain ⟨ad137, e137, hx137_0⟩ := Kd.at_int HR0.out x11_1 p137 q137
       cases e137
       replace p137 := eq_true p137
       replace q137 := eq_true q137
       go_wp2
       go_roundg k1
       case measure => have := HK1.out; omega
       case rel => exact ⟨(x2_1), (wrap64 (x11_1 + 1)), q2_1, q2_1, H', ⟨by have := HK1.out; omega⟩, by repeat (first | exact Drawn0.refl _ | apply Drawn0.step)⟩
      ·
       rw [if_neg c7] at H
       have c7b0 : ((rd l0 x11_1) == a1) = false := beq_eq_false_iff_ne.mpr c7
       have c7b1 : ((rd l0 x11_1) != a1) = true := bne_iff_ne.mpr c7
       replace H := Option.bind_eq_some_iff.mp H
       obtain ⟨t138, A80, H⟩ := H
       replace H : (if t138 = true then (impl_beyond.l0 k1 a1 (Go.bits .and .i64 x2_1 (rd l0 x11_1)) l0 (l0.length : Int) (wrap64 (x11_1 + 1))) else (impl_beyond.l0 k1 a1 x2_1 l0 (l0.length : Int) (wrap64 (x11_1 + 1)))) = some r := H
       have A8 := Aside0.mk A80
       clear A80
       by_cases c9 : t138 = true
       ·
        subst c9
        have H1 : (impl_beyond.l0 k1 a1 (Go.bits .and .i64 x2_1 (rd l0 x11_1)) l0 (l0.length : Int) (wrap64 (x11_1 + 1))) = some r := by rw [if_pos rfl] at H; exact H
        clear H
        have H := H1
        clear H1
        have H' := Aside0.mk H
        clear H
        have p137 : 0 ≤ (x11_1 : Int) := of_decide_eq_true q2_2
        have q137 : x11_1 < (l0.length : Int) := of_decide_eq_true q2_2
        obtain ⟨ad137, e137, hx137_0⟩ := Kd.at_int HR0.out x11_1 p137 q137
        cases e137
        replace p137 := eq_true p137
        replace q137 := eq_true q137
        go_wp2_with (first | (go_at_call 63; (with_reducible refine (impl_inSet.calls a1 (rd l0 x11_1) true _ A8.out).mono ?_); rintro e w' ⟨rfl, ⟨nd, rfl⟩⟩))
        go_roundg k1
        case measure => have := HK1.out; omega
        case rel => exact ⟨(Go.bits .and .i64 x2_1 (rd l0 x11_1)), (wrap64 (x11_1 + 1)), q2_1, q2_1, H', ⟨by have := HK1.out; omega⟩, by repeat (first | exact Drawn0.refl _ | apply Drawn0.step)⟩
       ·
        replace c9 := Bool.eq_false_iff.mpr c9
        subst c9
        have H1 : (impl_beyond.l0 k1 a1 x2_1 l0 (l0.length : Int) (wrap64 (x11_1 + 1))) = some r := by rw [if_neg (show ¬ (false = true) by decide)] at H; exact H
        clear H
        have H := H1
        clear H1
        have H' := Aside0.mk H
        clear H
        have p137 : 0 ≤ (x11_1 : Int) := of_decide_eq_true q2_2
        have q137 : x11_1 < (l0.length : Int) := of_decide_eq_true q2_2
        obtain ⟨ad137, e137, hx137_0⟩ := Kd.at_int HR0.out x11_1 p137 q137
        cases e137
        replace p137 := eq_true p137
        replace q137 := eq_true q137
        go_wp2_with (first | (go_at_call 63; (with_reducible refine (impl_inSet.calls a1 (rd l0 x11_1) false _ A8.out).mono ?_); rintro e w' ⟨rfl, ⟨nd, rfl⟩⟩))
        go_roundg k1
        case measure => have := HK1.out; omega
        case rel => exact ⟨(x2_1), (wrap64 (x11_1 + 1)), q2_1, q2_1, H', ⟨by have := HK1.out; omega⟩, by repeat (first | exact Drawn0.refl _ | apply Drawn0.step)⟩
     ·
      rw [if_neg c6] at H
      exact absurd H (by simp)
    ·
     rw [if_neg c5] at H
     exact absurd H (by simp)
   ·
    rw [if_neg c4] at H
    have c4b0 : decide (x11_1 < (l0.length : Int)) = false := decide_eq_false c4
    clear c4
    obtain rfl := Option.some.inj H
    go_wp2
    go_ret
    exact ⟨by first | rfl | (simp; done) | (simp [*]; done) | (simp [i64_w, i32_w]; done), by repeat (first | exact Drawn0.refl _ | apply Drawn0.step)⟩
end Go.Proofs.Ytemhlblajnlogaa.Pr
namespace Go.Proofs.Ytemhlblajnlogaa.Pr
open Go.RowKit Go.Proofs.YtemhlblajnlogaaW.PrintWords Go.Proofs.YtemhlblajnlogaaW.PrintLast Go.Proofs.YtemhlblajnlogaaW.PrintMore
set_option linter.unusedVariables false
set_option linter.unusedSimpArgs false
def idxF {α : Type} (p : α → Bool) (l : List α) : Int := if l.any p = true then (l.findIdx p : Int) else -1
theorem idxF_hit {α : Type} (p : α → Bool) (l : List α) (d : α) (k : Nat) (hk : k < l.length) (h : p (l.getD k d) = true) (hn : ∀ j, j < k → p (l.getD j d) = false) : idxF p l = k := by
  have hg : ∀ j (hj : j < l.length), l.getD j d = l[j] := fun j hj => by simp [List.getD_eq_getElem?_getD, List.getElem?_eq_getElem hj]
  have hf : l.findIdx p = k := (List.findIdx_eq hk).2 ⟨by rw [← hg k hk]; exact h, fun j hj => by rw [← hg j (by omega)]; exact hn j hj⟩
  have ha : l.any p = true := List.any_eq_true.2 ⟨l[k], List.getElem_mem hk, by rw [← hg k hk]; exact h⟩
  unfold idxF
  rw [if_pos ha, hf]
theorem idxF_miss {α : Type} (p : α → Bool) (l : List α) (d : α) (hn : ∀ j, j < l.length → p (l.getD j d) = false) : idxF p l = -1 ∧ l.any p = false := by
  have ha : l.any p = false := by
    rw [List.any_eq_false]
    intro x hx
    obtain ⟨j, hj, rfl⟩ := List.getElem_of_mem hx
    have := hn j hj
    rw [List.getD_eq_getElem?_getD, List.getElem?_eq_getElem hj] at this
    simpa using this
  unfold idxF
  rw [ha]
  exact ⟨rfl, rfl⟩
theorem idxF_nonneg {α : Type} (p : α → Bool) (l : List α) : decide (0 ≤ idxF p l) = l.any p := by
  unfold idxF
  cases l.any p <;> simp
/-- what is asked of a predicate on whole numbers -/
def FnIb (g : Nat) (lb : Array Value) (p : Int → Bool) (w : World) : Prop :=
  ∀ (W : World) (x : Int), Below w.heap.size w W → Calls Try.prog g (#[.int .i64 x] ++ lb) W fun e w' => e = .returned (.bool (p x)) ∧ Below W.heap.size W w'
set_option maxHeartbeats 4000000 in
set_option maxRecDepth 100000 in
theorem IndexFunc_int (g : Nat) (lb : Array Value) (eg : ∀ args w, (callFunc g args).run Try.prog w = .ok (.enter g args) w) (A : Option Addr) (c : Nat) (l : List Int) (p : Int → Bool) (w : World)
    (hr : Kd.C (Kd.int .i64) w A l.length l) (hp : FnIb g lb p w) :
    Calls Try.prog 97 #[.slice A l.length c, .func (.func g) #[] lb] w fun e w' => e = .returned (.int .i64 (idxF p l)) ∧ Below w.heap.size w w' := by
  have HR0 := Aside0.mk hr
  have HP := Aside0.mk hp
  clear hr hp
  go_enter Try.func97, Try.ntmps97
  go_wp2
  go_loopg [5, 8] (l.length + 1) (fun kq _ v8 w' => ∃ (x : Int), v8 = .int .i64 x ∧ Aside0 (0 ≤ x ∧ x ≤ l.length ∧ (l.length : Int) - x < kq) ∧ Aside0 (∀ j : Nat, (j : Int) < x → p (l.getD j (0 : Int)) = false) ∧ Aside0 (Below w.heap.size w w'))
  case atStart => exact ⟨0, rfl, ⟨by omega⟩, ⟨fun j hj => by omega⟩, ⟨Below.refl _ _⟩⟩
  case round =>
    obtain ⟨x, rfl, HX, HN, HB⟩ := hrel
    by_cases hlt : x < (l.length : Int)
    · have c0 : decide (x < (l.length : Int)) = true := decide_eq_true hlt
      have p0 : 0 ≤ x := HX.out.1
      obtain ⟨ad, e, hx0⟩ := Kd.at_int HR0.out x p0 hlt
      cases e
      replace hx0 := (HB.out.cell (World.block_lt_of_cell? w _ hx0)).trans hx0
      have HL := Aside0.mk hlt
      replace p0 := eq_true p0
      replace hlt := eq_true hlt
      have hcall := HP.out wr (rd l x) HB.out
      cases hq : p (rd l x) with
      | true =>
        rw [hq] at hcall
        have HQ := Aside0.mk hq
        clear hq
        go_wp2_with (go_at_fn g; refine hcall.mono ?_; rintro e w' ⟨rfl, hb⟩)
        go_ret
        have hx := HX.out
        have h1 := idxF_hit p l (0 : Int) x.toNat (by have := HL.out; omega) HQ.out (fun j hj => HN.out j (by omega))
        refine ⟨?_, below_step HB.out hb⟩
        rw [h1, Int.toNat_of_nonneg hx.1]
        rfl
      | false =>
        rw [hq] at hcall
        have HQ := Aside0.mk hq
        clear hq
        go_wp2_with (go_at_fn g; refine hcall.mono ?_; rintro e w' ⟨rfl, hb⟩)
        have hw : wrap64 (x + 1) = x + 1 := by have h1 := HX.out; have h2 := HL.out; have h3 := HR0.out.2.1; unfold wrap64; omega
        have HW := Aside0.mk hw
        clear hw
        go_roundg (gk - 1)
        case measure => have h1 := HX.out; have h2 := HL.out; omega
        case rel =>
          refine ⟨x + 1, by rw [HW.out], ⟨?_⟩, ⟨fun j hj => ?_⟩, ⟨below_step HB.out hb⟩⟩
          · have h1 := HX.out; have h2 := HL.out; omega
          · by_cases e : (j : Int) = x
            · have : j = x.toNat := by omega
              subst this
              exact HQ.out
            · exact HN.out j (by omega)
    · have c0 : decide (x < (l.length : Int)) = false := decide_eq_false hlt
      have HL := Aside0.mk hlt
      clear hlt
      go_wp2
      go_ret
      have h1 := HX.out
      have h2 := HL.out
      rw [(idxF_miss p l (0 : Int) (fun j hj => HN.out j (by omega))).1]
      exact ⟨rfl, HB.out⟩
set_option maxHeartbeats 4000000 in
set_option maxRecDepth 100000 in
theorem ContainsFunc_int (g : Nat) (lb : Array Value) (eg : ∀ args w, (callFunc g args).run Try.prog w = .ok (.enter g args) w) (A : Option Addr) (c : Nat) (l : List Int) (p : Int → Bool) (w : World)
    (hr : Kd.C (Kd.int .i64) w A l.length l) (hp : FnIb g lb p w) :
    Calls Try.prog 91 #[.slice A l.length c, .func (.func g) #[] lb] w fun e w' => e = .returned (.bool (l.any p)) ∧ Below w.heap.size w w' := by
  have h0 := IndexFunc_int g lb eg A c l p w hr hp
  have h1 := Aside0.mk (idxF_nonneg p l)
  clear hr hp
  go_enter Try.func91, Try.ntmps91
  go_wp2_with (go_at_call 97; refine h0.mono ?_; rintro e w' ⟨rfl, hb⟩)
  go_ret
  exact ⟨by rw [← h1.out]; rfl, hb⟩
end Go.Proofs.Ytemhlblajnlogaa.Pr
