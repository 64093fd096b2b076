/- What the law needs of the program's functions as plain functions, of the proofs that their calls answer so, and of plain laws: gathered by a program of this place (pack.py) out of its printed texts. No condition beyond what each statement says. -/
import Derived.Test.YtamjnninbdnjhaaZXRulesText2
import Derived.Shelf.Abstract
namespace Go.Proofs.Ytamjnninbdnjhaa.Pr
open Go.RowKit Go.Proofs.YtamjnninbdnjhaaW.PrintWords Go.Proofs.YtamjnninbdnjhaaW.PrintLast Go.Proofs.YtamjnninbdnjhaaW.PrintMore
set_option linter.unusedVariables false
set_option linter.unusedSimpArgs false
def idxF {α : Type} (p : α → Bool) (l : List α) : Int := if l.any p = true then (l.findIdx p : Int) else -1
theorem idxF_hit {α : Type} (p : α → Bool) (l : List α) (d : α) (k : Nat) (hk : k < l.length) (h : p (l.getD k d) = true) (hn : ∀ j, j < k → p (l.getD j d) = false) : idxF p l = k := by
  have hg : ∀ j (hj : j < l.length), l.getD j d = l[j] := fun j hj => by simp [List.getD_eq_getElem?_getD, List.getElem?_eq_getElem hj]
  have hf : l.findIdx p = k := (List.findIdx_eq hk).2 ⟨by rw [← hg k hk]; exact h, fun j hj => by rw [← hg j (by omega)]; exact hn j hj⟩
  have ha : l.any p = true := List.any_eq_true.2 ⟨l[k], List.getElem_mem hk, by rw [← hg k hk]; exact h⟩
  unfold idxF
  rw [if_pos ha, hf]
theorem idxF_miss {α : Type} (p : α → Bool) (l : List α) (d : α) (hn : ∀ j, j < l.length → p (l.getD j d) = false) : idxF p l = -1 ∧ l.any p = false := by
  have ha : l.any p = false := by
    rw [List.any_eq_false]
    intro x hx
    obtain ⟨j, hj, rfl⟩ := List.getElem_of_mem hx
    have := hn j hj
    rw [List.getD_eq_getElem?_getD, List.getElem?_eq_getElem hj] at this
    simpa using this
  unfold idxF
  rw [ha]
  exact ⟨rfl, rfl⟩
theorem idxF_nonneg {α : Type} (p : α → Bool) (l : List α) : decide (0 ≤ idxF p l) = l.any p := by
  unfold idxF
  cases l.any p <;> simp
/-- what is asked of a predicate on rules -/
def FnRb (g : Nat) (lb : Array Value) (p : S46 → Bool) (w : World) : Prop :=
  ∀ (W : World) (x : S46), Below w.heap.size w W → Calls Try.prog g (#[.agg #[.int .i64 x.f0, .int .i64 x.f1]] ++ lb) W fun e w' => e = .returned (.bool (p x)) ∧ Below W.heap.size W w'
set_option maxHeartbeats 4000000 in
set_option maxRecDepth 100000 in
theorem IndexFunc_rule (g : Nat) (lb : Array Value) (eg : ∀ args w, (callFunc g args).run Try.prog w = .ok (.enter g args) w) (A : Option Addr) (c : Nat) (l : List S46) (p : S46 → Bool) (w : World)
    (hr : Kd.C k46 w A l.length l) (hp : FnRb g lb p w) :
    Calls Try.prog 45 #[.slice A l.length c, .func (.func g) #[] lb] w fun e w' => e = .returned (.int .i64 (idxF p l)) ∧ Below w.heap.size w w' := by
  have hu := Try.underlying46
  have HR0 := Aside0.mk hr
  have HP := Aside0.mk hp
  clear hr hp
  go_enter Try.func45, Try.ntmps45
  go_wp2
  go_loopg [5, 8] (l.length + 1) (fun kq _ v8 w' => ∃ (x : Int), v8 = .int .i64 x ∧ Aside0 (0 ≤ x ∧ x ≤ l.length ∧ (l.length : Int) - x < kq) ∧ Aside0 (∀ j : Nat, (j : Int) < x → p (l.getD j z46) = false) ∧ Aside0 (Below w.heap.size w w'))
  case atStart => exact ⟨0, rfl, ⟨by omega⟩, ⟨fun j hj => by omega⟩, ⟨Below.refl _ _⟩⟩
  case round =>
    obtain ⟨x, rfl, HX, HN, HB⟩ := hrel
    by_cases hlt : x < (l.length : Int)
    · have c0 : decide (x < (l.length : Int)) = true := decide_eq_true hlt
      have p0 : 0 ≤ x := HX.out.1
      obtain ⟨ad, e, hx0, hx1⟩ := at_T46 HR0.out x p0 hlt
      cases e
      replace hx0 := (HB.out.cell (World.block_lt_of_cell? w _ hx0)).trans hx0
      replace hx1 := (HB.out.cell (World.block_lt_of_cell? w _ hx1)).trans hx1
      have HL := Aside0.mk hlt
      replace p0 := eq_true p0
      replace hlt := eq_true hlt
      have hcall := HP.out wr (rd_T46 l x) HB.out
      cases hq : p (rd_T46 l x) with
      | true =>
        rw [hq] at hcall
        have HQ := Aside0.mk hq
        clear hq
        go_wp2_with (go_at_fn g; refine hcall.mono ?_; rintro e w' ⟨rfl, hb⟩)
        go_ret
        have hx := HX.out
        have h1 := idxF_hit p l z46 x.toNat (by have := HL.out; omega) HQ.out (fun j hj => HN.out j (by omega))
        refine ⟨?_, below_step HB.out hb⟩
        rw [h1, Int.toNat_of_nonneg hx.1]
        rfl
      | false =>
        rw [hq] at hcall
        have HQ := Aside0.mk hq
        clear hq
        go_wp2_with (go_at_fn g; refine hcall.mono ?_; rintro e w' ⟨rfl, hb⟩)
        have hw : wrap64 (x + 1) = x + 1 := by have h1 := HX.out; have h2 := HL.out; have h3 := HR0.out.2.1; unfold wrap64; omega
        have HW := Aside0.mk hw
        clear hw
        go_roundg (gk - 1)
        case measure => have h1 := HX.out; have h2 := HL.out; omega
        case rel =>
          refine ⟨x + 1, by rw [HW.out], ⟨?_⟩, ⟨fun j hj => ?_⟩, ⟨below_step HB.out hb⟩⟩
          · have h1 := HX.out; have h2 := HL.out; omega
          · by_cases e : (j : Int) = x
            · have : j = x.toNat := by omega
              subst this
              exact HQ.out
            · exact HN.out j (by omega)
    · have c0 : decide (x < (l.length : Int)) = false := decide_eq_false hlt
      have HL := Aside0.mk hlt
      clear hlt
      go_wp2
      go_ret
      have h1 := HX.out
      have h2 := HL.out
      rw [(idxF_miss p l z46 (fun j hj => HN.out j (by omega))).1]
      exact ⟨rfl, HB.out⟩
set_option maxHeartbeats 4000000 in
set_option maxRecDepth 100000 in
theorem ContainsFunc_rule (g : Nat) (lb : Array Value) (eg : ∀ args w, (callFunc g args).run Try.prog w = .ok (.enter g args) w) (A : Option Addr) (c : Nat) (l : List S46) (p : S46 → Bool) (w : World)
    (hr : Kd.C k46 w A l.length l) (hp : FnRb g lb p w) :
    Calls Try.prog 82 #[.slice A l.length c, .func (.func g) #[] lb] w fun e w' => e = .returned (.bool (l.any p)) ∧ Below w.heap.size w w' := by
  have h0 := IndexFunc_rule g lb eg A c l p w hr hp
  have h1 := Aside0.mk (idxF_nonneg p l)
  clear hr hp
  go_enter Try.func82, Try.ntmps82
  go_wp2_with (go_at_call 45; refine h0.mono ?_; rintro e w' ⟨rfl, hb⟩)
  go_ret
  exact ⟨by rw [← h1.out]; rfl, hb⟩
end Go.Proofs.Ytamjnninbdnjhaa.Pr
