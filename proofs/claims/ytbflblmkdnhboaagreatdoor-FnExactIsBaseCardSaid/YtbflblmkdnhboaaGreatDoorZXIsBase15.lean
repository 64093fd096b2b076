/- What the law needs of the program's functions as plain functions, of the proofs that their calls answer so, and of plain laws: gathered by a program of this place (pack.py) out of its printed texts. No condition beyond what each statement says. -/
import Derived.Test.YtbflblmkdnhboaaGreatDoorZXIsBase7
import Derived.Test.YtbflblmkdnhboaaGreatDoorZXIsBase8
import Derived.Test.YtbflblmkdnhboaaGreatDoorZXIsBase9
import Derived.Test.YtbflblmkdnhboaaGreatDoorZXIsBase13
namespace Go.Proofs.YtbflblmkdnhboaaGreatDoor.Pr
open Go.RowKit Go.Proofs.YtbflblmkdnhboaaGreatDoorW.PrintWords Go.Proofs.YtbflblmkdnhboaaGreatDoorW.PrintLast Go.Proofs.YtbflblmkdnhboaaGreatDoorW.PrintMore
set_option linter.unusedVariables false
def impl_IsContext.f (a0 : Int) (l1 : List Int) : Option Bool := some (decide (0 ≤ a0 ∧ a0 ≤ 6) && decide ((l1.length : Int) ≤ 8) && l1.all (Pu.isSetB a0))
theorem box2_cells {w w1 : World} {a b : Value} {t : TypeId} (h : Below (w.alloc (.cells #[a, b] t)).heap.size (w.alloc (.cells #[a, b] t)) w1) : w1.cell? ⟨w.heap.size, 0, none⟩ = some a ∧ w1.cell? ⟨w.heap.size, 1, none⟩ = some b := by
  have h0 : (w.alloc (.cells #[a, b] t)).cell? ⟨w.heap.size, 0, none⟩ = some a := blk_cell (heap_alloc_new w (.cells #[a, b] t)) 0
  have h1 : (w.alloc (.cells #[a, b] t)).cell? ⟨w.heap.size, 1, none⟩ = some b := blk_cell (heap_alloc_new w (.cells #[a, b] t)) 1
  exact ⟨(h.cell (p := ⟨w.heap.size, 0, none⟩) (by simp)).trans h0, (h.cell (p := ⟨w.heap.size, 1, none⟩) (by simp)).trans h1⟩
set_option maxHeartbeats 4000000 in
set_option maxRecDepth 100000 in
theorem IsContext1_calls (n : Int) (b : Nat) (x : Int) (W : World) (hc : W.cell? ⟨b, 0, none⟩ = some (.int .i64 n)) :
    Calls Tryz.prog 40 #[.int .i64 x, .pointer (some ⟨b, 0, none⟩)] W fun e w' => e = .returned (.bool (!Pu.isSetB n x)) ∧ Below W.heap.size W w' := by
  have hu := Tryz.underlying29
  have K1 : Aside0 (impl_IsSet.f n x = some (Pu.isSetB n x)) := ⟨Pu.set_val n x⟩
  go_enter Tryz.func40, Tryz.ntmps40
  go_wp2_with (go_at_call 41; refine (impl_IsSet.calls n x _ _ K1.out).mono ?_; rintro e w' ⟨rfl, ⟨⟨q, rfl⟩⟩⟩)
  go_ret
  exact ⟨rfl, by repeat (first | apply below_alloc | apply pw_below_drewN | apply below_drew1 | exact Below.refl _ _)⟩
theorem IsContext1_fn (n : Int) (b : Nat) (w : World) (hc : w.cell? ⟨b, 0, none⟩ = some (.int .i64 n)) : FnIb 40 #[.pointer (some ⟨b, 0, none⟩)] (fun x => !Pu.isSetB n x) w := by
  intro W x hb
  rw [show (#[.int .i64 x] ++ #[.pointer (some ⟨b, 0, none⟩)] : Array Value) = #[.int .i64 x, .pointer (some ⟨b, 0, none⟩)] from rfl]
  exact IsContext1_calls n b x W ((hb.cell (p := ⟨b, 0, none⟩) (World.block_lt_of_cell? w _ hc)).trans hc)
set_option maxHeartbeats 4000000 in
set_option maxRecDepth 100000 in
theorem impl_IsContext.calls (a0_0 : Int) (A0_1 : Option Addr) (c0_1 : Nat) (l0_1 : List Int) (r : Bool) (w : World) (hr0_1 : Kd.C (Kd.int .i64) w A0_1 l0_1.length l0_1) (hc0_1 : l0_1.length ≤ c0_1) (h : impl_IsContext.f a0_0 l0_1 = some r) :
    Calls Tryz.prog 23 #[.agg #[.int .i64 a0_0, .slice A0_1 l0_1.length c0_1]] w fun e w' => e = .returned (.bool r) ∧ Below w.heap.size w w' := by
  have hu := Tryz.underlying29
  have HR := Aside0.mk hr0_1
  have hr := Aside0.mk (Option.some.inj h)
  clear h hr0_1
  have eg : ∀ args w, (callFunc 40 args).run Tryz.prog w = .ok (.enter 40 args) w := enters_of Tryz.func40 (by kernel_rfl) rfl
  cases h1 : decide (0 ≤ a0_0 ∧ a0_0 ≤ 6) with
  | false =>
    have K : Aside0 (impl_within.f a0_0 0 6 = some false) := ⟨by rw [Pu.within_val, h1]⟩
    have H : Aside0 (r = false) := ⟨by rw [← hr.out, h1]; rfl⟩
    clear h1
    go_enter Tryz.func23, Tryz.ntmps23
    go_wp2_with (go_at_call 38; refine (impl_within.calls a0_0 0 6 false _ K.out).mono ?_; rintro e w' ⟨rfl, ⟨⟨q, rfl⟩⟩⟩)
    go_ret
    exact ⟨by rw [H.out]; rfl, by repeat (first | apply below_alloc | apply pw_below_drewN | apply below_drew1 | exact Below.refl _ _)⟩
  | true =>
    have K : Aside0 (impl_within.f a0_0 0 6 = some true) := ⟨by rw [Pu.within_val, h1]⟩
    by_cases h2 : (l0_1.length : Int) ≤ 8
    · have h2b : decide ((l0_1.length : Int) ≤ 8) = true := decide_eq_true h2
      have H : Aside0 (r = !(l0_1.any fun x => !Pu.isSetB a0_0 x)) := ⟨by rw [← hr.out, h1, h2b, ← List.all_eq_not_any_not]; rfl⟩
      clear h1 h2
      go_enter Tryz.func23, Tryz.ntmps23
      go_wp2_with (go_at_call 38; refine (impl_within.calls a0_0 0 6 true _ K.out).mono ?_; rintro e w1 ⟨rfl, hd⟩; have HB1 := Aside0.mk (below_step (below_alloc (Below.refl w.heap.size w) _) hd.below); have HC1 := Aside0.mk (box2_cells (a := .int .i64 a0_0) (b := .slice A0_1 l0_1.length c0_1) hd.below); clear hd; have hcell := HC1.out.2)
      refine (ContainsFunc_int 40 #[.pointer (some ⟨w.heap.size, 0, none⟩)] eg A0_1 c0_1 l0_1 (fun x => !Pu.isSetB a0_0 x) w1 (Kd.C_below HR.out HB1.out) (IsContext1_fn a0_0 w.heap.size w1 HC1.out.1)).mono ?_
      rintro e w' ⟨rfl, hb⟩
      go_wp2
      go_ret
      exact ⟨by rw [H.out]; rfl, below_step HB1.out hb⟩
    · have h2b : decide ((l0_1.length : Int) ≤ 8) = false := decide_eq_false h2
      have H : Aside0 (r = false) := ⟨by rw [← hr.out, h1, h2b]; rfl⟩
      clear h1 h2
      go_enter Tryz.func23, Tryz.ntmps23
      go_wp2_with (go_at_call 38; refine (impl_within.calls a0_0 0 6 true _ K.out).mono ?_; rintro e w1 ⟨rfl, hd⟩; have HB1 := Aside0.mk (below_step (below_alloc (Below.refl w.heap.size w) _) hd.below); have HC1 := Aside0.mk (box2_cells (a := .int .i64 a0_0) (b := .slice A0_1 l0_1.length c0_1) hd.below); clear hd; have hcell := HC1.out.2)
      go_ret
      exact ⟨by rw [H.out]; rfl, HB1.out⟩
end Go.Proofs.YtbflblmkdnhboaaGreatDoor.Pr
