/- Functions of the program as plain functions, proofs that their calls answer so, and plain laws: what the law needs. No condition beyond what each statement says. -/
import Derived.Test.YtafnamchckehmaaGreatDoorZFnRules7
import Derived.Test.YtafnamchckehmaaGreatDoorZFnRules9
namespace Go.Proofs.YtafnamchckehmaaGreatDoor.Pr
set_option maxHeartbeats 4000000
set_option maxRecDepth 100000
open Go.RowKit Go.Proofs.YtafnamchckehmaaGreatDoorW.PrintWords Go.Proofs.YtafnamchckehmaaGreatDoorW.PrintLast Go.Proofs.YtafnamchckehmaaGreatDoorW.PrintMore
set_option linter.unusedVariables false
def ruleB (n : Int) (r : S48) : Bool := Pu.isSetB n r.f0 && Pu.isSetB n r.f1
def impl_AreRules.f (a0 : Int) (l1 : List S48) : Option Bool := some (decide (0 ≤ a0 ∧ a0 ≤ 6) && decide ((l1.length : Int) ≤ 40) && l1.all (ruleB a0))
theorem AreRules1_calls (n : Int) (b : Nat) (x : S48) (W : World) (hc : W.cell? ⟨b, 0, none⟩ = some (.int .i64 n)) :
    Calls Tryz.prog 185 #[.agg #[.int .i64 x.f0, .int .i64 x.f1], .pointer (some ⟨b, 0, none⟩)] W fun e w' => e = .returned (.bool (!ruleB n x)) ∧ Below W.heap.size W w' := by
  have hb : b < W.heap.size := World.block_lt_of_cell? W _ hc
  have hu := Tryz.underlying48
  cases h1 : Pu.isSetB n x.f0 with
  | false =>
    have H : Aside0 (ruleB n x = false) := ⟨by unfold ruleB; rw [h1]; rfl⟩
    have K1 : Aside0 (impl_IsSet.f n x.f0 = some false) := ⟨by rw [Pu.set_val, h1]⟩
    clear h1
    go_enter Tryz.func185, Tryz.ntmps185
    go_wp2_with (go_at_call 130; refine (impl_IsSet.calls n x.f0 false _ K1.out).mono ?_; rintro e w' ⟨rfl, ⟨⟨q, rfl⟩⟩⟩)
    go_ret
    exact ⟨by rw [H.out]; rfl, by repeat (first | apply below_alloc | apply pw_below_drewN | apply below_drew1 | exact Below.refl _ _)⟩
  | true =>
    cases h2 : Pu.isSetB n x.f1 with
    | false =>
      have H : Aside0 (ruleB n x = false) := ⟨by unfold ruleB; rw [h1, h2]; rfl⟩
      have K1 : Aside0 (impl_IsSet.f n x.f0 = some true) := ⟨by rw [Pu.set_val, h1]⟩
      have K2 : Aside0 (impl_IsSet.f n x.f1 = some false) := ⟨by rw [Pu.set_val, h2]⟩
      clear h1 h2
      go_enter Tryz.func185, Tryz.ntmps185
      go_wp2_with fail
      refine (impl_IsSet.calls n x.f0 true _ K1.out).mono ?_
      rintro e w' ⟨rfl, ⟨⟨q, rfl⟩⟩⟩
      go_wp2_with fail
      refine (impl_IsSet.calls n x.f1 false _ K2.out).mono ?_
      rintro e w' ⟨rfl, ⟨⟨q2, rfl⟩⟩⟩
      go_wp2
      go_ret
      exact ⟨by rw [H.out]; rfl, by repeat (first | apply below_alloc | apply pw_below_drewN | apply below_drew1 | exact Below.refl _ _)⟩
    | true =>
      have H : Aside0 (ruleB n x = true) := ⟨by unfold ruleB; rw [h1, h2]; rfl⟩
      have K1 : Aside0 (impl_IsSet.f n x.f0 = some true) := ⟨by rw [Pu.set_val, h1]⟩
      have K2 : Aside0 (impl_IsSet.f n x.f1 = some true) := ⟨by rw [Pu.set_val, h2]⟩
      clear h1 h2
      go_enter Tryz.func185, Tryz.ntmps185
      go_wp2_with fail
      refine (impl_IsSet.calls n x.f0 true _ K1.out).mono ?_
      rintro e w' ⟨rfl, ⟨⟨q, rfl⟩⟩⟩
      go_wp2_with fail
      refine (impl_IsSet.calls n x.f1 true _ K2.out).mono ?_
      rintro e w' ⟨rfl, ⟨⟨q2, rfl⟩⟩⟩
      go_wp2
      go_ret
      exact ⟨by rw [H.out]; rfl, by repeat (first | apply below_alloc | apply pw_below_drewN | apply below_drew1 | exact Below.refl _ _)⟩
theorem AreRules1_fn (n : Int) (b : Nat) (w : World) (hc : w.cell? ⟨b, 0, none⟩ = some (.int .i64 n)) : FnRb 185 #[.pointer (some ⟨b, 0, none⟩)] (fun x => !ruleB n x) w := by
  intro W x hb
  rw [show (#[.agg #[.int .i64 x.f0, .int .i64 x.f1]] ++ #[.pointer (some ⟨b, 0, none⟩)] : Array Value) = #[.agg #[.int .i64 x.f0, .int .i64 x.f1], .pointer (some ⟨b, 0, none⟩)] from rfl]
  exact AreRules1_calls n b x W ((hb.cell (p := ⟨b, 0, none⟩) (World.block_lt_of_cell? w _ hc)).trans hc)
theorem box_cell {w w1 : World} {a : Value} {t : TypeId} (h : Below (w.alloc (.cells #[a] t)).heap.size (w.alloc (.cells #[a] t)) w1) : w1.cell? ⟨w.heap.size, 0, none⟩ = some a := by
  have h0 : (w.alloc (.cells #[a] t)).cell? ⟨w.heap.size, 0, none⟩ = some a := blk_cell (heap_alloc_new w (.cells #[a] t)) 0
  exact (h.cell (p := ⟨w.heap.size, 0, none⟩) (by simp)).trans h0
theorem impl_AreRules.calls (a0 : Int) (A1 : Option Addr) (c1 : Nat) (l1 : List S48) (r : Bool) (w : World) (hr1 : Kd.C k48 w A1 l1.length l1) (hc1 : l1.length ≤ c1) (h : impl_AreRules.f a0 l1 = some r) :
    Calls Tryz.prog 81 #[.int .i64 a0, .slice A1 l1.length c1] w fun e w' => e = .returned (.bool r) ∧ Below w.heap.size w w' := by
  have HR := Aside0.mk hr1
  have hr := Aside0.mk (Option.some.inj h)
  clear h hr1
  have eg : ∀ args w, (callFunc 185 args).run Tryz.prog w = .ok (.enter 185 args) w := enters_of Tryz.func185 (by kernel_rfl) rfl
  cases h1 : decide (0 ≤ a0 ∧ a0 ≤ 6) with
  | false =>
    have K : Aside0 (impl_within.f a0 0 6 = some false) := ⟨by rw [Pu.within_val, h1]⟩
    have H : Aside0 (r = false) := ⟨by rw [← hr.out, h1]; rfl⟩
    clear h1
    go_enter Tryz.func81, Tryz.ntmps81
    go_wp2_with (go_at_call 127; refine (impl_within.calls a0 0 6 false _ K.out).mono ?_; rintro e w' ⟨rfl, ⟨⟨q, rfl⟩⟩⟩)
    go_ret
    exact ⟨by rw [H.out]; rfl, by repeat (first | apply below_alloc | apply pw_below_drewN | apply below_drew1 | exact Below.refl _ _)⟩
  | true =>
    have K : Aside0 (impl_within.f a0 0 6 = some true) := ⟨by rw [Pu.within_val, h1]⟩
    by_cases h2 : (l1.length : Int) ≤ 40
    · have h2b : decide ((l1.length : Int) ≤ 40) = true := decide_eq_true h2
      have H : Aside0 (r = !(l1.any fun x => !ruleB a0 x)) := ⟨by rw [← hr.out, h1, h2b, ← List.all_eq_not_any_not]; rfl⟩
      clear h1 h2
      go_enter Tryz.func81, Tryz.ntmps81
      go_wp2_with (go_at_call 127; refine (impl_within.calls a0 0 6 true _ K.out).mono ?_; rintro e w1 ⟨rfl, hd⟩; have HB1 := Aside0.mk (below_step (below_alloc (Below.refl w.heap.size w) _) hd.below); have HC1 := Aside0.mk (box_cell (a := .int .i64 a0) hd.below); clear hd)
      refine (ContainsFunc_rule 185 #[.pointer (some ⟨w.heap.size, 0, none⟩)] eg A1 c1 l1 (fun x => !ruleB a0 x) w1 (Kd.C_below HR.out HB1.out) (AreRules1_fn a0 w.heap.size w1 HC1.out)).mono ?_
      rintro e w' ⟨rfl, hb⟩
      go_wp2
      go_ret
      exact ⟨by rw [H.out]; rfl, below_step HB1.out hb⟩
    · have h2b : decide ((l1.length : Int) ≤ 40) = false := decide_eq_false h2
      have H : Aside0 (r = false) := ⟨by rw [← hr.out, h1, h2b]; rfl⟩
      clear h1 h2
      go_enter Tryz.func81, Tryz.ntmps81
      go_wp2_with (go_at_call 127; refine (impl_within.calls a0 0 6 true _ K.out).mono ?_; rintro e w' ⟨rfl, ⟨⟨q, rfl⟩⟩⟩)
      go_ret
      exact ⟨by rw [H.out]; rfl, by repeat (first | apply below_alloc | apply pw_below_drewN | apply below_drew1 | exact Below.refl _ _)⟩
end Go.Proofs.YtafnamchckehmaaGreatDoor.Pr
