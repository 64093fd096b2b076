/- impl.areAnyRules: all sets of the rules are sets. No condition. -/
import Derived.Test.YtjkbmdbecplgiaaPr1
import Derived.Test.YtjkbmdbecplgiaaGIdxRule
import Derived.Test.YtjkbmdbecplgiaaPuVal
namespace Go.Proofs.Ytjkbmdbecplgiaa.Pr
open Go.RowKit Go.Proofs.YtjkbmdbecplgiaaW.PrintWords Go.Proofs.YtjkbmdbecplgiaaW.PrintLast Go.Proofs.YtjkbmdbecplgiaaW.PrintMore
set_option linter.unusedVariables false

def impl_areAnyRules.f (l0 : List S25) : Option Bool := some (l0.all Pu.anyR)
theorem areAny1_val (r : S25) : impl_areAnyRules_1.f r.f0 r.f1 = some (!Pu.anyR r) := by
  unfold impl_areAnyRules_1.f
  rw [Pu.any_val, Option.bind_some]
  unfold Pu.anyR
  cases Pu.isAny r.f0 with
  | false => rfl
  | true => simp [Pu.any_val]
theorem impl_areAnyRules.calls (A0 : Option Addr) (c0 : Nat) (l0 : List S25) (r : Bool) (w : World) (hr0 : Kd.C k25 w A0 l0.length l0) (hc0 : l0.length ≤ c0) (h : impl_areAnyRules.f l0 = some r) :
    Calls Try.prog 50 #[.slice A0 l0.length c0] w fun e w' => e = .returned (.bool r) ∧ Below w.heap.size w w' := by
  obtain rfl := Option.some.inj h
  clear h
  have eg : ∀ args w, (callFunc 73 args).run Try.prog w = .ok (.enter 73 args) w := enters_of Try.func73 (by kernel_rfl) rfl
  have h0 := ContainsFunc_rule 73 #[] eg A0 c0 l0 (fun r => !Pu.anyR r) w hr0 (fun W x hb => (impl_areAnyRules_1.calls x.f0 x.f1 _ W (areAny1_val x)).mono fun e w' ⟨he, hb'⟩ => ⟨he, hb'⟩)
  have h1 : Aside0 ((!(l0.any fun r => !Pu.anyR r)) = l0.all Pu.anyR) := ⟨by rw [List.all_eq_not_any_not]⟩
  clear hr0
  go_enter Try.func50, Try.ntmps50
  go_wp2_with (go_at_call 55; refine h0.mono ?_; rintro e w' ⟨rfl, hb⟩)
  go_ret
  exact ⟨by rw [← h1.out]; rfl, hb⟩
end Go.Proofs.Ytjkbmdbecplgiaa.Pr
