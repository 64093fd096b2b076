/- impl.others: the rules without one. No condition beyond the index's and the length's bound in the definition. -/
import Derived.Test.YtjkbmdbecplgiaaGCloneRule
import Derived.Test.YtjkbmdbecplgiaaGDelRule
namespace Go.Proofs.Ytjkbmdbecplgiaa.Pr
open Go.RowKit Go.Proofs.YtjkbmdbecplgiaaW.PrintWords Go.Proofs.YtjkbmdbecplgiaaW.PrintLast Go.Proofs.YtjkbmdbecplgiaaW.PrintMore
set_option linter.unusedVariables false
set_option linter.unusedSimpArgs false

theorem R_form {α : Type} (d : Kd α) (e base : Nat) (ok : Nat → Prop) (w : World) (v : Value) (xs : List α) (h : d.R e w base ok v xs) (hx : 0 < xs.length) : ∃ g c, v = .slice (some ⟨g, 0, none⟩) xs.length c ∧ xs.length ≤ c := by
  obtain ⟨A, c, rfl⟩ := Kd.R_slice h
  have hc := (Kd.R_reads' h).2.1
  obtain ⟨_, inner, ho, hr⟩ := h
  obtain ⟨h1, h2⟩ := ho
  rcases h2 with ⟨h2, h3⟩ | ⟨g', cap, cur, he, _⟩
  · injection h2 with _ e2 _
    omega
  · injection he with e1 e2 e3
    subst e1
    exact ⟨g', c, rfl, hc⟩
def impl_others.f (l0 : List S25) (a1 : Int) : Option (List S25) := if l0.length < 8796093022208 ∧ 0 ≤ a1 ∧ a1 < (l0.length : Int) then some (l0.eraseIdx a1.toNat) else none
set_option maxHeartbeats 4000000 in
set_option maxRecDepth 100000 in
theorem impl_others.calls (A0 : Option Addr) (c0 : Nat) (l0 : List S25) (a1 : Int) (r : List S25) (w : World) (hr0 : Kd.C k25 w A0 l0.length l0) (hc0 : l0.length ≤ c0) (h : impl_others.f l0 a1 = some r) :
    Calls Try.prog 69 #[.slice A0 l0.length c0, .int .i64 a1] w fun e w' => ∃ v0_ : Value, e = .returned (v0_) ∧ Kd.R k25 25 w' w.heap.size (fun _ => True) v0_ r ∧ Below w.heap.size w w' := by
  unfold impl_others.f at h
  by_cases hlen : l0.length < 8796093022208 ∧ 0 ≤ a1 ∧ a1 < (l0.length : Int)
  · rw [if_pos hlen] at h
    obtain rfl := Option.some.inj h
    obtain ⟨h1, h2, h3⟩ := hlen
    clear h
    obtain ⟨k, rfl⟩ : ∃ k : Nat, a1 = (k : Int) := ⟨a1.toNat, by omega⟩
    have hw : wrap64 ((k : Int) + 1) = (k : Int) + 1 := by unfold wrap64; omega
    have hcl : slices_Clone_impl_Rule.f l0 = some l0 := by unfold slices_Clone_impl_Rule.f; rw [if_pos h1]
    obtain ⟨m, hm⟩ : ∃ m, l0.length = m + 1 := ⟨l0.length - 1, by omega⟩
    have HC := Aside0.mk hcl
    have HR0 := Aside0.mk hr0
    have HC0 := Aside0.mk hc0
    have HM := Aside0.mk hm
    have HK : Aside0 (k ≤ m) := Aside0.mk (by omega)
    have HP : Aside0 (0 < l0.length) := Aside0.mk (by omega)
    rw [Int.toNat_natCast]
    clear hcl hr0 hc0 hm h1 h2 h3
    go_enter Try.func69, Try.ntmps69
    go_wp2_with (first | (go_at_call 72; refine (slices_Clone_impl_Rule.calls _ _ l0 l0 _ HR0.out HC0.out HC.out).mono ?_; rintro e w1 ⟨v, rfl, hR, hB⟩; obtain ⟨g, c, rfl, hgc⟩ := R_form _ _ _ _ _ _ _ hR HP.out; have HR := Aside0.mk hR; have HB := Aside0.mk hB; have HG := Aside0.mk hgc; clear hR hB hgc) | (go_at_call 77; refine (slices_Delete_impl_Rule.at w.heap.size (fun _ => True) g _ m c k HM.out l0 w _ HR.out HK.out HG.out HB.out HB.out.size).mono ?_; rintro e w2 ⟨rfl, hR, hB⟩; have HR2 := Aside0.mk hR; have HB2 := Aside0.mk hB; clear HR HB hR hB))
    go_ret
    exact ⟨_, rfl, HR2.out, HB2.out⟩
  · rw [if_neg hlen] at h
    cases h
end Go.Proofs.Ytjkbmdbecplgiaa.Pr
