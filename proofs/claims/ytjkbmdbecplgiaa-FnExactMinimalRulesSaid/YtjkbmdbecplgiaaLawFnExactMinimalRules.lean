/- 'FnExactMinimalRules': for every input it returns true and its arguments read as before. No condition beyond the row's own. -/
import Derived.Test.YtjkbmdbecplgiaaRows
import Derived.Test.YtjkbmdbecplgiaaPr33
import Derived.Test.YtjkbmdbecplgiaaPuFnExactMinimalRules
import Derived.Test.YtjkbmdbecplgiaaOp
import Derived.WalkKit
import Derived.ProofKit
import Derived.OpenShut
import Derived.ShutString
import Derived.ChangeOld
import Derived.Below
import Derived.SizedLaws
import Derived.WideShapes
namespace Go.Proofs.Ytjkbmdbecplgiaa.fnExactMinimalRules
open Go.ChangeShapes Go.WideShapes Go.ChangeAt Go.RowKit Go.Proofs.YtjkbmdbecplgiaaW.PrintWords Go.Proofs.Ytjkbmdbecplgiaa.Pr
open Go.ChangeMaps (open_string shut_string)
set_option linter.unusedVariables false
theorem own : ownKnob Try.prog.godebug = none := by kernel_rfl
theorem laidOut : laidOutB Try.prog = true := by kernel_rfl
def W23 (x : S23) : Prop := (Lit.int .i64 x.f0).wf = true ∧ (Lit.int .i64 x.f1).wf = true
instance : Inhabited S23 := ⟨z23⟩
theorem O23 : Op.Opens Try.prog 23 k23 W23 := Op.Opens.iso (Op.Opens.struct2 Try.underlying23 rfl (by kernel_rfl) (by kernel_rfl) (by kernel_rfl) (by kernel_rfl) (Op.Opens.int Try.underlying3) (Op.Opens.int Try.underlying3)) (fun x : S23 => (x.f0, x.f1)) (fun a => (⟨a.1, a.2⟩ : S23)) (fun _ => rfl)
theorem O28 : Op.Opens Try.prog 28 (Kd.slice 23 k23) (fun xs => ∀ x ∈ xs, W23 x) := Op.Opens.slice Try.underlying28 (by kernel_rfl) O23
set_option maxRecDepth 100000 in
theorem lifted (os : Os) (started : os.Started) (H : Type) (enc : TypeId × Value → H) :
    ReturnsInHanded {} Try.checked os 14 .any (Rows.fnExactMinimalRulesSpec.pre6 enc Try.prog Try.f14 Rows.fnExactMinimalRulesRow.domain false) (Rows.fnExactMinimalRulesSpec.post enc Try.prog Try.f14 false true false false) := by
  refine returnsInHanded_of_change_sized (C := Try.checked) own started (by kernel_rfl) Try.func14
    (ChangeSpec.witness6 (enc := enc) (C := Try.checked) false ⟨#[], #[.slice none 0 0], []⟩ 8 (by kernel_rfl) (by kernel_rfl) (by kernel_rfl) (by kernel_rfl)) ?_
  intro W base args ds gs before hval0 hW hcnd hsz0 _
  have hval : ∀ (j : Nat) t v, Try.f14.params[j]? = some t → args[j]? = some v → Value.okWide Try.prog W .any base t v := hval0
  have hW' := hW
  obtain ⟨p, q, hA0, hV, rfl, hfz, hnd⟩ := hW
  have hA : DataW.TrodAll enc Try.prog W 0 (fun _ => true) true Try.f14.params.toList args.toList ds p := hA0
  rw [Try.params14] at hA hval
  obtain ⟨v0, vs0, d0, ds0, p0, q0, hargs, rfl, rfl, h0, r0⟩ := trodAll_cons hA
  obtain ⟨rfl, rfl, rfl⟩ := trodAll_nil r0
  obtain rfl : args = #[v0] := by cases args; simp_all
  obtain ⟨rfl, rfl⟩ := trodVars_none hV
  obtain ⟨A0, n0, c0, rfl⟩ := okWide_slice Try.underlying28 (hval 0 28 v0 rfl rfl)
  have kk0 := h0
  have lt0 : ∀ x ∈ p0, x.block < W.heap.size := by obtain ⟨m, hm⟩ := kk0; exact DataW.trod_lt m _ _ _ hm
  obtain ⟨fu0, hf0⟩ := h0
  obtain ⟨l0, ⟨A_0, c_0, hcs0, hc0, hr0⟩, w0⟩ := O28 hf0
  have hcs_0 : [Value.slice A0 n0 c0] = [Value.slice A_0 l0.length c_0] := hcs0
  injection hcs_0 with hcs_0 _
  injection hcs_0 with e0 e1 e2
  subst e0 e1 e2
  clear hA0 hval0 hsz0
  obtain ⟨k, h⟩ := Pu.FnExactMinimalRules l0 hr0.2.1 w0
  refine (laws_FnExactMinimalRules.calls k _ _ l0 true W hr0 hc0 h).mono fun e W' ⟨he, bel0⟩ => ?_
  have bel : Below W.heap.size W W' := bel0
  subst he
  exact ⟨_, rfl, _, _, _, [], _, [], hW', trodAll_mk1 (shut_bool Try.underlying4 _), (trodAll_cons_mk (Below.trod laidOut (by kernel_rfl) (of_decide_eq_true (by kernel_rfl)) kk0 bel lt0) trodAll_mk0), rfl, bel.frame _, fun h => by cases h⟩
theorem over : Rows.fnExactMinimalRulesRow.holds Try.pinned (OpenSpec.ofChange Rows.fnExactMinimalRulesSpec) :=
  OpenClaim.holds_of_wide 14 Try.f14 rfl rfl rfl rfl rfl rfl rfl ⟨rfl, rfl, rfl, rfl, rfl⟩ rfl rfl rfl rfl rfl (by kernel_rfl) Try.func14 (by kernel_rfl)
    (of_decide_eq_true (by kernel_rfl)) (by unfold Func.isWrapper; first | (rw [if_pos (by decide +kernel)]; kernel_rfl) | (rw [if_neg (by decide +kernel)]; exact ⟨rfl, rfl⟩))
    (fun os started H enc _ => lifted os started H enc)
theorem proved : Rows.FnExactMinimalRulesSaid := over
end Go.Proofs.Ytjkbmdbecplgiaa.fnExactMinimalRules
namespace Go.Proofs.Ytjkbmdbecplgiaa
theorem fnExactMinimalRules_holds : Rows.FnExactMinimalRulesSaid := fnExactMinimalRules.proved
#print axioms fnExactMinimalRules_holds
end Go.Proofs.Ytjkbmdbecplgiaa
