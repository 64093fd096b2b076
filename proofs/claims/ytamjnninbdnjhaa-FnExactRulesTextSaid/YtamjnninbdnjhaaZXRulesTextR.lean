/- 'FnExactRulesText': for every input it returns true and its arguments read as before. No condition beyond the row's own. -/
import Derived.Test.YtamjnninbdnjhaaRows
import Derived.Test.YtamjnninbdnjhaaZXRulesText8
import Derived.Test.YtamjnninbdnjhaaZXRulesText9
import Derived.Test.YtamjnninbdnjhaaZXRulesText6
import Derived.WalkKit
import Derived.ProofKit
import Derived.OpenShut
import Derived.ShutString
import Derived.ChangeOld
import Derived.Below
import Derived.SizedLaws
import Derived.WideShapes
namespace Go.Proofs.Ytamjnninbdnjhaa.fnExactRulesText
open Go.ChangeShapes Go.WideShapes Go.ChangeAt Go.RowKit Go.Proofs.YtamjnninbdnjhaaW.PrintWords Go.Proofs.Ytamjnninbdnjhaa.Pr
open Go.ChangeMaps (open_string shut_string)
set_option linter.unusedVariables false
theorem own : ownKnob Try.prog.godebug = none := by kernel_rfl
theorem laidOut : laidOutB Try.prog = true := by kernel_rfl
def W40 (x : S40) : Prop := (Lit.int .i64 x.f0).wf = true ∧ (Lit.int .i64 x.f1).wf = true
instance : Inhabited S40 := ⟨z40⟩
theorem O40 : Op.Opens Try.prog 40 k40 W40 := Op.Opens.iso (Op.Opens.struct2 Try.underlying40 rfl (by kernel_rfl) (by kernel_rfl) (by kernel_rfl) (by kernel_rfl) (Op.Opens.int Try.underlying3) (Op.Opens.int Try.underlying3)) (fun x : S40 => (x.f0, x.f1)) (fun a => (⟨a.1, a.2⟩ : S40)) (fun _ => rfl)
theorem O23 : Op.Opens Try.prog 23 (Kd.slice 40 k40) (fun xs => ∀ x ∈ xs, W40 x) := Op.Opens.slice Try.underlying23 (by kernel_rfl) O40
set_option maxRecDepth 100000 in
theorem lifted (os : Os) (started : os.Started) (H : Type) (enc : TypeId × Value → H) :
    ReturnsInHanded {} Try.checked os 6 .any (Rows.fnExactRulesTextSpec.pre6 enc Try.prog Try.f6 Rows.fnExactRulesTextRow.domain false) (Rows.fnExactRulesTextSpec.post enc Try.prog Try.f6 false true false false) := by
  refine returnsInHanded_of_change_sized (C := Try.checked) own started (by kernel_rfl) Try.func6
    (ChangeSpec.witness6 (enc := enc) (C := Try.checked) false ⟨#[], #[.slice none 0 0], []⟩ 8 (by kernel_rfl) (by kernel_rfl) (by kernel_rfl) (by kernel_rfl)) ?_
  intro W base args ds gs before hval0 hW hcnd hsz0 _
  have hval : ∀ (j : Nat) t v, Try.f6.params[j]? = some t → args[j]? = some v → Value.okWide Try.prog W .any base t v := hval0
  have hW' := hW
  obtain ⟨p, q, hA0, hV, rfl, hfz, hnd⟩ := hW
  have hA : DataW.TrodAll enc Try.prog W 0 (fun _ => true) true Try.f6.params.toList args.toList ds p := hA0
  rw [Try.params6] at hA hval
  obtain ⟨v0, vs0, d0, ds0, p0, q0, hargs, rfl, rfl, h0, r0⟩ := trodAll_cons hA
  obtain ⟨rfl, rfl, rfl⟩ := trodAll_nil r0
  obtain rfl : args = #[v0] := by cases args; simp_all
  obtain ⟨rfl, rfl⟩ := trodVars_none hV
  obtain ⟨A0, n0, c0, rfl⟩ := okWide_slice Try.underlying23 (hval 0 23 v0 rfl rfl)
  have kk0 := h0
  have lt0 : ∀ x ∈ p0, x.block < W.heap.size := by obtain ⟨m, hm⟩ := kk0; exact DataW.trod_lt m _ _ _ hm
  obtain ⟨fu0, hf0⟩ := h0
  obtain ⟨l0, ⟨A_0, c_0, hcs0, hc0, hr0⟩, w0⟩ := O23 hf0
  have hcs_0 : [Value.slice A0 n0 c0] = [Value.slice A_0 l0.length c_0] := hcs0
  injection hcs_0 with hcs_0 _
  injection hcs_0 with e0 e1 e2
  subst e0 e1 e2
  clear hA0 hval0 hsz0
  obtain ⟨k, h⟩ := Pu.FnExactRulesText l0 hr0.2.1 w0
  refine (laws_FnExactRulesText.calls k _ _ l0 true W hr0 hc0 rfl h).mono fun e W' ⟨he, bel0⟩ => ?_
  have bel : Below W.heap.size W W' := bel0
  subst he
  exact ⟨_, rfl, _, _, _, [], _, [], hW', trodAll_mk1 (shut_bool Try.underlying4 _), (trodAll_cons_mk (Below.trod laidOut (by kernel_rfl) (of_decide_eq_true (by kernel_rfl)) kk0 bel lt0) trodAll_mk0), rfl, bel.frame _, fun h => by cases h⟩
theorem over : Rows.fnExactRulesTextRow.holds Try.pinned (OpenSpec.ofChange Rows.fnExactRulesTextSpec) :=
  OpenClaim.holds_of_wide 6 Try.f6 rfl rfl rfl rfl rfl rfl rfl ⟨rfl, rfl, rfl, rfl, rfl⟩ rfl rfl rfl rfl rfl (by kernel_rfl) Try.func6 (by kernel_rfl)
    (of_decide_eq_true (by kernel_rfl)) (by unfold Func.isWrapper; first | (rw [if_pos (by decide +kernel)]; kernel_rfl) | (rw [if_neg (by decide +kernel)]; exact ⟨rfl, rfl⟩))
    (fun os started H enc _ => lifted os started H enc)
theorem proved : Rows.FnExactRulesTextSaid := over
end Go.Proofs.Ytamjnninbdnjhaa.fnExactRulesText
namespace Go.Proofs.Ytamjnninbdnjhaa
theorem fnExactRulesText_holds : Rows.FnExactRulesTextSaid := fnExactRulesText.proved
#print axioms fnExactRulesText_holds
end Go.Proofs.Ytamjnninbdnjhaa
