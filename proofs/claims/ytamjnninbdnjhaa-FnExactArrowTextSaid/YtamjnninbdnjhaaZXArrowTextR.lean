/- 'FnExactArrowText': for every input it returns true and its arguments read as before. No condition beyond the row's own. -/
import Derived.Test.YtamjnninbdnjhaaRows
import Derived.Test.YtamjnninbdnjhaaZXArrowText15
import Derived.Test.YtamjnninbdnjhaaZXArrowText16
import Derived.Test.YtamjnninbdnjhaaZXArrowText8
import Derived.WalkKit
import Derived.ProofKit
import Derived.OpenShut
import Derived.ShutString
import Derived.ChangeOld
import Derived.Below
import Derived.SizedLaws
import Derived.WideShapes
namespace Go.Proofs.Ytamjnninbdnjhaa.fnExactArrowText
open Go.ChangeShapes Go.WideShapes Go.ChangeAt Go.RowKit Go.Proofs.YtamjnninbdnjhaaW.PrintWords Go.Proofs.Ytamjnninbdnjhaa.Pr
open Go.ChangeMaps (open_string shut_string)
set_option linter.unusedVariables false
theorem own : ownKnob Try.prog.godebug = none := by kernel_rfl
theorem laidOut : laidOutB Try.prog = true := by kernel_rfl
theorem O24 : Op.Opens Try.prog 24 (Kd.slice 3 (Kd.int .i64)) (fun xs => ∀ x ∈ xs, (Lit.int .i64 x).wf = true) := Op.Opens.slice Try.underlying24 (by kernel_rfl) (Op.Opens.int Try.underlying3)
def W26 (x : S26) : Prop := (Lit.int .i64 x.f0).wf = true ∧ (∀ x_ ∈ x.f1, (Lit.int .i64 x_).wf = true)
instance : Inhabited S26 := ⟨z26⟩
theorem O26 : Op.Opens Try.prog 26 k26 W26 := Op.Opens.iso (Op.Opens.struct2 Try.underlying26 rfl (by kernel_rfl) (by kernel_rfl) (by kernel_rfl) (by kernel_rfl) (Op.Opens.int Try.underlying3) O24) (fun x : S26 => (x.f0, x.f1)) (fun a => (⟨a.1, a.2⟩ : S26)) (fun _ => rfl)
set_option maxRecDepth 100000 in
theorem lifted (os : Os) (started : os.Started) (H : Type) (enc : TypeId × Value → H) :
    ReturnsInHanded {} Try.checked os 7 .any (Rows.fnExactArrowTextSpec.pre6 enc Try.prog Try.f7 Rows.fnExactArrowTextRow.domain false) (Rows.fnExactArrowTextSpec.post enc Try.prog Try.f7 false true false false) := by
  refine returnsInHanded_of_change_sized (C := Try.checked) own started (by kernel_rfl) Try.func7
    (ChangeSpec.witness6 (enc := enc) (C := Try.checked) false ⟨#[], #[.agg #[.int .i64 0, .slice none 0 0]], []⟩ 8 (by kernel_rfl) (by kernel_rfl) (by kernel_rfl) (by kernel_rfl)) ?_
  intro W base args ds gs before hval0 hW hcnd hsz0 _
  have hval : ∀ (j : Nat) t v, Try.f7.params[j]? = some t → args[j]? = some v → Value.okWide Try.prog W .any base t v := hval0
  have hW' := hW
  obtain ⟨p, q, hA0, hV, rfl, hfz, hnd⟩ := hW
  have hA : DataW.TrodAll enc Try.prog W 0 (fun _ => true) true Try.f7.params.toList args.toList ds p := hA0
  rw [Try.params7] at hA hval
  obtain ⟨v0, vs0, d0, ds0, p0, q0, hargs, rfl, rfl, h0, r0⟩ := trodAll_cons hA
  obtain ⟨rfl, rfl, rfl⟩ := trodAll_nil r0
  obtain rfl : args = #[v0] := by cases args; simp_all
  obtain ⟨rfl, rfl⟩ := trodVars_none hV
  obtain ⟨cs0, rfl, hz0⟩ := okWide_struct Try.underlying26 (hval 0 26 v0 rfl rfl)
  have kk0 := h0
  have lt0 : ∀ x ∈ p0, x.block < W.heap.size := by obtain ⟨m, hm⟩ := kk0; exact DataW.trod_lt m _ _ _ hm
  obtain ⟨fu0, hf0⟩ := h0
  obtain ⟨x0, hK0, w0⟩ := O26 hf0
  obtain ⟨_, _, hcs0, rfl, A0_1, c0_1, rfl, hc0_1, hr0_1⟩ := hK0
  obtain rfl : cs0 = #[.int .i64 x0.f0, .slice A0_1 x0.f1.length c0_1] := by
    have hq : cs0.toList = [.int .i64 x0.f0, .slice A0_1 x0.f1.length c0_1] := hcs0
    cases cs0
    exact congrArg Array.mk hq
  clear hcs0
  clear hA0 hval0 hsz0
  obtain ⟨k, h⟩ := Pu.FnExactArrowText x0 w0 hr0_1.2.1
  refine (laws_FnExactArrowText.calls k x0.f0 _ _ x0.f1 true W hr0_1 hc0_1 rfl h).mono fun e W' ⟨he, bel0⟩ => ?_
  have bel : Below W.heap.size W W' := bel0
  subst he
  exact ⟨_, rfl, _, _, _, [], _, [], hW', trodAll_mk1 (shut_bool Try.underlying4 _), (trodAll_cons_mk (Below.trod laidOut (by kernel_rfl) (of_decide_eq_true (by kernel_rfl)) kk0 bel lt0) trodAll_mk0), rfl, bel.frame _, fun h => by cases h⟩
theorem over : Rows.fnExactArrowTextRow.holds Try.pinned (OpenSpec.ofChange Rows.fnExactArrowTextSpec) :=
  OpenClaim.holds_of_wide 7 Try.f7 rfl rfl rfl rfl rfl rfl rfl ⟨rfl, rfl, rfl, rfl, rfl⟩ rfl rfl rfl rfl rfl (by kernel_rfl) Try.func7 (by kernel_rfl)
    (of_decide_eq_true (by kernel_rfl)) (by unfold Func.isWrapper; first | (rw [if_pos (by decide +kernel)]; kernel_rfl) | (rw [if_neg (by decide +kernel)]; exact ⟨rfl, rfl⟩))
    (fun os started H enc _ => lifted os started H enc)
theorem proved : Rows.FnExactArrowTextSaid := over
end Go.Proofs.Ytamjnninbdnjhaa.fnExactArrowText
namespace Go.Proofs.Ytamjnninbdnjhaa
theorem fnExactArrowText_holds : Rows.FnExactArrowTextSaid := fnExactArrowText.proved
#print axioms fnExactArrowText_holds
end Go.Proofs.Ytamjnninbdnjhaa
