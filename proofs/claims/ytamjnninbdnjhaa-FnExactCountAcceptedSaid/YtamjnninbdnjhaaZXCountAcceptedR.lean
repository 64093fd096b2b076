/- 'FnExactCountAccepted': for every input it returns true and its arguments read as before. No condition beyond the row's own. -/
import Derived.Test.YtamjnninbdnjhaaRows
import Derived.Test.YtamjnninbdnjhaaZXCountAccepted8
import Derived.Test.YtamjnninbdnjhaaZXCountAccepted9
import Derived.WalkKit
import Derived.ProofKit
import Derived.OpenShut
import Derived.ShutString
import Derived.ChangeOld
import Derived.Below
import Derived.SizedLaws
import Derived.WideShapes
namespace Go.Proofs.Ytamjnninbdnjhaa.fnExactCountAccepted
open Go.ChangeShapes Go.WideShapes Go.ChangeAt Go.RowKit Go.Proofs.YtamjnninbdnjhaaW.PrintWords Go.Proofs.Ytamjnninbdnjhaa.Pr
open Go.ChangeMaps (open_string shut_string)
set_option linter.unusedVariables false
theorem own : ownKnob Try.prog.godebug = none := by kernel_rfl
theorem laidOut : laidOutB Try.prog = true := by kernel_rfl
def W40 (x : S40) : Prop := (Lit.int .i64 x.f0).wf = true ∧ (Lit.int .i64 x.f1).wf = true
instance : Inhabited S40 := ⟨z40⟩
theorem O40 : Op.Opens Try.prog 40 k40 W40 := Op.Opens.iso (Op.Opens.struct2 Try.underlying40 rfl (by kernel_rfl) (by kernel_rfl) (by kernel_rfl) (by kernel_rfl) (Op.Opens.int Try.underlying3) (Op.Opens.int Try.underlying3)) (fun x : S40 => (x.f0, x.f1)) (fun a => (⟨a.1, a.2⟩ : S40)) (fun _ => rfl)
def W97 (x : S97) : Prop := W40 x.f0 ∧ True ∧ (Lit.int .i64 x.f2).wf = true
instance : Inhabited S97 := ⟨z97⟩
theorem O97 : Op.Opens Try.prog 97 k97 W97 := Op.Opens.iso (Op.Opens.struct3 Try.underlying97 rfl (by kernel_rfl) (by kernel_rfl) (by kernel_rfl) (by kernel_rfl) (by kernel_rfl) (by kernel_rfl) O40 (Op.Opens.bool Try.underlying4) (Op.Opens.int Try.underlying3)) (fun x : S97 => (x.f0, x.f1, x.f2)) (fun a => (⟨a.1, a.2.1, a.2.2⟩ : S97)) (fun _ => rfl)
theorem O22 : Op.Opens Try.prog 22 (Kd.slice 97 k97) (fun xs => ∀ x ∈ xs, W97 x) := Op.Opens.slice Try.underlying22 (by kernel_rfl) O97
theorem O23 : Op.Opens Try.prog 23 (Kd.slice 40 k40) (fun xs => ∀ x ∈ xs, W40 x) := Op.Opens.slice Try.underlying23 (by kernel_rfl) O40
theorem O24 : Op.Opens Try.prog 24 (Kd.slice 3 (Kd.int .i64)) (fun xs => ∀ x ∈ xs, (Lit.int .i64 x).wf = true) := Op.Opens.slice Try.underlying24 (by kernel_rfl) (Op.Opens.int Try.underlying3)
def W26 (x : S26) : Prop := (Lit.int .i64 x.f0).wf = true ∧ (∀ x_ ∈ x.f1, (Lit.int .i64 x_).wf = true)
instance : Inhabited S26 := ⟨z26⟩
theorem O26 : Op.Opens Try.prog 26 k26 W26 := Op.Opens.iso (Op.Opens.struct2 Try.underlying26 rfl (by kernel_rfl) (by kernel_rfl) (by kernel_rfl) (by kernel_rfl) (Op.Opens.int Try.underlying3) O24) (fun x : S26 => (x.f0, x.f1)) (fun a => (⟨a.1, a.2⟩ : S26)) (fun _ => rfl)
def W28 (x : S28) : Prop := (∀ x_ ∈ x.f0, W97 x_) ∧ (∀ x_ ∈ x.f1, W40 x_) ∧ W26 x.f2
instance : Inhabited S28 := ⟨z28⟩
theorem O28 : Op.Opens Try.prog 28 k28 W28 := Op.Opens.iso (Op.Opens.struct3 Try.underlying28 rfl (by kernel_rfl) (by kernel_rfl) (by kernel_rfl) (by kernel_rfl) (by kernel_rfl) (by kernel_rfl) O22 O23 O26) (fun x : S28 => (x.f0, x.f1, x.f2)) (fun a => (⟨a.1, a.2.1, a.2.2⟩ : S28)) (fun _ => rfl)
set_option maxRecDepth 100000 in
theorem lifted (os : Os) (started : os.Started) (H : Type) (enc : TypeId × Value → H) :
    ReturnsInHanded {} Try.checked os 3 .any (Rows.fnExactCountAcceptedSpec.pre6 enc Try.prog Try.f3 Rows.fnExactCountAcceptedRow.domain false) (Rows.fnExactCountAcceptedSpec.post enc Try.prog Try.f3 false true false false) := by
  refine returnsInHanded_of_change_sized (C := Try.checked) own started (by kernel_rfl) Try.func3
    (ChangeSpec.witness6 (enc := enc) (C := Try.checked) false ⟨#[], #[.agg #[.slice none 0 0, .slice none 0 0, .int .i64 0, .slice none 0 0]], []⟩ 8 (by kernel_rfl) (by kernel_rfl) (by kernel_rfl) (by kernel_rfl)) ?_
  intro W base args ds gs before hval0 hW hcnd hsz0 _
  have hval : ∀ (j : Nat) t v, Try.f3.params[j]? = some t → args[j]? = some v → Value.okWide Try.prog W .any base t v := hval0
  have hW' := hW
  obtain ⟨p, q, hA0, hV, rfl, hfz, hnd⟩ := hW
  have hA : DataW.TrodAll enc Try.prog W 0 (fun _ => true) true Try.f3.params.toList args.toList ds p := hA0
  rw [Try.params3] at hA hval
  obtain ⟨v0, vs0, d0, ds0, p0, q0, hargs, rfl, rfl, h0, r0⟩ := trodAll_cons hA
  obtain ⟨rfl, rfl, rfl⟩ := trodAll_nil r0
  obtain rfl : args = #[v0] := by cases args; simp_all
  obtain ⟨rfl, rfl⟩ := trodVars_none hV
  obtain ⟨cs0, rfl, hz0⟩ := okWide_struct Try.underlying28 (hval 0 28 v0 rfl rfl)
  have kk0 := h0
  have lt0 : ∀ x ∈ p0, x.block < W.heap.size := by obtain ⟨m, hm⟩ := kk0; exact DataW.trod_lt m _ _ _ hm
  obtain ⟨fu0, hf0⟩ := h0
  obtain ⟨x0, hK0, w0⟩ := O28 hf0
  obtain ⟨_, _, hcs0, ⟨A0_0, c0_0, rfl, hc0_0, hr0_0⟩, _, _, rfl, ⟨A0_1, c0_1, rfl, hc0_1, hr0_1⟩, _, _, rfl, rfl, A0_3, c0_3, rfl, hc0_3, hr0_3⟩ := hK0
  obtain rfl : cs0 = #[.slice A0_0 x0.f0.length c0_0, .slice A0_1 x0.f1.length c0_1, .int .i64 x0.f2.f0, .slice A0_3 x0.f2.f1.length c0_3] := by
    have hq : cs0.toList = [.slice A0_0 x0.f0.length c0_0, .slice A0_1 x0.f1.length c0_1, .int .i64 x0.f2.f0, .slice A0_3 x0.f2.f1.length c0_3] := hcs0
    cases cs0
    exact congrArg Array.mk hq
  clear hcs0
  clear hA0 hval0 hsz0
  obtain ⟨k, h⟩ := Pu.FnExactCountAccepted x0 w0 hr0_0.2.1 hr0_1.2.1 hr0_3.2.1
  refine (laws_FnExactCountAccepted.calls k _ _ x0.f0 _ _ x0.f1 x0.f2.f0 _ _ x0.f2.f1 true W hr0_0 hc0_0 hr0_1 hc0_1 hr0_3 hc0_3 rfl h).mono fun e W' ⟨he, bel0⟩ => ?_
  have bel : Below W.heap.size W W' := bel0
  subst he
  exact ⟨_, rfl, _, _, _, [], _, [], hW', trodAll_mk1 (shut_bool Try.underlying4 _), (trodAll_cons_mk (Below.trod laidOut (by kernel_rfl) (of_decide_eq_true (by kernel_rfl)) kk0 bel lt0) trodAll_mk0), rfl, bel.frame _, fun h => by cases h⟩
theorem over : Rows.fnExactCountAcceptedRow.holds Try.pinned (OpenSpec.ofChange Rows.fnExactCountAcceptedSpec) :=
  OpenClaim.holds_of_wide 3 Try.f3 rfl rfl rfl rfl rfl rfl rfl ⟨rfl, rfl, rfl, rfl, rfl⟩ rfl rfl rfl rfl rfl (by kernel_rfl) Try.func3 (by kernel_rfl)
    (of_decide_eq_true (by kernel_rfl)) (by unfold Func.isWrapper; first | (rw [if_pos (by decide +kernel)]; kernel_rfl) | (rw [if_neg (by decide +kernel)]; exact ⟨rfl, rfl⟩))
    (fun os started H enc _ => lifted os started H enc)
theorem proved : Rows.FnExactCountAcceptedSaid := over
end Go.Proofs.Ytamjnninbdnjhaa.fnExactCountAccepted
namespace Go.Proofs.Ytamjnninbdnjhaa
theorem fnExactCountAccepted_holds : Rows.FnExactCountAcceptedSaid := fnExactCountAccepted.proved
#print axioms fnExactCountAccepted_holds
end Go.Proofs.Ytamjnninbdnjhaa
