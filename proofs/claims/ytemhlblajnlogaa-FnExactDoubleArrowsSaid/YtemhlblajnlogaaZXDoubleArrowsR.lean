/- 'FnExactDoubleArrows': for every input it returns true and its arguments read as before. No condition beyond the row's own. -/
import Derived.Test.YtemhlblajnlogaaRows
import Derived.Test.YtemhlblajnlogaaZXDoubleArrows12
import Derived.Test.YtemhlblajnlogaaZXDoubleArrows13
import Derived.Test.YtemhlblajnlogaaZXDoubleArrows7
import Derived.WalkKit
import Derived.ProofKit
import Derived.OpenShut
import Derived.ShutString
import Derived.ChangeOld
import Derived.Below
import Derived.SizedLaws
import Derived.WideShapes
namespace Go.Proofs.Ytemhlblajnlogaa.fnExactDoubleArrows
open Go.ChangeShapes Go.WideShapes Go.ChangeAt Go.RowKit Go.Proofs.YtemhlblajnlogaaW.PrintWords Go.Proofs.Ytemhlblajnlogaa.Pr
open Go.ChangeMaps (open_string shut_string)
set_option linter.unusedVariables false
theorem own : ownKnob Try.prog.godebug = none := by kernel_rfl
theorem laidOut : laidOutB Try.prog = true := by kernel_rfl
theorem O22 : Op.Opens Try.prog 22 (Kd.slice 3 (Kd.int .i64)) (fun xs => ∀ x ∈ xs, (Lit.int .i64 x).wf = true) := Op.Opens.slice Try.underlying22 (by kernel_rfl) (Op.Opens.int Try.underlying3)
def W24 (x : S24) : Prop := (Lit.int .i64 x.f0).wf = true ∧ ∀ x_ ∈ x.f1, (Lit.int .i64 x_).wf = true
instance : Inhabited S24 := ⟨z24⟩
theorem O24 : Op.Opens Try.prog 24 k24 W24 := Op.Opens.iso (Op.Opens.struct2 Try.underlying24 rfl (by kernel_rfl) (by kernel_rfl) (by kernel_rfl) (by kernel_rfl) (Op.Opens.int Try.underlying3) O22) (fun x : S24 => (x.f0, x.f1)) (fun a => (⟨a.1, a.2⟩ : S24)) (fun _ => rfl)
set_option maxRecDepth 100000 in
theorem lifted (os : Os) (started : os.Started) (H : Type) (enc : TypeId × Value → H) :
    ReturnsInHanded {} Try.checked os 10 .any (Rows.fnExactDoubleArrowsSpec.pre6 enc Try.prog Try.f10 Rows.fnExactDoubleArrowsRow.domain false) (Rows.fnExactDoubleArrowsSpec.post enc Try.prog Try.f10 false true false false) := by
  refine returnsInHanded_of_change_sized (C := Try.checked) own started (by kernel_rfl) Try.func10
    (ChangeSpec.witness6 (enc := enc) (C := Try.checked) false ⟨#[], #[.agg #[.int .i64 0, .slice none 0 0], .int .i64 0], []⟩ 8 (by kernel_rfl) (by kernel_rfl) (by kernel_rfl) (by kernel_rfl)) ?_
  intro W base args ds gs before hval0 hW hcnd hsz0 _
  have hval : ∀ (j : Nat) t v, Try.f10.params[j]? = some t → args[j]? = some v → Value.okWide Try.prog W .any base t v := hval0
  have hW' := hW
  obtain ⟨p, q, hA0, hV, rfl, hfz, hnd⟩ := hW
  have hA : DataW.TrodAll enc Try.prog W 0 (fun _ => true) true Try.f10.params.toList args.toList ds p := hA0
  rw [Try.params10] at hA hval
  obtain ⟨v0, vs0, d0, ds0, p0, q0, hargs, rfl, rfl, h0, r0⟩ := trodAll_cons hA
  obtain ⟨v1, vs1, d1, ds1, p1, q1, rfl, rfl, rfl, h1, r1⟩ := trodAll_cons r0
  obtain ⟨rfl, rfl, rfl⟩ := trodAll_nil r1
  obtain rfl : args = #[v0, v1] := by cases args; simp_all
  obtain ⟨rfl, rfl⟩ := trodVars_none hV
  obtain ⟨cs0, rfl, hz0⟩ := okWide_struct Try.underlying24 (hval 0 24 v0 rfl rfl)
  have kk0 := h0
  have lt0 : ∀ x ∈ p0, x.block < W.heap.size := by obtain ⟨m, hm⟩ := kk0; exact DataW.trod_lt m _ _ _ hm
  obtain ⟨fu0, hf0⟩ := h0
  obtain ⟨x0, hK0, w0⟩ := O24 hf0
  obtain ⟨_, _, hcs0, rfl, A0_1, c0_1, rfl, hc0_1, hr0_1⟩ := hK0
  obtain rfl : cs0 = #[.int .i64 x0.f0, .slice A0_1 x0.f1.length c0_1] := by
    have hq : cs0.toList = [.int .i64 x0.f0, .slice A0_1 x0.f1.length c0_1] := hcs0
    cases cs0
    exact congrArg Array.mk hq
  clear hcs0
  obtain ⟨a1, rfl, rfl, rfl, w1⟩ := open_int Try.underlying3 (hval 1 3 v1 rfl rfl) h1
  clear hA0 hval0 hsz0
  obtain ⟨k, h⟩ := Pu.FnExactDoubleArrows x0 a1 w0 hr0_1.2.1 w1
  refine (laws_FnExactDoubleArrows.calls k x0.f0 _ _ x0.f1 a1 true W hr0_1 hc0_1 rfl h).mono fun e W' ⟨he, bel0⟩ => ?_
  have bel : Below W.heap.size W W' := bel0
  subst he
  exact ⟨_, rfl, _, _, _, [], _, [], hW', trodAll_mk1 (shut_bool Try.underlying4 _), (trodAll_cons_mk (Below.trod laidOut (by kernel_rfl) (of_decide_eq_true (by kernel_rfl)) kk0 bel lt0) (trodAll_cons_mk (shut_int Try.underlying3 w1) trodAll_mk0)), rfl, bel.frame _, fun h => by cases h⟩
theorem over : Rows.fnExactDoubleArrowsRow.holds Try.pinned (OpenSpec.ofChange Rows.fnExactDoubleArrowsSpec) :=
  OpenClaim.holds_of_wide 10 Try.f10 rfl rfl rfl rfl rfl rfl rfl ⟨rfl, rfl, rfl, rfl, rfl⟩ rfl rfl rfl rfl rfl (by kernel_rfl) Try.func10 (by kernel_rfl)
    (of_decide_eq_true (by kernel_rfl)) (by unfold Func.isWrapper; first | (rw [if_pos (by decide +kernel)]; kernel_rfl) | (rw [if_neg (by decide +kernel)]; exact ⟨rfl, rfl⟩))
    (fun os started H enc _ => lifted os started H enc)
theorem proved : Rows.FnExactDoubleArrowsSaid := over
end Go.Proofs.Ytemhlblajnlogaa.fnExactDoubleArrows
namespace Go.Proofs.Ytemhlblajnlogaa
theorem fnExactDoubleArrows_holds : Rows.FnExactDoubleArrowsSaid := fnExactDoubleArrows.proved
#print axioms fnExactDoubleArrows_holds
end Go.Proofs.Ytemhlblajnlogaa
