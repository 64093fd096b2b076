/- 'FnExactLeftReduced': for every input it returns true and its arguments read as before. No condition beyond the row's own. -/
import Derived.Test.YtjkbmdbecplgiaaRows
import Derived.Test.YtjkbmdbecplgiaaPr30
import Derived.Test.YtjkbmdbecplgiaaPuFnExactLeftReduced
import Derived.Test.YtjkbmdbecplgiaaOp
import Derived.WalkKit
import Derived.ProofKit
import Derived.OpenShut
import Derived.ShutString
import Derived.ChangeOld
import Derived.Below
import Derived.SizedLaws
import Derived.WideShapes
namespace Go.Proofs.Ytjkbmdbecplgiaa.fnExactLeftReduced
open Go.ChangeShapes Go.WideShapes Go.ChangeAt Go.RowKit Go.Proofs.YtjkbmdbecplgiaaW.PrintWords Go.Proofs.Ytjkbmdbecplgiaa.Pr
open Go.ChangeMaps (open_string shut_string)
set_option linter.unusedVariables false
theorem own : ownKnob Try.prog.godebug = none := by kernel_rfl
theorem laidOut : laidOutB Try.prog = true := by kernel_rfl
def W23 (x : S23) : Prop := (Lit.int .i64 x.f0).wf = true ∧ (Lit.int .i64 x.f1).wf = true
instance : Inhabited S23 := ⟨z23⟩
theorem O23 : Op.Opens Try.prog 23 k23 W23 := Op.Opens.iso (Op.Opens.struct2 Try.underlying23 rfl (by kernel_rfl) (by kernel_rfl) (by kernel_rfl) (by kernel_rfl) (Op.Opens.int Try.underlying3) (Op.Opens.int Try.underlying3)) (fun x : S23 => (x.f0, x.f1)) (fun a => (⟨a.1, a.2⟩ : S23)) (fun _ => rfl)
theorem O28 : Op.Opens Try.prog 28 (Kd.slice 23 k23) (fun xs => ∀ x ∈ xs, W23 x) := Op.Opens.slice Try.underlying28 (by kernel_rfl) O23
set_option maxRecDepth 100000 in
theorem lifted (os : Os) (started : os.Started) (H : Type) (enc : TypeId × Value → H) :
    ReturnsInHanded {} Try.checked os 13 .any (Rows.fnExactLeftReducedSpec.pre6 enc Try.prog Try.f13 Rows.fnExactLeftReducedRow.domain false) (Rows.fnExactLeftReducedSpec.post enc Try.prog Try.f13 false true false false) := by
  refine returnsInHanded_of_change_sized (C := Try.checked) own started (by kernel_rfl) Try.func13
    (ChangeSpec.witness6 (enc := enc) (C := Try.checked) false ⟨#[], #[.int .i64 0, .slice none 0 0], []⟩ 8 (by kernel_rfl) (by kernel_rfl) (by kernel_rfl) (by kernel_rfl)) ?_
  intro W base args ds gs before hval0 hW hcnd hsz0 _
  have hval : ∀ (j : Nat) t v, Try.f13.params[j]? = some t → args[j]? = some v → Value.okWide Try.prog W .any base t v := hval0
  have hW' := hW
  obtain ⟨p, q, hA0, hV, rfl, hfz, hnd⟩ := hW
  have hA : DataW.TrodAll enc Try.prog W 0 (fun _ => true) true Try.f13.params.toList args.toList ds p := hA0
  rw [Try.params13] at hA hval
  obtain ⟨v0, vs0, d0, ds0, p0, q0, hargs, rfl, rfl, h0, r0⟩ := trodAll_cons hA
  obtain ⟨v1, vs1, d1, ds1, p1, q1, rfl, rfl, rfl, h1, r1⟩ := trodAll_cons r0
  obtain ⟨rfl, rfl, rfl⟩ := trodAll_nil r1
  obtain rfl : args = #[v0, v1] := by cases args; simp_all
  obtain ⟨rfl, rfl⟩ := trodVars_none hV
  obtain ⟨a0, rfl, rfl, rfl, w0⟩ := open_int Try.underlying3 (hval 0 3 v0 rfl rfl) h0
  obtain ⟨A1, n1, c1, rfl⟩ := okWide_slice Try.underlying28 (hval 1 28 v1 rfl rfl)
  have kk1 := h1
  have lt1 : ∀ x ∈ p1, x.block < W.heap.size := by obtain ⟨m, hm⟩ := kk1; exact DataW.trod_lt m _ _ _ hm
  obtain ⟨fu1, hf1⟩ := h1
  obtain ⟨l1, ⟨A_1, c_1, hcs1, hc1, hr1⟩, w1⟩ := O28 hf1
  have hcs_1 : [Value.slice A1 n1 c1] = [Value.slice A_1 l1.length c_1] := hcs1
  injection hcs_1 with hcs_1 _
  injection hcs_1 with e0 e1 e2
  subst e0 e1 e2
  clear hA0 hval0 hsz0
  obtain ⟨k, h⟩ := Pu.FnExactLeftReduced a0 l1 w0 hr1.2.1 w1
  refine (laws_FnExactLeftReduced.calls k a0 _ _ l1 true W hr1 hc1 h).mono fun e W' ⟨he, bel0⟩ => ?_
  have bel : Below W.heap.size W W' := bel0
  subst he
  exact ⟨_, rfl, _, _, _, [], _, [], hW', trodAll_mk1 (shut_bool Try.underlying4 _), (trodAll_cons_mk (shut_int Try.underlying3 w0) (trodAll_cons_mk (Below.trod laidOut (by kernel_rfl) (of_decide_eq_true (by kernel_rfl)) kk1 bel lt1) trodAll_mk0)), rfl, bel.frame _, fun h => by cases h⟩
theorem over : Rows.fnExactLeftReducedRow.holds Try.pinned (OpenSpec.ofChange Rows.fnExactLeftReducedSpec) :=
  OpenClaim.holds_of_wide 13 Try.f13 rfl rfl rfl rfl rfl rfl rfl ⟨rfl, rfl, rfl, rfl, rfl⟩ rfl rfl rfl rfl rfl (by kernel_rfl) Try.func13 (by kernel_rfl)
    (of_decide_eq_true (by kernel_rfl)) (by unfold Func.isWrapper; first | (rw [if_pos (by decide +kernel)]; kernel_rfl) | (rw [if_neg (by decide +kernel)]; exact ⟨rfl, rfl⟩))
    (fun os started H enc _ => lifted os started H enc)
theorem proved : Rows.FnExactLeftReducedSaid := over
end Go.Proofs.Ytjkbmdbecplgiaa.fnExactLeftReduced
namespace Go.Proofs.Ytjkbmdbecplgiaa
theorem fnExactLeftReduced_holds : Rows.FnExactLeftReducedSaid := fnExactLeftReduced.proved
#print axioms fnExactLeftReduced_holds
end Go.Proofs.Ytjkbmdbecplgiaa
