/- 'FnExactStemBase': for every input it returns true and its arguments read as before. No condition beyond the row's own. -/
import Derived.Test.YtbflblmkdnhboaaDoorRows
import Derived.Test.YtbflblmkdnhboaaDoorZXStemBase24
import Derived.Test.YtbflblmkdnhboaaDoorZXStemBase25
import Derived.Test.YtbflblmkdnhboaaDoorZXStemBase14
import Derived.Test.YtbflblmkdnhboaaDoorZXStemBase12
import Derived.Test.YtbflblmkdnhboaaDoorTie
import Derived.Test.YtbflblmkdnhboaaDoorCards
import Derived.Handed
import Derived.Lay
import Derived.SevenTiedAt
import Derived.LaidMore
import Derived.WalkKit
import Derived.ProofKit
import Derived.OpenShut
import Derived.ShutString
import Derived.ChangeOld
import Derived.Below
import Derived.SizedLaws
import Derived.WideShapes
namespace Go.Proofs.YtbflblmkdnhboaaDoor.fnExactStemBase
open Go.ChangeShapes Go.WideShapes Go.ChangeAt Go.RowKit Go.Proofs.YtbflblmkdnhboaaDoorW.PrintWords Go.Proofs.YtbflblmkdnhboaaDoor.Pr
open Go.ChangeMaps (open_string shut_string)
set_option linter.unusedVariables false
theorem own : ownKnob Tryd.prog.godebug = none := by kernel_rfl
theorem laidOut : laidOutB Tryd.prog = true := by kernel_rfl
theorem O22 : Op.Opens Tryd.prog 22 (Kd.slice 3 (Kd.int .i64)) (fun xs => ∀ x ∈ xs, (Lit.int .i64 x).wf = true) := Op.Opens.slice Tryd.underlying22 (by kernel_rfl) (Op.Opens.int Tryd.underlying3)
def W24 (x : S24) : Prop := (Lit.int .i64 x.f0).wf = true ∧ (∀ x_ ∈ x.f1, (Lit.int .i64 x_).wf = true)
instance : Inhabited S24 := ⟨z24⟩
theorem O24 : Op.Opens Tryd.prog 24 k24 W24 := Op.Opens.iso (Op.Opens.struct2 Tryd.underlying24 rfl (by kernel_rfl) (by kernel_rfl) (by kernel_rfl) (by kernel_rfl) (Op.Opens.int Tryd.underlying3) O22) (fun x : S24 => (x.f0, x.f1)) (fun a => (⟨a.1, a.2⟩ : S24)) (fun _ => rfl)
def laidL : List (String × DataW Unit) := [("math/bits.deBruijn32tab", Rows.laid_math_bits_deBruijn32tab), ("math/bits.deBruijn64tab", Rows.laid_math_bits_deBruijn64tab)]
theorem laidKeep : laidL.filter (fun x => x.1 == "math/bits.deBruijn64tab") = tabLaid := by kernel_rfl
set_option maxRecDepth 100000 in
theorem lifted (os : Os) (started : os.Started) (H : Type) (enc : TypeId × Value → H) :
    ReturnsInHanded {} Tryd.checked os 11 .any (fun w args => (Rows.fnExactStemBaseSpec.pre enc Tryd.prog Tryd.f11 [] false w args ∧ laidMetH Tryd.prog laidL w) ∧ sizedMet enc Tryd.prog Tryd.f11 (OpenSpec.ofChange Rows.fnExactStemBaseSpec) false w args) (Rows.fnExactStemBaseSpec.post enc Tryd.prog Tryd.f11 false true false false) := by
  refine returnsInHanded_of_change_and (C := Tryd.checked) (X := fun w _ => laidMetH Tryd.prog laidL w) (fun _ _ _ hh h => h.of_heap hh) own started (by kernel_rfl) Tryd.func11
    (ChangeSpec.witness_shaped (enc := enc) (C := Tryd.checked) (os := os) (X := fun w _ => laidMetH Tryd.prog laidL w) false (World.laidAll Tryd.prog os laidL) #[.agg #[.int .i64 0, .slice none 0 0]] 8 (World.laidAll_os _ _ _) (World.shaped_of_ZipB (by kernel_rfl) (by kernel_rfl)) (by kernel_rfl) (by kernel_rfl) (by kernel_rfl)
      (by rw [MakeChecks.laidMetH_plain _ _ _ (by kernel_rfl)]; exact laidMet_laidAll _ (by kernel_rfl) (by kernel_rfl))) ?_
  intro W base args ds gs before hval0 hW hcnd hsz0 hL _
  rw [MakeChecks.laidMetH_plain _ _ _ (by kernel_rfl)] at hL
  have htab : Tab64 W := Tab64.of_laid (laidKeep ▸ hL.filter _)
  have hval : ∀ (j : Nat) t v, Tryd.f11.params[j]? = some t → args[j]? = some v → Value.okWide Tryd.prog W .any base t v := hval0
  have hW' := hW
  obtain ⟨p, q, hA0, hV, rfl, hfz, hnd⟩ := hW
  have hA : DataW.TrodAll enc Tryd.prog W 0 (fun _ => true) true Tryd.f11.params.toList args.toList ds p := hA0
  rw [Tryd.params11] at hA hval
  obtain ⟨v0, vs0, d0, ds0, p0, q0, hargs, rfl, rfl, h0, r0⟩ := trodAll_cons hA
  obtain ⟨rfl, rfl, rfl⟩ := trodAll_nil r0
  obtain rfl : args = #[v0] := by cases args; simp_all
  obtain ⟨rfl, rfl⟩ := trodVars_none hV
  obtain ⟨cs0, rfl, hz0⟩ := okWide_struct Tryd.underlying24 (hval 0 24 v0 rfl rfl)
  have kk0 := h0
  have lt0 : ∀ x ∈ p0, x.block < W.heap.size := by obtain ⟨m, hm⟩ := kk0; exact DataW.trod_lt m _ _ _ hm
  obtain ⟨fu0, hf0⟩ := h0
  obtain ⟨x0, hK0, w0⟩ := O24 hf0
  obtain ⟨_, _, hcs0, rfl, A0_1, c0_1, rfl, hc0_1, hr0_1⟩ := hK0
  obtain rfl : cs0 = #[.int .i64 x0.f0, .slice A0_1 x0.f1.length c0_1] := by
    have hq : cs0.toList = [.int .i64 x0.f0, .slice A0_1 x0.f1.length c0_1] := hcs0
    cases cs0
    exact congrArg Array.mk hq
  clear hcs0
  clear hA0 hval0 hsz0
  obtain ⟨k, h⟩ := Pu.FnExactStemBase x0 w0 hr0_1.2.1
  refine (laws_FnExactStemBase.calls k x0.f0 _ _ x0.f1 true W hr0_1 hc0_1 rfl htab h).mono fun e W' ⟨he, bel0⟩ => ?_
  have bel : Below W.heap.size W W' := bel0
  subst he
  exact ⟨_, rfl, _, _, _, [], _, [], hW', trodAll_mk1 (shut_bool Tryd.underlying4 _), (trodAll_cons_mk (Below.trod laidOut (by kernel_rfl) (of_decide_eq_true (by kernel_rfl)) kk0 bel lt0) trodAll_mk0), rfl, bel.frame _, fun h => by cases h⟩
theorem over : Rows.fnExactStemBaseRow.holds Tryd.pinned (OpenSpec.ofChange Rows.fnExactStemBaseSpec) :=
  OpenClaim.holds_of_wide 11 Tryd.f11 rfl rfl rfl rfl rfl rfl rfl ⟨rfl, rfl, rfl, rfl, rfl⟩ rfl rfl rfl rfl rfl (by kernel_rfl) Tryd.func11 (by kernel_rfl)
    (of_decide_eq_true (by kernel_rfl)) (by unfold Func.isWrapper; first | (rw [if_pos (by decide +kernel)]; kernel_rfl) | (rw [if_neg (by decide +kernel)]; exact ⟨rfl, rfl⟩))
    (fun os started H enc _ => lifted os started H enc)
theorem card : Rows.FnExactStemBaseCardSaid :=
  Claim7.holds_tied_plain_at .later [] [.data, .data] true (true, "c3bb4d5e0940e568aaa5474a2480c8847098b9eb873382350d7523772883e03e") false over (fun _ h => by cases h) (by kernel_rfl) (fun _ h => by cases h) fnExactStemBase_row_tie rfl ⟨rfl, rfl⟩ (by kernel_rfl) rfl
    (fun f fn hf hfn => by
      obtain rfl : f = 11 := Option.some.inj ((show Tryd.prog.funcNamed "loop.example/g00596/laws.FnExactStemBase" = some 11 by kernel_rfl).symm.trans hf) |>.symm
      obtain rfl : fn = Tryd.f11 := (Option.some.inj (Tryd.func11.symm.trans hfn)).symm
      exact ⟨by kernel_rfl, fun j t ht => by
        rw [Tryd.params11] at ht
        have hm : t ∈ [24] := by simpa using Array.mem_of_getElem? ht
        have hall : ([24].all fun u => !Tryd.prog.wantsStandIn u) = true := by kernel_rfl
        exact (show Tryd.prog.wantsStandIn t = false by simpa using List.all_eq_true.1 hall t hm)⟩)
    (by kernel_rfl)
theorem proved : Rows.FnExactStemBaseCardSaid := card
end Go.Proofs.YtbflblmkdnhboaaDoor.fnExactStemBase
namespace Go.Proofs.YtbflblmkdnhboaaDoor
theorem fnExactStemBase_holds : Rows.FnExactStemBaseCardSaid := fnExactStemBase.proved
#print axioms fnExactStemBase_holds
end Go.Proofs.YtbflblmkdnhboaaDoor
