/- 'FnExactIsShortest': for every input it returns true and its arguments read as before. No condition beyond the row's own. -/
import Derived.Test.YtbflblmkdnhboaaGreatDoorRows
import Derived.Test.YtbflblmkdnhboaaGreatDoorZXIsShortest14
import Derived.Test.YtbflblmkdnhboaaGreatDoorZXIsShortest15
import Derived.Test.YtbflblmkdnhboaaGreatDoorZXIsShortest8
import Derived.Test.YtbflblmkdnhboaaGreatDoorZXIsShortest7
import Derived.Test.YtbflblmkdnhboaaGreatDoorTie
import Derived.Test.YtbflblmkdnhboaaGreatDoorCards
import Derived.Handed
import Derived.Lay
import Derived.SevenTiedAt
import Derived.LaidMore
import Derived.WalkKit
import Derived.ProofKit
import Derived.OpenShut
import Derived.ShutString
import Derived.ChangeOld
import Derived.Below
import Derived.SizedLaws
import Derived.WideShapes
namespace Go.Proofs.YtbflblmkdnhboaaGreatDoor.fnExactIsShortest
open Go.ChangeShapes Go.WideShapes Go.ChangeAt Go.RowKit Go.Proofs.YtbflblmkdnhboaaGreatDoorW.PrintWords Go.Proofs.YtbflblmkdnhboaaGreatDoor.Pr
open Go.ChangeMaps (open_string shut_string)
set_option linter.unusedVariables false
theorem own : ownKnob Tryz.prog.godebug = none := by kernel_rfl
theorem laidOut : laidOutB Tryz.prog = true := by kernel_rfl
theorem O22 : Op.Opens Tryz.prog 22 (Kd.slice 3 (Kd.int .i64)) (fun xs => ∀ x ∈ xs, (Lit.int .i64 x).wf = true) := Op.Opens.slice Tryz.underlying22 (by kernel_rfl) (Op.Opens.int Tryz.underlying3)
def W24 (x : S24) : Prop := (Lit.int .i64 x.f0).wf = true ∧ (∀ x_ ∈ x.f1, (Lit.int .i64 x_).wf = true)
instance : Inhabited S24 := ⟨z24⟩
theorem O24 : Op.Opens Tryz.prog 24 k24 W24 := Op.Opens.iso (Op.Opens.struct2 Tryz.underlying24 rfl (by kernel_rfl) (by kernel_rfl) (by kernel_rfl) (by kernel_rfl) (Op.Opens.int Tryz.underlying3) O22) (fun x : S24 => (x.f0, x.f1)) (fun a => (⟨a.1, a.2⟩ : S24)) (fun _ => rfl)
def W45 (x : S45) : Prop := (Lit.int .i64 x.f0).wf = true ∧ (Lit.int .i64 x.f1).wf = true
instance : Inhabited S45 := ⟨z45⟩
theorem O45 : Op.Opens Tryz.prog 45 k45 W45 := Op.Opens.iso (Op.Opens.struct2 Tryz.underlying45 rfl (by kernel_rfl) (by kernel_rfl) (by kernel_rfl) (by kernel_rfl) (Op.Opens.int Tryz.underlying3) (Op.Opens.int Tryz.underlying3)) (fun x : S45 => (x.f0, x.f1)) (fun a => (⟨a.1, a.2⟩ : S45)) (fun _ => rfl)
theorem O25 : Op.Opens Tryz.prog 25 (Kd.slice 45 k45) (fun xs => ∀ x ∈ xs, W45 x) := Op.Opens.slice Tryz.underlying25 (by kernel_rfl) O45
def laidL : List (String × DataW Unit) := [("math/bits.deBruijn32tab", Rows.laid_math_bits_deBruijn32tab), ("math/bits.deBruijn64tab", Rows.laid_math_bits_deBruijn64tab)]
theorem laidKeep : laidL.filter (fun x => x.1 == "math/bits.deBruijn64tab") = tabLaid := by kernel_rfl
set_option maxRecDepth 100000 in
theorem lifted (os : Os) (started : os.Started) (H : Type) (enc : TypeId × Value → H) :
    ReturnsInHanded {} Tryz.checked os 4 .any (fun w args => (Rows.fnExactIsShortestSpec.pre enc Tryz.prog Tryz.f4 [] false w args ∧ laidMetH Tryz.prog laidL w) ∧ sizedMet enc Tryz.prog Tryz.f4 (OpenSpec.ofChange Rows.fnExactIsShortestSpec) false w args) (Rows.fnExactIsShortestSpec.post enc Tryz.prog Tryz.f4 false true false false) := by
  refine returnsInHanded_of_change_and (C := Tryz.checked) (X := fun w _ => laidMetH Tryz.prog laidL w) (fun _ _ _ hh h => h.of_heap hh) own started (by kernel_rfl) Tryz.func4
    (ChangeSpec.witness_shaped (enc := enc) (C := Tryz.checked) (os := os) (X := fun w _ => laidMetH Tryz.prog laidL w) false (World.laidAll Tryz.prog os laidL) #[.agg #[.int .i64 0, .slice none 0 0], .slice none 0 0] 8 (World.laidAll_os _ _ _) (World.shaped_of_ZipB (by kernel_rfl) (by kernel_rfl)) (by kernel_rfl) (by kernel_rfl) (by kernel_rfl)
      (by rw [MakeChecks.laidMetH_plain _ _ _ (by kernel_rfl)]; exact laidMet_laidAll _ (by kernel_rfl) (by kernel_rfl))) ?_
  intro W base args ds gs before hval0 hW hcnd hsz0 hL _
  rw [MakeChecks.laidMetH_plain _ _ _ (by kernel_rfl)] at hL
  have htab : Tab64 W := Tab64.of_laid (laidKeep ▸ hL.filter _)
  have hval : ∀ (j : Nat) t v, Tryz.f4.params[j]? = some t → args[j]? = some v → Value.okWide Tryz.prog W .any base t v := hval0
  have hW' := hW
  obtain ⟨p, q, hA0, hV, rfl, hfz, hnd⟩ := hW
  have hA : DataW.TrodAll enc Tryz.prog W 0 (fun _ => true) true Tryz.f4.params.toList args.toList ds p := hA0
  rw [Tryz.params4] at hA hval
  obtain ⟨v0, vs0, d0, ds0, p0, q0, hargs, rfl, rfl, h0, r0⟩ := trodAll_cons hA
  obtain ⟨v1, vs1, d1, ds1, p1, q1, rfl, rfl, rfl, h1, r1⟩ := trodAll_cons r0
  obtain ⟨rfl, rfl, rfl⟩ := trodAll_nil r1
  obtain rfl : args = #[v0, v1] := by cases args; simp_all
  obtain ⟨rfl, rfl⟩ := trodVars_none hV
  obtain ⟨cs0, rfl, hz0⟩ := okWide_struct Tryz.underlying24 (hval 0 24 v0 rfl rfl)
  have kk0 := h0
  have lt0 : ∀ x ∈ p0, x.block < W.heap.size := by obtain ⟨m, hm⟩ := kk0; exact DataW.trod_lt m _ _ _ hm
  obtain ⟨fu0, hf0⟩ := h0
  obtain ⟨x0, hK0, w0⟩ := O24 hf0
  obtain ⟨_, _, hcs0, rfl, A0_1, c0_1, rfl, hc0_1, hr0_1⟩ := hK0
  obtain rfl : cs0 = #[.int .i64 x0.f0, .slice A0_1 x0.f1.length c0_1] := by
    have hq : cs0.toList = [.int .i64 x0.f0, .slice A0_1 x0.f1.length c0_1] := hcs0
    cases cs0
    exact congrArg Array.mk hq
  clear hcs0
  obtain ⟨A1, n1, c1, rfl⟩ := okWide_slice Tryz.underlying25 (hval 1 25 v1 rfl rfl)
  have kk1 := h1
  have lt1 : ∀ x ∈ p1, x.block < W.heap.size := by obtain ⟨m, hm⟩ := kk1; exact DataW.trod_lt m _ _ _ hm
  obtain ⟨fu1, hf1⟩ := h1
  obtain ⟨l1, ⟨A_1, c_1, hcs1, hc1, hr1⟩, w1⟩ := O25 hf1
  have hcs_1 : [Value.slice A1 n1 c1] = [Value.slice A_1 l1.length c_1] := hcs1
  injection hcs_1 with hcs_1 _
  injection hcs_1 with e0 e1 e2
  subst e0 e1 e2
  clear hA0 hval0 hsz0
  obtain ⟨k, h⟩ := Pu.FnExactIsShortest x0 l1 w0 hr0_1.2.1 hr1.2.1 w1
  refine (laws_FnExactIsShortest.calls k x0.f0 _ _ x0.f1 _ _ l1 true W hr0_1 hc0_1 hr1 hc1 rfl htab h).mono fun e W' ⟨he, bel0⟩ => ?_
  have bel : Below W.heap.size W W' := bel0
  subst he
  exact ⟨_, rfl, _, _, _, [], _, [], hW', trodAll_mk1 (shut_bool Tryz.underlying4 _), (trodAll_cons_mk (Below.trod laidOut (by kernel_rfl) (of_decide_eq_true (by kernel_rfl)) kk0 bel lt0) (trodAll_cons_mk (Below.trod laidOut (by kernel_rfl) (of_decide_eq_true (by kernel_rfl)) kk1 bel lt1) trodAll_mk0)), rfl, bel.frame _, fun h => by cases h⟩
theorem over : Rows.fnExactIsShortestRow.holds Tryz.pinned (OpenSpec.ofChange Rows.fnExactIsShortestSpec) :=
  OpenClaim.holds_of_wide 4 Tryz.f4 rfl rfl rfl rfl rfl rfl rfl ⟨rfl, rfl, rfl, rfl, rfl⟩ rfl rfl rfl rfl rfl (by kernel_rfl) Tryz.func4 (by kernel_rfl)
    (of_decide_eq_true (by kernel_rfl)) (by unfold Func.isWrapper; first | (rw [if_pos (by decide +kernel)]; kernel_rfl) | (rw [if_neg (by decide +kernel)]; exact ⟨rfl, rfl⟩))
    (fun os started H enc _ => lifted os started H enc)
theorem card : Rows.FnExactIsShortestCardSaid :=
  Claim7.holds_tied_plain_at .later [] [.data, .data] true (true, "5b04bf005ffcc67ee6f9470448126c659214c0c5a5117fdc96be4580dfb10ffb") false over (fun _ h => by cases h) (by kernel_rfl) (fun _ h => by cases h) fnExactIsShortest_row_tie rfl ⟨rfl, rfl⟩ (by kernel_rfl) rfl
    (fun f fn hf hfn => by
      obtain rfl : f = 4 := Option.some.inj ((show Tryz.prog.funcNamed "loop.example/g00596/laws.FnExactIsShortest" = some 4 by kernel_rfl).symm.trans hf) |>.symm
      obtain rfl : fn = Tryz.f4 := (Option.some.inj (Tryz.func4.symm.trans hfn)).symm
      exact ⟨by kernel_rfl, fun j t ht => by
        rw [Tryz.params4] at ht
        have hm : t ∈ [24, 25] := by simpa using Array.mem_of_getElem? ht
        have hall : ([24, 25].all fun u => !Tryz.prog.wantsStandIn u) = true := by kernel_rfl
        exact (show Tryz.prog.wantsStandIn t = false by simpa using List.all_eq_true.1 hall t hm)⟩)
    (by kernel_rfl)
theorem proved : Rows.FnExactIsShortestCardSaid := card
end Go.Proofs.YtbflblmkdnhboaaGreatDoor.fnExactIsShortest
namespace Go.Proofs.YtbflblmkdnhboaaGreatDoor
theorem fnExactIsShortest_holds : Rows.FnExactIsShortestCardSaid := fnExactIsShortest.proved
#print axioms fnExactIsShortest_holds
end Go.Proofs.YtbflblmkdnhboaaGreatDoor
