/- What the law needs of the program's functions as plain functions, of the proofs that their calls answer so, and of plain laws: gathered by a program of this place (pack.py) out of its printed texts. No condition beyond what each statement says. -/
import Derived.Test.YtamjnninbdnjhaaDoorZXIsClosureFamily2
import Derived.Test.YtamjnninbdnjhaaDoorZXIsClosureFamily3
import Derived.Test.YtamjnninbdnjhaaDoorZXIsClosureFamily4
import Derived.Test.YtamjnninbdnjhaaDoorRows
import Derived.Lib.LaidTab
import Derived.LaidSub
import Derived.MakeChecks
namespace Go.Proofs.YtamjnninbdnjhaaDoor.Pr
open Go.RowKit Go.Proofs.YtamjnninbdnjhaaDoorW.PrintWords Go.Proofs.YtamjnninbdnjhaaDoorW.PrintLast Go.Proofs.YtamjnninbdnjhaaDoorW.PrintMore
attribute [local go_sem] max2_int min2_int max_two min_two max_three min_three max_four min_four   -- for this text's walks alone
set_option linter.unusedVariables false
set_option linter.unusedSimpArgs false
theorem q7_1 {P : Prop} (h : P := by repeat (first | exact (Kd.C_below HR1.out (by repeat (first | (with_reducible first | exact HB.out | apply below_alloc | apply pw_below_drewN | apply below_drew1) | exact HB.out))) | (with_reducible refine Kd.C_alloc ?_ _) | (with_reducible refine Kd.C_drewN ?_ _) | (with_reducible refine Kd.C_drew ?_))) : P := h
theorem q7_2 {P : Prop} (h : P := by repeat (first | exact (Kd.R_reads' HO154.out).2.2 | (with_reducible refine Kd.C_alloc ?_ _) | (with_reducible refine Kd.C_drewN ?_ _) | (with_reducible refine Kd.C_drew ?_))) : P := h
theorem q7_3 {P : Prop} (h : P := by (try simp only [List.map_toArray, List.map_cons, List.map_nil]); first | done | rfl | (simp only [List.length_drop, List.length_take]; rfl)) : P := h
theorem q7_4 {P : Prop} (h : P := by repeat (first | (with_reducible first | exact HB.out | apply below_alloc | apply pw_below_drewN | apply below_drew1) | exact HB.out)) : P := h
theorem q7_5 {P : Prop} (h : P := by (with_reducible repeat (first | apply Kd.R_alloc | apply Kd.R_drewN | apply Kd.R_drew)); exact HO150.out) : P := h
def laws_FnExactIsClosureFamily.f (k : Nat) (a0 : Int) (l1 : List Int) : Option (Bool) := if (l1.length : Int) > 1048576 then (some true) else ((laws_toIntS.f k l1).bind fun t148 => ((spec_IsClosureFamily.f k a0 t148).bind fun t151 => ((laws_toIntS.f k l1).bind fun t152 => ((impl_IsClosureFamily.f k a0 t152).bind fun t155 => (if (t155 != t151) = true then (some false) else ((laws_toIntS.f k l1).bind fun t156 => ((laws_eqIntS.f k t152 t156).bind fun t159 => (if t159 = true then (some true) else (some false)))))))))
set_option maxHeartbeats 8000000 in
set_option maxRecDepth 100000 in
theorem laws_FnExactIsClosureFamily.calls (k : Nat) (a0 : Int) (A1 : Option Addr) (c1 : Nat) (l1 : List Int) (r : Bool) (w : World) (hr1 : Kd.C (Kd.int .i64) w A1 l1.length l1) (hc1 : l1.length ≤ c1) (hrt : r = true) (htab : Tab64 w) (h : laws_FnExactIsClosureFamily.f k a0 l1 = some r) :
  Calls Tryd.prog 5 #[.int .i64 a0, .slice A1 l1.length c1] w fun e w' => e = .returned (.bool r) ∧ Below w.heap.size w w' := by
 have HTB := Aside0.mk htab
 clear htab
 have HR1 := Aside0.mk hr1
 have HC1 := Aside0.mk hc1
 clear hr1 hc1
 have HB := Aside0.mk (Below.refl w.heap.size w)
 have HRT := Aside0.mk hrt
 clear hrt
 have H : (if (l1.length : Int) > 1048576 then (some true) else ((laws_toIntS.f k l1).bind fun t148 => ((spec_IsClosureFamily.f k a0 t148).bind fun t151 => ((laws_toIntS.f k l1).bind fun t152 => ((impl_IsClosureFamily.f k a0 t152).bind fun t155 => (if (t155 != t151) = true then (some false) else ((laws_toIntS.f k l1).bind fun t156 => ((laws_eqIntS.f k t152 t156).bind fun t159 => (if t159 = true then (some true) else (some false)))))))))) = some r := h
 clear h
 by_cases c3 : (l1.length : Int) > 1048576
 ·
  rw [if_pos c3] at H
  have c3b0 : decide (1048576 < (l1.length : Int)) = true := decide_eq_true c3
  have c3b1 : decide (1048576 < l1.length) = true := decide_eq_true (by omega)
  clear c3
  obtain rfl := Option.some.inj H
  go_enter Tryd.func5, Tryd.ntmps5
  go_wp2
  go_ret
  exact ⟨by first | rfl | (simp [errW_none, errW_some] <;> rfl) | (simp [*, errW_none, errW_some] <;> rfl), by repeat (first | (with_reducible first | exact HB.out | apply below_alloc | apply pw_below_drewN | apply below_drew1) | exact HB.out)⟩
 ·
  rw [if_neg c3] at H
  have c3b0 : decide (1048576 < (l1.length : Int)) = false := decide_eq_false c3
  have c3b1 : decide (1048576 < l1.length) = false := decide_eq_false (by omega)
  clear c3
  replace H := Option.bind_eq_some_iff.mp H
  obtain ⟨t148, A40, H⟩ := H
  replace H : ((spec_IsClosureFamily.f k a0 t148).bind fun t151 => ((laws_toIntS.f k l1).bind fun t152 => ((impl_IsClosureFamily.f k a0 t152).bind fun t155 => (if (t155 != t151) = true then (some false) else ((laws_toIntS.f k l1).bind fun t156 => ((laws_eqIntS.f k t152 t156).bind fun t159 => (if t159 = true then (some true) else (some false)))))))) = some r := H
  have A4 := Aside0.mk A40
  clear A40
  replace H := Option.bind_eq_some_iff.mp H
  obtain ⟨t151, A50, H⟩ := H
  replace H : ((laws_toIntS.f k l1).bind fun t152 => ((impl_IsClosureFamily.f k a0 t152).bind fun t155 => (if (t155 != t151) = true then (some false) else ((laws_toIntS.f k l1).bind fun t156 => ((laws_eqIntS.f k t152 t156).bind fun t159 => (if t159 = true then (some true) else (some false))))))) = some r := H
  have A5 := Aside0.mk A50
  clear A50
  replace H := Option.bind_eq_some_iff.mp H
  obtain ⟨t152, A60, H⟩ := H
  replace H : ((impl_IsClosureFamily.f k a0 t152).bind fun t155 => (if (t155 != t151) = true then (some false) else ((laws_toIntS.f k l1).bind fun t156 => ((laws_eqIntS.f k t152 t156).bind fun t159 => (if t159 = true then (some true) else (some false)))))) = some r := H
  have A6 := Aside0.mk A60
  clear A60
  replace H := Option.bind_eq_some_iff.mp H
  obtain ⟨t155, A70, H⟩ := H
  replace H : (if (t155 != t151) = true then (some false) else ((laws_toIntS.f k l1).bind fun t156 => ((laws_eqIntS.f k t152 t156).bind fun t159 => (if t159 = true then (some true) else (some false))))) = some r := H
  have A7 := Aside0.mk A70
  clear A70
  by_cases c8 : (t155 != t151) = true
  ·
   rw [if_pos c8] at H
   exact absurd ((Option.some.inj H).trans HRT.out) Bool.false_ne_true
  ·
   rw [if_neg c8] at H
   have c8b0 : (t155 != t151) = false := by simpa using c8
   (try (have c8b1 : decide (t155 = t151) = true := by simpa using c8))
   (try (have c8b2 : (t155 == t151) = true := by simpa using c8))
   clear c8
   replace H := Option.bind_eq_some_iff.mp H
   obtain ⟨t156, A90, H⟩ := H
   replace H : ((laws_eqIntS.f k t152 t156).bind fun t159 => (if t159 = true then (some true) else (some false))) = some r := H
   have A9 := Aside0.mk A90
   clear A90
   replace H := Option.bind_eq_some_iff.mp H
   obtain ⟨t159, A100, H⟩ := H
   replace H : (if t159 = true then (some true) else (some false)) = some r := H
   have A10 := Aside0.mk A100
   clear A100
   by_cases c11 : t159 = true
   ·
    subst c11
    have H1 : (some true) = some r := by rw [if_pos rfl] at H; exact H
    clear H
    have H := H1
    clear H1
    obtain rfl := Option.some.inj H
    go_enter Tryd.func5, Tryd.ntmps5
    go_wp2_with (first | ((with_reducible refine gate_callee (f := 16) rfl ?_); refine goesL_ (some 13) rfl rfl Tryd.func16 (by kernel_rfl) rfl #[.slice A1 l1.length c1] rfl q7_3 ?_; (with_reducible refine (laws_toIntS.calls k _ _ l1 t148 _ ?side1 ?side2 A4.out).mono ?_); (case side1 => repeat (first | exact HR1.out | (with_reducible refine Kd.C_alloc ?_ _) | (with_reducible refine Kd.C_drewN ?_ _) | (with_reducible refine Kd.C_drew ?_))); (case side2 => exact HC1.out); rintro e w12 ⟨v149, rfl, ho0, hb⟩; refine ⟨_, rfl, ?_⟩; have n0_ := Aside0.mk (Kd.R_lower ho0 (below_size q7_4)); have n1_ := Aside0.mk (below_step q7_4 hb); clear HB; have HO150 := n0_; have HB := n1_; clear n0_ n1_; (try clear hb); (try clear hb2); (try clear hk); (try clear hi); (try clear ho0); obtain ⟨Ao13, co13, eo13⟩ := Kd.R_slice HO150.out; subst eo13) | ((with_reducible refine gate_callee (f := 15) rfl ?_); refine goesL_ (some 14) rfl rfl Tryd.func15 (by kernel_rfl) rfl #[.int .i64 a0, .slice Ao13 t148.length co13] rfl q7_3 ?_; (with_reducible refine (spec_IsClosureFamily.calls k a0 _ _ t148 t151 _ ?side1 ?side2 A5.out).mono ?_); (case side1 => repeat (first | exact (Kd.R_reads' HO150.out).2.2 | (with_reducible refine Kd.C_alloc ?_ _) | (with_reducible refine Kd.C_drewN ?_ _) | (with_reducible refine Kd.C_drew ?_))); (case side2 => exact (Kd.R_reads' HO150.out).2.1); rintro e w' ⟨rfl, ⟨nd, rfl⟩⟩; refine ⟨_, rfl, ?_⟩) | ((with_reducible refine gate_callee (f := 16) rfl ?_); refine goesL_ (some 16) rfl rfl Tryd.func16 (by kernel_rfl) rfl #[.slice A1 l1.length c1] rfl q7_3 ?_; (with_reducible refine (laws_toIntS.calls k _ _ l1 t152 _ ?side1 ?side2 A6.out).mono ?_); (case side1 => exact q7_1); (case side2 => exact HC1.out); rintro e w14 ⟨v153, rfl, ho0, hb⟩; refine ⟨_, rfl, ?_⟩; have n0_ := Aside0.mk (Kd.R_elder' q7_5 (Kd.R_base ho0) hb); have n1_ := Aside0.mk (Kd.R_lower (Kd.R_new' ho0 (Kd.R_lt q7_5)) (below_size q7_4)); have n2_ := Aside0.mk (below_step q7_4 hb); clear HO150; clear HB; have HO150 := n0_; have HO154 := n1_; have HB := n2_; clear n0_ n1_ n2_; (try clear hb); (try clear hb2); (try clear hk); (try clear hi); (try clear ho0); obtain ⟨Ao15, co15, eo15⟩ := Kd.R_slice HO154.out; subst eo15) | ((with_reducible refine gate_callee (f := 17) rfl ?_); refine goesL_ (some 19) rfl rfl Tryd.func17 (by kernel_rfl) rfl #[.int .i64 a0, .slice Ao15 t152.length co15] rfl q7_3 ?_; (with_reducible refine (impl_IsClosureFamily.calls k a0 _ _ t152 t155 _ ?side1 ?side2 ?tab A7.out).mono ?_); (case tab => first | exact HTB.out | (refine Tab64.below HTB.out ?_; repeat (first | (with_reducible first | exact HB.out | apply below_alloc | apply pw_below_drewN | apply below_drew1) | exact HB.out)) | (repeat (first | exact HTB.out | apply Tab64.drewN | apply Tab64.drew | apply Tab64.alloc))); (case side1 => exact q7_2); (case side2 => exact (Kd.R_reads' HO154.out).2.1); rintro e w' ⟨rfl, ⟨nd, rfl⟩⟩; refine ⟨_, rfl, ?_⟩) | ((with_reducible refine gate_callee (f := 16) rfl ?_); refine goesL_ (some 25) rfl rfl Tryd.func16 (by kernel_rfl) rfl #[.slice A1 l1.length c1] rfl q7_3 ?_; (with_reducible refine (laws_toIntS.calls k _ _ l1 t156 _ ?side1 ?side2 A9.out).mono ?_); (case side1 => exact q7_1); (case side2 => exact HC1.out); rintro e w16 ⟨v157, rfl, ho0, hb⟩; refine ⟨_, rfl, ?_⟩; have n0_ := Aside0.mk (Kd.R_elder' q7_5 (Kd.R_base ho0) hb); have n1_ := Aside0.mk (Kd.R_elder' (by (with_reducible repeat (first | apply Kd.R_alloc | apply Kd.R_drewN | apply Kd.R_drew)); exact HO154.out) (Kd.R_base ho0) hb); have n2_ := Aside0.mk (Kd.R_lower (Kd.R_new' (Kd.R_new' ho0 (Kd.R_lt q7_5)) (Kd.R_lt (by (with_reducible repeat (first | apply Kd.R_alloc | apply Kd.R_drewN | apply Kd.R_drew)); exact HO154.out))) (below_size q7_4)); have n3_ := Aside0.mk (below_step q7_4 hb); clear HO150; clear HO154; clear HB; have HO150 := n0_; have HO154 := n1_; have HO158 := n2_; have HB := n3_; clear n0_ n1_ n2_ n3_; (try clear hb); (try clear hb2); (try clear hk); (try clear hi); (try clear ho0); obtain ⟨Ao17, co17, eo17⟩ := Kd.R_slice HO158.out; subst eo17) | ((with_reducible refine gate_callee (f := 18) rfl ?_); refine goesL_ (some 26) rfl rfl Tryd.func18 (by kernel_rfl) rfl #[.slice Ao15 t152.length co15, .slice Ao17 t156.length co17] rfl q7_3 ?_; (with_reducible refine (laws_eqIntS.calls k _ _ t152 _ _ t156 true _ ?side1 ?side2 ?side3 ?side4 A10.out).mono ?_); (case side1 => exact q7_2); (case side2 => exact (Kd.R_reads' HO154.out).2.1); (case side3 => repeat (first | exact (Kd.R_reads' HO158.out).2.2 | (with_reducible refine Kd.C_alloc ?_ _) | (with_reducible refine Kd.C_drewN ?_ _) | (with_reducible refine Kd.C_drew ?_))); (case side4 => exact (Kd.R_reads' HO158.out).2.1); rintro e w' ⟨rfl, ⟨nd, rfl⟩⟩; refine ⟨_, rfl, ?_⟩))
    go_ret
    exact ⟨by first | rfl | (simp [errW_none, errW_some] <;> rfl) | (simp [*, errW_none, errW_some] <;> rfl), by repeat (first | (with_reducible first | exact HB.out | apply below_alloc | apply pw_below_drewN | apply below_drew1) | exact HB.out)⟩
   ·
    replace c11 := Bool.eq_false_iff.mpr c11
    subst c11
    have H1 : (some false) = some r := by rw [if_neg (show ¬ (false = true) by decide)] at H; exact H
    clear H
    have H := H1
    clear H1
    exact absurd ((Option.some.inj H).trans HRT.out) Bool.false_ne_true
end Go.Proofs.YtamjnninbdnjhaaDoor.Pr
namespace Go.Proofs.YtamjnninbdnjhaaDoor.Pr
open Go.RowKit Go.Proofs.YtamjnninbdnjhaaDoorW.PrintWords
set_option linter.unusedVariables false
/-- The list that a row gives, cut down to the one table. -/
def tabLaid : List (String × DataW Unit) := [("math/bits.deBruijn64tab", Lib.tabData .u8 (Lib.deBruijn64tab.map fun n : Nat => (n : Int)))]
theorem tabLaid_at : ∀ j, j < 64 → (Lib.deBruijn64tab.map fun n : Nat => (n : Int)).getD j 0 = ((Lib.deBruijn64tab.getD j 0 : Nat) : Int) := by decide
theorem Tab64.of_laid {W : World} (h : laidMet Tryd.prog tabLaid W) : Tab64 W := by
  have ht := Lib.tabIs_of_head (g := 1) (t := 92) (e := 5) (n := 64) (by kernel_rfl) (by kernel_rfl) Tryd.underlying92 Tryd.underlying5 (by kernel_rfl) (by kernel_rfl) h
  intro j hj
  have := ht.cell (g := 1) (by kernel_rfl) j (by rw [List.length_map]; exact hj)
  rw [tabLaid_at j hj] at this
  exact this
end Go.Proofs.YtamjnninbdnjhaaDoor.Pr
