/- Functions of the program as plain functions, proofs that their calls answer so, and plain laws: what the law needs. No condition beyond what each statement says. -/
import Derived.Test.YtafnamchckehmaaGreatDoorZFnRules6
import Derived.Shelf.Abstract
import Derived.Lib.Strings
import Derived.Lib.Slices
import Derived.Lib.Walk
import Derived.Lib.Bytealg
namespace Go.Proofs.YtafnamchckehmaaGreatDoor.Pr
set_option maxHeartbeats 40000000
set_option maxRecDepth 100000
open Go.RowKit Go.Proofs.YtafnamchckehmaaGreatDoorW.PrintWords Go.Proofs.YtafnamchckehmaaGreatDoorW.PrintLast Go.Proofs.YtafnamchckehmaaGreatDoorW.PrintMore
attribute [local go_sem] max2_int min2_int max_two min_two max_three min_three max_four min_four
set_option linter.unusedVariables false
set_option linter.unusedSimpArgs false
theorem bnd23_ {α β : Type} {o : Option α} {f : α → Option β} {r : β} (h : o.bind f = some r) : ∃ a, Aside0 (o = some a) ∧ f a = some r := by
 obtain ⟨a, h1, h2⟩ := Option.bind_eq_some_iff.mp h
 exact ⟨a, ⟨h1⟩, h2⟩
def spec_RulesText.l0 : Nat → List (S48) → List ByteArray → Int → Option (ByteArray)
 | 0, _, _, _ => none
 | k + 1, x0, x3, x4 => if x4 < (x0.length : Int) then (if 0 ≤ x4 then ((spec_RuleText.f k ((rd_T48 x0 x4).f0) ((rd_T48 x0 x4).f1)).bind fun t932 => (if t932.toList = ([] : List UInt8) then (some (⟨#[]⟩ : ByteArray)) else ((spec_RuleText.f k ((rd_T48 x0 x4).f0) ((rd_T48 x0 x4).f1)).bind fun t934 => (if x3.length < 8796093022208 then (spec_RulesText.l0 k x0 (x3 ++ [t934]) (wrap64 (x4 + 1))) else (none))))) else (none)) else ((spec_Join.f k x3 (⟨#[32]⟩ : ByteArray)).bind fun t930 => (some t930))
def spec_RulesText.f (k : Nat) (l0 : List (S48)) : Option (ByteArray) := if (l0.length : Int) = 0 then (some (⟨#[110, 111, 110, 101]⟩ : ByteArray)) else (spec_RulesText.l0 k l0 (([] : List ByteArray)) 0)
theorem spec_RulesText.calls (k : Nat) (A0 : Option Addr) (c0 : Nat) (l0 : List (S48)) (r : ByteArray) (w : World) (hr0 : Kd.C k48 w A0 l0.length l0) (hc0 : l0.length ≤ c0) (h : spec_RulesText.f k l0 = some r) :
  Calls Tryz.prog 83 #[.slice A0 l0.length c0] w fun e w' => e = .returned (.string r) ∧ Below w.heap.size w w' := by
 have hu48 := Tryz.underlying48; have HR0 := Aside0.mk hr0; have HC0 := Aside0.mk hc0; clear hr0 hc0; have HB := Aside0.mk (Below.refl w.heap.size w); have H := h; clear h; unfold spec_RulesText.f at H
 by_cases c2 : (l0.length : Int) = 0
 ·
  rw [if_pos c2] at H; have c2b0 : ((l0.length : Int) == 0) = true := beq_iff_eq.mpr c2; have c2b1 : ((l0.length : Int) != 0) = false := bne_eq_false_iff_eq.mpr c2; clear c2; obtain rfl := Option.some.inj H
  go_enter Tryz.func83, Tryz.ntmps83
  go_wp2
  go_ret
  exact ⟨s2_, s1_⟩
 ·
  rw [if_neg c2] at H; have c2b0 : ((l0.length : Int) == 0) = false := beq_eq_false_iff_ne.mpr c2; have c2b1 : ((l0.length : Int) != 0) = true := bne_iff_ne.mpr c2
  have c2b2 : ¬ (l0 = []) := fun h_ => c2 (by rw [h_]; rfl)
  obtain ⟨y927, hy_⟩ : ∃ y_ : List ByteArray, y_ = (([] : List ByteArray)) := ⟨_, rfl⟩
  replace H : (spec_RulesText.l0 k l0 y927 0) = some r := rH_
  have Ny927 := Aside0.mk hy_; clear hy_; have H' := Aside0.mk H; clear H
  go_enter Tryz.func83, Tryz.ntmps83
  go_wp2_with (first | ((with_reducible refine gate_dst (N := 8) rfl ?_); refine Kd.R_lit Kd.string _ 9 ?hg (N := 8) ?hd (xs := ([] : List ByteArray)) (inner := []) (ok := fun _ => True) (okp := fun _ => True) ?hr ?hp (fun _ hk => hk) trivial (Below.refl _ _) (Nat.le_refl _) (by simp) ?_; (case hd => rfl); (case hg => rfl); (case hr => first | (go_simp; done) | (go_simp; rfl)); (case hp => exact (Reps.none _ _)); intro v928 w3 ho4 hb hg_ hnew_; clear hg_ hnew_; (first | rw [← Ny927.out] at ho4 | (simp only [Int.reduceToNat] at ho4; rw [← Ny927.out] at ho4)); have n_ := ac_ (Kd.R_lower ho4 (below_size s1_)) <| Aside0.mk (below_step s1_ hb); clear HB; obtain ⟨HO929, HB⟩ := n_; clear hb ho4))
  go_loopg [3, 4] k (fun kq v3 v4 w' => ∃ (x3_1 : List ByteArray) (x4_1 : Int), v4 = .int .i64 x4_1 ∧ Aside0 (spec_RulesText.l0 kq l0 x3_1 x4_1 = some r) ∧ Aside0 (kq ≤ k) ∧ Aside0 (Kd.R Kd.string 9 w' w.heap.size (fun _ => True) v3 x3_1) ∧ Aside0 (Below w.heap.size w w'))
  case atStart => exact ⟨(y927), (0), rf_, H', ⟨Nat.le_refl _⟩, ⟨(by (with_reducible repeat (first | apply Kd.R_alloc | apply Kd.R_drewN | apply Kd.R_drew)); exact HO929.out)⟩, ⟨s1_⟩⟩
  case round =>
   clear H'
   try clear c2
   try clear c2b0
   try clear c2b1
   try clear c2b2
   try clear p2
   obtain ⟨x3_1, x4_1, rfl, HA, HK1, HO_3, HB⟩ := hrel
   cases gk with
   | zero => exact absurd HA.out (by simp [spec_RulesText.l0])
   | succ k1 =>
    have H := HA.out; clear HA
    simp only [spec_RulesText.l0] at H
    by_cases c5 : x4_1 < (l0.length : Int)
    ·
     rw [if_pos c5] at H; have c5b0 : decide (x4_1 < (l0.length : Int)) = true := decide_eq_true c5; clear c5
     by_cases c6 : 0 ≤ x4_1
     ·
      rw [if_pos c6] at H; have c6b0 : decide (0 ≤ x4_1) = true := decide_eq_true c6; clear c6; obtain ⟨t932, A7, H⟩ := bnd23_ H
      by_cases c8 : t932.toList = ([] : List UInt8)
      ·
       rw [if_pos c8] at H; have c8b0 : (t932.toList == ([] : List UInt8)) = true := beq_iff_eq.mpr c8; have c8b1 : (t932.toList != ([] : List UInt8)) = false := bne_eq_false_iff_eq.mpr c8; clear c8; obtain rfl := Option.some.inj H; have p931 : 0 ≤ (x4_1 : Int) := of_decide_eq_true s4_; have q931 : x4_1 < (l0.length : Int) := of_decide_eq_true s4_; obtain ⟨ad931, e931, hx931_0, hx931_1⟩ := at_T48 HR0.out x4_1 p931 q931
       cases e931
       replace hx931_0 := (HB.out.cell (World.block_lt_of_cell? w _ hx931_0)).trans hx931_0; replace hx931_1 := (HB.out.cell (World.block_lt_of_cell? w _ hx931_1)).trans hx931_1; replace p931 := eq_true p931; replace q931 := eq_true q931
       go_wp2_with ((with_reducible refine gw_ rfl ?_); (refine gL_ 85 19 Tryz.func85 #[.agg #[.int .i64 ((rd_T48 l0 x4_1).f0), .int .i64 ((rd_T48 l0 x4_1).f1)]] ?_; (with_reducible refine (spec_RuleText.calls k1 ((rd_T48 l0 x4_1).f0) ((rd_T48 l0 x4_1).f1) t932 _ A7.out).mono ?_); rintro e w9 ⟨rfl, hb⟩; refine ⟨_, rfl, ?_⟩; have n_ := ac_ (Kd.R_below s11_ hb) <| Aside0.mk (below_step s1_ hb); clear HO_3 HB; obtain ⟨HO_3, HB⟩ := n_; (try clear hb)))
       go_ret
       exact ⟨s2_, s1_⟩
      ·
       rw [if_neg c8] at H; have c8b0 : (t932.toList == ([] : List UInt8)) = false := beq_eq_false_iff_ne.mpr c8; have c8b1 : (t932.toList != ([] : List UInt8)) = true := bne_iff_ne.mpr c8; obtain ⟨t934, A10, H⟩ := bnd23_ H
       by_cases c11 : x3_1.length < 8796093022208
       ·
        rw [if_pos c11] at H; have LMc11 := Aside0.mk c11; clear c11; obtain ⟨y935, hy_⟩ : ∃ y_ : List ByteArray, y_ = (x3_1 ++ [t934]) := ⟨_, rfl⟩
        replace H : (spec_RulesText.l0 k1 l0 y935 (wrap64 (x4_1 + 1))) = some r := rH_
        have Ny935 := Aside0.mk hy_; clear hy_; have H' := Aside0.mk H; clear H; have p931 : 0 ≤ (x4_1 : Int) := of_decide_eq_true s4_; have q931 : x4_1 < (l0.length : Int) := of_decide_eq_true s4_; obtain ⟨ad931, e931, hx931_0, hx931_1⟩ := at_T48 HR0.out x4_1 p931 q931
        cases e931
        replace hx931_0 := (HB.out.cell (World.block_lt_of_cell? w _ hx931_0)).trans hx931_0; replace hx931_1 := (HB.out.cell (World.block_lt_of_cell? w _ hx931_1)).trans hx931_1; replace p931 := eq_true p931; replace q931 := eq_true q931
        go_wp2_with (first | ((with_reducible refine gw_ rfl ?_); first | (refine gL_ 85 19 Tryz.func85 #[.agg #[.int .i64 ((rd_T48 l0 x4_1).f0), .int .i64 ((rd_T48 l0 x4_1).f1)]] ?_; (with_reducible refine (spec_RuleText.calls k1 ((rd_T48 l0 x4_1).f0) ((rd_T48 l0 x4_1).f1) t932 _ A7.out).mono ?_); rintro e w12 ⟨rfl, hb⟩; refine ⟨_, rfl, ?_⟩; have n_ := ac_ (Kd.R_below s11_ hb) <| Aside0.mk (below_step s1_ hb); clear HO_3 HB; obtain ⟨HO_3, HB⟩ := n_; (try clear hb); have p933 : 0 ≤ (x4_1 : Int) := of_decide_eq_true s4_; have q933 : x4_1 < (l0.length : Int) := of_decide_eq_true s4_; obtain ⟨ad933, e933, hx933_0, hx933_1⟩ := at_T48 HR0.out x4_1 p933 q933; obtain rfl : ad931 = ad933 := (by injection e933); replace hx933_0 := (HB.out.cell (World.block_lt_of_cell? w _ hx933_0)).trans hx933_0; replace hx933_1 := (HB.out.cell (World.block_lt_of_cell? w _ hx933_1)).trans hx933_1; replace p933 := eq_true p933; replace q933 := eq_true q933) | (refine gL_ 85 26 Tryz.func85 #[.agg #[.int .i64 ((rd_T48 l0 x4_1).f0), .int .i64 ((rd_T48 l0 x4_1).f1)]] ?_; (with_reducible refine (spec_RuleText.calls k1 ((rd_T48 l0 x4_1).f0) ((rd_T48 l0 x4_1).f1) t934 _ A10.out).mono ?_); rintro e w13 ⟨rfl, hb⟩; refine ⟨_, rfl, ?_⟩; have n_ := ac_ (Kd.R_below s11_ hb) <| Aside0.mk (below_step s1_ hb); clear HO_3 HB; obtain ⟨HO_3, HB⟩ := n_; (try clear hb))) | ((with_reducible refine gate_builtin (b := .append) (xs := #[.tmp 21, .tmp 27]) rfl ?_); at_builtin; refine Kd.R_append Kd.string (w0 := w) w.heap.size rfl (.tmp 21) (.tmp 27) 132 9 (.string ⟨#[]⟩) 16 rfl Tryz.underlying132 info9 rfl (by decide) (by omega) u3 x3_1 t934 [.string t934] (fun _ => True) (fun _ => False) rfl rfl ?aP (fun _ hk => hk.elim) ?aF ?aO ?aB ?aS ?aL ?_; (case aP => exact rfl); (case aB => exact s1_); (case aF => exact (fun _ _ => trivial)); (case aO => exact s11_); (case aS => exact (below_size s1_)); (case aL => have := LMc11.out; omega); intro v936 w14 ho hb hg hat; rw [← Ny935.out] at ho; have n_ := ac_ (hb) <| Aside0.mk (ho); clear HB HO_3; obtain ⟨HB, HO937⟩ := n_; clear ho hb hg hat))
        go_roundg k1
        case measure => have := HK1.out; omega
        case rel => exact ⟨(y935), (wrap64 (x4_1 + 1)), rf_, H', ⟨by have := HK1.out; omega⟩, ⟨(by (with_reducible repeat (first | apply Kd.R_alloc | apply Kd.R_drewN | apply Kd.R_drew)); exact HO937.out)⟩, ⟨s1_⟩⟩
       ·
        rw [if_neg c11] at H
        exact absurd H (by simp)
     ·
      rw [if_neg c6] at H
      exact absurd H (by simp)
    ·
     rw [if_neg c5] at H; have c5b0 : decide (x4_1 < (l0.length : Int)) = false := decide_eq_false c5; clear c5; obtain ⟨t930, A15, H⟩ := bnd23_ H; obtain rfl := Option.some.inj H; obtain ⟨Ao16, co16, eo16⟩ := Kd.R_slice HO_3.out; subst eo16
     go_wp2_with ((with_reducible refine gw_ rfl ?_); (refine gL_ 186 30 Tryz.func186 #[.slice Ao16 x3_1.length co16, .string (⟨#[32]⟩ : ByteArray)] ?_; (with_reducible refine (spec_Join.calls k1 _ _ x3_1 (⟨#[32]⟩ : ByteArray) t930 _ ?side1 ?side2 A15.out).mono ?_); (case side1 => repeat (first | exact (Kd.R_reads' HO_3.out).2.2 | (with_reducible refine Kd.C_alloc ?_ _) | (with_reducible refine Kd.C_drewN ?_ _) | (with_reducible refine Kd.C_drew ?_))); (case side2 => exact (Kd.R_reads' HO_3.out).2.1); rintro e w17 ⟨rfl, hb⟩; refine ⟨_, rfl, ?_⟩; have n_ := ac_ (Kd.R_below s11_ hb) <| Aside0.mk (below_step s1_ hb); clear HO_3 HB; obtain ⟨HO_3, HB⟩ := n_; (try clear hb)))
     go_ret
     exact ⟨s2_, s1_⟩
def spec_l1Pick.f (s0_0 : List Int) (s0_1 : Int) (s0_2 : Int) (l1 : List ByteArray) : Option (ByteArray × Int × Int) := (spec_l1Below.f s0_0 s0_1 s0_2 (l1.length : Int)).bind fun bt938 => (if 0 ≤ bt938.1 then (if bt938.1 < (l1.length : Int) then (some (rdOf ByteArray.empty l1 bt938.1, bt938.2.1, bt938.2.2)) else (none)) else (none))
theorem spec_l1Pick.calls (g : Nat) (s0_0 : List Int) (s0_1 : Int) (s0_2 : Int) (A1 : Option Addr) (c1 : Nat) (l1 : List ByteArray) (r1 : ByteArray) (r2 : Int) (r3 : Int) (w0 w : World) (hI : IsS152 w0 w g s0_0 s0_1 s0_2) (hB : Below w0.heap.size w0 w) (hr1 : Kd.C Kd.string w A1 l1.length l1) (hc1 : l1.length ≤ c1) (hf1 : ∀ ad, A1 = some ad → 0 < l1.length → ad.block ≠ g) (h : spec_l1Pick.f s0_0 s0_1 s0_2 l1 = some (r1, r2, r3)) :
  Calls Tryz.prog 230 #[.pointer (some ⟨g, 0, none⟩), .slice A1 l1.length c1] w fun e w' => e = .returned (.string r1) ∧ IsS152 w0 w' g s0_0 r2 r3 ∧ Below w0.heap.size w0 w' ∧ KeepBut w w' g none := by
 have HR1 := Aside0.mk hr1; have HC1 := Aside0.mk hc1; clear hr1 hc1; have HI0 := Aside0.mk hI; have HK := Aside0.mk (KeepBut.refl w g none); have HL := Aside0.mk hB.size; clear hI; have HW0 := Aside0.mk hB.size; have HB := Aside0.mk hB; clear hB; have H := h; clear h; unfold spec_l1Pick.f at H; obtain ⟨⟨t938, t939, t940⟩, A3, H⟩ := bnd23_ H; dsimp only at H
 by_cases c4 : 0 ≤ t938
 ·
  rw [if_pos c4] at H; have c4b0 : decide (0 ≤ t938) = true := decide_eq_true c4; clear c4
  by_cases c5 : t938 < (l1.length : Int)
  ·
   rw [if_pos c5] at H; have c5b0 : decide (t938 < (l1.length : Int)) = true := decide_eq_true c5; clear c5
   simp only [Option.some.injEq, Prod.mk.injEq] at H
   obtain ⟨rfl, rfl, rfl⟩ := H
   go_enter Tryz.func230, Tryz.ntmps230
   go_wp2_with (first | ((with_reducible refine gate_callee (f := 146) rfl ?_); refine goesL_ (some 9) rfl rfl Tryz.func146 (by kernel_rfl) rfl #[.pointer (some ⟨g, 0, none⟩), .int .i64 (l1.length : Int)] rfl (by (try simp only [List.map_toArray, List.map_cons, List.map_nil]); first | done | rfl | (simp only [List.length_drop, List.length_take]; rfl)) ?_; (with_reducible refine (spec_l1Below.calls g s0_0 s0_1 s0_2 (l1.length : Int) t938 t939 t940 w0 _ ?side1 ?side2 A3.out).mono ?_); (case side1 => exact s5_); (case side2 => exact s8_); rintro e w6 ⟨rfl, hi, hb, hk⟩; refine ⟨_, rfl, ?_⟩; have n_ := ac_ (KeepBut.trans s6_ hk (.inl rfl)) <| ac_ (hb) <| Aside0.mk (hi); clear HK HB HI0; obtain ⟨HK, HB, HI0⟩ := n_; (try clear hb hk hi); have p941 : 0 ≤ (t938 : Int) := of_decide_eq_true (by first | (with_reducible assumption) | assumption); have q941 : t938 < (l1.length : Int) := of_decide_eq_true (by first | (with_reducible assumption) | assumption); obtain ⟨ad941, e941, hx941_0⟩ := Kd.at_string HR1.out t938 p941 q941; cases e941; replace hx941_0 := keep_cell HK.out hx941_0 (by first | (rw [add_block]; exact hf1 _ rfl (by omega)) | exact hf1 _ rfl (by omega) | exact hf1 ad941 rfl (by omega)); replace p941 := eq_true p941; replace q941 := eq_true q941))
   go_ret
   exact ⟨(by first | rfl | (simp [errW_none, errW_some] <;> rfl) | (simp [*, errW_none, errW_some] <;> rfl)), s5_, s8_, s6_⟩
  ·
   rw [if_neg c5] at H
   exact absurd H (by simp)
 ·
  rw [if_neg c4] at H
  exact absurd H (by simp)
def spec_l1Turned.f (s0_0 : List Int) (s0_1 : Int) (s0_2 : Int) (a1 : ByteArray) (l2 : List ByteArray) : Option (ByteArray × Int × Int) := (spec_l1Below.f s0_0 s0_1 s0_2 (wrap64 ((a1.size : Int) + 1))).bind fun bt942 => ((spec_l1Below.f s0_0 bt942.2.1 bt942.2.2 6).bind fun bt945 => (if bt945.1 = 0 then (if 0 ≤ bt942.1 then (if bt942.1 ≤ (a1.size : Int) then ((spec_l1Pick.f s0_0 bt945.2.1 bt945.2.2 l2).bind fun bt948 => (if (a1.extract 0 (bt942.1 : Int).toNat).size + bt948.1.size ≤ 9223372036854775807 then (if ((a1.extract 0 (bt942.1 : Int).toNat) ++ bt948.1).size + (a1.extract (bt942.1 : Int).toNat a1.size).size ≤ 9223372036854775807 then (some (((a1.extract 0 (bt942.1 : Int).toNat) ++ bt948.1) ++ (a1.extract (bt942.1 : Int).toNat a1.size), bt948.2.1, bt948.2.2)) else (none)) else (none))) else (none)) else (none)) else (if bt945.1 = 1 then (if 0 ≤ bt942.1 then (if bt942.1 ≤ (a1.size : Int) then (some (a1.extract 0 (bt942.1 : Int).toNat, bt945.2.1, bt945.2.2)) else (none)) else (none)) else (some (a1, bt945.2.1, bt945.2.2)))))
def spec_l1Turned.T4 : Bool × List (List Nat × List Nat) := (true, [([], []), ([], []), ([0, 1], [0, 1]), ([], []), ([], []), ([3, 4], [3, 4]), ([2, 5], [2, 5]), ([], []), ([], []), ([7, 8], [7, 8]), ([6, 9], [6, 9]), ([10, 5, 0, 1, 2, 3, 4, 5, 6, 7, 8, 9, 10], [10])])
def spec_l1Turned.B4 : List Nat := [0, 0, 3, 0, 0, 24, 63, 0, 0, 384, 1023, 2047]
theorem spec_l1Turned.tab4 : rtab .any (opsOf Tryz.f178 4) = spec_l1Turned.T4 := by kernel_rfl
theorem spec_l1Turned.bits4 : waitsOk spec_l1Turned.T4.2 spec_l1Turned.B4 = true := by kernel_rfl
theorem spec_l1Turned.calls (g : Nat) (s0_0 : List Int) (s0_1 : Int) (s0_2 : Int) (a1 : ByteArray) (A2 : Option Addr) (c2 : Nat) (l2 : List ByteArray) (r1 : ByteArray) (r2 : Int) (r3 : Int) (w0 w : World) (hI : IsS152 w0 w g s0_0 s0_1 s0_2) (hB : Below w0.heap.size w0 w) (hr2 : Kd.C Kd.string w A2 l2.length l2) (hc2 : l2.length ≤ c2) (hf2 : ∀ ad, A2 = some ad → 0 < l2.length → ad.block ≠ g) (h : spec_l1Turned.f s0_0 s0_1 s0_2 a1 l2 = some (r1, r2, r3)) :
  Calls Tryz.prog 178 #[.pointer (some ⟨g, 0, none⟩), .string a1, .slice A2 l2.length c2] w fun e w' => e = .returned (.string r1) ∧ IsS152 w0 w' g s0_0 r2 r3 ∧ Below w0.heap.size w0 w' ∧ KeepBut w w' g none := by
 have HR2 := Aside0.mk hr2; have HC2 := Aside0.mk hc2; clear hr2 hc2; have HI0 := Aside0.mk hI; have HK := Aside0.mk (KeepBut.refl w g none); have HL := Aside0.mk hB.size; clear hI; have HW0 := Aside0.mk hB.size; have HB := Aside0.mk hB; clear hB; have H := h; clear h; unfold spec_l1Turned.f at H; obtain ⟨⟨t942, t943, t944⟩, A4, H⟩ := bnd23_ H; dsimp only at H; obtain ⟨⟨t945, t946, t947⟩, A5, H⟩ := bnd23_ H; dsimp only at H
 by_cases c6 : t945 = 0
 ·
  rw [if_pos c6] at H; have c6b0 : (t945 == 0) = true := beq_iff_eq.mpr c6; have c6b1 : (t945 != 0) = false := bne_eq_false_iff_eq.mpr c6; clear c6
  by_cases c7 : 0 ≤ t942
  ·
   rw [if_pos c7] at H; have c7b0 := eq_true c7; have c7b1 : decide (0 ≤ t942) = true := decide_eq_true c7; clear c7
   by_cases c8 : t942 ≤ (a1.size : Int)
   ·
    rw [if_pos c8] at H; have c8b0 := eq_true c8; have c8b1 : decide (t942 ≤ (a1.size : Int)) = true := decide_eq_true c8; clear c8; obtain ⟨⟨t948, t949, t950⟩, A9, H⟩ := bnd23_ H; dsimp only at H
    by_cases c10 : (a1.extract 0 (t942 : Int).toNat).size + t948.size ≤ 9223372036854775807
    ·
     rw [if_pos c10] at H; have c10b0 := eq_true c10; have c10b1 : decide ((a1.extract 0 (t942 : Int).toNat).size + t948.size ≤ 9223372036854775807) = true := decide_eq_true c10
     try have c10b2 : (9223372036854775807 < (a1.extract 0 (t942 : Int).toNat).size + t948.size) = False := eq_false (Nat.not_lt.2 c10)
     have c10b9 : (9223372036854775807 < (t942 : Int).toNat + t948.size) = False := eq_false (Nat.not_lt.2 (by have h_ := c10; have h1_ : t942 ≤ (a1.size : Int) := of_decide_eq_true (by assumption); rw [ByteArray.size_extract] at h_; omega))
     have c11b0 := eq_true (of_decide_eq_true (by first | (with_reducible assumption) | assumption) : 0 ≤ t942)
     have c12b0 := eq_true (of_decide_eq_true (by first | (with_reducible assumption) | assumption) : t942 ≤ (a1.size : Int))
     by_cases c13 : ((a1.extract 0 (t942 : Int).toNat) ++ t948).size + (a1.extract (t942 : Int).toNat a1.size).size ≤ 9223372036854775807
     ·
      rw [if_pos c13] at H; have c13b0 := eq_true c13; have c13b1 : decide (((a1.extract 0 (t942 : Int).toNat) ++ t948).size + (a1.extract (t942 : Int).toNat a1.size).size ≤ 9223372036854775807) = true := decide_eq_true c13
      try have c13b2 : (9223372036854775807 < ((a1.extract 0 (t942 : Int).toNat) ++ t948).size + (a1.extract (t942 : Int).toNat a1.size).size) = False := eq_false (Nat.not_lt.2 c13)
      have c13b9 : (9223372036854775807 < (t942 : Int).toNat + t948.size + (a1.size - (t942 : Int).toNat)) = False := eq_false (Nat.not_lt.2 (by have h_ := c13; have h1_ : t942 ≤ (a1.size : Int) := of_decide_eq_true (by assumption); rw [ByteArray.size_append, ByteArray.size_extract, ByteArray.size_extract] at h_; omega))
      simp only [Option.some.injEq, Prod.mk.injEq] at H
      obtain ⟨rfl, rfl, rfl⟩ := H
      go_enter Tryz.func178, Tryz.ntmps178
      try go_wp2_with ((with_reducible refine gw_ rfl ?_); first | (refine gL_ 146 12 Tryz.func146 #[.pointer (some ⟨g, 0, none⟩), .int .i64 (wrap64 ((a1.size : Int) + 1))] ?_; (with_reducible refine (spec_l1Below.calls g s0_0 s0_1 s0_2 (wrap64 ((a1.size : Int) + 1)) t942 t943 t944 w0 _ ?side1 ?side2 A4.out).mono ?_); (case side1 => exact s5_); (case side2 => exact s8_); rintro e w14 ⟨rfl, hi, hb, hk⟩; refine ⟨_, rfl, ?_⟩; have n_ := ac_ (KeepBut.trans s6_ hk (.inl rfl)) <| ac_ (hb) <| Aside0.mk (hi); clear HK HB HI0; obtain ⟨HK, HB, HI0⟩ := n_; (try clear hb hk hi)) | (refine gL_ 146 14 Tryz.func146 #[.pointer (some ⟨g, 0, none⟩), .int .i64 6] ?_; (with_reducible refine (spec_l1Below.calls g s0_0 t943 t944 6 t945 t946 t947 w0 _ ?side1 ?side2 A5.out).mono ?_); (case side1 => exact s5_); (case side2 => exact s8_); rintro e w15 ⟨rfl, hi, hb, hk⟩; refine ⟨_, rfl, ?_⟩; have n_ := ac_ (KeepBut.trans s6_ hk (.inl rfl)) <| ac_ (hb) <| Aside0.mk (hi); clear HK HB HI0; obtain ⟨HK, HB, HI0⟩ := n_; (try clear hb hk hi)))
      have n0_ := Aside0.mk (IsS152.drew HI0.out); have n1_ := Aside0.mk (keep_drew HK.out); have n2_ := Aside0.mk (below_drew1 HB.out); clear HI0; clear HK; clear HB; have HI0 := n0_; have HK := n1_; have HB := n2_; clear n0_ n1_ n2_
      refine start_ (n := 12) (S := fun w' => True) (ds := []) (tb_ 12 0) (by kernel_rfl) rfl rfl trivial (fun hHeld => ?_); refine with_tabW spec_l1Turned.tab4 spec_l1Turned.bits4 (fun HT_ HW_ => ?_)
      generalize w15.drew = w16 at HI0 HK HB hHeld ⊢
      refine pl_ 0 17 (tb_ 12 1) ?_; refine pl_ 1 18 (tb_ 12 3) ?_; refine pl_ 2 19 (tb_ 12 7) ?_; refine pl_ 3 20 (tb_ 12 15) ?_; refine pl_ 4 21 (tb_ 12 31) ?_; refine pl_ 7 24 (tb_ 12 159) ?_; refine pl_ 8 25 (tb_ 12 415) ?_; refine pl_ 9 26 (tb_ 12 927) ?_
      refine on_ 5 22 (tb_ 12 959) (fun K hK => ?_)
      refine goes_ Tryz.func230 (by kernel_rfl) rfl #[.pointer (some ⟨g, 0, none⟩), .slice A2 l2.length c2] (by rfl) rfl rfl s0_ ?_
      with_reducible refine (spec_l1Pick.calls g s0_0 t946 t947 _ _ l2 t948 t949 t950 w0 _ ?side1 ?side2 ?side3 ?side4 ?side5 A9.out).mono ?_
      (case side1 => exact s5_)
      (case side2 => exact s8_)
      (case side3 => exact Kd.C_keep (⟨#[]⟩ : ByteArray) HR2.out s6_ hf2)
      (case side4 => exact HC2.out)
      (case side5 => exact hf2)
      rintro e w17 ⟨rfl, hi, hb, hk⟩
      refine ⟨_, rfl, ?_⟩
      have n0_ := Aside0.mk (KeepBut.trans s6_ hk (.inl rfl)); have n1_ := Aside0.mk (hb); have n2_ := Aside0.mk (hi); clear HK; clear HB; clear HI0; have HK := n0_; have HB := n1_; have HI0 := n2_; clear n0_ n1_ n2_
      (try clear hb)
      (try clear hb2)
      (try clear hk)
      (try clear hi)
      refine hK.out _ _ trivial (fun hHeld => ?_)
      clear hK K
      refine norm_ (a' := ?_) ?_ ?_
      rotate_left
      ·
       show Act.put _ (some 22) _ = _
       simp only [Act.put, List.setIfInBounds_toArray, List.set_cons_zero, List.set_cons_succ, i64_w, i32_w]
       rfl
      refine pl_ 6 23 (tb_ 12 1023) ?_; refine pl_ 10 27 (tb_ 12 2047) ?_; refine pl_ 11 6 (tb_ 12 4095) ?_
      refine done_ (done_of HT_.out (by kernel_rfl)) ?_
      try go_wp2
      go_ret
      exact ⟨s2_, s5_, s8_, s6_⟩
     ·
      rw [if_neg c13] at H
      exact absurd H (by simp)
    ·
     rw [if_neg c10] at H
     exact absurd H (by simp)
   ·
    rw [if_neg c8] at H
    exact absurd H (by simp)
  ·
   rw [if_neg c7] at H
   exact absurd H (by simp)
 ·
  rw [if_neg c6] at H; have c6b0 : (t945 == 0) = false := beq_eq_false_iff_ne.mpr c6; have c6b1 : (t945 != 0) = true := bne_iff_ne.mpr c6
  by_cases c18 : t945 = 1
  ·
   rw [if_pos c18] at H; have c18b0 : (t945 == 1) = true := beq_iff_eq.mpr c18; have c18b1 : (t945 != 1) = false := bne_eq_false_iff_eq.mpr c18; clear c18
   by_cases c19 : 0 ≤ t942
   ·
    rw [if_pos c19] at H; have c19b0 := eq_true c19; have c19b1 : decide (0 ≤ t942) = true := decide_eq_true c19; clear c19
    by_cases c20 : t942 ≤ (a1.size : Int)
    ·
     rw [if_pos c20] at H; have c20b0 := eq_true c20; have c20b1 : decide (t942 ≤ (a1.size : Int)) = true := decide_eq_true c20; clear c20
     simp only [Option.some.injEq, Prod.mk.injEq] at H
     obtain ⟨rfl, rfl, rfl⟩ := H
     go_enter Tryz.func178, Tryz.ntmps178
     go_wp2_with ((with_reducible refine gw_ rfl ?_); first | (refine gL_ 146 12 Tryz.func146 #[.pointer (some ⟨g, 0, none⟩), .int .i64 (wrap64 ((a1.size : Int) + 1))] ?_; (with_reducible refine (spec_l1Below.calls g s0_0 s0_1 s0_2 (wrap64 ((a1.size : Int) + 1)) t942 t943 t944 w0 _ ?side1 ?side2 A4.out).mono ?_); (case side1 => exact s5_); (case side2 => exact s8_); rintro e w21 ⟨rfl, hi, hb, hk⟩; refine ⟨_, rfl, ?_⟩; have n_ := ac_ (KeepBut.trans s6_ hk (.inl rfl)) <| ac_ (hb) <| Aside0.mk (hi); clear HK HB HI0; obtain ⟨HK, HB, HI0⟩ := n_; (try clear hb hk hi)) | (refine gL_ 146 14 Tryz.func146 #[.pointer (some ⟨g, 0, none⟩), .int .i64 6] ?_; (with_reducible refine (spec_l1Below.calls g s0_0 t943 t944 6 t945 t946 t947 w0 _ ?side1 ?side2 A5.out).mono ?_); (case side1 => exact s5_); (case side2 => exact s8_); rintro e w22 ⟨rfl, hi, hb, hk⟩; refine ⟨_, rfl, ?_⟩; have n_ := ac_ (KeepBut.trans s6_ hk (.inl rfl)) <| ac_ (hb) <| Aside0.mk (hi); clear HK HB HI0; obtain ⟨HK, HB, HI0⟩ := n_; (try clear hb hk hi)))
     go_ret
     exact ⟨s2_, s5_, s8_, s6_⟩
    ·
     rw [if_neg c20] at H
     exact absurd H (by simp)
   ·
    rw [if_neg c19] at H
    exact absurd H (by simp)
  ·
   rw [if_neg c18] at H; have c18b0 : (t945 == 1) = false := beq_eq_false_iff_ne.mpr c18; have c18b1 : (t945 != 1) = true := bne_iff_ne.mpr c18
   simp only [Option.some.injEq, Prod.mk.injEq] at H
   obtain ⟨rfl, rfl, rfl⟩ := H
   go_enter Tryz.func178, Tryz.ntmps178
   go_wp2_with ((with_reducible refine gw_ rfl ?_); first | (refine gL_ 146 12 Tryz.func146 #[.pointer (some ⟨g, 0, none⟩), .int .i64 (wrap64 ((a1.size : Int) + 1))] ?_; (with_reducible refine (spec_l1Below.calls g s0_0 s0_1 s0_2 (wrap64 ((a1.size : Int) + 1)) t942 t943 t944 w0 _ ?side1 ?side2 A4.out).mono ?_); (case side1 => exact s5_); (case side2 => exact s8_); rintro e w23 ⟨rfl, hi, hb, hk⟩; refine ⟨_, rfl, ?_⟩; have n_ := ac_ (KeepBut.trans s6_ hk (.inl rfl)) <| ac_ (hb) <| Aside0.mk (hi); clear HK HB HI0; obtain ⟨HK, HB, HI0⟩ := n_; (try clear hb hk hi)) | (refine gL_ 146 14 Tryz.func146 #[.pointer (some ⟨g, 0, none⟩), .int .i64 6] ?_; (with_reducible refine (spec_l1Below.calls g s0_0 t943 t944 6 t945 t946 t947 w0 _ ?side1 ?side2 A5.out).mono ?_); (case side1 => exact s5_); (case side2 => exact s8_); rintro e w24 ⟨rfl, hi, hb, hk⟩; refine ⟨_, rfl, ?_⟩; have n_ := ac_ (KeepBut.trans s6_ hk (.inl rfl)) <| ac_ (hb) <| Aside0.mk (hi); clear HK HB HI0; obtain ⟨HK, HB, HI0⟩ := n_; (try clear hb hk hi)))
   go_ret
   exact ⟨s2_, s5_, s8_, s6_⟩
theorem q23_14 {P : Prop} (h : P := by repeat (first | (with_reducible first | exact HI954.out | apply IsS152.alloc | apply IsS152.drewN | apply IsS152.drew | apply IsS152.set_1 | apply IsS152.set_2) | exact HI954.out)) : P := h
theorem q23_15 {P : Prop} (h : P := by repeat (first | (with_reducible first | exact HB.out | apply below_alloc | apply pw_below_drewN | apply below_drew1 | refine below_set ?_ (IsS152.ge HI954.out)) | exact HB.out)) : P := h
theorem q23_17 {P : Prop} (h : P := by (with_reducible repeat (first | apply Kd.R_alloc | apply Kd.R_drewN | apply Kd.R_drew)); exact HO957.out) : P := h
def spec_DrawParseRules.f (k : Nat) (l0 : List Int) : Option (ByteArray) := (spec_l1New.f k l0).bind fun bt951 => ((spec_l9Draw.f k bt951.1 bt951.2.1 bt951.2.2 4).bind fun bt955 => ((spec_RulesText.f k bt955.1).bind fun t960 => ((spec_l1Turned.f bt951.1 bt955.2.1 bt955.2.2 t960 (([(⟨#[62]⟩ : ByteArray), (⟨#[32]⟩ : ByteArray), (⟨#[45]⟩ : ByteArray), (⟨#[110, 111, 110, 101]⟩ : ByteArray), (⟨#[97, 98]⟩ : ByteArray)] : List ByteArray))).bind fun bt964 => (some bt964.1))))
theorem spec_DrawParseRules.calls (k : Nat) (A0 : Option Addr) (c0 : Nat) (l0 : List Int) (r : ByteArray) (w : World) (hr0 : Kd.C (Kd.int .u8) w A0 l0.length l0) (hc0 : l0.length ≤ c0) (h : spec_DrawParseRules.f k l0 = some r) :
  Calls Tryz.prog 73 #[.slice A0 l0.length c0] w fun e w' => e = .returned (.string r) ∧ Below w.heap.size w w' := by
 have HR0 := Aside0.mk hr0; have HC0 := Aside0.mk hc0; clear hr0 hc0; have HB := Aside0.mk (Below.refl w.heap.size w); have H := h; clear h; unfold spec_DrawParseRules.f at H; obtain ⟨⟨t951, t952, t953⟩, A2, H⟩ := bnd23_ H; dsimp only at H; obtain ⟨⟨t955, t958, t959⟩, A3, H⟩ := bnd23_ H; dsimp only at H; obtain ⟨t960, A4, H⟩ := bnd23_ H; obtain ⟨y961, hy_⟩ : ∃ y_ : List ByteArray, y_ = (([(⟨#[62]⟩ : ByteArray), (⟨#[32]⟩ : ByteArray), (⟨#[45]⟩ : ByteArray), (⟨#[110, 111, 110, 101]⟩ : ByteArray), (⟨#[97, 98]⟩ : ByteArray)] : List ByteArray)) := ⟨_, rfl⟩
 replace H : ((spec_l1Turned.f t951 t958 t959 t960 y961).bind fun bt964 => (some bt964.1)) = some r := rH_
 have Ny961 := Aside0.mk hy_; clear hy_; obtain ⟨⟨t964, t965, t966⟩, A5, H⟩ := bnd23_ H; dsimp only at H; obtain rfl := Option.some.inj H
 go_enter Tryz.func73, Tryz.ntmps73
 go_wp2_with (first | ((with_reducible refine gw_ rfl ?_); first | (refine gL_ 144 5 Tryz.func144 #[.slice A0 l0.length c0] ?_; (with_reducible refine (spec_l1New.calls k _ _ l0 t951 t952 t953 w _ ?side1 ?side2 ?side3 A2.out).mono ?_); (case side1 => repeat (first | (with_reducible first | exact HB.out | apply below_alloc | apply pw_below_drewN | apply below_drew1) | exact HB.out)); (case side2 => exact HR0.out); (case side3 => exact HC0.out); rintro e w6 ⟨g954, rfl, hi, hb, hb2⟩; refine ⟨_, rfl, ?_⟩; have n_ := ac_ (hb) <| Aside0.mk (hi); clear HB; obtain ⟨HB, HI954⟩ := n_; (try clear hb hb2 hi)) | (refine gL_ 179 8 Tryz.func179 #[.pointer (some ⟨g954, 0, none⟩), .int .i64 4] ?_; (with_reducible refine (spec_l9Draw.calls k g954 t951 t952 t953 4 t955 t958 t959 w _ ?side1 ?side2 A3.out).mono ?_); (case side1 => exact q23_14); (case side2 => exact q23_15); rintro e w7 ⟨v956, rfl, ho0, hi, hb, hk⟩; refine ⟨_, rfl, ?_⟩; have n_ := ac_ (Kd.R_lower ho0 (below_size q23_15)) <| ac_ (hb) <| Aside0.mk (hi); clear HB HI954; obtain ⟨HO957, HB, HI954⟩ := n_; (try clear hb hk hi ho0); obtain ⟨Ao8, co8, eo8⟩ := Kd.R_slice HO957.out; subst eo8) | (refine gL_ 83 9 Tryz.func83 #[.slice Ao8 t955.length co8] ?_; (with_reducible refine (spec_RulesText.calls k _ _ t955 t960 _ ?side1 ?side2 A4.out).mono ?_); (case side1 => repeat (first | exact (Kd.R_reads' HO957.out).2.2 | (with_reducible refine Kd.C_alloc ?_ _) | (with_reducible refine Kd.C_drewN ?_ _) | (with_reducible refine Kd.C_drew ?_))); (case side2 => exact (Kd.R_reads' HO957.out).2.1); rintro e w9 ⟨rfl, hb⟩; refine ⟨_, rfl, ?_⟩; have n_ := ac_ (Kd.R_below q23_17 hb) <| ac_ (IsS152.below q23_14 hb) <| Aside0.mk (below_step q23_15 hb); clear HO957 HI954 HB; obtain ⟨HO957, HI954, HB⟩ := n_; (try clear hb)) | (refine gL_ 178 11 Tryz.func178 #[.pointer (some ⟨g954, 0, none⟩), .string t960, .slice Ao12 y961.length co12] ?_; (with_reducible refine (spec_l1Turned.calls g954 t951 t958 t959 t960 _ _ y961 t964 t965 t966 w _ ?side1 ?side2 ?side3 ?side4 ?side5 A5.out).mono ?_); (case side1 => exact q23_14); (case side2 => exact q23_15); (case side3 => repeat (first | exact (Kd.R_reads' HO963.out).2.2 | (with_reducible refine Kd.C_alloc ?_ _) | (with_reducible refine Kd.C_drewN ?_ _) | (with_reducible refine Kd.C_drew ?_))); (case side4 => exact (Kd.R_reads' HO963.out).2.1); (case side5 => exact far_slice (IsS152.own_ne HI954.out HO963.out (by decide))); rintro e w13 ⟨rfl, hi, hb, hk⟩; refine ⟨_, rfl, ?_⟩; have n_ := ac_ (Kd.R_mono (Kd.R_keep (IsS152.apart (show IsS152 w _ g954 t951 t958 t959 from q23_14) q23_17 (by decide)) hk (fun _ h => h.2)) (fun _ h => h.1)) <| ac_ (Kd.R_mono (Kd.R_keep (IsS152.apart (show IsS152 w _ g954 t951 t958 t959 from q23_14) (by (with_reducible repeat (first | apply Kd.R_alloc | apply Kd.R_drewN | apply Kd.R_drew)); exact HO963.out) (by decide)) hk (fun _ h => h.2)) (fun _ h => h.1)) <| ac_ (hb) <| Aside0.mk (hi); clear HO957 HO963 HB HI954; obtain ⟨HO957, HO963, HB, HI954⟩ := n_; (try clear hb hk hi))) | ((with_reducible refine gate_dst (N := 10) rfl ?_); refine Kd.R_lit Kd.string _ 9 ?hg (N := 10) ?hd (xs := ([(⟨#[62]⟩ : ByteArray), (⟨#[32]⟩ : ByteArray), (⟨#[45]⟩ : ByteArray), (⟨#[110, 111, 110, 101]⟩ : ByteArray), (⟨#[97, 98]⟩ : ByteArray)] : List ByteArray)) (inner := [.string (⟨#[62]⟩ : ByteArray), .string (⟨#[32]⟩ : ByteArray), .string (⟨#[45]⟩ : ByteArray), .string (⟨#[110, 111, 110, 101]⟩ : ByteArray), .string (⟨#[97, 98]⟩ : ByteArray)]) (ok := fun _ => True) (okp := fun _ => True) ?hr ?hp (fun _ hk => hk) trivial (Below.refl _ _) (Nat.le_refl _) (by simp) ?_; (case hd => rfl); (case hg => rfl); (case hr => first | (go_simp; done) | (go_simp; rfl)); (case hp => exact (Reps.one (show Kd.M Kd.string _ _ _ (⟨#[62]⟩ : ByteArray) [.string (⟨#[62]⟩ : ByteArray)] from rfl) (Reps.one (show Kd.M Kd.string _ _ _ (⟨#[32]⟩ : ByteArray) [.string (⟨#[32]⟩ : ByteArray)] from rfl) (Reps.one (show Kd.M Kd.string _ _ _ (⟨#[45]⟩ : ByteArray) [.string (⟨#[45]⟩ : ByteArray)] from rfl) (Reps.one (show Kd.M Kd.string _ _ _ (⟨#[110, 111, 110, 101]⟩ : ByteArray) [.string (⟨#[110, 111, 110, 101]⟩ : ByteArray)] from rfl) (Reps.one (show Kd.M Kd.string _ _ _ (⟨#[97, 98]⟩ : ByteArray) [.string (⟨#[97, 98]⟩ : ByteArray)] from rfl) (Reps.none _ _))))))); intro v962 w10 ho11 hb hg_ hnew_; clear hg_ hnew_; (first | rw [← Ny961.out] at ho11 | (simp only [Int.reduceToNat] at ho11; rw [← Ny961.out] at ho11)); have n_ := ac_ (Kd.R_below q23_17 hb) <| ac_ (Kd.R_lower ho11 (below_size q23_15)) <| ac_ (IsS152.below q23_14 hb) <| Aside0.mk (below_step q23_15 hb); clear HO957 HI954 HB; obtain ⟨HO957, HO963, HI954, HB⟩ := n_; clear hb ho11; obtain ⟨Ao12, co12, eo12⟩ := Kd.R_slice HO963.out; subst eo12))
 go_ret
 exact ⟨(by first | rfl | (simp [errW_none, errW_some] <;> rfl) | (simp [*, errW_none, errW_some] <;> rfl)), q23_15⟩
def impl_SetText.l0 : Nat → ByteArray → List Int → Int → Int → Option (ByteArray)
 | 0, _, _, _, _ => none
 | k + 1, x3, x14, x15, x16 => if x16 < x15 then (if 0 ≤ x16 then (if x16 < (x14.length : Int) then (if 0 ≤ (rd x14 x16) then (if (rd x14 x16) ≤ (wrap64 ((rd x14 x16) + 1)) then (if (wrap64 ((rd x14 x16) + 1)) ≤ 8 then (if x3.size + ((⟨#[97, 98, 99, 100, 101, 102, 103, 104]⟩ : ByteArray).extract ((rd x14 x16) : Int).toNat ((wrap64 ((rd x14 x16) + 1)) : Int).toNat).size ≤ 9223372036854775807 then (impl_SetText.l0 k (x3 ++ ((⟨#[97, 98, 99, 100, 101, 102, 103, 104]⟩ : ByteArray).extract ((rd x14 x16) : Int).toNat ((wrap64 ((rd x14 x16) + 1)) : Int).toNat)) x14 x15 (wrap64 (x16 + 1))) else (none)) else (none)) else (none)) else (none)) else (none)) else (none)) else (some x3)
def impl_SetText.f (k : Nat) (a0 : Int) : Option (ByteArray) := (impl_isAnySet.f a0).bind fun t971 => (if t971 = true then (if a0 = 0 then (some (⟨#[45]⟩ : ByteArray)) else ((impl_ElementsOf.f k a0).bind fun t972 => (impl_SetText.l0 k (⟨#[]⟩ : ByteArray) t972 (t972.length : Int) 0))) else (some (⟨#[]⟩ : ByteArray)))
theorem impl_SetText.calls (k : Nat) (a0 : Int) (r : ByteArray) (w : World) (h : impl_SetText.f k a0 = some r) :
  Calls Tryz.prog 187 #[.int .i64 a0] w fun e w' => e = .returned (.string r) ∧ Below w.heap.size w w' := by
 have HB := Aside0.mk (Below.refl w.heap.size w); have H := h; clear h; unfold impl_SetText.f at H; obtain ⟨t971, A2, H⟩ := bnd23_ H
 by_cases c3 : t971 = true
 ·
  subst c3; rw [if_pos rfl] at H
  by_cases c4 : a0 = 0
  ·
   rw [if_pos c4] at H; have c4b0 : (a0 == 0) = true := beq_iff_eq.mpr c4; have c4b1 : (a0 != 0) = false := bne_eq_false_iff_eq.mpr c4; clear c4; obtain rfl := Option.some.inj H
   go_enter Tryz.func187, Tryz.ntmps187
   go_wp2_with ((with_reducible refine gw_ rfl ?_); (refine gL_ 177 8 Tryz.func177 #[.int .i64 a0] ?_; (with_reducible refine (impl_isAnySet.calls a0 true _ A2.out).mono ?_); rintro e w' ⟨rfl, ⟨nd, rfl⟩⟩; refine ⟨_, rfl, ?_⟩))
   go_ret
   exact ⟨s2_, s1_⟩
  ·
   rw [if_neg c4] at H; have c4b0 : (a0 == 0) = false := beq_eq_false_iff_ne.mpr c4; have c4b1 : (a0 != 0) = true := bne_iff_ne.mpr c4; obtain ⟨t972, A5, H⟩ := bnd23_ H; have H' := Aside0.mk H; clear H
   go_enter Tryz.func187, Tryz.ntmps187
   go_wp2_with ((with_reducible refine gw_ rfl ?_); first | (refine gL_ 177 8 Tryz.func177 #[.int .i64 a0] ?_; (with_reducible refine (impl_isAnySet.calls a0 true _ A2.out).mono ?_); rintro e w' ⟨rfl, ⟨nd, rfl⟩⟩; refine ⟨_, rfl, ?_⟩) | (refine gL_ 155 14 Tryz.func155 #[.int .i64 a0] ?_; (with_reducible refine (impl_ElementsOf.calls k a0 t972 _ A5.out).mono ?_); rintro e w6 ⟨v973, rfl, ho0, hb⟩; refine ⟨_, rfl, ?_⟩; have n_ := ac_ (Kd.R_lower ho0 (below_size s1_)) <| Aside0.mk (below_step s1_ hb); clear HB; obtain ⟨HO974, HB⟩ := n_; (try clear hb ho0); obtain ⟨Ao7, co7, eo7⟩ := Kd.R_slice HO974.out; subst eo7))
   go_loopg [3, 16] k (fun kq v3 v16 w' => ∃ (x3_1 : ByteArray) (x16_1 : Int), v3 = .string x3_1 ∧ v16 = .int .i64 x16_1 ∧ Aside0 (impl_SetText.l0 kq x3_1 t972 (t972.length : Int) x16_1 = some r) ∧ Aside0 (kq ≤ k) ∧ Aside0 (Kd.R (Kd.int .i64) 3 w' w.heap.size (fun _ => True) (.slice Ao7 t972.length co7) t972) ∧ Aside0 (Below w.heap.size w w'))
   case atStart => exact ⟨((⟨#[]⟩ : ByteArray)), (0), s3_, s3_, H', ⟨Nat.le_refl _⟩, ⟨(by (with_reducible repeat (first | apply Kd.R_alloc | apply Kd.R_drewN | apply Kd.R_drew)); exact HO974.out)⟩, ⟨s1_⟩⟩
   case round =>
    clear H'
    try clear c1
    try clear p2
    try clear c3
    try clear c4
    try clear c4b0
    try clear c4b1
    obtain ⟨x3_1, x16_1, rfl, rfl, HA, HK1, HO_14, HB⟩ := hrel
    cases gk with
    | zero => exact absurd HA.out (by simp [impl_SetText.l0])
    | succ k1 =>
     have H := HA.out; clear HA
     simp only [impl_SetText.l0] at H
     by_cases c8 : x16_1 < (t972.length : Int)
     ·
      rw [if_pos c8] at H; have c8b0 : decide (x16_1 < (t972.length : Int)) = true := decide_eq_true c8; clear c8
      by_cases c9 : 0 ≤ x16_1
      ·
       rw [if_pos c9] at H; have c9b0 : decide (0 ≤ x16_1) = true := decide_eq_true c9; clear c9
       by_cases c10 : x16_1 < (t972.length : Int)
       ·
        rw [if_pos c10] at H; have c10b0 : decide (x16_1 < (t972.length : Int)) = true := decide_eq_true c10; clear c10
        by_cases c11 : 0 ≤ (rd t972 x16_1)
        ·
         rw [if_pos c11] at H; have c11b0 := eq_true c11; have c11b1 : decide (0 ≤ (rd t972 x16_1)) = true := decide_eq_true c11; clear c11
         by_cases c12 : (rd t972 x16_1) ≤ (wrap64 ((rd t972 x16_1) + 1))
         ·
          rw [if_pos c12] at H; have c12b0 := eq_true c12; have c12b1 : decide ((rd t972 x16_1) ≤ (wrap64 ((rd t972 x16_1) + 1))) = true := decide_eq_true c12
          by_cases c13 : (wrap64 ((rd t972 x16_1) + 1)) ≤ 8
          ·
           rw [if_pos c13] at H; have c13b0 := eq_true c13; have c13b1 : decide ((wrap64 ((rd t972 x16_1) + 1)) ≤ 8) = true := decide_eq_true c13
           by_cases c14 : x3_1.size + ((⟨#[97, 98, 99, 100, 101, 102, 103, 104]⟩ : ByteArray).extract ((rd t972 x16_1) : Int).toNat ((wrap64 ((rd t972 x16_1) + 1)) : Int).toNat).size ≤ 9223372036854775807
           ·
            rw [if_pos c14] at H; have c14b0 := eq_true c14; have c14b1 : decide (x3_1.size + ((⟨#[97, 98, 99, 100, 101, 102, 103, 104]⟩ : ByteArray).extract ((rd t972 x16_1) : Int).toNat ((wrap64 ((rd t972 x16_1) + 1)) : Int).toNat).size ≤ 9223372036854775807) = true := decide_eq_true c14
            try have c14b2 : (9223372036854775807 < x3_1.size + ((⟨#[97, 98, 99, 100, 101, 102, 103, 104]⟩ : ByteArray).extract ((rd t972 x16_1) : Int).toNat ((wrap64 ((rd t972 x16_1) + 1)) : Int).toNat).size) = False := eq_false (Nat.not_lt.2 c14)
            have H' := Aside0.mk H; clear H
            have p975 : 0 ≤ (x16_1 : Int) := of_decide_eq_true (by first | (with_reducible assumption) | assumption)
            have q975 : x16_1 < (t972.length : Int) := of_decide_eq_true (by first | (with_reducible assumption) | assumption)
            obtain ⟨ad975, e975, hx975_0⟩ := Kd.at_int (Kd.R_reads' HO_14.out).2.2 x16_1 p975 q975
            cases e975
            replace p975 := eq_true p975; replace q975 := eq_true q975
            go_wp2
            go_roundg k1
            case measure => have := HK1.out; omega
            case rel => exact ⟨(x3_1 ++ ((⟨#[97, 98, 99, 100, 101, 102, 103, 104]⟩ : ByteArray).extract ((rd t972 x16_1) : Int).toNat ((wrap64 ((rd t972 x16_1) + 1)) : Int).toNat)), (wrap64 (x16_1 + 1)), s3_, s3_, H', ⟨by have := HK1.out; omega⟩, ⟨(by (with_reducible repeat (first | apply Kd.R_alloc | apply Kd.R_drewN | apply Kd.R_drew)); exact HO_14.out)⟩, ⟨s1_⟩⟩
           ·
            rw [if_neg c14] at H
            exact absurd H (by simp)
          ·
           rw [if_neg c13] at H
           exact absurd H (by simp)
         ·
          rw [if_neg c12] at H
          exact absurd H (by simp)
        ·
         rw [if_neg c11] at H
         exact absurd H (by simp)
       ·
        rw [if_neg c10] at H
        exact absurd H (by simp)
      ·
       rw [if_neg c9] at H
       exact absurd H (by simp)
     ·
      rw [if_neg c8] at H; have c8b0 : decide (x16_1 < (t972.length : Int)) = false := decide_eq_false c8; clear c8; obtain rfl := Option.some.inj H
      go_wp2
      go_ret
      exact ⟨s2_, s1_⟩
 ·
  replace c3 := Bool.eq_false_iff.mpr c3; subst c3
  rw [if_neg (show ¬ (false = true) by decide)] at H
  obtain rfl := Option.some.inj H
  go_enter Tryz.func187, Tryz.ntmps187
  go_wp2_with ((with_reducible refine gw_ rfl ?_); (refine gL_ 177 8 Tryz.func177 #[.int .i64 a0] ?_; (with_reducible refine (impl_isAnySet.calls a0 false _ A2.out).mono ?_); rintro e w' ⟨rfl, ⟨nd, rfl⟩⟩; refine ⟨_, rfl, ?_⟩))
  go_ret
  exact ⟨s2_, s1_⟩
def impl_ParseSet.l0 : Nat → ByteArray → Int → Option (Int × Bool)
 | 0, _, _ => none
 | k + 1, x0, x5 => if x5 < 256 then ((impl_SetText.f k x5).bind fun t976 => (if t976.toList = x0.toList then (some (x5, true)) else (impl_ParseSet.l0 k x0 (wrap64 (x5 + 1))))) else (some (0, false))
def impl_ParseSet.f (k : Nat) (a0 : ByteArray) : Option (Int × Bool) := impl_ParseSet.l0 k a0 0
theorem impl_ParseSet.calls (k : Nat) (a0 : ByteArray) (r1 : Int) (r2 : Bool) (w : World) (h : impl_ParseSet.f k a0 = some (r1, r2)) :
  Calls Tryz.prog 233 #[.string a0] w fun e w' => e = .returned (.tuple #[.int .i64 r1, .bool r2]) ∧ Below w.heap.size w w' := by
 have HB := Aside0.mk (Below.refl w.heap.size w); have H := h; clear h; unfold impl_ParseSet.f at H; have H' := Aside0.mk H; clear H
 go_enter Tryz.func233, Tryz.ntmps233
 go_wp2
 go_loopg [5] k (fun kq v5 w' => ∃ (x5_1 : Int), v5 = .int .i64 x5_1 ∧ Aside0 (impl_ParseSet.l0 kq a0 x5_1 = some (r1, r2)) ∧ Aside0 (kq ≤ k) ∧ Aside0 (Below w.heap.size w w'))
 case atStart => exact ⟨(0), rf_, H', ⟨Nat.le_refl _⟩, ⟨s1_⟩⟩
 case round =>
  clear H'; obtain ⟨x5_1, rfl, HA, HK1, HB⟩ := hrel
  cases gk with
  | zero => exact absurd HA.out (by simp [impl_ParseSet.l0])
  | succ k1 =>
   have H := HA.out; clear HA
   simp only [impl_ParseSet.l0] at H
   by_cases c2 : x5_1 < 256
   ·
    rw [if_pos c2] at H; have c2b0 : decide (x5_1 < 256) = true := decide_eq_true c2; clear c2; obtain ⟨t976, A3, H⟩ := bnd23_ H
    by_cases c4 : t976.toList = a0.toList
    ·
     rw [if_pos c4] at H; have c4b0 : (t976.toList == a0.toList) = true := beq_iff_eq.mpr c4; have c4b1 : (t976.toList != a0.toList) = false := bne_eq_false_iff_eq.mpr c4; clear c4
     simp only [Option.some.injEq, Prod.mk.injEq] at H
     obtain ⟨rfl, rfl⟩ := H
     go_wp2_with ((with_reducible refine gw_ rfl ?_); (refine gL_ 187 9 Tryz.func187 #[.int .i64 x5_1] ?_; (with_reducible refine (impl_SetText.calls k1 x5_1 t976 _ A3.out).mono ?_); rintro e w5 ⟨rfl, hb⟩; refine ⟨_, rfl, ?_⟩; have n_ := Aside0.mk (below_step s1_ hb); clear HB; have HB := n_; clear n_; (try clear hb)))
     go_ret2
     exact ⟨(by first | rfl | (simp [errW_none, errW_some] <;> rfl) | (simp [*, errW_none, errW_some] <;> rfl)), s1_⟩
    ·
     rw [if_neg c4] at H; have c4b0 : (t976.toList == a0.toList) = false := beq_eq_false_iff_ne.mpr c4; have c4b1 : (t976.toList != a0.toList) = true := bne_iff_ne.mpr c4; have H' := Aside0.mk H; clear H
     go_wp2_with ((with_reducible refine gw_ rfl ?_); (refine gL_ 187 9 Tryz.func187 #[.int .i64 x5_1] ?_; (with_reducible refine (impl_SetText.calls k1 x5_1 t976 _ A3.out).mono ?_); rintro e w6 ⟨rfl, hb⟩; refine ⟨_, rfl, ?_⟩; have n_ := Aside0.mk (below_step s1_ hb); clear HB; have HB := n_; clear n_; (try clear hb)))
     go_roundg k1
     case measure => have := HK1.out; omega
     case rel => exact ⟨(wrap64 (x5_1 + 1)), rf_, H', ⟨by have := HK1.out; omega⟩, ⟨s1_⟩⟩
   ·
    rw [if_neg c2] at H; have c2b0 : decide (x5_1 < 256) = false := decide_eq_false c2; clear c2
    simp only [Option.some.injEq, Prod.mk.injEq] at H
    obtain ⟨rfl, rfl⟩ := H
    go_wp2
    go_ret2
    exact ⟨(by first | rfl | (simp [errW_none, errW_some] <;> rfl) | (simp [*, errW_none, errW_some] <;> rfl)), s1_⟩
def spec_SplitByte.l0 : Nat → ByteArray → Int → List ByteArray → Int → Int → Option (List ByteArray)
 | 0, _, _, _, _, _ => none
 | k + 1, x0, x1, x5, x6, x7 => if x7 ≤ (x0.size : Int) then (if x7 = (x0.size : Int) then (if 0 ≤ x6 then (if x6 ≤ x7 then (if x5.length < 8796093022208 then (spec_SplitByte.l0 k x0 x1 (x5 ++ [x0.extract (x6 : Int).toNat (x7 : Int).toNat]) (wrap64 (x7 + 1)) (wrap64 (x7 + 1))) else (none)) else (none)) else (none)) else (if 0 ≤ x7 then (if x7 < (x0.size : Int) then (if (bt x0 x7) = x1 then (if 0 ≤ x6 then (if x6 ≤ x7 then (if x5.length < 8796093022208 then (spec_SplitByte.l0 k x0 x1 (x5 ++ [x0.extract (x6 : Int).toNat (x7 : Int).toNat]) (wrap64 (x7 + 1)) (wrap64 (x7 + 1))) else (none)) else (none)) else (none)) else (spec_SplitByte.l0 k x0 x1 x5 x6 (wrap64 (x7 + 1)))) else (none)) else (none))) else (some x5)
def spec_SplitByte.f (k : Nat) (a0 : ByteArray) (a1 : Int) : Option (List ByteArray) := spec_SplitByte.l0 k a0 a1 (([] : List ByteArray)) 0 0
theorem spec_SplitByte.calls (k : Nat) (a0 : ByteArray) (a1 : Int) (r : List ByteArray) (w : World) (h : spec_SplitByte.f k a0 a1 = some r) :
  Calls Tryz.prog 182 #[.string a0, .int .u8 a1] w fun e w' => ∃ v0_ : Value, e = .returned (v0_) ∧ Kd.R Kd.string 9 w' w.heap.size (fun _ => True) v0_ r ∧ Below w.heap.size w w' := by
 have HB := Aside0.mk (Below.refl w.heap.size w); have H := h; clear h; unfold spec_SplitByte.f at H; obtain ⟨y999, hy_⟩ : ∃ y_ : List ByteArray, y_ = (([] : List ByteArray)) := ⟨_, rfl⟩
 replace H : (spec_SplitByte.l0 k a0 a1 y999 0 0) = some r := rH_
 have Ny999 := Aside0.mk hy_; clear hy_; have H' := Aside0.mk H; clear H
 go_enter Tryz.func182, Tryz.ntmps182
 go_wp2_with (first | ((with_reducible refine gate_dst (N := 8) rfl ?_); refine Kd.R_lit Kd.string _ 9 ?hg (N := 8) ?hd (xs := ([] : List ByteArray)) (inner := []) (ok := fun _ => True) (okp := fun _ => True) ?hr ?hp (fun _ hk => hk) trivial (Below.refl _ _) (Nat.le_refl _) (by simp) ?_; (case hd => rfl); (case hg => rfl); (case hr => first | (go_simp; done) | (go_simp; rfl)); (case hp => exact (Reps.none _ _)); intro v1000 w3 ho4 hb hg_ hnew_; clear hg_ hnew_; (first | rw [← Ny999.out] at ho4 | (simp only [Int.reduceToNat] at ho4; rw [← Ny999.out] at ho4)); have n_ := ac_ (Kd.R_lower ho4 (below_size s1_)) <| Aside0.mk (below_step s1_ hb); clear HB; obtain ⟨HO1001, HB⟩ := n_; clear hb ho4))
 go_loopg [5, 6, 7] k (fun kq v5 v6 v7 w' => ∃ (x5_1 : List ByteArray) (x6_1 : Int) (x7_1 : Int), v6 = .int .i64 x6_1 ∧ v7 = .int .i64 x7_1 ∧ Aside0 (spec_SplitByte.l0 kq a0 a1 x5_1 x6_1 x7_1 = some r) ∧ Aside0 (kq ≤ k) ∧ Aside0 (Kd.R Kd.string 9 w' w.heap.size (fun _ => True) v5 x5_1) ∧ Aside0 (Below w.heap.size w w'))
 case atStart => exact ⟨(y999), (0), (0), s3_, s3_, H', ⟨Nat.le_refl _⟩, ⟨(by (with_reducible repeat (first | apply Kd.R_alloc | apply Kd.R_drewN | apply Kd.R_drew)); exact HO1001.out)⟩, ⟨s1_⟩⟩
 case round =>
  clear H'
  try clear c1
  try clear p2
  obtain ⟨x5_1, x6_1, x7_1, rfl, rfl, HA, HK1, HO_5, HB⟩ := hrel
  cases gk with
  | zero => exact absurd HA.out (by simp [spec_SplitByte.l0])
  | succ k1 =>
   have H := HA.out; clear HA
   simp only [spec_SplitByte.l0] at H
   by_cases c5 : x7_1 ≤ (a0.size : Int)
   ·
    rw [if_pos c5] at H; have c5b0 : decide (x7_1 ≤ (a0.size : Int)) = true := decide_eq_true c5; clear c5
    by_cases c6 : x7_1 = (a0.size : Int)
    ·
     rw [if_pos c6] at H; have c6b0 : (x7_1 == (a0.size : Int)) = true := beq_iff_eq.mpr c6; have c6b1 : (x7_1 != (a0.size : Int)) = false := bne_eq_false_iff_eq.mpr c6; clear c6
     by_cases c7 : 0 ≤ x6_1
     ·
      rw [if_pos c7] at H; have c7b0 := eq_true c7; have c7b1 : decide (0 ≤ x6_1) = true := decide_eq_true c7; clear c7
      by_cases c8 : x6_1 ≤ x7_1
      ·
       rw [if_pos c8] at H; have c8b0 := eq_true c8; have c8b1 : decide (x6_1 ≤ x7_1) = true := decide_eq_true c8; clear c8; have c9b0 := eq_true (of_decide_eq_true s4_ : x7_1 ≤ (a0.size : Int))
       by_cases c10 : x5_1.length < 8796093022208
       ·
        rw [if_pos c10] at H; have LMc10 := Aside0.mk c10; clear c10; obtain ⟨y1002, hy_⟩ : ∃ y_ : List ByteArray, y_ = (x5_1 ++ [a0.extract (x6_1 : Int).toNat (x7_1 : Int).toNat]) := ⟨_, rfl⟩
        replace H : (spec_SplitByte.l0 k1 a0 a1 y1002 (wrap64 (x7_1 + 1)) (wrap64 (x7_1 + 1))) = some r := rH_
        have Ny1002 := Aside0.mk hy_; clear hy_; have H' := Aside0.mk H; clear H
        go_wp2_with (first | ((with_reducible refine gate_builtin (b := .append) (xs := #[.tmp 26, .tmp 31]) rfl ?_); at_builtin; refine Kd.R_append Kd.string (w0 := w) w.heap.size rfl (.tmp 26) (.tmp 31) 132 9 (.string ⟨#[]⟩) 16 rfl Tryz.underlying132 info9 rfl (by decide) (by omega) u5 x5_1 (a0.extract (x6_1 : Int).toNat (x7_1 : Int).toNat) [.string (a0.extract (x6_1 : Int).toNat (x7_1 : Int).toNat)] (fun _ => True) (fun _ => False) rfl rfl ?aP (fun _ hk => hk.elim) ?aF ?aO ?aB ?aS ?aL ?_; (case aP => exact rfl); (case aB => exact s1_); (case aF => exact (fun _ _ => trivial)); (case aO => exact s13_); (case aS => exact (below_size s1_)); (case aL => have := LMc10.out; omega); intro v1003 w11 ho hb hg hat; rw [← Ny1002.out] at ho; have n_ := ac_ (hb) <| Aside0.mk (ho); clear HB HO_5; obtain ⟨HB, HO1004⟩ := n_; clear ho hb hg hat))
        go_roundg k1
        case measure => have := HK1.out; omega
        case rel => exact ⟨(y1002), (wrap64 (x7_1 + 1)), (wrap64 (x7_1 + 1)), s3_, s3_, H', ⟨by have := HK1.out; omega⟩, ⟨(by (with_reducible repeat (first | apply Kd.R_alloc | apply Kd.R_drewN | apply Kd.R_drew)); exact HO1004.out)⟩, ⟨s1_⟩⟩
       ·
        rw [if_neg c10] at H
        exact absurd H (by simp)
      ·
       rw [if_neg c8] at H
       exact absurd H (by simp)
     ·
      rw [if_neg c7] at H
      exact absurd H (by simp)
    ·
     rw [if_neg c6] at H; have c6b0 : (x7_1 == (a0.size : Int)) = false := beq_eq_false_iff_ne.mpr c6; have c6b1 : (x7_1 != (a0.size : Int)) = true := bne_iff_ne.mpr c6
     by_cases c12 : 0 ≤ x7_1
     ·
      rw [if_pos c12] at H; have c12b0 : decide (0 ≤ x7_1) = true := decide_eq_true c12; clear c12
      by_cases c13 : x7_1 < (a0.size : Int)
      ·
       rw [if_pos c13] at H; have c13b0 : decide (x7_1 < (a0.size : Int)) = true := decide_eq_true c13; clear c13
       by_cases c15 : (bt a0 x7_1) = a1
       ·
        rw [if_pos c15] at H; have c15b0 : ((bt a0 x7_1) == a1) = true := beq_iff_eq.mpr c15; have c15b1 : ((bt a0 x7_1) != a1) = false := bne_eq_false_iff_eq.mpr c15; clear c15
        by_cases c16 : 0 ≤ x6_1
        ·
         rw [if_pos c16] at H; have c16b0 := eq_true c16; have c16b1 : decide (0 ≤ x6_1) = true := decide_eq_true c16; clear c16
         by_cases c17 : x6_1 ≤ x7_1
         ·
          rw [if_pos c17] at H; have c17b0 := eq_true c17; have c17b1 : decide (x6_1 ≤ x7_1) = true := decide_eq_true c17; clear c17; have c18b0 := eq_true (of_decide_eq_true s4_ : x7_1 ≤ (a0.size : Int))
          by_cases c19 : x5_1.length < 8796093022208
          ·
           rw [if_pos c19] at H; have LMc19 := Aside0.mk c19; clear c19; obtain ⟨y1005, hy_⟩ : ∃ y_ : List ByteArray, y_ = (x5_1 ++ [a0.extract (x6_1 : Int).toNat (x7_1 : Int).toNat]) := ⟨_, rfl⟩
           replace H : (spec_SplitByte.l0 k1 a0 a1 y1005 (wrap64 (x7_1 + 1)) (wrap64 (x7_1 + 1))) = some r := rH_
           have Ny1005 := Aside0.mk hy_; clear hy_; have H' := Aside0.mk H; clear H; have p14 : 0 ≤ (x7_1 : Int) := of_decide_eq_true s4_; have q14 : x7_1 < (a0.size : Int) := of_decide_eq_true s4_; have hx14 := bt_at a0 x7_1; replace p14 := eq_true p14; replace q14 := eq_true q14
           go_wp2_with (first | ((with_reducible refine gate_builtin (b := .append) (xs := #[.tmp 26, .tmp 31]) rfl ?_); at_builtin; refine Kd.R_append Kd.string (w0 := w) w.heap.size rfl (.tmp 26) (.tmp 31) 132 9 (.string ⟨#[]⟩) 16 rfl Tryz.underlying132 info9 rfl (by decide) (by omega) u5 x5_1 (a0.extract (x6_1 : Int).toNat (x7_1 : Int).toNat) [.string (a0.extract (x6_1 : Int).toNat (x7_1 : Int).toNat)] (fun _ => True) (fun _ => False) rfl rfl ?aP (fun _ hk => hk.elim) ?aF ?aO ?aB ?aS ?aL ?_; (case aP => exact rfl); (case aB => exact s1_); (case aF => exact (fun _ _ => trivial)); (case aO => exact s13_); (case aS => exact (below_size s1_)); (case aL => have := LMc19.out; omega); intro v1006 w20 ho hb hg hat; rw [← Ny1005.out] at ho; have n_ := ac_ (hb) <| Aside0.mk (ho); clear HB HO_5; obtain ⟨HB, HO1007⟩ := n_; clear ho hb hg hat))
           go_roundg k1
           case measure => have := HK1.out; omega
           case rel => exact ⟨(y1005), (wrap64 (x7_1 + 1)), (wrap64 (x7_1 + 1)), s3_, s3_, H', ⟨by have := HK1.out; omega⟩, ⟨(by (with_reducible repeat (first | apply Kd.R_alloc | apply Kd.R_drewN | apply Kd.R_drew)); exact HO1007.out)⟩, ⟨s1_⟩⟩
          ·
           rw [if_neg c19] at H
           exact absurd H (by simp)
         ·
          rw [if_neg c17] at H
          exact absurd H (by simp)
        ·
         rw [if_neg c16] at H
         exact absurd H (by simp)
       ·
        rw [if_neg c15] at H; have c15b0 : ((bt a0 x7_1) == a1) = false := beq_eq_false_iff_ne.mpr c15; have c15b1 : ((bt a0 x7_1) != a1) = true := bne_iff_ne.mpr c15; have H' := Aside0.mk H; clear H; have p14 : 0 ≤ (x7_1 : Int) := of_decide_eq_true s4_; have q14 : x7_1 < (a0.size : Int) := of_decide_eq_true s4_; have hx14 := bt_at a0 x7_1; replace p14 := eq_true p14; replace q14 := eq_true q14
        go_wp2
        go_roundg k1
        case measure => have := HK1.out; omega
        case rel => exact ⟨(x5_1), (x6_1), (wrap64 (x7_1 + 1)), s3_, s3_, H', ⟨by have := HK1.out; omega⟩, ⟨s13_⟩, ⟨s1_⟩⟩
      ·
       rw [if_neg c13] at H
       exact absurd H (by simp)
     ·
      rw [if_neg c12] at H
      exact absurd H (by simp)
   ·
    rw [if_neg c5] at H; have c5b0 : decide (x7_1 ≤ (a0.size : Int)) = false := decide_eq_false c5; clear c5; obtain rfl := Option.some.inj H
    go_wp2
    go_ret
    exact ⟨_, (by first | rfl | (simp [errW_none, errW_some] <;> rfl) | (simp [*, errW_none, errW_some] <;> rfl)), s13_, s1_⟩
mutual
def spec_ParseSet.l0 : Nat → ByteArray → Int → Int → Option (Int × Bool)
 | 0, _, _, _ => none
 | k + 1, x0, x4, x5 => if x5 < (x0.size : Int) then (spec_ParseSet.j1 k x0 x4 x5 (x0.toList != ([45] : List UInt8))) else (spec_ParseSet.j1 k x0 x4 x5 false)
def spec_ParseSet.j1 : Nat → ByteArray → Int → Int → Bool → Option (Int × Bool)
 | 0, _, _, _, _ => none
 | k + 1, x0, x4, x5, x13 => if x13 = true then (if 0 ≤ x5 then (if x5 < (x0.size : Int) then (if (bt x0 x5) < 97 then (some (0, false)) else (if (bt x0 x5) > 104 then (some (0, false)) else (spec_ParseSet.l0 k x0 (Go.bits .or .i64 x4 (shl .i64 1 (((bt x0 x5) - 97) % 256))) (wrap64 (x5 + 1))))) else (none)) else (none)) else ((spec_SetText.f k x4).bind fun t1008 => (if t1008.toList = x0.toList then (some (x4, true)) else (some (0, false))))
end
def spec_ParseSet.f (k : Nat) (a0 : ByteArray) : Option (Int × Bool) := spec_ParseSet.l0 k a0 0 0
theorem spec_ParseSet.calls (k : Nat) (a0 : ByteArray) (r1 : Int) (r2 : Bool) (w : World) (h : spec_ParseSet.f k a0 = some (r1, r2)) :
  Calls Tryz.prog 234 #[.string a0] w fun e w' => e = .returned (.tuple #[.int .i64 r1, .bool r2]) ∧ Below w.heap.size w w' := by
 have HB := Aside0.mk (Below.refl w.heap.size w); have H := h; clear h; unfold spec_ParseSet.f at H; have H' := Aside0.mk H; clear H
 go_enter Tryz.func234, Tryz.ntmps234
 go_wp2
 go_loopg [4, 5] k (fun kq v4 v5 w' => ∃ (x4_1 : Int) (x5_1 : Int), v4 = .int .i64 x4_1 ∧ v5 = .int .i64 x5_1 ∧ Aside0 (spec_ParseSet.l0 kq a0 x4_1 x5_1 = some (r1, r2)) ∧ Aside0 (kq ≤ k) ∧ Aside0 (Below w.heap.size w w'))
 case atStart => exact ⟨(0), (0), s3_, s3_, H', ⟨Nat.le_refl _⟩, ⟨s1_⟩⟩
 case round =>
  clear H'; obtain ⟨x4_1, x5_1, rfl, rfl, HA, HK1, HB⟩ := hrel
  cases gk with
  | zero => exact absurd HA.out (by simp [spec_ParseSet.l0])
  | succ k1 =>
   have H := HA.out; clear HA
   simp only [spec_ParseSet.l0] at H
   have HC2 := Aside0.mk H; clear H
   go_upto_region 3 with (fail)
   go_cut [13] (fun v13 wc => ∃ (kq : Nat) (x13_1 : Bool), v13 = .bool x13_1 ∧ Aside0 (spec_ParseSet.j1 kq a0 x4_1 x5_1 x13_1 = some (r1, r2)) ∧ Aside0 (kq ≤ k1) ∧ Aside0 (Below w.heap.size w wc))
   case first =>
    have H := HC2.out; clear HC2
    by_cases c3 : x5_1 < (a0.size : Int)
    ·
     rw [if_pos c3] at H; have c3b0 : decide (x5_1 < (a0.size : Int)) = true := decide_eq_true c3; clear c3
     (first | rw [c3b0] | (simp only [i64_w, i32_w]; rw [c3b0]) | skip)
     have H' := Aside0.mk H; clear H
     go_wp2
     go_meet
     case rel => exact ⟨_, ((a0.toList != ([45] : List UInt8))), s3_, H', ⟨by have := HK1.out; first | omega | exact Nat.le_refl _⟩, ⟨s1_⟩⟩
    ·
     rw [if_neg c3] at H; have c3b0 : decide (x5_1 < (a0.size : Int)) = false := decide_eq_false c3; clear c3
     (first | rw [c3b0] | (simp only [i64_w, i32_w]; rw [c3b0]) | skip)
     have H' := Aside0.mk H; clear H
     go_wp2
     go_meet
     case rel => exact ⟨_, (false), s3_, H', ⟨by have := HK1.out; first | omega | exact Nat.le_refl _⟩, ⟨s1_⟩⟩
   case rest =>
    clear HC2
    try clear c2
    try clear p2
    try clear c3
    try clear c3b0
    obtain ⟨kq, x13_1, rfl, HA, HJ1, HB⟩ := hcut
    cases kq with
    | zero => exact absurd HA.out (by simp [spec_ParseSet.j1])
    | succ kj1 =>
     have H := HA.out; clear HA
     simp only [spec_ParseSet.j1] at H
     by_cases c4 : x13_1 = true
     ·
      subst c4; rw [if_pos rfl] at H
      by_cases c5 : 0 ≤ x5_1
      ·
       rw [if_pos c5] at H; have c5b0 : decide (0 ≤ x5_1) = true := decide_eq_true c5; clear c5
       by_cases c6 : x5_1 < (a0.size : Int)
       ·
        rw [if_pos c6] at H; have c6b0 : decide (x5_1 < (a0.size : Int)) = true := decide_eq_true c6; clear c6
        by_cases c8 : (bt a0 x5_1) < 97
        ·
         rw [if_pos c8] at H; have c8b0 : decide ((bt a0 x5_1) < 97) = true := decide_eq_true c8; clear c8
         simp only [Option.some.injEq, Prod.mk.injEq] at H
         obtain ⟨rfl, rfl⟩ := H; have p7 : 0 ≤ (x5_1 : Int) := of_decide_eq_true s4_; have q7 : x5_1 < (a0.size : Int) := of_decide_eq_true s4_; have hx7 := bt_at a0 x5_1; replace p7 := eq_true p7; replace q7 := eq_true q7
         go_wp2
         go_ret2
         exact ⟨s2_, s1_⟩
        ·
         rw [if_neg c8] at H; have c8b0 : decide ((bt a0 x5_1) < 97) = false := decide_eq_false c8; clear c8
         by_cases c10 : (bt a0 x5_1) > 104
         ·
          rw [if_pos c10] at H; have c10b0 : decide (104 < (bt a0 x5_1)) = true := decide_eq_true c10; clear c10
          simp only [Option.some.injEq, Prod.mk.injEq] at H
          obtain ⟨rfl, rfl⟩ := H; have p7 : 0 ≤ (x5_1 : Int) := of_decide_eq_true s4_; have q7 : x5_1 < (a0.size : Int) := of_decide_eq_true s4_; have hx7 := bt_at a0 x5_1; replace p7 := eq_true p7; replace q7 := eq_true q7; have p9 : 0 ≤ (x5_1 : Int) := of_decide_eq_true s4_; have q9 : x5_1 < (a0.size : Int) := of_decide_eq_true s4_; have hx9 := bt_at a0 x5_1; replace p9 := eq_true p9; replace q9 := eq_true q9
          go_wp2
          go_ret2
          exact ⟨s2_, s1_⟩
         ·
          rw [if_neg c10] at H; have c10b0 : decide (104 < (bt a0 x5_1)) = false := decide_eq_false c10; clear c10; obtain ⟨ji12, hji12⟩ : ∃ j_ : Int, (shl .i64 1 (((bt a0 x5_1) - 97) % 256)) = j_ := ⟨_, rfl⟩
          have hji12n : (0 : Int) ≤ ((bt a0 x5_1) - 97) % 256 := Int.emod_nonneg _ (by decide)
          have hji12n1 : decide (((bt a0 x5_1) - 97) % 256 < 0) = false := decide_eq_false (by omega)
          have hji12n2 : (((bt a0 x5_1) - 97) % 256 < 0) = False := eq_false (by omega)
          replace hji12n := eq_true hji12n
          replace H : (spec_ParseSet.l0 kj1 a0 (Go.bits .or .i64 x4_1 (ji12)) (wrap64 (x5_1 + 1))) = some (r1, r2) := by first | (rw [hji12] at H; exact H) | (simp only [hji12] at H ⊢; exact H)
          have hji12_ : (IntKind.i64.wrap (1 * 2 ^ min (((bt a0 x5_1) - 97) % 256).toNat 64)) = ji12 := hji12; have hji12z : (((bt a0 x5_1) - 97) % 256) ≤ 64 → (IntKind.i64.wrap (1 * 2 ^ (((bt a0 x5_1) - 97) % 256).toNat)) = ji12 := shl_small hji12
          have hji12u : (IntKind.i64.wrap (2 ^ min (((bt a0 x5_1) - 97) % 256).toNat 64)) = ji12 := by have h_ := hji12_; rw [Int.one_mul] at h_; exact h_
          have hji12v : (((bt a0 x5_1) - 97) % 256) ≤ 64 → (IntKind.i64.wrap (2 ^ (((bt a0 x5_1) - 97) % 256).toNat)) = ji12 := fun hle_ => by have h_ := hji12z hle_; rw [Int.one_mul] at h_; exact h_
          have hji12y : (wrap64 (1 * 2 ^ min (((bt a0 x5_1) - 97) % 256).toNat 64)) = ji12 := (i64_w _).symm.trans hji12_
          have hji12x : (((bt a0 x5_1) - 97) % 256) ≤ 64 → (wrap64 (1 * 2 ^ (((bt a0 x5_1) - 97) % 256).toNat)) = ji12 := fun h_ => (i64_w _).symm.trans (hji12z h_)
          have H' := Aside0.mk H; clear H; have p7 : 0 ≤ (x5_1 : Int) := of_decide_eq_true s4_; have q7 : x5_1 < (a0.size : Int) := of_decide_eq_true s4_; have hx7 := bt_at a0 x5_1; replace p7 := eq_true p7; replace q7 := eq_true q7; have p9 : 0 ≤ (x5_1 : Int) := of_decide_eq_true s4_; have q9 : x5_1 < (a0.size : Int) := of_decide_eq_true s4_; have hx9 := bt_at a0 x5_1; replace p9 := eq_true p9; replace q9 := eq_true q9; have p11 : 0 ≤ (x5_1 : Int) := of_decide_eq_true s4_; have q11 : x5_1 < (a0.size : Int) := of_decide_eq_true s4_; have hx11 := bt_at a0 x5_1; replace p11 := eq_true p11; replace q11 := eq_true q11
          go_wp2
          go_roundg kj1
          case measure => have := HK1.out; have := HJ1.out; omega
          case rel => exact ⟨(Go.bits .or .i64 x4_1 (ji12)), (wrap64 (x5_1 + 1)), (by first | rfl | (simp; done) | (simp only [← hji12] <;> (first | rfl | simp)) | (simp [*]; done)), s3_, H', ⟨by have := HK1.out; have := HJ1.out; omega⟩, ⟨s1_⟩⟩
       ·
        rw [if_neg c6] at H
        exact absurd H (by simp)
      ·
       rw [if_neg c5] at H
       exact absurd H (by simp)
     ·
      replace c4 := Bool.eq_false_iff.mpr c4; subst c4
      rw [if_neg (show ¬ (false = true) by decide)] at H
      obtain ⟨t1008, A13, H⟩ := bnd23_ H
      by_cases c14 : t1008.toList = a0.toList
      ·
       rw [if_pos c14] at H; have c14b0 : (t1008.toList == a0.toList) = true := beq_iff_eq.mpr c14; have c14b1 : (t1008.toList != a0.toList) = false := bne_eq_false_iff_eq.mpr c14; clear c14
       simp only [Option.some.injEq, Prod.mk.injEq] at H
       obtain ⟨rfl, rfl⟩ := H
       go_wp2_with ((with_reducible refine gw_ rfl ?_); (refine gL_ 188 35 Tryz.func188 #[.int .i64 x4_1] ?_; (with_reducible refine (spec_SetText.calls kj1 x4_1 t1008 _ A13.out).mono ?_); rintro e w15 ⟨rfl, hb⟩; refine ⟨_, rfl, ?_⟩; have n_ := Aside0.mk (below_step s1_ hb); clear HB; have HB := n_; clear n_; (try clear hb)))
       go_ret2
       exact ⟨s2_, s1_⟩
      ·
       rw [if_neg c14] at H; have c14b0 : (t1008.toList == a0.toList) = false := beq_eq_false_iff_ne.mpr c14; have c14b1 : (t1008.toList != a0.toList) = true := bne_iff_ne.mpr c14
       simp only [Option.some.injEq, Prod.mk.injEq] at H
       obtain ⟨rfl, rfl⟩ := H
       go_wp2_with ((with_reducible refine gw_ rfl ?_); (refine gL_ 188 35 Tryz.func188 #[.int .i64 x4_1] ?_; (with_reducible refine (spec_SetText.calls kj1 x4_1 t1008 _ A13.out).mono ?_); rintro e w16 ⟨rfl, hb⟩; refine ⟨_, rfl, ?_⟩; have n_ := Aside0.mk (below_step s1_ hb); clear HB; have HB := n_; clear n_; (try clear hb)))
       go_ret2
       exact ⟨s2_, s1_⟩
theorem bnd24_ {α β : Type} {o : Option α} {f : α → Option β} {r : β} (h : o.bind f = some r) : ∃ a, Aside0 (o = some a) ∧ f a = some r := by
 obtain ⟨a, h1, h2⟩ := Option.bind_eq_some_iff.mp h
 exact ⟨a, ⟨h1⟩, h2⟩
theorem q24_1 {P : Prop} (h : P := by (with_reducible repeat (first | refine blk_drewN ?_ _ | refine blk_drew ?_ | refine blk_alloc ?_ _)); refine blk_put (cs := #[.int .i64 0, .int .i64 0]) ?_ 1 _ rfl; (with_reducible repeat (first | refine blk_drewN ?_ _ | refine blk_drew ?_ | refine blk_alloc ?_ _)); refine blk_put (cs := #[.int .i64 0, .int .i64 0]) ?_ 0 _ rfl; (with_reducible repeat (first | refine blk_drewN ?_ _ | refine blk_drew ?_ | refine blk_alloc ?_ _)); exact BK1009.out) : P := h
theorem q24_2 {P : Prop} (h : P := by repeat (first | (with_reducible first | exact HB.out | apply below_alloc | apply pw_below_drewN | apply below_drew1 | refine below_set ?_ GE1009.out) | exact HB.out)) : P := h
theorem q24_5 {P : Prop} (h : P := by (with_reducible repeat (first | refine blk_drewN ?_ _ | refine blk_drew ?_ | refine blk_alloc ?_ _)); exact BK1009.out) : P := h
theorem q24_6 {P : Prop} (h : P := by (with_reducible repeat (first | apply Kd.R_alloc | apply Kd.R_drewN | apply Kd.R_drew)); exact HO1012.out) : P := h
def spec_ParseRule.f (k : Nat) (a0 : ByteArray) : Option (Int × Int × Bool) := (spec_SplitByte.f k a0 62).bind fun t1010 => (if (t1010.length : Int) = 2 then (if 0 < (t1010.length : Int) then ((spec_ParseSet.f k (rdOf ByteArray.empty t1010 0)).bind fun bt1014 => (if 1 < (t1010.length : Int) then ((spec_ParseSet.f k (rdOf ByteArray.empty t1010 1)).bind fun bt1017 => (if bt1014.2 = true then (if bt1017.2 = true then (some (bt1014.1, bt1017.1, true)) else (some (0, 0, false))) else (some (0, 0, false)))) else (none))) else (none)) else (some (0, 0, false)))
theorem spec_ParseRule.calls (k : Nat) (a0 : ByteArray) (r1 : Int) (r2 : Int) (r3 : Bool) (w : World) (h : spec_ParseRule.f k a0 = some (r1, r2, r3)) :
  Calls Tryz.prog 183 #[.string a0] w fun e w' => e = .returned (.tuple #[.agg #[.int .i64 r1, .int .i64 r2], .bool r3]) ∧ Below w.heap.size w w' := by
 have hu48 := Tryz.underlying48; have HB := Aside0.mk (Below.refl w.heap.size w); have H := h; clear h; unfold spec_ParseRule.f at H; obtain ⟨t1010, A2, H⟩ := bnd24_ H
 by_cases c3 : (t1010.length : Int) = 2
 ·
  rw [if_pos c3] at H; have c3b0 : ((t1010.length : Int) == 2) = true := beq_iff_eq.mpr c3; have c3b1 : ((t1010.length : Int) != 2) = false := bne_eq_false_iff_eq.mpr c3; clear c3
  by_cases c4 : 0 < (t1010.length : Int)
  ·
   rw [if_pos c4] at H; have c4b0 : decide (0 < (t1010.length : Int)) = true := decide_eq_true c4
   have c4b1 : decide (0 < t1010.length) = true := decide_eq_true (by omega)
   clear c4; obtain ⟨⟨t1014, t1015⟩, A5, H⟩ := bnd24_ H; dsimp only at H
   by_cases c6 : 1 < (t1010.length : Int)
   ·
    rw [if_pos c6] at H; have c6b0 : decide (1 < (t1010.length : Int)) = true := decide_eq_true c6
    have c6b1 : decide (1 < t1010.length) = true := decide_eq_true (by omega)
    clear c6; obtain ⟨⟨t1017, t1018⟩, A7, H⟩ := bnd24_ H; dsimp only at H
    by_cases c8 : t1015 = true
    ·
     subst c8; rw [if_pos rfl] at H
     by_cases c9 : t1018 = true
     ·
      subst c9; rw [if_pos rfl] at H
      simp only [Option.some.injEq, Prod.mk.injEq] at H
      obtain ⟨rfl, rfl, rfl⟩ := H
      go_enter Tryz.func183, Tryz.ntmps183
      go_wp2_with ((with_reducible refine gw_ rfl ?_); first | (refine be_ 2 #[.int .i64 0, .int .i64 0] 48 ?_; intro gb1009 hg w10 hbox hb; have n_ := ac_ (below_step s1_ hb) <| ac_ (hbox) <| ac_ ((gz_ w hg s1_)) <| Aside0.mk ((gz_ w hg s1_)); clear HB; obtain ⟨HB, BK1009, GW1009, GE1009⟩ := n_; clear hb hbox hg) | (refine gL_ 182 10 Tryz.func182 #[.string a0, .int .u8 62] ?_; (with_reducible refine (spec_SplitByte.calls k a0 62 t1010 _ A2.out).mono ?_); rintro e w11 ⟨v1011, rfl, ho0, hb⟩; refine ⟨_, rfl, ?_⟩; have n_ := ac_ (Kd.R_lower ho0 (below_size q24_2)) <| ac_ (blk_below (g := gb1009) (o := .cells #[.int .i64 0, .int .i64 0] 48 (0, 0)) q24_5 hb) <| Aside0.mk (below_step q24_2 hb); clear BK1009 HB; obtain ⟨HO1012, BK1009, HB⟩ := n_; (try clear hb ho0); obtain ⟨Ao12, co12, eo12⟩ := Kd.R_slice HO1012.out; subst eo12; have p1013 : 0 ≤ (0 : Int) := (by omega); have q1013 : 0 < (t1010.length : Int) := of_decide_eq_true s4_; obtain ⟨ad1013, e1013, hx1013_0⟩ := Kd.at_string (Kd.R_reads' HO1012.out).2.2 0 p1013 q1013; cases e1013; have qi1013 : (0 < t1010.length) = True := eq_true (by omega); (try rw [show ((0 : Int)).toNat = 0 from rfl] at hx1013_0); (try rw [Addr.add_zero'] at hx1013_0); replace p1013 := eq_true p1013; replace q1013 := eq_true q1013) | (refine gL_ 234 19 Tryz.func234 #[.string (rdOf ByteArray.empty t1010 0)] ?_; (with_reducible refine (spec_ParseSet.calls k (rdOf ByteArray.empty t1010 0) t1014 true _ A5.out).mono ?_); rintro e w13 ⟨rfl, hb⟩; refine ⟨_, rfl, ?_⟩; have n_ := ac_ (Kd.R_below q24_6 hb) <| ac_ (blk_below (g := gb1009) (o := .cells #[.int .i64 0, .int .i64 0] 48 (0, 0)) q24_5 hb) <| Aside0.mk (below_step q24_2 hb); clear HO1012 BK1009 HB; obtain ⟨HO1012, BK1009, HB⟩ := n_; (try clear hb); have p1016 : 0 ≤ (1 : Int) := (by omega); have q1016 : 1 < (t1010.length : Int) := of_decide_eq_true s4_; obtain ⟨ad1016, e1016, hx1016_0⟩ := Kd.at_string (Kd.R_reads' HO1012.out).2.2 1 p1016 q1016; obtain rfl : ad1013 = ad1016 := (by injection e1016); (try simp only [show (1 : Int).toNat = 1 from rfl, Nat.reduceMul, Nat.reduceEqDiff, Go.Addr.add, ↓reduceIte] at hx1016_0); have qi1016 : (1 < t1010.length) = True := eq_true (by omega); (try rw [show ((1 : Int)).toNat = 1 from rfl] at hx1016_0); replace p1016 := eq_true p1016; replace q1016 := eq_true q1016) | (refine gL_ 234 26 Tryz.func234 #[.string (rdOf ByteArray.empty t1010 1)] ?_; (with_reducible refine (spec_ParseSet.calls k (rdOf ByteArray.empty t1010 1) t1017 true _ A7.out).mono ?_); rintro e w14 ⟨rfl, hb⟩; refine ⟨_, rfl, ?_⟩; have n_ := ac_ (Kd.R_below q24_6 hb) <| ac_ (blk_below (g := gb1009) (o := .cells #[.int .i64 0, .int .i64 0] 48 (0, 0)) q24_5 hb) <| Aside0.mk (below_step q24_2 hb); clear HO1012 BK1009 HB; obtain ⟨HO1012, BK1009, HB⟩ := n_; (try clear hb); have hcz15_0 : w14.cell? ⟨gb1009, 0, none⟩ = some (.int .i64 0) := (blk_cell BK1009.out 0).trans rfl; have hcz15_1 : w14.cell? ⟨gb1009, 1, none⟩ = some (.int .i64 0) := (blk_cell BK1009.out 1).trans rfl; have hfz15_0 := blk_frozen BK1009.out 0; have hfz15_1 := blk_frozen BK1009.out 1))
      refine bodyPost_ret (results_ct rfl _ _ gb1009 48 #[.int .i64 t1014, .int .i64 t1017] (0, 0) _ rfl (by (with_reducible repeat (first | refine blk_drewN ?_ _ | refine blk_drew ?_ | refine blk_alloc ?_ _)); refine blk_put (cs := #[.int .i64 t1014, .int .i64 0]) ?_ 1 _ rfl; (with_reducible repeat (first | refine blk_drewN ?_ _ | refine blk_drew ?_ | refine blk_alloc ?_ _)); refine blk_put (cs := #[.int .i64 0, .int .i64 0]) ?_ 0 _ rfl; (with_reducible repeat (first | refine blk_drewN ?_ _ | refine blk_drew ?_ | refine blk_alloc ?_ _)); exact BK1009.out) Tryz.underlying48 rfl s10_) rfl ?_
      exact ⟨s2_, q24_2⟩
     ·
      replace c9 := Bool.eq_false_iff.mpr c9; subst c9
      rw [if_neg (show ¬ (false = true) by decide)] at H
      simp only [Option.some.injEq, Prod.mk.injEq] at H
      obtain ⟨rfl, rfl, rfl⟩ := H
      go_enter Tryz.func183, Tryz.ntmps183
      go_wp2_with ((with_reducible refine gw_ rfl ?_); first | (refine be_ 2 #[.int .i64 0, .int .i64 0] 48 ?_; intro gb1009 hg w16 hbox hb; have n_ := ac_ (below_step s1_ hb) <| ac_ (hbox) <| ac_ ((gz_ w hg s1_)) <| Aside0.mk ((gz_ w hg s1_)); clear HB; obtain ⟨HB, BK1009, GW1009, GE1009⟩ := n_; clear hb hbox hg) | (refine gL_ 182 10 Tryz.func182 #[.string a0, .int .u8 62] ?_; (with_reducible refine (spec_SplitByte.calls k a0 62 t1010 _ A2.out).mono ?_); rintro e w17 ⟨v1011, rfl, ho0, hb⟩; refine ⟨_, rfl, ?_⟩; have n_ := ac_ (Kd.R_lower ho0 (below_size q24_2)) <| ac_ (blk_below (g := gb1009) (o := .cells #[.int .i64 0, .int .i64 0] 48 (0, 0)) q24_5 hb) <| Aside0.mk (below_step q24_2 hb); clear BK1009 HB; obtain ⟨HO1012, BK1009, HB⟩ := n_; (try clear hb ho0); obtain ⟨Ao18, co18, eo18⟩ := Kd.R_slice HO1012.out; subst eo18; have p1013 : 0 ≤ (0 : Int) := (by omega); have q1013 : 0 < (t1010.length : Int) := of_decide_eq_true s4_; obtain ⟨ad1013, e1013, hx1013_0⟩ := Kd.at_string (Kd.R_reads' HO1012.out).2.2 0 p1013 q1013; cases e1013; have qi1013 : (0 < t1010.length) = True := eq_true (by omega); (try rw [show ((0 : Int)).toNat = 0 from rfl] at hx1013_0); (try rw [Addr.add_zero'] at hx1013_0); replace p1013 := eq_true p1013; replace q1013 := eq_true q1013) | (refine gL_ 234 19 Tryz.func234 #[.string (rdOf ByteArray.empty t1010 0)] ?_; (with_reducible refine (spec_ParseSet.calls k (rdOf ByteArray.empty t1010 0) t1014 true _ A5.out).mono ?_); rintro e w19 ⟨rfl, hb⟩; refine ⟨_, rfl, ?_⟩; have n_ := ac_ (Kd.R_below q24_6 hb) <| ac_ (blk_below (g := gb1009) (o := .cells #[.int .i64 0, .int .i64 0] 48 (0, 0)) q24_5 hb) <| Aside0.mk (below_step q24_2 hb); clear HO1012 BK1009 HB; obtain ⟨HO1012, BK1009, HB⟩ := n_; (try clear hb); have p1016 : 0 ≤ (1 : Int) := (by omega); have q1016 : 1 < (t1010.length : Int) := of_decide_eq_true s4_; obtain ⟨ad1016, e1016, hx1016_0⟩ := Kd.at_string (Kd.R_reads' HO1012.out).2.2 1 p1016 q1016; obtain rfl : ad1013 = ad1016 := (by injection e1016); (try simp only [show (1 : Int).toNat = 1 from rfl, Nat.reduceMul, Nat.reduceEqDiff, Go.Addr.add, ↓reduceIte] at hx1016_0); have qi1016 : (1 < t1010.length) = True := eq_true (by omega); (try rw [show ((1 : Int)).toNat = 1 from rfl] at hx1016_0); replace p1016 := eq_true p1016; replace q1016 := eq_true q1016) | (refine gL_ 234 26 Tryz.func234 #[.string (rdOf ByteArray.empty t1010 1)] ?_; (with_reducible refine (spec_ParseSet.calls k (rdOf ByteArray.empty t1010 1) t1017 false _ A7.out).mono ?_); rintro e w20 ⟨rfl, hb⟩; refine ⟨_, rfl, ?_⟩; have n_ := ac_ (Kd.R_below q24_6 hb) <| ac_ (blk_below (g := gb1009) (o := .cells #[.int .i64 0, .int .i64 0] 48 (0, 0)) q24_5 hb) <| Aside0.mk (below_step q24_2 hb); clear HO1012 BK1009 HB; obtain ⟨HO1012, BK1009, HB⟩ := n_; (try clear hb); have hcz21_0 : w20.cell? ⟨gb1009, 0, none⟩ = some (.int .i64 0) := (blk_cell BK1009.out 0).trans rfl; have hcz21_1 : w20.cell? ⟨gb1009, 1, none⟩ = some (.int .i64 0) := (blk_cell BK1009.out 1).trans rfl; have hfz21_0 := blk_frozen BK1009.out 0; have hfz21_1 := blk_frozen BK1009.out 1))
      refine bodyPost_ret (results_ct rfl _ _ gb1009 48 #[.int .i64 0, .int .i64 0] (0, 0) _ rfl q24_1 Tryz.underlying48 rfl s10_) rfl ?_
      exact ⟨s2_, q24_2⟩
    ·
     replace c8 := Bool.eq_false_iff.mpr c8; subst c8
     rw [if_neg (show ¬ (false = true) by decide)] at H
     simp only [Option.some.injEq, Prod.mk.injEq] at H
     obtain ⟨rfl, rfl, rfl⟩ := H
     go_enter Tryz.func183, Tryz.ntmps183
     go_wp2_with ((with_reducible refine gw_ rfl ?_); first | (refine be_ 2 #[.int .i64 0, .int .i64 0] 48 ?_; intro gb1009 hg w22 hbox hb; have n_ := ac_ (below_step s1_ hb) <| ac_ (hbox) <| ac_ ((gz_ w hg s1_)) <| Aside0.mk ((gz_ w hg s1_)); clear HB; obtain ⟨HB, BK1009, GW1009, GE1009⟩ := n_; clear hb hbox hg) | (refine gL_ 182 10 Tryz.func182 #[.string a0, .int .u8 62] ?_; (with_reducible refine (spec_SplitByte.calls k a0 62 t1010 _ A2.out).mono ?_); rintro e w23 ⟨v1011, rfl, ho0, hb⟩; refine ⟨_, rfl, ?_⟩; have n_ := ac_ (Kd.R_lower ho0 (below_size q24_2)) <| ac_ (blk_below (g := gb1009) (o := .cells #[.int .i64 0, .int .i64 0] 48 (0, 0)) q24_5 hb) <| Aside0.mk (below_step q24_2 hb); clear BK1009 HB; obtain ⟨HO1012, BK1009, HB⟩ := n_; (try clear hb ho0); obtain ⟨Ao24, co24, eo24⟩ := Kd.R_slice HO1012.out; subst eo24; have p1013 : 0 ≤ (0 : Int) := (by omega); have q1013 : 0 < (t1010.length : Int) := of_decide_eq_true s4_; obtain ⟨ad1013, e1013, hx1013_0⟩ := Kd.at_string (Kd.R_reads' HO1012.out).2.2 0 p1013 q1013; cases e1013; have qi1013 : (0 < t1010.length) = True := eq_true (by omega); (try rw [show ((0 : Int)).toNat = 0 from rfl] at hx1013_0); (try rw [Addr.add_zero'] at hx1013_0); replace p1013 := eq_true p1013; replace q1013 := eq_true q1013) | (refine gL_ 234 19 Tryz.func234 #[.string (rdOf ByteArray.empty t1010 0)] ?_; (with_reducible refine (spec_ParseSet.calls k (rdOf ByteArray.empty t1010 0) t1014 false _ A5.out).mono ?_); rintro e w25 ⟨rfl, hb⟩; refine ⟨_, rfl, ?_⟩; have n_ := ac_ (Kd.R_below q24_6 hb) <| ac_ (blk_below (g := gb1009) (o := .cells #[.int .i64 0, .int .i64 0] 48 (0, 0)) q24_5 hb) <| Aside0.mk (below_step q24_2 hb); clear HO1012 BK1009 HB; obtain ⟨HO1012, BK1009, HB⟩ := n_; (try clear hb); have p1016 : 0 ≤ (1 : Int) := (by omega); have q1016 : 1 < (t1010.length : Int) := of_decide_eq_true s4_; obtain ⟨ad1016, e1016, hx1016_0⟩ := Kd.at_string (Kd.R_reads' HO1012.out).2.2 1 p1016 q1016; obtain rfl : ad1013 = ad1016 := (by injection e1016); (try simp only [show (1 : Int).toNat = 1 from rfl, Nat.reduceMul, Nat.reduceEqDiff, Go.Addr.add, ↓reduceIte] at hx1016_0); have qi1016 : (1 < t1010.length) = True := eq_true (by omega); (try rw [show ((1 : Int)).toNat = 1 from rfl] at hx1016_0); replace p1016 := eq_true p1016; replace q1016 := eq_true q1016) | (refine gL_ 234 26 Tryz.func234 #[.string (rdOf ByteArray.empty t1010 1)] ?_; (with_reducible refine (spec_ParseSet.calls k (rdOf ByteArray.empty t1010 1) t1017 t1018 _ A7.out).mono ?_); rintro e w26 ⟨rfl, hb⟩; refine ⟨_, rfl, ?_⟩; have n_ := ac_ (Kd.R_below q24_6 hb) <| ac_ (blk_below (g := gb1009) (o := .cells #[.int .i64 0, .int .i64 0] 48 (0, 0)) q24_5 hb) <| Aside0.mk (below_step q24_2 hb); clear HO1012 BK1009 HB; obtain ⟨HO1012, BK1009, HB⟩ := n_; (try clear hb); have hcz27_0 : w26.cell? ⟨gb1009, 0, none⟩ = some (.int .i64 0) := (blk_cell BK1009.out 0).trans rfl; have hcz27_1 : w26.cell? ⟨gb1009, 1, none⟩ = some (.int .i64 0) := (blk_cell BK1009.out 1).trans rfl; have hfz27_0 := blk_frozen BK1009.out 0; have hfz27_1 := blk_frozen BK1009.out 1))
     refine bodyPost_ret (results_ct rfl _ _ gb1009 48 #[.int .i64 0, .int .i64 0] (0, 0) _ rfl q24_1 Tryz.underlying48 rfl s10_) rfl ?_
     exact ⟨s2_, q24_2⟩
   ·
    rw [if_neg c6] at H
    exact absurd H (by simp)
  ·
   rw [if_neg c4] at H
   exact absurd H (by simp)
 ·
  rw [if_neg c3] at H; have c3b0 : ((t1010.length : Int) == 2) = false := beq_eq_false_iff_ne.mpr c3; have c3b1 : ((t1010.length : Int) != 2) = true := bne_iff_ne.mpr c3
  simp only [Option.some.injEq, Prod.mk.injEq] at H
  obtain ⟨rfl, rfl, rfl⟩ := H
  go_enter Tryz.func183, Tryz.ntmps183
  go_wp2_with ((with_reducible refine gw_ rfl ?_); first | (refine be_ 2 #[.int .i64 0, .int .i64 0] 48 ?_; intro gb1009 hg w28 hbox hb; have n_ := ac_ (below_step s1_ hb) <| ac_ (hbox) <| ac_ ((gz_ w hg s1_)) <| Aside0.mk ((gz_ w hg s1_)); clear HB; obtain ⟨HB, BK1009, GW1009, GE1009⟩ := n_; clear hb hbox hg) | (refine gL_ 182 10 Tryz.func182 #[.string a0, .int .u8 62] ?_; (with_reducible refine (spec_SplitByte.calls k a0 62 t1010 _ A2.out).mono ?_); rintro e w29 ⟨v1011, rfl, ho0, hb⟩; refine ⟨_, rfl, ?_⟩; have n_ := ac_ (Kd.R_lower ho0 (below_size q24_2)) <| ac_ (blk_below (g := gb1009) (o := .cells #[.int .i64 0, .int .i64 0] 48 (0, 0)) q24_5 hb) <| Aside0.mk (below_step q24_2 hb); clear BK1009 HB; obtain ⟨HO1012, BK1009, HB⟩ := n_; (try clear hb ho0); obtain ⟨Ao30, co30, eo30⟩ := Kd.R_slice HO1012.out; subst eo30; have hcz31_0 : w29.cell? ⟨gb1009, 0, none⟩ = some (.int .i64 0) := (blk_cell BK1009.out 0).trans rfl; have hcz31_1 : w29.cell? ⟨gb1009, 1, none⟩ = some (.int .i64 0) := (blk_cell BK1009.out 1).trans rfl; have hfz31_0 := blk_frozen BK1009.out 0; have hfz31_1 := blk_frozen BK1009.out 1))
  refine bodyPost_ret (results_ct rfl _ _ gb1009 48 #[.int .i64 0, .int .i64 0] (0, 0) _ rfl q24_1 Tryz.underlying48 rfl s10_) rfl ?_
  exact ⟨s2_, q24_2⟩
theorem q24_10 {P : Prop} (h : P := by (with_reducible repeat (first | refine blk_drewN ?_ _ | refine blk_drew ?_ | refine blk_alloc ?_ _)); refine blk_put (cs := #[.int .i64 t1026, .int .i64 0]) ?_ 1 _ rfl; (with_reducible repeat (first | refine blk_drewN ?_ _ | refine blk_drew ?_ | refine blk_alloc ?_ _)); refine blk_put (cs := #[.int .i64 0, .int .i64 0]) ?_ 0 _ rfl; (with_reducible repeat (first | refine blk_drewN ?_ _ | refine blk_drew ?_ | refine blk_alloc ?_ _)); exact BK1029.out) : P := h
theorem q24_11 {P : Prop} (h : P := by (with_reducible repeat (first | apply Kd.R_alloc | apply Kd.R_drewN | apply Kd.R_drew)); exact (Kd.R_mono (Kd.R_far (p := ⟨gb1029, 1, none⟩) (Kd.R_far (p := ⟨gb1029, 0, none⟩) (Kd.R_mono HO_4.out (fun k_ hk => (⟨hk, hk.2⟩ : _ ∧ k_ ≠ gb1029))) (fun _ hk => hk.2) (.int .i64 t1026)) (fun _ hk => hk.2) (.int .i64 t1027)) (fun _ h_ => h_.1))) : P := h
theorem q24_12 {P : Prop} (h : P := by (with_reducible repeat (first | apply Kd.R_alloc | apply Kd.R_drewN | apply Kd.R_drew)); exact (Kd.R_mono (Kd.R_far (p := ⟨gb1029, 1, none⟩) (Kd.R_far (p := ⟨gb1029, 0, none⟩) (Kd.R_types HO_5.out BK1029.out (by decide)) (fun _ hk => hk.2) (.int .i64 t1026)) (fun _ hk => hk.2) (.int .i64 t1027)) (fun _ h_ => h_.1))) : P := h
theorem q24_13 {P : Prop} (h : P := by repeat (first | (with_reducible first | exact HB.out | apply below_alloc | apply pw_below_drewN | apply below_drew1 | refine below_set ?_ GE1029.out) | exact HB.out)) : P := h
mutual
def spec_ParseRules.l0 : Nat → ByteArray → List (S48) → List ByteArray → Int → Option ((List (S48)) × Bool)
 | 0, _, _, _, _ => none
 | k + 1, x0, x4, x5, x6 => if x6 < (x5.length : Int) then (spec_ParseRules.j1 k x0 x4 x5 x6 (x0.toList != ([110, 111, 110, 101] : List UInt8))) else (spec_ParseRules.j1 k x0 x4 x5 x6 false)
def spec_ParseRules.j1 : Nat → ByteArray → List (S48) → List ByteArray → Int → Bool → Option ((List (S48)) × Bool)
 | 0, _, _, _, _, _ => none
 | k + 1, x0, x4, x5, x6, x19 => if x19 = true then (if 0 ≤ x6 then (if x6 < (x5.length : Int) then ((spec_ParseRule.f k (rdOf ByteArray.empty x5 x6)).bind fun bt1026 => (if bt1026.2.2 = true then (if (x4.length : Int) ≥ 40 then (some ((([] : List (S48))), false)) else (if x4.length < 8796093022208 then (spec_ParseRules.l0 k x0 (x4 ++ [(⟨bt1026.1, bt1026.2.1⟩ : S48)]) x5 (wrap64 (x6 + 1))) else (none))) else (some ((([] : List (S48))), false)))) else (none)) else (none)) else (some (x4, true))
end
def spec_ParseRules.f (k : Nat) (a0 : ByteArray) : Option ((List (S48)) × Bool) := (spec_SplitByte.f k a0 32).bind fun t1022 => (spec_ParseRules.l0 k a0 (([] : List (S48))) t1022 0)
theorem spec_ParseRules.calls (k : Nat) (a0 : ByteArray) (r1 : List (S48)) (r2 : Bool) (w : World) (h : spec_ParseRules.f k a0 = some (r1, r2)) :
  Calls Tryz.prog 75 #[.string a0] w fun e w' => ∃ v0_ : Value, e = .returned (.tuple #[v0_, .bool r2]) ∧ Kd.R k48 48 w' w.heap.size (fun _ => True) v0_ r1 ∧ Below w.heap.size w w' := by
 have hu48 := Tryz.underlying48; have HB := Aside0.mk (Below.refl w.heap.size w); have H := h; clear h; unfold spec_ParseRules.f at H; obtain ⟨y1019, hy_⟩ : ∃ y_ : List (S48), y_ = (([] : List (S48))) := ⟨_, rfl⟩
 replace H : ((spec_SplitByte.f k a0 32).bind fun t1022 => (spec_ParseRules.l0 k a0 y1019 t1022 0)) = some (r1, r2) := rH_
 have Ny1019 := Aside0.mk hy_; clear hy_; obtain ⟨t1022, A2, H⟩ := bnd24_ H; have H' := Aside0.mk H; clear H
 go_enter Tryz.func75, Tryz.ntmps75
 go_wp2_with (first | ((with_reducible refine gw_ rfl ?_); (refine gL_ 182 11 Tryz.func182 #[.string a0, .int .u8 32] ?_; (with_reducible refine (spec_SplitByte.calls k a0 32 t1022 _ A2.out).mono ?_); rintro e w5 ⟨v1023, rfl, ho0, hb⟩; refine ⟨_, rfl, ?_⟩; have n_ := ac_ (Kd.R_below (by (with_reducible repeat (first | apply Kd.R_alloc | apply Kd.R_drewN | apply Kd.R_drew)); exact HO1021.out) hb) <| ac_ (Kd.R_lower ho0 (below_size s1_)) <| Aside0.mk (below_step s1_ hb); clear HO1021 HB; obtain ⟨HO1021, HO1024, HB⟩ := n_; (try clear hb ho0))) | ((with_reducible refine gate_dst (N := 9) rfl ?_); (try (refine gate_guard (by rfl) ?_; dsimp only)); refine Kd.R_lit k48 _ 48 ?hg (N := 9) ?hd (xs := ([] : List (S48))) (inner := []) (ok := fun _ => True) (okp := fun _ => True) ?hr ?hp (fun _ hk => hk) trivial (Below.refl _ _) (Nat.le_refl _) (by simp) ?_; (case hd => rfl); (case hg => rfl); (case hr => first | (go_simp; done) | (go_simp; rfl)); (case hp => exact (Reps.none _ _)); intro v1020 w3 ho4 hb hg_ hnew_; clear hg_ hnew_; (first | rw [← Ny1019.out] at ho4 | (simp only [Int.reduceToNat] at ho4; rw [← Ny1019.out] at ho4)); have n_ := ac_ (Kd.R_lower ho4 (below_size s1_)) <| Aside0.mk (below_step s1_ hb); clear HB; obtain ⟨HO1021, HB⟩ := n_; clear hb ho4))
 go_loopg [4, 6] k (fun kq v4 v6 w' => ∃ (x4_1 : List (S48)) (x6_1 : Int), v6 = .int .i64 x6_1 ∧ Aside0 (spec_ParseRules.l0 kq a0 x4_1 t1022 x6_1 = some (r1, r2)) ∧ Aside0 (kq ≤ k) ∧ Aside0 (Kd.R k48 48 w' w.heap.size (fun _ => True) v4 x4_1) ∧ Aside0 (Kd.R Kd.string 9 w' w.heap.size (fun _ => True) v1023 t1022) ∧ Aside0 (Below w.heap.size w w'))
 case atStart => exact ⟨(y1019), (0), s3_, H', ⟨Nat.le_refl _⟩, ⟨(by (with_reducible repeat (first | apply Kd.R_alloc | apply Kd.R_drewN | apply Kd.R_drew)); exact HO1021.out)⟩, ⟨(by (with_reducible repeat (first | apply Kd.R_alloc | apply Kd.R_drewN | apply Kd.R_drew)); exact HO1024.out)⟩, ⟨s1_⟩⟩
 case round =>
  clear H'
  try clear c1
  try clear p2
  obtain ⟨x4_1, x6_1, rfl, HA, HK1, HO_4, HO_5, HB⟩ := hrel
  cases gk with
  | zero => exact absurd HA.out (by simp [spec_ParseRules.l0])
  | succ k1 =>
   have H := HA.out; clear HA
   simp only [spec_ParseRules.l0] at H
   have HC6 := Aside0.mk H; clear H
   go_upto_region 4 with (fail)
   go_cut [19] (fun v19 wc => ∃ (kq : Nat) (x19_5 : Bool), v19 = .bool x19_5 ∧ Aside0 (spec_ParseRules.j1 kq a0 x4_1 t1022 x6_1 x19_5 = some (r1, r2)) ∧ Aside0 (kq ≤ k1) ∧ Aside0 (Kd.R k48 48 wc w.heap.size (fun _ => True) u4 x4_1) ∧ Aside0 (Kd.R Kd.string 9 wc w.heap.size (fun _ => True) v1023 t1022) ∧ Aside0 (Below w.heap.size w wc))
   case first =>
    have H := HC6.out; clear HC6
    by_cases c7 : x6_1 < (t1022.length : Int)
    ·
     rw [if_pos c7] at H; have c7b0 : decide (x6_1 < (t1022.length : Int)) = true := decide_eq_true c7; clear c7
     (first | rw [c7b0] | (simp only [i64_w, i32_w]; rw [c7b0]) | skip)
     have H' := Aside0.mk H; clear H; obtain ⟨Ao8, co8, eo8⟩ := Kd.R_slice HO_5.out; subst eo8
     go_wp2
     go_meet
     case rel => exact ⟨_, ((a0.toList != ([110, 111, 110, 101] : List UInt8))), s3_, H', ⟨by have := HK1.out; first | omega | exact Nat.le_refl _⟩, ⟨s16_⟩, ⟨s13_⟩, ⟨s1_⟩⟩
    ·
     rw [if_neg c7] at H; have c7b0 : decide (x6_1 < (t1022.length : Int)) = false := decide_eq_false c7; clear c7
     (first | rw [c7b0] | (simp only [i64_w, i32_w]; rw [c7b0]) | skip)
     have H' := Aside0.mk H; clear H; obtain ⟨Ao9, co9, eo9⟩ := Kd.R_slice HO_5.out; subst eo9
     go_wp2
     go_meet
     case rel => exact ⟨_, (false), s3_, H', ⟨by have := HK1.out; first | omega | exact Nat.le_refl _⟩, ⟨s16_⟩, ⟨s13_⟩, ⟨s1_⟩⟩
   case rest =>
    clear HC6
    try clear c1
    try clear p2
    try clear c7
    try clear c7b0
    try clear p2
    obtain ⟨kq, x19_5, rfl, HA, HJ5, HO_4, HO_5, HB⟩ := hcut
    cases kq with
    | zero => exact absurd HA.out (by simp [spec_ParseRules.j1])
    | succ kj5 =>
     have H := HA.out; clear HA
     simp only [spec_ParseRules.j1] at H
     by_cases c10 : x19_5 = true
     ·
      subst c10; rw [if_pos rfl] at H
      by_cases c11 : 0 ≤ x6_1
      ·
       rw [if_pos c11] at H; have c11b0 : decide (0 ≤ x6_1) = true := decide_eq_true c11; clear c11
       by_cases c12 : x6_1 < (t1022.length : Int)
       ·
        rw [if_pos c12] at H; have c12b0 : decide (x6_1 < (t1022.length : Int)) = true := decide_eq_true c12; clear c12; obtain ⟨⟨t1026, t1027, t1028⟩, A13, H⟩ := bnd24_ H; dsimp only at H
        by_cases c14 : t1028 = true
        ·
         subst c14; rw [if_pos rfl] at H
         by_cases c15 : (x4_1.length : Int) ≥ 40
         ·
          rw [if_pos c15] at H; have c15b0 : decide (40 ≤ (x4_1.length : Int)) = true := decide_eq_true c15
          have c15b1 : decide (40 ≤ x4_1.length) = true := decide_eq_true (by omega)
          clear c15; obtain ⟨y1030, hy_⟩ : ∃ y_ : List (S48), y_ = (([] : List (S48))) := ⟨_, rfl⟩
          replace H : (some (y1030, false)) = some (r1, r2) := rH_
          have Ny1030 := Aside0.mk hy_; clear hy_
          simp only [Option.some.injEq, Prod.mk.injEq] at H
          obtain ⟨rfl, rfl⟩ := H; obtain ⟨Ao16, co16, eo16⟩ := Kd.R_slice HO_5.out; subst eo16; have p1025 : 0 ≤ (x6_1 : Int) := of_decide_eq_true s4_; have q1025 : x6_1 < (t1022.length : Int) := of_decide_eq_true s4_; obtain ⟨ad1025, e1025, hx1025_0⟩ := Kd.at_string (Kd.R_reads' HO_5.out).2.2 x6_1 p1025 q1025
          cases e1025
          replace p1025 := eq_true p1025; replace q1025 := eq_true q1025
          go_wp2_with (first | ((with_reducible refine gw_ rfl ?_); (refine gL_ 183 27 Tryz.func183 #[.string (rdOf ByteArray.empty t1022 x6_1)] ?_; (with_reducible refine (spec_ParseRule.calls kj5 (rdOf ByteArray.empty t1022 x6_1) t1026 t1027 true _ A13.out).mono ?_); rintro e w17 ⟨rfl, hb⟩; refine ⟨_, rfl, ?_⟩; have n_ := ac_ (Kd.R_below s16_ hb) <| ac_ (Kd.R_below s13_ hb) <| Aside0.mk (below_step s1_ hb); clear HO_4 HO_5 HB; obtain ⟨HO_4, HO_5, HB⟩ := n_; (try clear hb))) | ((with_reducible refine gate_dst (N := 7) rfl ?_); (try (refine gate_guard (by rfl) ?_; dsimp only)); refine box_event ?hg (N := 7) ?hd (cs := #[.int .i64 0, .int .i64 0]) (t := 48) ?hr ?_; (case hd => rfl); (case hg => rfl); (case hr => first | (go_simp; done) | (go_simp; rfl)); intro gb1029 hg w18 hbox hb; have n_ := ac_ (Kd.R_below (Kd.R_elderB s16_ gb1029 (Nat.le_of_eq hg.symm)) hb) <| ac_ (Kd.R_below s13_ hb) <| ac_ (below_step s1_ hb) <| ac_ (hbox) <| ac_ ((gz_ w hg s1_)) <| Aside0.mk ((gz_ w hg s1_)); clear HO_4 HO_5 HB; obtain ⟨HO_4, HO_5, HB, BK1029, GW1029, GE1029⟩ := n_; clear hb hbox hg; have hcz19_0 : w18.cell? ⟨gb1029, 0, none⟩ = some (.int .i64 0) := (blk_cell BK1029.out 0).trans rfl; have hcz19_1 : w18.cell? ⟨gb1029, 1, none⟩ = some (.int .i64 0) := (blk_cell BK1029.out 1).trans rfl; have hfz19_0 := blk_frozen BK1029.out 0; have hfz19_1 := blk_frozen BK1029.out 1; obtain ⟨Ao20, co20, eo20⟩ := Kd.R_slice HO_4.out; subst eo20) | ((with_reducible refine gate_dst (N := 37) rfl ?_); (try (refine gate_guard (by rfl) ?_; dsimp only)); refine Kd.R_lit k48 _ 48 ?hg (N := 37) ?hd (xs := ([] : List (S48))) (inner := []) (ok := fun _ => True) (okp := fun _ => True) ?hr ?hp (fun _ hk => hk) trivial (Below.refl _ _) (Nat.le_refl _) (by simp) ?_; (case hd => rfl); (case hg => rfl); (case hr => first | (go_simp; done) | (go_simp; rfl)); (case hp => exact (Reps.none _ _)); intro v1031 w21 ho22 hb hg_ hnew_; clear hg_ hnew_; (first | rw [← Ny1030.out] at ho22 | (simp only [Int.reduceToNat] at ho22; rw [← Ny1030.out] at ho22)); have n_ := ac_ (Kd.R_elder' q24_11 (Kd.R_base ho22) hb) <| ac_ (Kd.R_below q24_12 hb) <| ac_ (Kd.R_lower (Kd.R_newB (Kd.R_new' ho22 (Kd.R_lt q24_11)) (g := gb1029) (o := .cells #[.int .i64 t1026, .int .i64 t1027] 48 (0, 0)) q24_10) (below_size q24_13)) <| ac_ (blk_below (g := gb1029) (o := .cells #[.int .i64 t1026, .int .i64 t1027] 48 (0, 0)) q24_10 hb) <| Aside0.mk (below_step q24_13 hb); clear HO_4 HO_5 BK1029 HB; obtain ⟨HO_4, HO_5, HO1032, BK1029, HB⟩ := n_; clear hb ho22))
          go_ret2
          exact ⟨_, s2_, (by (with_reducible repeat (first | apply Kd.R_alloc | apply Kd.R_drewN | apply Kd.R_drew)); exact Kd.R_mono HO1032.out (fun _ hk => trivial)), q24_13⟩
         ·
          rw [if_neg c15] at H; have c15b0 : decide (40 ≤ (x4_1.length : Int)) = false := decide_eq_false c15
          have c15b1 : decide (40 ≤ x4_1.length) = false := decide_eq_false (by omega)
          clear c15
          by_cases c23 : x4_1.length < 8796093022208
          ·
           rw [if_pos c23] at H; have LMc23 := Aside0.mk c23; clear c23; obtain ⟨y1033, hy_⟩ : ∃ y_ : List (S48), y_ = (x4_1 ++ [(⟨t1026, t1027⟩ : S48)]) := ⟨_, rfl⟩
           replace H : (spec_ParseRules.l0 kj5 a0 y1033 t1022 (wrap64 (x6_1 + 1))) = some (r1, r2) := rH_
           have Ny1033 := Aside0.mk hy_; clear hy_; have H' := Aside0.mk H; clear H; obtain ⟨Ao24, co24, eo24⟩ := Kd.R_slice HO_5.out; subst eo24; have p1025 : 0 ≤ (x6_1 : Int) := of_decide_eq_true s4_; have q1025 : x6_1 < (t1022.length : Int) := of_decide_eq_true s4_; obtain ⟨ad1025, e1025, hx1025_0⟩ := Kd.at_string (Kd.R_reads' HO_5.out).2.2 x6_1 p1025 q1025
           cases e1025
           replace p1025 := eq_true p1025; replace q1025 := eq_true q1025
           go_wp2_with (first | ((with_reducible refine gw_ rfl ?_); (refine gL_ 183 27 Tryz.func183 #[.string (rdOf ByteArray.empty t1022 x6_1)] ?_; (with_reducible refine (spec_ParseRule.calls kj5 (rdOf ByteArray.empty t1022 x6_1) t1026 t1027 true _ A13.out).mono ?_); rintro e w25 ⟨rfl, hb⟩; refine ⟨_, rfl, ?_⟩; have n_ := ac_ (Kd.R_below s16_ hb) <| ac_ (Kd.R_below s13_ hb) <| Aside0.mk (below_step s1_ hb); clear HO_4 HO_5 HB; obtain ⟨HO_4, HO_5, HB⟩ := n_; (try clear hb))) | ((with_reducible refine gate_dst (N := 7) rfl ?_); (try (refine gate_guard (by rfl) ?_; dsimp only)); refine box_event ?hg (N := 7) ?hd (cs := #[.int .i64 0, .int .i64 0]) (t := 48) ?hr ?_; (case hd => rfl); (case hg => rfl); (case hr => first | (go_simp; done) | (go_simp; rfl)); intro gb1029 hg w26 hbox hb; have n_ := ac_ (Kd.R_below (Kd.R_elderB s16_ gb1029 (Nat.le_of_eq hg.symm)) hb) <| ac_ (Kd.R_below s13_ hb) <| ac_ (below_step s1_ hb) <| ac_ (hbox) <| ac_ ((gz_ w hg s1_)) <| Aside0.mk ((gz_ w hg s1_)); clear HO_4 HO_5 HB; obtain ⟨HO_4, HO_5, HB, BK1029, GW1029, GE1029⟩ := n_; clear hb hbox hg; have hcz27_0 : w26.cell? ⟨gb1029, 0, none⟩ = some (.int .i64 0) := (blk_cell BK1029.out 0).trans rfl; have hcz27_1 : w26.cell? ⟨gb1029, 1, none⟩ = some (.int .i64 0) := (blk_cell BK1029.out 1).trans rfl; have hfz27_0 := blk_frozen BK1029.out 0; have hfz27_1 := blk_frozen BK1029.out 1; obtain ⟨Ao28, co28, eo28⟩ := Kd.R_slice HO_4.out; subst eo28) | ((with_reducible refine gate_builtin (b := .append) (xs := #[.tmp 38, .tmp 40]) rfl ?_); (try (refine gate_guard (by rfl) ?_; dsimp only)); at_builtin; refine Kd.R_append k48 (w0 := w) w.heap.size rfl (.tmp 38) (.tmp 40) 24 48 (.agg #[(.int .i64 0), (.int .i64 0)]) 16 rfl Tryz.underlying24 info48 rfl (by decide) (by omega) (.slice Ao28 x4_1.length co28) x4_1 (⟨t1026, t1027⟩ : S48) [.int .i64 t1026, .int .i64 t1027] (fun k_ => k_ ≠ gb1029) (fun _ => False) rfl (by first | (go_simp; done) | (go_simp; rfl)) ?aP (fun _ hk => hk.elim) ?aF ?aO ?aB ?aS ?aL ?_; (case aP => exact k48_mkM _ _ _ (⟨t1026, t1027⟩ : S48)); (case aB => exact q24_13); (case aF => exact (fun k_ hk => Kd.freshB (g := gb1029) (o := .cells #[.int .i64 t1026, .int .i64 t1027] 48 (0, 0)) q24_10 k_ hk)); (case aO => exact (by (with_reducible repeat (first | apply Kd.R_alloc | apply Kd.R_drewN | apply Kd.R_drew)); exact Kd.R_mono (Kd.R_far (p := ⟨gb1029, 1, none⟩) (Kd.R_far (p := ⟨gb1029, 0, none⟩) (Kd.R_mono HO_4.out (fun k_ hk => (⟨hk, hk.2⟩ : _ ∧ k_ ≠ gb1029))) (fun _ hk => hk.2) (.int .i64 t1026)) (fun _ hk => hk.2) (.int .i64 t1027)) (fun _ hk => hk.1.2))); (case aS => exact (below_size q24_13)); (case aL => have := LMc23.out; omega); intro v1034 w29 ho hb hg hat; rw [← Ny1033.out] at ho; have n_ := ac_ (Kd.R_over' q24_12 (Kd.R_typed q24_11) (by decide) hg) <| ac_ (blk_grown (g := gb1029) (o := .cells #[.int .i64 t1026, .int .i64 t1027] 48 (0, 0)) q24_10 hg (Kd.R_away HO_4.out (fun _ hk => hk.2))) <| ac_ (hb) <| Aside0.mk (ho); clear HO_5 BK1029 HB HO_4; obtain ⟨HO_5, BK1029, HB, HO1035⟩ := n_; clear ho hb hg hat))
           go_roundg kj5
           case measure => have := HK1.out; have := HJ5.out; omega
           case rel => exact ⟨(y1033), (wrap64 (x6_1 + 1)), s3_, H', ⟨by have := HK1.out; have := HJ5.out; omega⟩, ⟨(by (with_reducible repeat (first | apply Kd.R_alloc | apply Kd.R_drewN | apply Kd.R_drew)); exact Kd.R_mono HO1035.out (fun _ hk => trivial))⟩, ⟨s13_⟩, ⟨q24_13⟩⟩
          ·
           rw [if_neg c23] at H
           exact absurd H (by simp)
        ·
         replace c14 := Bool.eq_false_iff.mpr c14; subst c14
         rw [if_neg (show ¬ (false = true) by decide)] at H
         obtain ⟨y1036, hy_⟩ : ∃ y_ : List (S48), y_ = (([] : List (S48))) := ⟨_, rfl⟩
         replace H : (some (y1036, false)) = some (r1, r2) := rH_
         have Ny1036 := Aside0.mk hy_; clear hy_
         simp only [Option.some.injEq, Prod.mk.injEq] at H
         obtain ⟨rfl, rfl⟩ := H; obtain ⟨Ao30, co30, eo30⟩ := Kd.R_slice HO_5.out; subst eo30; have p1025 : 0 ≤ (x6_1 : Int) := of_decide_eq_true s4_; have q1025 : x6_1 < (t1022.length : Int) := of_decide_eq_true s4_; obtain ⟨ad1025, e1025, hx1025_0⟩ := Kd.at_string (Kd.R_reads' HO_5.out).2.2 x6_1 p1025 q1025
         cases e1025
         replace p1025 := eq_true p1025; replace q1025 := eq_true q1025
         go_wp2_with (first | ((with_reducible refine gw_ rfl ?_); (refine gL_ 183 27 Tryz.func183 #[.string (rdOf ByteArray.empty t1022 x6_1)] ?_; (with_reducible refine (spec_ParseRule.calls kj5 (rdOf ByteArray.empty t1022 x6_1) t1026 t1027 false _ A13.out).mono ?_); rintro e w31 ⟨rfl, hb⟩; refine ⟨_, rfl, ?_⟩; have n_ := ac_ (Kd.R_below s16_ hb) <| ac_ (Kd.R_below s13_ hb) <| Aside0.mk (below_step s1_ hb); clear HO_4 HO_5 HB; obtain ⟨HO_4, HO_5, HB⟩ := n_; (try clear hb))) | ((with_reducible refine gate_dst (N := 7) rfl ?_); (try (refine gate_guard (by rfl) ?_; dsimp only)); refine box_event ?hg (N := 7) ?hd (cs := #[.int .i64 0, .int .i64 0]) (t := 48) ?hr ?_; (case hd => rfl); (case hg => rfl); (case hr => first | (go_simp; done) | (go_simp; rfl)); intro gb1029 hg w32 hbox hb; have n_ := ac_ (Kd.R_below (Kd.R_elderB s16_ gb1029 (Nat.le_of_eq hg.symm)) hb) <| ac_ (Kd.R_below s13_ hb) <| ac_ (below_step s1_ hb) <| ac_ (hbox) <| ac_ ((gz_ w hg s1_)) <| Aside0.mk ((gz_ w hg s1_)); clear HO_4 HO_5 HB; obtain ⟨HO_4, HO_5, HB, BK1029, GW1029, GE1029⟩ := n_; clear hb hbox hg; have hcz33_0 : w32.cell? ⟨gb1029, 0, none⟩ = some (.int .i64 0) := (blk_cell BK1029.out 0).trans rfl; have hcz33_1 : w32.cell? ⟨gb1029, 1, none⟩ = some (.int .i64 0) := (blk_cell BK1029.out 1).trans rfl; have hfz33_0 := blk_frozen BK1029.out 0; have hfz33_1 := blk_frozen BK1029.out 1) | ((with_reducible refine gate_dst (N := 37) rfl ?_); (try (refine gate_guard (by rfl) ?_; dsimp only)); refine Kd.R_lit k48 _ 48 ?hg (N := 37) ?hd (xs := ([] : List (S48))) (inner := []) (ok := fun _ => True) (okp := fun _ => True) ?hr ?hp (fun _ hk => hk) trivial (Below.refl _ _) (Nat.le_refl _) (by simp) ?_; (case hd => rfl); (case hg => rfl); (case hr => first | (go_simp; done) | (go_simp; rfl)); (case hp => exact (Reps.none _ _)); intro v1037 w34 ho35 hb hg_ hnew_; clear hg_ hnew_; (first | rw [← Ny1036.out] at ho35 | (simp only [Int.reduceToNat] at ho35; rw [← Ny1036.out] at ho35)); have n_ := ac_ (Kd.R_elder' q24_11 (Kd.R_base ho35) hb) <| ac_ (Kd.R_below q24_12 hb) <| ac_ (Kd.R_lower (Kd.R_newB (Kd.R_new' ho35 (Kd.R_lt q24_11)) (g := gb1029) (o := .cells #[.int .i64 t1026, .int .i64 t1027] 48 (0, 0)) q24_10) (below_size q24_13)) <| ac_ (blk_below (g := gb1029) (o := .cells #[.int .i64 t1026, .int .i64 t1027] 48 (0, 0)) q24_10 hb) <| Aside0.mk (below_step q24_13 hb); clear HO_4 HO_5 BK1029 HB; obtain ⟨HO_4, HO_5, HO1038, BK1029, HB⟩ := n_; clear hb ho35))
         go_ret2
         exact ⟨_, s2_, (by (with_reducible repeat (first | apply Kd.R_alloc | apply Kd.R_drewN | apply Kd.R_drew)); exact Kd.R_mono HO1038.out (fun _ hk => trivial)), q24_13⟩
       ·
        rw [if_neg c12] at H
        exact absurd H (by simp)
      ·
       rw [if_neg c11] at H
       exact absurd H (by simp)
     ·
      replace c10 := Bool.eq_false_iff.mpr c10; subst c10
      rw [if_neg (show ¬ (false = true) by decide)] at H
      simp only [Option.some.injEq, Prod.mk.injEq] at H
      obtain ⟨rfl, rfl⟩ := H
      go_wp2
      go_ret2
      exact ⟨_, s2_, s16_, s1_⟩
theorem q24_21 {P : Prop} (h : P := by repeat (first | (with_reducible first | exact HB.out | apply below_alloc | apply pw_below_drewN | apply below_drew1 | refine below_set ?_ (IsS152.ge HI1042.out)) | exact HB.out)) : P := h
def spec_DrawRulesText.f (k : Nat) (l0 : List Int) : Option ((List (S48))) := (spec_l1New.f k l0).bind fun bt1039 => ((spec_l9Bent.f k bt1039.1 bt1039.2.1 bt1039.2.2 4).bind fun bt1043 => (some bt1043.1))
theorem spec_DrawRulesText.calls (k : Nat) (A0 : Option Addr) (c0 : Nat) (l0 : List Int) (r : List (S48)) (w : World) (hr0 : Kd.C (Kd.int .u8) w A0 l0.length l0) (hc0 : l0.length ≤ c0) (h : spec_DrawRulesText.f k l0 = some r) :
  Calls Tryz.prog 76 #[.slice A0 l0.length c0] w fun e w' => ∃ v0_ : Value, e = .returned (v0_) ∧ Kd.R k48 48 w' w.heap.size (fun _ => True) v0_ r ∧ Below w.heap.size w w' := by
 have HR0 := Aside0.mk hr0; have HC0 := Aside0.mk hc0; clear hr0 hc0; have HB := Aside0.mk (Below.refl w.heap.size w); have H := h; clear h; unfold spec_DrawRulesText.f at H; obtain ⟨⟨t1039, t1040, t1041⟩, A2, H⟩ := bnd24_ H; dsimp only at H; obtain ⟨⟨t1043, t1046, t1047⟩, A3, H⟩ := bnd24_ H; dsimp only at H; obtain rfl := Option.some.inj H
 go_enter Tryz.func76, Tryz.ntmps76
 go_wp2_with ((with_reducible refine gw_ rfl ?_); first | (refine gL_ 144 4 Tryz.func144 #[.slice A0 l0.length c0] ?_; (with_reducible refine (spec_l1New.calls k _ _ l0 t1039 t1040 t1041 w _ ?side1 ?side2 ?side3 A2.out).mono ?_); (case side1 => repeat (first | (with_reducible first | exact HB.out | apply below_alloc | apply pw_below_drewN | apply below_drew1) | exact HB.out)); (case side2 => exact HR0.out); (case side3 => exact HC0.out); rintro e w4 ⟨g1042, rfl, hi, hb, hb2⟩; refine ⟨_, rfl, ?_⟩; have n_ := ac_ (hb) <| Aside0.mk (hi); clear HB; obtain ⟨HB, HI1042⟩ := n_; (try clear hb hb2 hi)) | (refine gL_ 148 5 Tryz.func148 #[.pointer (some ⟨g1042, 0, none⟩), .int .i64 4] ?_; (with_reducible refine (spec_l9Bent.calls k g1042 t1039 t1040 t1041 4 t1043 t1046 t1047 w _ ?side1 ?side2 A3.out).mono ?_); (case side1 => repeat (first | (with_reducible first | exact HI1042.out | apply IsS152.alloc | apply IsS152.drewN | apply IsS152.drew | apply IsS152.set_1 | apply IsS152.set_2) | exact HI1042.out)); (case side2 => exact q24_21); rintro e w5 ⟨v1044, rfl, ho0, hi, hb, hk⟩; refine ⟨_, rfl, ?_⟩; have n_ := ac_ (Kd.R_lower ho0 (below_size q24_21)) <| ac_ (hb) <| Aside0.mk (hi); clear HB HI1042; obtain ⟨HO1045, HB, HI1042⟩ := n_; (try clear hb hk hi ho0)))
 go_ret
 exact ⟨_, (by first | rfl | (simp [errW_none, errW_some] <;> rfl) | (simp [*, errW_none, errW_some] <;> rfl)), (by (with_reducible repeat (first | apply Kd.R_alloc | apply Kd.R_drewN | apply Kd.R_drew)); exact HO1045.out), q24_21⟩
end Go.Proofs.YtafnamchckehmaaGreatDoor.Pr
namespace Go.Proofs.YtafnamchckehmaaGreatDoor.Pr
open Go.RowKit Go.Proofs.YtafnamchckehmaaGreatDoorW.PrintWords Go.Proofs.YtafnamchckehmaaGreatDoorW.PrintLast Go.Proofs.YtafnamchckehmaaGreatDoorW.PrintMore
set_option linter.unusedVariables false
set_option linter.unusedSimpArgs false
def idxF {α : Type} (p : α → Bool) (l : List α) : Int := if l.any p = true then (l.findIdx p : Int) else -1
theorem idxF_hit {α : Type} (p : α → Bool) (l : List α) (d : α) (k : Nat) (hk : k < l.length) (h : p (l.getD k d) = true) (hn : ∀ j, j < k → p (l.getD j d) = false) : idxF p l = k := by
  have hg : ∀ j (hj : j < l.length), l.getD j d = l[j] := fun j hj => by simp [List.getD_eq_getElem?_getD, List.getElem?_eq_getElem hj]
  have hf : l.findIdx p = k := (List.findIdx_eq hk).2 ⟨by rw [← hg k hk]; exact h, fun j hj => by rw [← hg j (by omega)]; exact hn j hj⟩
  have ha : l.any p = true := List.any_eq_true.2 ⟨l[k], List.getElem_mem hk, by rw [← hg k hk]; exact h⟩
  unfold idxF
  rw [if_pos ha, hf]
theorem idxF_miss {α : Type} (p : α → Bool) (l : List α) (d : α) (hn : ∀ j, j < l.length → p (l.getD j d) = false) : idxF p l = -1 ∧ l.any p = false := by
  have ha : l.any p = false := by
    rw [List.any_eq_false]
    intro x hx
    obtain ⟨j, hj, rfl⟩ := List.getElem_of_mem hx
    have := hn j hj
    rw [List.getD_eq_getElem?_getD, List.getElem?_eq_getElem hj] at this
    simpa using this
  unfold idxF
  rw [ha]
  exact ⟨rfl, rfl⟩
theorem idxF_nonneg {α : Type} (p : α → Bool) (l : List α) : decide (0 ≤ idxF p l) = l.any p := by
  unfold idxF
  cases l.any p <;> simp
set_option maxHeartbeats 4000000
set_option maxRecDepth 100000
def FnRb (g : Nat) (lb : Array Value) (p : S48 → Bool) (w : World) : Prop :=
  ∀ (W : World) (x : S48), Below w.heap.size w W → Calls Tryz.prog g (#[.agg #[.int .i64 x.f0, .int .i64 x.f1]] ++ lb) W fun e w' => e = .returned (.bool (p x)) ∧ Below W.heap.size W w'
theorem IndexFunc_rule (g : Nat) (lb : Array Value) (eg : ∀ args w, (callFunc g args).run Tryz.prog w = .ok (.enter g args) w) (A : Option Addr) (c : Nat) (l : List S48) (p : S48 → Bool) (w : World)
    (hr : Kd.C k48 w A l.length l) (hp : FnRb g lb p w) :
    Calls Tryz.prog 142 #[.slice A l.length c, .func (.func g) #[] lb] w fun e w' => e = .returned (.int .i64 (idxF p l)) ∧ Below w.heap.size w w' := by
  have hu := Tryz.underlying48
  have HR0 := Aside0.mk hr
  have HP := Aside0.mk hp
  clear hr hp
  go_enter Tryz.func142, Tryz.ntmps142
  go_wp2
  go_loopg [5, 8] (l.length + 1) (fun kq _ v8 w' => ∃ (x : Int), v8 = .int .i64 x ∧ Aside0 (0 ≤ x ∧ x ≤ l.length ∧ (l.length : Int) - x < kq) ∧ Aside0 (∀ j : Nat, (j : Int) < x → p (l.getD j z48) = false) ∧ Aside0 (Below w.heap.size w w'))
  case atStart => exact ⟨0, rfl, ⟨by omega⟩, ⟨fun j hj => by omega⟩, ⟨Below.refl _ _⟩⟩
  case round =>
    obtain ⟨x, rfl, HX, HN, HB⟩ := hrel
    by_cases hlt : x < (l.length : Int)
    · have c0 : decide (x < (l.length : Int)) = true := decide_eq_true hlt
      have p0 : 0 ≤ x := HX.out.1
      obtain ⟨ad, e, hx0, hx1⟩ := at_T48 HR0.out x p0 hlt
      cases e
      replace hx0 := (HB.out.cell (World.block_lt_of_cell? w _ hx0)).trans hx0
      replace hx1 := (HB.out.cell (World.block_lt_of_cell? w _ hx1)).trans hx1
      have HL := Aside0.mk hlt
      replace p0 := eq_true p0
      replace hlt := eq_true hlt
      have hcall := HP.out wr (rd_T48 l x) HB.out
      cases hq : p (rd_T48 l x) with
      | true =>
        rw [hq] at hcall
        have HQ := Aside0.mk hq
        clear hq
        go_wp2_with (go_at_fn g; refine hcall.mono ?_; rintro e w' ⟨rfl, hb⟩)
        go_ret
        have hx := HX.out
        have h1 := idxF_hit p l z48 x.toNat (by have := HL.out; omega) HQ.out (fun j hj => HN.out j (by omega))
        refine ⟨?_, below_step HB.out hb⟩
        rw [h1, Int.toNat_of_nonneg hx.1]
        rfl
      | false =>
        rw [hq] at hcall
        have HQ := Aside0.mk hq
        clear hq
        go_wp2_with (go_at_fn g; refine hcall.mono ?_; rintro e w' ⟨rfl, hb⟩)
        have hw : wrap64 (x + 1) = x + 1 := by have h1 := HX.out; have h2 := HL.out; have h3 := HR0.out.2.1; unfold wrap64; omega
        have HW := Aside0.mk hw
        clear hw
        go_roundg (gk - 1)
        case measure => have h1 := HX.out; have h2 := HL.out; omega
        case rel =>
          refine ⟨x + 1, by rw [HW.out], ⟨?_⟩, ⟨fun j hj => ?_⟩, ⟨below_step HB.out hb⟩⟩
          · have h1 := HX.out; have h2 := HL.out; omega
          · by_cases e : (j : Int) = x
            · have : j = x.toNat := by omega
              subst this
              exact HQ.out
            · exact HN.out j (by omega)
    · have c0 : decide (x < (l.length : Int)) = false := decide_eq_false hlt
      have HL := Aside0.mk hlt
      clear hlt
      go_wp2
      go_ret
      have h1 := HX.out
      have h2 := HL.out
      rw [(idxF_miss p l z48 (fun j hj => HN.out j (by omega))).1]
      exact ⟨rfl, HB.out⟩
theorem ContainsFunc_rule (g : Nat) (lb : Array Value) (eg : ∀ args w, (callFunc g args).run Tryz.prog w = .ok (.enter g args) w) (A : Option Addr) (c : Nat) (l : List S48) (p : S48 → Bool) (w : World)
    (hr : Kd.C k48 w A l.length l) (hp : FnRb g lb p w) :
    Calls Tryz.prog 167 #[.slice A l.length c, .func (.func g) #[] lb] w fun e w' => e = .returned (.bool (l.any p)) ∧ Below w.heap.size w w' := by
  have h0 := IndexFunc_rule g lb eg A c l p w hr hp
  have h1 := Aside0.mk (idxF_nonneg p l)
  clear hr hp
  go_enter Tryz.func167, Tryz.ntmps167
  go_wp2_with (go_at_call 142; refine h0.mono ?_; rintro e w' ⟨rfl, hb⟩)
  go_ret
  exact ⟨by rw [← h1.out]; rfl, hb⟩
def FnIb (g : Nat) (lb : Array Value) (p : Int → Bool) (w : World) : Prop :=
  ∀ (W : World) (x : Int), Below w.heap.size w W → Calls Tryz.prog g (#[.int .i64 x] ++ lb) W fun e w' => e = .returned (.bool (p x)) ∧ Below W.heap.size W w'
theorem IndexFunc_int (g : Nat) (lb : Array Value) (eg : ∀ args w, (callFunc g args).run Tryz.prog w = .ok (.enter g args) w) (A : Option Addr) (c : Nat) (l : List Int) (p : Int → Bool) (w : World)
    (hr : Kd.C (Kd.int .i64) w A l.length l) (hp : FnIb g lb p w) :
    Calls Tryz.prog 255 #[.slice A l.length c, .func (.func g) #[] lb] w fun e w' => e = .returned (.int .i64 (idxF p l)) ∧ Below w.heap.size w w' := by
  have HR0 := Aside0.mk hr
  have HP := Aside0.mk hp
  clear hr hp
  go_enter Tryz.func255, Tryz.ntmps255
  go_wp2
  go_loopg [5, 8] (l.length + 1) (fun kq _ v8 w' => ∃ (x : Int), v8 = .int .i64 x ∧ Aside0 (0 ≤ x ∧ x ≤ l.length ∧ (l.length : Int) - x < kq) ∧ Aside0 (∀ j : Nat, (j : Int) < x → p (l.getD j (0 : Int)) = false) ∧ Aside0 (Below w.heap.size w w'))
  case atStart => exact ⟨0, rfl, ⟨by omega⟩, ⟨fun j hj => by omega⟩, ⟨Below.refl _ _⟩⟩
  case round =>
    obtain ⟨x, rfl, HX, HN, HB⟩ := hrel
    by_cases hlt : x < (l.length : Int)
    · have c0 : decide (x < (l.length : Int)) = true := decide_eq_true hlt
      have p0 : 0 ≤ x := HX.out.1
      obtain ⟨ad, e, hx0⟩ := Kd.at_int HR0.out x p0 hlt
      cases e
      replace hx0 := (HB.out.cell (World.block_lt_of_cell? w _ hx0)).trans hx0
      have HL := Aside0.mk hlt
      replace p0 := eq_true p0
      replace hlt := eq_true hlt
      have hcall := HP.out wr (rd l x) HB.out
      cases hq : p (rd l x) with
      | true =>
        rw [hq] at hcall
        have HQ := Aside0.mk hq
        clear hq
        go_wp2_with (go_at_fn g; refine hcall.mono ?_; rintro e w' ⟨rfl, hb⟩)
        go_ret
        have hx := HX.out
        have h1 := idxF_hit p l (0 : Int) x.toNat (by have := HL.out; omega) HQ.out (fun j hj => HN.out j (by omega))
        refine ⟨?_, below_step HB.out hb⟩
        rw [h1, Int.toNat_of_nonneg hx.1]
        rfl
      | false =>
        rw [hq] at hcall
        have HQ := Aside0.mk hq
        clear hq
        go_wp2_with (go_at_fn g; refine hcall.mono ?_; rintro e w' ⟨rfl, hb⟩)
        have hw : wrap64 (x + 1) = x + 1 := by have h1 := HX.out; have h2 := HL.out; have h3 := HR0.out.2.1; unfold wrap64; omega
        have HW := Aside0.mk hw
        clear hw
        go_roundg (gk - 1)
        case measure => have h1 := HX.out; have h2 := HL.out; omega
        case rel =>
          refine ⟨x + 1, by rw [HW.out], ⟨?_⟩, ⟨fun j hj => ?_⟩, ⟨below_step HB.out hb⟩⟩
          · have h1 := HX.out; have h2 := HL.out; omega
          · by_cases e : (j : Int) = x
            · have : j = x.toNat := by omega
              subst this
              exact HQ.out
            · exact HN.out j (by omega)
    · have c0 : decide (x < (l.length : Int)) = false := decide_eq_false hlt
      have HL := Aside0.mk hlt
      clear hlt
      go_wp2
      go_ret
      have h1 := HX.out
      have h2 := HL.out
      rw [(idxF_miss p l (0 : Int) (fun j hj => HN.out j (by omega))).1]
      exact ⟨rfl, HB.out⟩
theorem ContainsFunc_int (g : Nat) (lb : Array Value) (eg : ∀ args w, (callFunc g args).run Tryz.prog w = .ok (.enter g args) w) (A : Option Addr) (c : Nat) (l : List Int) (p : Int → Bool) (w : World)
    (hr : Kd.C (Kd.int .i64) w A l.length l) (hp : FnIb g lb p w) :
    Calls Tryz.prog 223 #[.slice A l.length c, .func (.func g) #[] lb] w fun e w' => e = .returned (.bool (l.any p)) ∧ Below w.heap.size w w' := by
  have h0 := IndexFunc_int g lb eg A c l p w hr hp
  have h1 := Aside0.mk (idxF_nonneg p l)
  clear hr hp
  go_enter Tryz.func223, Tryz.ntmps223
  go_wp2_with (go_at_call 255; refine h0.mono ?_; rintro e w' ⟨rfl, hb⟩)
  go_ret
  exact ⟨by rw [← h1.out]; rfl, hb⟩
set_option maxHeartbeats 2000000
theorem stringslite_IndexByte (s : ByteArray) (c : Int) (w : World) :
    Calls Tryz.prog 293 #[.string s, .int .u8 c] w fun e w' => e = .returned (.int .i64 (Lib.indexByte s.data.toList c.toNat.toUInt8)) ∧ w' = w := by
  go_enter Tryz.func293, Tryz.ntmps293
  go_wp2
  rw [run_callFunc_extern Tryz.func305 (by kernel_rfl) (by kernel_rfl) (by kernel_rfl) (e := Extern.BytealgIndexByte.indexByte) (by kernel_rfl), Lib.run_indexByteString]
  simp only [Result.andThen]
  rw [Oper.upon_value]
  go_wp2
  go_ret
  exact ⟨rfl, rfl⟩
theorem stringslite_Index_one (s : ByteArray) (c : UInt8) (w : World) :
    Calls Tryz.prog 278 #[.string s, .string ⟨#[c]⟩] w fun e w' => e = .returned (.int .i64 (Lib.indexByte s.data.toList c)) ∧ w' = w := by
  go_enter Tryz.func278, Tryz.ntmps278
  go_wp2_with (go_at_call 293; refine (stringslite_IndexByte _ _ _).mono ?_; rintro e w' ⟨rfl, rfl⟩)
  · have h : ([c] == s.toList) = true := by assumption
    go_ret
    refine ⟨?_, rfl⟩
    have e : s.data.toList = [c] := by rw [← Lib.toList_data]; exact (beq_iff_eq.1 h).symm
    rw [e]
    simp [Lib.indexByte]
  · go_ret
    exact ⟨rfl, rfl⟩
def stringslite_Index.f (a0 a1 : ByteArray) : Option Int := match a1.data.toList with | [c] => some (Lib.indexByte a0.data.toList c) | _ => none
theorem stringslite_Index.calls (a0 a1 : ByteArray) (r : Int) (w : World) (h : stringslite_Index.f a0 a1 = some r) :
    Calls Tryz.prog 278 #[.string a0, .string a1] w fun e w' => e = .returned (.int .i64 r) ∧ Drawn0 w w' := by
  unfold stringslite_Index.f at h
  split at h
  · rename_i c hc
    obtain rfl := Option.some.inj h
    obtain rfl : a1 = ⟨#[c]⟩ := by
      cases a1 with
      | mk d => exact congrArg ByteArray.mk (Array.toList_inj.1 hc)
    refine (stringslite_Index_one a0 c w).mono ?_
    rintro e w' ⟨rfl, rfl⟩
    exact ⟨rfl, Drawn0.refl _⟩
  · cases h
end Go.Proofs.YtafnamchckehmaaGreatDoor.Pr
