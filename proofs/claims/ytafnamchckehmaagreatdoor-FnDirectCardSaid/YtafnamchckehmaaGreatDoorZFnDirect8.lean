/- What the law needs of the program's functions as plain functions, of the proofs that their calls answer so, and of plain laws: gathered by a program of this place (pack.py) out of its printed texts. No condition beyond what each statement says. -/
import Derived.Test.YtafnamchckehmaaGreatDoorZFnDirect2
import Derived.Test.YtafnamchckehmaaGreatDoorZFnDirect3
import Derived.Test.YtafnamchckehmaaGreatDoorZFnDirect5
import Derived.Test.YtafnamchckehmaaGreatDoorZFnDirect6
import Derived.Test.YtafnamchckehmaaGreatDoorZFnDirect7
import Derived.Shelf.Abstract
import Derived.Laws.Bits64b
import Derived.Lib.TrailingZeros
import Derived.WalkSpells
import Derived.Test.YtafnamchckehmaaGreatDoorRows
import Derived.Lib.LaidTab
import Derived.LaidSub
import Derived.MakeChecks
namespace Go.Proofs.YtafnamchckehmaaGreatDoor.Pr
open Go.RowKit Go.Proofs.YtafnamchckehmaaGreatDoorW.PrintWords Go.Proofs.YtafnamchckehmaaGreatDoorW.PrintLast Go.Proofs.YtafnamchckehmaaGreatDoorW.PrintMore
attribute [local go_sem] max2_int min2_int max_two min_two max_three min_three max_four min_four
set_option linter.unusedVariables false
set_option linter.unusedSimpArgs false
theorem bnd10_ {α β : Type} {o : Option α} {f : α → Option β} {r : β} (h : o.bind f = some r) : ∃ a, Aside0 (o = some a) ∧ f a = some r := by
 obtain ⟨a, h1, h2⟩ := Option.bind_eq_some_iff.mp h
 exact ⟨a, ⟨h1⟩, h2⟩
theorem q10_2 {P : Prop} (h : P := by repeat (first | (with_reducible first | exact HB.out | apply below_alloc | apply pw_below_drewN | apply below_drew1 | refine below_set ?_ GE769.out) | exact HB.out)) : P := h
theorem q10_5 {P : Prop} (h : P := by (with_reducible repeat (first | refine blk_drewN ?_ _ | refine blk_drew ?_ | refine blk_alloc ?_ _)); exact BK769.out) : P := h
def spec_DirectBase.l0 : Nat → List (S48) → List Int → Int → Int → List Int → Option ((List (S48)))
 | 0, _, _, _, _, _ => none
 | k + 1, x3, x4, x5, x770000, x770001 => if x5 < (x4.length : Int) then (if 0 ≤ x5 then ((spec_l12New.f k x770000 x770001 (rd x4 x5)).bind fun t778 => (if x3.length < 8796093022208 then (spec_DirectBase.l0 k (x3 ++ [(⟨rd x4 x5, t778⟩ : S48)]) x4 (wrap64 (x5 + 1)) x770000 x770001) else (none))) else (none)) else (some x3)
def spec_DirectBase.f (k : Nat) (a0_0 : Int) (l0_1 : List Int) : Option ((List (S48))) := (spec_ProperPremises.f k a0_0 l0_1).bind fun t773 => (spec_DirectBase.l0 k (([] : List (S48))) t773 0 a0_0 l0_1)
def spec_DirectBase.T6 : Bool × List (List Nat × List Nat) := (true, [([], []), ([], []), ([], []), ([1, 2], [1, 2]), ([3], [3]), ([], []), ([], []), ([], []), ([6, 7], [6, 7]), ([8], [8]), ([5, 9], [5, 9]), ([4, 10], [4, 10]), ([11], [11]), ([0, 12, 10], [0, 12]), ([13, 13, 0, 1, 2, 3, 4, 5, 6, 7, 8, 9, 10, 11, 12, 13], [0, 13])])
def spec_DirectBase.B6 : List Nat := [0, 0, 0, 6, 14, 0, 0, 0, 192, 448, 992, 2046, 4094, 8191, 16383]
theorem spec_DirectBase.tab6 : rtab .any (opsOf Tryz.f114 6) = spec_DirectBase.T6 := by kernel_rfl
theorem spec_DirectBase.bits6 : waitsOk spec_DirectBase.T6.2 spec_DirectBase.B6 = true := by kernel_rfl
set_option maxHeartbeats 8000000 in
set_option maxRecDepth 100000 in
theorem spec_DirectBase.calls (k : Nat) (a0_0 : Int) (A0_1 : Option Addr) (c0_1 : Nat) (l0_1 : List Int) (r : List (S48)) (w : World) (hr0_1 : Kd.C (Kd.int .i64) w A0_1 l0_1.length l0_1) (hc0_1 : l0_1.length ≤ c0_1) (h : spec_DirectBase.f k a0_0 l0_1 = some r) :
  Calls Tryz.prog 114 #[.agg #[.int .i64 a0_0, .slice A0_1 l0_1.length c0_1]] w fun e w' => ∃ v0_ : Value, e = .returned (v0_) ∧ Kd.R k48 48 w' w.heap.size (fun _ => True) v0_ r ∧ Below w.heap.size w w' := by
 have hu29 := Tryz.underlying29; have hu48 := Tryz.underlying48; have HR0_1 := Aside0.mk hr0_1; have HC0_1 := Aside0.mk hc0_1; clear hr0_1 hc0_1; have HB := Aside0.mk (Below.refl w.heap.size w); have H := h; clear h; unfold spec_DirectBase.f at H; obtain ⟨y770, hy770⟩ : ∃ y_ : List (S48), y_ = (([] : List (S48))) := ⟨_, rfl⟩
 replace H : ((spec_ProperPremises.f k a0_0 l0_1).bind fun t773 => (spec_DirectBase.l0 k y770 t773 0 a0_0 l0_1)) = some r := by first | (rw [hy770]; with_reducible exact H) | (have H2_ := (Option.bind_some _ _).symm.trans H; rw [hy770]; with_reducible exact H2_) | (have H2_ := (Option.bind_some _ _).symm.trans H; with_reducible exact H2_) | with_reducible exact H | (rw [hy770]; exact H) | exact H
 have Ny770 := Aside0.mk hy770; clear hy770; obtain ⟨t773, A2, H⟩ := bnd10_ H; have H' := Aside0.mk H; clear H
 go_enter Tryz.func114, Tryz.ntmps114
 go_wp2_with (first | ((with_reducible refine gate_dst (N := 1) rfl ?_); refine box_event ?hg (N := 1) ?hd (cs := #[.int .i64 a0_0, .slice A0_1 l0_1.length c0_1]) (t := 29) ?hr ?_; (case hd => rfl); (case hg => rfl); (case hr => first | (go_simp; done) | (go_simp; rfl)); intro gb769 hg w3 hbox hb; have n_ := ac_ (below_step s1_ hb) <| ac_ (hbox) <| ac_ ((by rw [hg]; exact (below_size s1_) : w.heap.size ≤ gb769)) <| Aside0.mk ((by rw [hg]; exact (below_size s1_) : w.heap.size ≤ gb769)); clear HB; obtain ⟨HB, BK769, GW769, GE769⟩ := n_; clear hb hbox hg) | ((with_reducible refine gate_dst (N := 6) rfl ?_); refine Kd.R_lit k48 _ 48 ?hg (N := 6) ?hd (xs := ([] : List (S48))) (inner := []) (ok := fun _ => True) (okp := fun _ => True) ?hr ?hp (fun _ hk => hk) trivial (Below.refl _ _) (Nat.le_refl _) (by simp) ?_; (case hd => rfl); (case hg => rfl); (case hr => first | (go_simp; done) | (go_simp; rfl)); (case hp => exact (Reps.none _ _)); intro v771 w4 ho5 hb hg_ hnew_; clear hg_ hnew_; (first | rw [← Ny770.out] at ho5 | (simp only [Int.reduceToNat] at ho5; rw [← Ny770.out] at ho5)); have n_ := ac_ (Kd.R_lower ho5 (below_size q10_2)) <| ac_ (blk_below (g := gb769) (o := .cells #[.int .i64 a0_0, .slice A0_1 l0_1.length c0_1] 29 (0, 0)) q10_5 hb) <| Aside0.mk (below_step q10_2 hb); clear BK769 HB; obtain ⟨HO772, BK769, HB⟩ := n_; clear hb ho5; have hcz6_0 : w4.cell? ⟨gb769, 0, none⟩ = some (.int .i64 a0_0) := (blk_cell BK769.out 0).trans rfl; have hcz6_1 : w4.cell? ⟨gb769, 1, none⟩ = some (.slice A0_1 l0_1.length c0_1) := (blk_cell BK769.out 1).trans rfl; have hfz6_0 := blk_frozen BK769.out 0; have hfz6_1 := blk_frozen BK769.out 1) | (refine gL_ 115 8 Tryz.func115 #[.agg #[.int .i64 a0_0, .slice A0_1 l0_1.length c0_1]] ?_; (with_reducible refine (spec_ProperPremises.calls k a0_0 _ _ l0_1 t773 _ ?side1 ?side2 A2.out).mono ?_); (case side1 => exact s4_); (case side2 => exact HC0_1.out); rintro e w7 ⟨v774, rfl, ho0, hb⟩; refine ⟨_, rfl, ?_⟩; have n_ := ac_ (Kd.R_below (by (with_reducible repeat (first | apply Kd.R_alloc | apply Kd.R_drewN | apply Kd.R_drew)); exact HO772.out) hb) <| ac_ (Kd.R_lower ho0 (below_size q10_2)) <| ac_ (blk_below (g := gb769) (o := .cells #[.int .i64 a0_0, .slice A0_1 l0_1.length c0_1] 29 (0, 0)) q10_5 hb) <| Aside0.mk (below_step q10_2 hb); clear HO772 BK769 HB; obtain ⟨HO772, HO775, BK769, HB⟩ := n_; (try clear hb ho0)))
 go_loopg [3, 5] k (fun kq v3 v5 w' => ∃ (x3_1 : List (S48)) (x5_1 : Int), v5 = .int .i64 x5_1 ∧ Aside0 (spec_DirectBase.l0 kq x3_1 t773 x5_1 a0_0 l0_1 = some r) ∧ Aside0 (kq ≤ k) ∧ Aside0 (Kd.R k48 48 w' w.heap.size (fun _ => True) v3 x3_1) ∧ Aside0 (Kd.R (Kd.int .i64) 3 w' w.heap.size (fun _ => True) v774 t773) ∧ Aside0 (w'.heap[gb769]? = some (.cells #[.int .i64 a0_0, (.slice A0_1 l0_1.length c0_1)] 29 (0, 0))) ∧ Aside0 (Below w.heap.size w w'))
 case atStart => exact ⟨(y770), (0), (by first | rfl | (simp; done) | (simp [*]; done) | (simp [i64_w, i32_w]; done)), H', ⟨Nat.le_refl _⟩, ⟨(by (with_reducible repeat (first | apply Kd.R_alloc | apply Kd.R_drewN | apply Kd.R_drew)); exact HO772.out)⟩, ⟨(by (with_reducible repeat (first | apply Kd.R_alloc | apply Kd.R_drewN | apply Kd.R_drew)); exact HO775.out)⟩, ⟨q10_5⟩, ⟨q10_2⟩⟩
 case round =>
  clear H'
  try clear c1
  try clear p2
  try clear hcz6_0
  try clear hcz6_1
  try clear hfz6_0
  try clear hfz6_1
  obtain ⟨x3_1, x5_1, rfl, HA, HK1, HO_3, HO_4, BK769, HB⟩ := hrel
  cases gk with
  | zero => exact absurd HA.out (by simp [spec_DirectBase.l0])
  | succ k1 =>
   have H := HA.out; clear HA
   simp only [spec_DirectBase.l0] at H
   by_cases c8 : x5_1 < (t773.length : Int)
   ·
    rw [if_pos c8] at H; have c8b0 : decide (x5_1 < (t773.length : Int)) = true := decide_eq_true c8; clear c8
    by_cases c9 : 0 ≤ x5_1
    ·
     rw [if_pos c9] at H; have c9b0 : decide (0 ≤ x5_1) = true := decide_eq_true c9; clear c9; obtain ⟨t778, A10, H⟩ := bnd10_ H
     by_cases c11 : x3_1.length < 8796093022208
     ·
      rw [if_pos c11] at H; have LMc11 := Aside0.mk c11; clear c11; obtain ⟨y779, hy779⟩ : ∃ y_ : List (S48), y_ = (x3_1 ++ [(⟨rd t773 x5_1, t778⟩ : S48)]) := ⟨_, rfl⟩
      replace H : (spec_DirectBase.l0 k1 y779 t773 (wrap64 (x5_1 + 1)) a0_0 l0_1) = some r := by first | (rw [hy779]; with_reducible exact H) | (have H2_ := (Option.bind_some _ _).symm.trans H; rw [hy779]; with_reducible exact H2_) | (have H2_ := (Option.bind_some _ _).symm.trans H; with_reducible exact H2_) | with_reducible exact H | (rw [hy779]; exact H) | exact H
      have Ny779 := Aside0.mk hy779; clear hy779; have H' := Aside0.mk H; clear H; obtain ⟨Ao12, co12, eo12⟩ := Kd.R_slice HO_4.out; subst eo12
      try go_wp2
      have n0_ := Aside0.mk (Kd.R_drew HO_3.out); have n1_ := Aside0.mk (Kd.R_drew HO_4.out); have n2_ := Aside0.mk (blk_drew BK769.out); have n3_ := Aside0.mk (below_drew1 HB.out); clear HO_3; clear HO_4; clear BK769; clear HB; have HO_3 := n0_; have HO_4 := n1_; have BK769 := n2_; have HB := n3_; clear n0_ n1_ n2_ n3_; have p776 : 0 ≤ (x5_1 : Int) := of_decide_eq_true s3_; have q776 : x5_1 < (t773.length : Int) := of_decide_eq_true s3_; obtain ⟨ad776, e776, hx776_0⟩ := Kd.at_int (Kd.R_reads' HO_4.out).2.2 x5_1 p776 q776
      cases e776
      replace p776 := eq_true p776; replace q776 := eq_true q776; have p777 : 0 ≤ (x5_1 : Int) := of_decide_eq_true s3_; have q777 : x5_1 < (t773.length : Int) := of_decide_eq_true s3_; obtain ⟨ad777, e777, hx777_0⟩ := Kd.at_int (Kd.R_reads' HO_4.out).2.2 x5_1 p777 q777
      obtain rfl : ad776 = ad777 := (by injection e777)
      replace p777 := eq_true p777; replace q777 := eq_true q777
      refine start_ (n := 15) (S := fun w' => w'.cell? ⟨gb769, 0, none⟩ = some (.int .i64 a0_0) ∧ w'.cell? ⟨gb769, 1, none⟩ = some (.slice A0_1 l0_1.length c0_1) ∧ w'.cell? (ad776.add (x5_1).toNat) = some (.int .i64 (rd t773 x5_1)) ∧ w'.cell? (ad776.add (x5_1).toNat) = some (.int .i64 (rd t773 x5_1))) (ds := [12, 13]) (tb_ 15 0) (by kernel_rfl) rfl rfl ⟨(blk_cell BK769.out 0).trans rfl, (blk_cell BK769.out 1).trans rfl, hx776_0, hx777_0⟩ (fun hHeld => ?_); refine with_tabW spec_DirectBase.tab6 spec_DirectBase.bits6 (fun HT_ HW_ => ?_)
      generalize wr.drew = w13 at HO_3 HO_4 BK769 HB hx776_0 hx777_0 hHeld ⊢
      refine pl_ 0 15 (tb_ 15 1) ?_; refine pl_ 1 16 (tb_ 15 3) ?_; refine pl_ 2 17 (tb_ 15 7) ?_; refine pl_ 3 18 (tb_ 15 15) ?_; refine pl_ 6 21 (tb_ 15 79) ?_; refine pl_ 7 22 (tb_ 15 207) ?_; refine pl_ 8 23 (tb_ 15 463) ?_
      refine take_ (i := 4) (N := some 19) (v := ?_) (a' := ?_) (tb_ 15 479) rfl rfl (take_ofW HT_.out HW_.out (by kernel_rfl)) (fun _ _ _ h => h) (Or.inl ⟨by rfl, ?_⟩) hHeld ?_ ?_
      rotate_left
      ·
       rintro w' ⟨s0, s1, s2, s3⟩
       go_simp; with_reducible rfl
      rotate_left
      ·
       exact s10_
      refine take_ (i := 5) (N := some 20) (v := ?_) (a' := ?_) (tb_ 15 511) rfl rfl (take_ofW HT_.out HW_.out (by kernel_rfl)) (fun _ _ _ h => h) (Or.inl ⟨by rfl, ?_⟩) hHeld ?_ ?_
      rotate_left
      ·
       rintro w' ⟨s0, s1, s2, s3⟩
       go_simp; with_reducible rfl
      rotate_left
      ·
       exact s10_
      refine take_ (i := 9) (N := some 24) (v := ?_) (a' := ?_) (tb_ 15 1023) rfl rfl (take_ofW HT_.out HW_.out (by kernel_rfl)) (fun _ _ _ h => h) (Or.inl ⟨by rfl, ?_⟩) hHeld ?_ ?_
      rotate_left
      ·
       rintro w' ⟨s0, s1, s2, s3⟩
       go_simp; with_reducible rfl
      rotate_left
      ·
       exact s10_
      refine one_ (i := 10) (N := some 25) (tb_ 15 2047) rfl rfl (one_of HT_.out (by kernel_rfl)) (by decide) (fun K hK => ?_)
      refine goes_ Tryz.func206 (by kernel_rfl) rfl #[.agg #[.int .i64 a0_0, .slice _ l0_1.length c0_1], .int .i64 (rd t773 x5_1)] (by rfl) rfl rfl s0_ ?_
      with_reducible refine (spec_l12New.calls k1 a0_0 _ _ l0_1 (rd t773 x5_1) t778 _ ?side1 ?side2 A10.out).mono ?_
      (case side1 => exact s4_)
      (case side2 => exact HC0_1.out)
      rintro e w14 ⟨rfl, hb⟩
      have HS2_ := (hb.cell (World.block_lt_of_cell? _ _ (hHeld.2.2.1))).trans (hHeld.2.2.1); have HS3_ := (hb.cell (World.block_lt_of_cell? _ _ (hHeld.2.2.2))).trans (hHeld.2.2.2)
      refine ⟨_, rfl, ?_⟩
      have n0_ := Aside0.mk (Kd.R_below s9_ hb); have n1_ := Aside0.mk (Kd.R_below s14_ hb); have n2_ := Aside0.mk (blk_below (g := gb769) (o := .cells #[.int .i64 a0_0, .slice A0_1 l0_1.length c0_1] 29 (0, 0)) q10_5 hb); have n3_ := Aside0.mk (below_step q10_2 hb); clear HO_3; clear HO_4; clear BK769; clear HB; have HO_3 := n0_; have HO_4 := n1_; have BK769 := n2_; have HB := n3_; clear n0_ n1_ n2_ n3_
      (try clear hb)
      (try clear hb2)
      (try clear hk)
      (try clear hi)
      refine hK.out _ _ ⟨(blk_cell BK769.out 0).trans rfl, (blk_cell BK769.out 1).trans rfl, HS2_, HS3_⟩ (fun hHeld => ?_)
      clear hK K
      refine norm_ (a' := ?_) ?_ ?_
      rotate_left
      ·
       show Act.put _ (some 25) _ = _
       exact s10_
      refine pl_ 11 26 (tb_ 15 4095) ?_
      refine last_ (i := 12) (N := some 27) (tb_ 15 8191) rfl rfl (one_of HT_.out (by kernel_rfl)) (by decide) (fun K hK => ?_)
      refine value_ (w1 := ?_) (v := ?_) (by rfl) rfl ?_ ?_
      rotate_left 2
      ·
       go_simp
       constructor
       ·
        rfl
       ·
        rfl
      refine hK.out _ _ ?_
      clear hK K
      refine norm_ (a' := ?_) ?_ ?_
      rotate_left
      ·
       show Act.put _ (some 27) _ = _
       exact s10_
      refine last_ (i := 13) (N := some 28) (tb_ 15 16383) rfl rfl (one_of HT_.out (by kernel_rfl)) (by decide) (fun K hK => ?_)
      refine Kd.R_append_step k48 (w0 := w) w.heap.size (by rfl) (.tmp 15) (.tmp 27) 24 48 (.agg #[(.int .i64 0), (.int .i64 0)]) 16 rfl Tryz.underlying24 info48 rfl (by decide) (by omega) u3 x3_1 (⟨rd t773 x5_1, t778⟩ : S48) [.int .i64 (rd t773 x5_1), .int .i64 t778] (fun _ => True) (fun _ => False) rfl rfl ?aP (fun _ hk => hk.elim) ?aF ?aO ?aB ?aS ?aL ?_
      (case aP => exact k48_mkM _ _ _ (⟨rd t773 x5_1, t778⟩ : S48))
      (case aB => exact q10_2)
      (case aF => exact (fun _ _ => trivial))
      (case aO => exact s9_)
      (case aS => exact (below_size q10_2))
      (case aL => have := LMc11.out; omega)
      intro v780 w15 ho hb hg hat
      rw [← Ny779.out] at ho
      have n0_ := Aside0.mk (Kd.R_over' s14_ (Kd.R_typed s9_) (by decide) hg)
      have n1_ := Aside0.mk (blk_grown (g := gb769) (o := .cells #[.int .i64 a0_0, .slice A0_1 l0_1.length c0_1] 29 (0, 0)) q10_5 hg (Kd.R_ne HO_3.out BK769.out (by decide)))
      have n2_ := Aside0.mk (hb); have n3_ := Aside0.mk (ho); clear HO_4; clear BK769; clear HB; clear HO_3; have HO_4 := n0_; have BK769 := n1_; have HB := n2_; have HO781 := n3_; clear n0_ n1_ n2_ n3_; clear ho hb hg hat
      refine hK.out _ _ ?_
      clear hK K
      refine norm_ (a' := ?_) ?_ ?_
      rotate_left
      ·
       show Act.put _ (some 28) _ = _
       exact s10_
      refine pl_ 14 3 (tb_ 15 32767) ?_
      refine done_ (done_of HT_.out (by kernel_rfl)) ?_
      try go_wp2
      go_roundg k1
      case measure => have := HK1.out; omega
      case rel => exact ⟨(y779), (wrap64 (x5_1 + 1)), (by first | rfl | (simp; done) | (simp [*]; done) | (simp [i64_w, i32_w]; done)), H', ⟨by have := HK1.out; omega⟩, ⟨(by (with_reducible repeat (first | apply Kd.R_alloc | apply Kd.R_drewN | apply Kd.R_drew)); exact HO781.out)⟩, ⟨s14_⟩, ⟨q10_5⟩, ⟨q10_2⟩⟩
     ·
      rw [if_neg c11] at H
      exact absurd H (by simp)
    ·
     rw [if_neg c9] at H
     exact absurd H (by simp)
   ·
    rw [if_neg c8] at H; have c8b0 : decide (x5_1 < (t773.length : Int)) = false := decide_eq_false c8; clear c8; obtain rfl := Option.some.inj H; obtain ⟨Ao16, co16, eo16⟩ := Kd.R_slice HO_4.out; subst eo16
    go_wp2
    go_ret
    exact ⟨_, (by first | rfl | (simp [errW_none, errW_some] <;> rfl) | (simp [*, errW_none, errW_some] <;> rfl)), s9_, q10_2⟩
theorem q10_9 {P : Prop} (h : P := by (with_reducible repeat (first | refine blk_drewN ?_ _ | refine blk_drew ?_ | refine blk_alloc ?_ _)); refine blk_put (cs := #[.int .i64 t786, .slice none 0 0]) ?_ 1 _ rfl; (with_reducible repeat (first | refine blk_drewN ?_ _ | refine blk_drew ?_ | refine blk_alloc ?_ _)); refine blk_put (cs := #[.int .i64 0, .slice none 0 0]) ?_ 0 _ rfl; (with_reducible repeat (first | refine blk_drewN ?_ _ | refine blk_drew ?_ | refine blk_alloc ?_ _)); exact BK792.out) : P := h
theorem q10_10 {P : Prop} (h : P := by repeat (first | (with_reducible first | exact HI785.out | apply IsS152.alloc | apply IsS152.drewN | apply IsS152.drew | apply IsS152.set_1 | apply IsS152.set_2 | refine IsS152.far ?_ NB785_792.out _) | exact HI785.out)) : P := h
theorem q10_11 {P : Prop} (h : P := by repeat (first | (with_reducible first | exact HB.out | apply below_alloc | apply pw_below_drewN | apply below_drew1 | refine below_set ?_ (IsS152.ge HI785.out) | refine below_set ?_ GE792.out) | exact HB.out)) : P := h
theorem q10_12 {P : Prop} (h : P := by repeat (first | (with_reducible first | exact HI785.out | apply IsS152.alloc | apply IsS152.drewN | apply IsS152.drew | apply IsS152.set_1 | apply IsS152.set_2) | exact HI785.out)) : P := h
theorem q10_13 {P : Prop} (h : P := by repeat (first | (with_reducible first | exact HB.out | apply below_alloc | apply pw_below_drewN | apply below_drew1 | refine below_set ?_ (IsS152.ge HI785.out)) | exact HB.out)) : P := h
theorem q10_14 {P : Prop} (h : P := by repeat (first | exact (Kd.R_reads' HO789.out).2.2 | (with_reducible refine Kd.C_alloc ?_ _) | (with_reducible refine Kd.C_drewN ?_ _) | (with_reducible refine Kd.C_drew ?_))) : P := h
theorem q10_17 {P : Prop} (h : P := by (with_reducible repeat (first | refine blk_drewN ?_ _ | refine blk_drew ?_ | refine blk_alloc ?_ _)); exact BK792.out) : P := h
theorem q10_18 {P : Prop} (h : P := by (with_reducible repeat (first | apply Kd.R_alloc | apply Kd.R_drewN | apply Kd.R_drew)); exact HO789.out) : P := h
def spec_DrawIsDirect.f (k : Nat) (l0 : List Int) : Option (Int × (List (S48))) := (spec_l1New.f k l0).bind fun bt782 => ((spec_l3Draw.f k bt782.1 bt782.2.1 bt782.2.2).bind fun bt786 => ((spec_l1Once.f bt782.1 bt786.2.2.1 bt786.2.2.2 2).bind fun bt793 => (if bt793.1 = true then ((spec_StemBase.f k bt786.1 bt786.2.1).bind fun t796 => (some (bt786.1, t796))) else ((spec_l1Once.f bt782.1 bt793.2.1 bt793.2.2 3).bind fun bt799 => (if bt799.1 = true then ((spec_l9Bent.f k bt782.1 bt799.2.1 bt799.2.2 bt786.1).bind fun bt802 => (some (bt786.1, bt802.1))) else ((spec_DirectBase.f k bt786.1 bt786.2.1).bind fun t807 => (some (bt786.1, t807))))))))
def spec_DrawIsDirect.T6 : Bool × List (List Nat × List Nat) := (true, [([], []), ([0], [0]), ([], []), ([], []), ([3], [3]), ([2, 4], [2, 4]), ([1, 5, 0, 1], [1]), ([5, 6, 0, 1, 2, 3, 4, 5, 6], [5])])
def spec_DrawIsDirect.B6 : List Nat := [0, 1, 0, 0, 8, 28, 63, 127]
theorem spec_DrawIsDirect.tab6 : rtab .any (opsOf Tryz.f113 6) = spec_DrawIsDirect.T6 := s12_
theorem spec_DrawIsDirect.bits6 : waitsOk spec_DrawIsDirect.T6.2 spec_DrawIsDirect.B6 = true := s12_
set_option maxHeartbeats 8000000 in
set_option maxRecDepth 100000 in
theorem spec_DrawIsDirect.calls (k : Nat) (A0 : Option Addr) (c0 : Nat) (l0 : List Int) (r1 : Int) (r2 : List (S48)) (w : World) (hr0 : Kd.C (Kd.int .u8) w A0 l0.length l0) (hc0 : l0.length ≤ c0) (h : spec_DrawIsDirect.f k l0 = some (r1, r2)) :
  Calls Tryz.prog 113 #[.slice A0 l0.length c0] w fun e w' => ∃ v1_ : Value, e = .returned (.tuple #[.int .i64 r1, v1_]) ∧ Kd.R k48 48 w' w.heap.size (fun _ => True) v1_ r2 ∧ Below w.heap.size w w' := by
 have hu29 := Tryz.underlying29; have HR0 := Aside0.mk hr0; have HC0 := Aside0.mk hc0; clear hr0 hc0; have HB := Aside0.mk (Below.refl w.heap.size w); have H := h; clear h; unfold spec_DrawIsDirect.f at H; obtain ⟨⟨t782, t783, t784⟩, A2, H⟩ := bnd10_ H; dsimp only at H; obtain ⟨⟨t786, t787, t790, t791⟩, A3, H⟩ := bnd10_ H; dsimp only at H; obtain ⟨⟨t793, t794, t795⟩, A4, H⟩ := bnd10_ H; dsimp only at H
 by_cases c5 : t793 = true
 ·
  subst c5; rw [if_pos rfl] at H; obtain ⟨t796, A6, H⟩ := bnd10_ H
  simp only [Option.some.injEq, Prod.mk.injEq] at H
  obtain ⟨rfl, rfl⟩ := H
  go_enter Tryz.func113, Tryz.ntmps113
  try go_wp2_with (first | (refine gL_ 144 7 Tryz.func144 #[.slice A0 l0.length c0] ?_; (with_reducible refine (spec_l1New.calls k _ _ l0 t782 t783 t784 w _ ?side1 ?side2 ?side3 A2.out).mono ?_); (case side1 => exact s1_); (case side2 => exact HR0.out); (case side3 => exact HC0.out); rintro e w7 ⟨g785, rfl, hi, hb, hb2⟩; refine ⟨_, rfl, ?_⟩; have n_ := ac_ (hb) <| Aside0.mk (hi); clear HB; obtain ⟨HB, HI785⟩ := n_; (try clear hb hb2 hi)) | (refine gL_ 205 9 Tryz.func205 #[.pointer (some ⟨g785, 0, none⟩)] ?_; (with_reducible refine (spec_l3Draw.calls k g785 t782 t783 t784 t786 t787 t790 t791 w _ ?side1 ?side2 A3.out).mono ?_); (case side1 => exact q10_12); (case side2 => exact q10_13); rintro e w8 ⟨v788, rfl, ho0, hi, hb, hk⟩; refine ⟨_, rfl, ?_⟩; have n_ := ac_ (Kd.R_lower ho0 (below_size q10_13)) <| ac_ (hb) <| Aside0.mk (hi); clear HB HI785; obtain ⟨HO789, HB, HI785⟩ := n_; (try clear hb hk hi ho0)) | ((with_reducible refine gate_dst (N := 5) rfl ?_); refine box_event ?hg (N := 5) ?hd (cs := #[.int .i64 0, .slice none 0 0]) (t := 29) ?hr ?_; (case hd => rfl); (case hg => rfl); (case hr => first | (go_simp; done) | (go_simp; rfl)); intro gb792 hg w9 hbox hb; have n_ := ac_ (Kd.R_below q10_18 hb) <| ac_ (IsS152.below q10_12 hb) <| ac_ (below_step q10_13 hb) <| ac_ (hbox) <| ac_ ((by rw [hg]; exact (below_size q10_13) : w.heap.size ≤ gb792)) <| ac_ ((by rw [hg]; exact (below_size q10_13) : w.heap.size ≤ gb792)) <| ac_ ((by rw [hg]; exact Nat.ne_of_lt (IsS152.lt (show IsS152 w _ g785 t782 t790 t791 from q10_12)) : g785 ≠ gb792)) <| Aside0.mk ((by rw [hg]; exact Nat.ne_of_gt (IsS152.lt (show IsS152 w _ g785 t782 t790 t791 from q10_12)) : gb792 ≠ g785)); clear HO789 HI785 HB; obtain ⟨HO789, HI785, HB, BK792, GW792, GE792, NB785_792, NB792_785⟩ := n_; clear hb hbox hg; have hnb10 := NB792_785.out; have hnc10 := NB785_792.out; have hcz11_0 : w9.cell? ⟨gb792, 0, none⟩ = some (.int .i64 0) := (blk_cell BK792.out 0).trans rfl; have hcz11_1 : w9.cell? ⟨gb792, 1, none⟩ = some (.slice none 0 0) := (blk_cell BK792.out 1).trans rfl; have hfz11_0 := blk_frozen BK792.out 0; have hfz11_1 := blk_frozen BK792.out 1; obtain ⟨Ao12, co12, eo12⟩ := Kd.R_slice HO789.out; subst eo12) | (refine gL_ 145 11 Tryz.func145 #[.pointer (some ⟨g785, 0, none⟩), .int .i64 2] ?_; (with_reducible refine (spec_l1Once.calls g785 t782 t790 t791 2 true t794 t795 w _ ?side1 ?side2 A4.out).mono ?_); (case side1 => exact q10_10); (case side2 => exact q10_11); rintro e w13 ⟨rfl, hi, hb, hk⟩; refine ⟨_, rfl, ?_⟩; have n_ := ac_ (Kd.R_mono (Kd.R_keep (IsS152.apart (show IsS152 w _ g785 t782 t790 t791 from q10_10) (by (with_reducible repeat (first | apply Kd.R_alloc | apply Kd.R_drewN | apply Kd.R_drew)); exact (Kd.R_mono (Kd.R_far (p := ⟨gb792, 1, none⟩) (Kd.R_far (p := ⟨gb792, 0, none⟩) (Kd.R_types HO789.out BK792.out (by decide)) (fun _ hk => hk.2) (.int .i64 t786)) (fun _ hk => hk.2) (.slice Ao12 t787.length co12)) (fun _ h_ => h_.1))) (by decide)) hk (fun _ h => h.2)) (fun _ h => h.1)) <| ac_ (KeepBut.blk hk (g' := gb792) (o := .cells #[.int .i64 t786, .slice Ao12 t787.length co12] 29 (0, 0)) q10_9 NB792_785.out (by simp)) <| ac_ (hb) <| Aside0.mk (hi); clear HO789 BK792 HB HI785; obtain ⟨HO789, BK792, HB, HI785⟩ := n_; (try clear hb hk hi)))
  have n0_ := Aside0.mk (Kd.R_drew HO789.out); have n1_ := Aside0.mk (blk_drew BK792.out); have n2_ := Aside0.mk (IsS152.drew HI785.out); have n3_ := Aside0.mk (below_drew1 HB.out); clear HO789; clear BK792; clear HI785; clear HB; have HO789 := n0_; have BK792 := n1_; have HI785 := n2_; have HB := n3_; clear n0_ n1_ n2_ n3_
  refine start_ (n := 6) (S := fun w' => w'.cell? ⟨gb792, 0, none⟩ = some (.int .i64 t786) ∧ w'.cell? ⟨gb792, 1, none⟩ = some (.slice Ao12 t787.length co12)) (ds := []) (tb_ 6 0) s12_ rfl rfl ⟨(blk_cell BK792.out 0).trans rfl, (blk_cell BK792.out 1).trans rfl⟩ (fun hHeld => ?_)
  generalize w13.drew = w14 at HO789 BK792 HI785 HB hHeld ⊢
  refine pl_ 0 12 (tb_ 6 1) ?_
  refine take_ (i := 1) (N := some 13) (v := ?_) (a' := ?_) (tb_ 6 3) rfl rfl s12_ (fun _ _ _ h => h) (Or.inl ⟨by rfl, ?_⟩) hHeld ?_ ?_
  rotate_left
  ·
   rintro w' ⟨s0, s1⟩
   go_simp; with_reducible rfl
  rotate_left
  ·
   exact s10_
  refine take_ (i := 2) (N := some 14) (v := ?_) (a' := ?_) (tb_ 6 7) rfl rfl s12_ (fun _ _ _ h => h) (Or.inl ⟨by rfl, ?_⟩) hHeld ?_ ?_
  rotate_left
  ·
   rintro w' ⟨s0, s1⟩
   go_simp; with_reducible rfl
  rotate_left
  ·
   exact s10_
  refine one_ (i := 3) (N := some 15) (tb_ 6 15) rfl rfl s12_ (by decide) (fun K hK => ?_)
  refine goes_ Tryz.func28 s12_ rfl #[.agg #[.int .i64 t786, .slice Ao12 t787.length co12]] (by rfl) rfl rfl s0_ ?_
  with_reducible refine (spec_StemBase.calls k t786 _ _ t787 t796 _ ?side1 ?side2 A6.out).mono ?_
  (case side1 => exact q10_14)
  (case side2 => exact (Kd.R_reads' HO789.out).2.1)
  rintro e w15 ⟨v797, rfl, ho0, hb⟩
  refine ⟨_, rfl, ?_⟩
  have n0_ := Aside0.mk (Kd.R_below q10_18 hb); have n1_ := Aside0.mk (Kd.R_lower ho0 (below_size q10_11)); have n2_ := Aside0.mk (IsS152.below q10_10 hb); have n3_ := Aside0.mk (blk_below (g := gb792) (o := .cells #[.int .i64 t786, .slice Ao12 t787.length co12] 29 (0, 0)) q10_17 hb); have n4_ := Aside0.mk (below_step q10_11 hb); clear HO789; clear HI785; clear BK792; clear HB; have HO789 := n0_; have HO798 := n1_; have HI785 := n2_; have BK792 := n3_; have HB := n4_; clear n0_ n1_ n2_ n3_ n4_
  (try clear hb)
  (try clear hb2)
  (try clear hk)
  (try clear hi)
  (try clear ho0)
  refine hK.out _ _ ⟨(blk_cell BK792.out 0).trans rfl, (blk_cell BK792.out 1).trans rfl⟩ (fun hHeld => ?_)
  clear hK K
  refine norm_ (a' := ?_) ?_ ?_
  rotate_left
  ·
   show Act.put _ (some 15) _ = _
   exact s10_
  refine pl_ 4 2 (tb_ 6 31) ?_; refine pl_ 5 3 (tb_ 6 63) ?_
  refine done_ s12_ ?_
  try go_wp2
  go_ret2
  exact ⟨_, s8_, (by (with_reducible repeat (first | apply Kd.R_alloc | apply Kd.R_drewN | apply Kd.R_drew)); exact HO798.out), q10_11⟩
 ·
  replace c5 := Bool.eq_false_iff.mpr c5; subst c5
  rw [if_neg (show ¬ (false = true) by decide)] at H
  obtain ⟨⟨t799, t800, t801⟩, A16, H⟩ := bnd10_ H; dsimp only at H
  by_cases c17 : t799 = true
  ·
   subst c17; rw [if_pos rfl] at H; obtain ⟨⟨t802, t805, t806⟩, A18, H⟩ := bnd10_ H; dsimp only at H
   simp only [Option.some.injEq, Prod.mk.injEq] at H
   obtain ⟨rfl, rfl⟩ := H
   go_enter Tryz.func113, Tryz.ntmps113
   try go_wp2_with (first | (refine gL_ 144 7 Tryz.func144 #[.slice A0 l0.length c0] ?_; (with_reducible refine (spec_l1New.calls k _ _ l0 t782 t783 t784 w _ ?side1 ?side2 ?side3 A2.out).mono ?_); (case side1 => exact s1_); (case side2 => exact HR0.out); (case side3 => exact HC0.out); rintro e w19 ⟨g785, rfl, hi, hb, hb2⟩; refine ⟨_, rfl, ?_⟩; have n_ := ac_ (hb) <| Aside0.mk (hi); clear HB; obtain ⟨HB, HI785⟩ := n_; (try clear hb hb2 hi)) | (refine gL_ 205 9 Tryz.func205 #[.pointer (some ⟨g785, 0, none⟩)] ?_; (with_reducible refine (spec_l3Draw.calls k g785 t782 t783 t784 t786 t787 t790 t791 w _ ?side1 ?side2 A3.out).mono ?_); (case side1 => exact q10_12); (case side2 => exact q10_13); rintro e w20 ⟨v788, rfl, ho0, hi, hb, hk⟩; refine ⟨_, rfl, ?_⟩; have n_ := ac_ (Kd.R_lower ho0 (below_size q10_13)) <| ac_ (hb) <| Aside0.mk (hi); clear HB HI785; obtain ⟨HO789, HB, HI785⟩ := n_; (try clear hb hk hi ho0)) | ((with_reducible refine gate_dst (N := 5) rfl ?_); refine box_event ?hg (N := 5) ?hd (cs := #[.int .i64 0, .slice none 0 0]) (t := 29) ?hr ?_; (case hd => rfl); (case hg => rfl); (case hr => first | (go_simp; done) | (go_simp; rfl)); intro gb792 hg w21 hbox hb; have n_ := ac_ (Kd.R_below q10_18 hb) <| ac_ (IsS152.below q10_12 hb) <| ac_ (below_step q10_13 hb) <| ac_ (hbox) <| ac_ ((by rw [hg]; exact (below_size q10_13) : w.heap.size ≤ gb792)) <| ac_ ((by rw [hg]; exact (below_size q10_13) : w.heap.size ≤ gb792)) <| ac_ ((by rw [hg]; exact Nat.ne_of_lt (IsS152.lt (show IsS152 w _ g785 t782 t790 t791 from q10_12)) : g785 ≠ gb792)) <| Aside0.mk ((by rw [hg]; exact Nat.ne_of_gt (IsS152.lt (show IsS152 w _ g785 t782 t790 t791 from q10_12)) : gb792 ≠ g785)); clear HO789 HI785 HB; obtain ⟨HO789, HI785, HB, BK792, GW792, GE792, NB785_792, NB792_785⟩ := n_; clear hb hbox hg; have hnb22 := NB792_785.out; have hnc22 := NB785_792.out; have hcz23_0 : w21.cell? ⟨gb792, 0, none⟩ = some (.int .i64 0) := (blk_cell BK792.out 0).trans rfl; have hcz23_1 : w21.cell? ⟨gb792, 1, none⟩ = some (.slice none 0 0) := (blk_cell BK792.out 1).trans rfl; have hfz23_0 := blk_frozen BK792.out 0; have hfz23_1 := blk_frozen BK792.out 1; obtain ⟨Ao24, co24, eo24⟩ := Kd.R_slice HO789.out; subst eo24) | (refine gL_ 145 11 Tryz.func145 #[.pointer (some ⟨g785, 0, none⟩), .int .i64 2] ?_; (with_reducible refine (spec_l1Once.calls g785 t782 t790 t791 2 false t794 t795 w _ ?side1 ?side2 A4.out).mono ?_); (case side1 => exact q10_10); (case side2 => exact q10_11); rintro e w25 ⟨rfl, hi, hb, hk⟩; refine ⟨_, rfl, ?_⟩; have n_ := ac_ (Kd.R_mono (Kd.R_keep (IsS152.apart (show IsS152 w _ g785 t782 t790 t791 from q10_10) (by (with_reducible repeat (first | apply Kd.R_alloc | apply Kd.R_drewN | apply Kd.R_drew)); exact (Kd.R_mono (Kd.R_far (p := ⟨gb792, 1, none⟩) (Kd.R_far (p := ⟨gb792, 0, none⟩) (Kd.R_types HO789.out BK792.out (by decide)) (fun _ hk => hk.2) (.int .i64 t786)) (fun _ hk => hk.2) (.slice Ao24 t787.length co24)) (fun _ h_ => h_.1))) (by decide)) hk (fun _ h => h.2)) (fun _ h => h.1)) <| ac_ (KeepBut.blk hk (g' := gb792) (o := .cells #[.int .i64 t786, .slice Ao24 t787.length co24] 29 (0, 0)) q10_9 NB792_785.out (by simp)) <| ac_ (hb) <| Aside0.mk (hi); clear HO789 BK792 HB HI785; obtain ⟨HO789, BK792, HB, HI785⟩ := n_; (try clear hb hk hi)) | (refine gL_ 145 17 Tryz.func145 #[.pointer (some ⟨g785, 0, none⟩), .int .i64 3] ?_; (with_reducible refine (spec_l1Once.calls g785 t782 t794 t795 3 true t800 t801 w _ ?side1 ?side2 A16.out).mono ?_); (case side1 => exact q10_10); (case side2 => exact q10_11); rintro e w26 ⟨rfl, hi, hb, hk⟩; refine ⟨_, rfl, ?_⟩; have n_ := ac_ (Kd.R_mono (Kd.R_keep (IsS152.apart (show IsS152 w _ g785 t782 t794 t795 from q10_10) q10_18 (by decide)) hk (fun _ h => h.2)) (fun _ h => h.1)) <| ac_ (KeepBut.blk hk (g' := gb792) (o := .cells #[.int .i64 t786, .slice Ao24 t787.length co24] 29 (0, 0)) q10_17 NB792_785.out (by simp)) <| ac_ (hb) <| Aside0.mk (hi); clear HO789 BK792 HB HI785; obtain ⟨HO789, BK792, HB, HI785⟩ := n_; (try clear hb hk hi)))
   have n0_ := Aside0.mk (Kd.R_drew HO789.out); have n1_ := Aside0.mk (blk_drew BK792.out); have n2_ := Aside0.mk (IsS152.drew HI785.out); have n3_ := Aside0.mk (below_drew1 HB.out); clear HO789; clear BK792; clear HI785; clear HB; have HO789 := n0_; have BK792 := n1_; have HI785 := n2_; have HB := n3_; clear n0_ n1_ n2_ n3_
   refine start_ (n := 8) (S := fun w' => w'.cell? ⟨gb792, 0, none⟩ = some (.int .i64 t786) ∧ w'.cell? ⟨gb792, 1, none⟩ = some (.slice Ao24 t787.length co24)) (ds := []) (tb_ 8 0) s12_ rfl rfl ⟨(blk_cell BK792.out 0).trans rfl, (blk_cell BK792.out 1).trans rfl⟩ (fun hHeld => ?_); refine with_tabW spec_DrawIsDirect.tab6 spec_DrawIsDirect.bits6 (fun HT_ HW_ => ?_)
   generalize w26.drew = w27 at HO789 BK792 HI785 HB hHeld ⊢
   refine pl_ 0 18 (tb_ 8 1) ?_; refine pl_ 2 20 (tb_ 8 5) ?_; refine pl_ 3 21 (tb_ 8 13) ?_
   refine take_ (i := 1) (N := some 19) (v := ?_) (a' := ?_) (tb_ 8 15) rfl rfl (take_ofW HT_.out HW_.out s12_) (fun _ _ _ h => h) (Or.inl ⟨by rfl, ?_⟩) hHeld ?_ ?_
   rotate_left
   ·
    rintro w' ⟨s0, s1⟩
    go_simp; with_reducible rfl
   rotate_left
   ·
    exact s10_
   refine take_ (i := 4) (N := some 22) (v := ?_) (a' := ?_) (tb_ 8 31) rfl rfl (take_ofW HT_.out HW_.out s12_) (fun _ _ _ h => h) (Or.inl ⟨by rfl, ?_⟩) hHeld ?_ ?_
   rotate_left
   ·
    rintro w' ⟨s0, s1⟩
    go_simp; with_reducible rfl
   rotate_left
   ·
    exact s10_
   refine one_ (i := 5) (N := some 23) (tb_ 8 63) rfl rfl (one_of HT_.out s12_) (by decide) (fun K hK => ?_)
   refine goes_ Tryz.func148 s12_ rfl #[.pointer (some ⟨g785, 0, none⟩), .int .i64 t786] (by rfl) rfl rfl s0_ ?_
   with_reducible refine (spec_l9Bent.calls k g785 t782 t800 t801 t786 t802 t805 t806 w _ ?side1 ?side2 A18.out).mono ?_
   (case side1 => exact q10_10)
   (case side2 => exact q10_11)
   rintro e w28 ⟨v803, rfl, ho0, hi, hb, hk⟩
   refine ⟨_, rfl, ?_⟩
   have n0_ := Aside0.mk (Kd.R_mono (Kd.R_keep (IsS152.apart (show IsS152 w _ g785 t782 t800 t801 from q10_10) q10_18 (by decide)) hk (fun _ h => h.2)) (fun _ h => h.1))
   have n1_ := Aside0.mk (KeepBut.blk hk (g' := gb792) (o := .cells #[.int .i64 t786, .slice Ao24 t787.length co24] 29 (0, 0)) q10_17 NB792_785.out (by simp))
   have n2_ := Aside0.mk (Kd.R_lower ho0 (below_size q10_11)); have n3_ := Aside0.mk (hb); have n4_ := Aside0.mk (hi); clear HO789; clear BK792; clear HB; clear HI785; have HO789 := n0_; have BK792 := n1_; have HO804 := n2_; have HB := n3_; have HI785 := n4_; clear n0_ n1_ n2_ n3_ n4_
   (try clear hb)
   (try clear hb2)
   (try clear hk)
   (try clear hi)
   (try clear ho0)
   refine hK.out _ _ ⟨(blk_cell BK792.out 0).trans rfl, (blk_cell BK792.out 1).trans rfl⟩ (fun hHeld => ?_)
   clear hK K
   refine norm_ (a' := ?_) ?_ ?_
   rotate_left
   ·
    show Act.put _ (some 23) _ = _
    exact s10_
   refine pl_ 6 2 (tb_ 8 127) ?_; refine pl_ 7 3 (tb_ 8 255) ?_
   refine done_ (done_of HT_.out s12_) ?_
   try go_wp2
   go_ret2
   exact ⟨_, s8_, (by (with_reducible repeat (first | apply Kd.R_alloc | apply Kd.R_drewN | apply Kd.R_drew)); exact HO804.out), q10_11⟩
  ·
   replace c17 := Bool.eq_false_iff.mpr c17; subst c17
   rw [if_neg (show ¬ (false = true) by decide)] at H
   obtain ⟨t807, A29, H⟩ := bnd10_ H
   simp only [Option.some.injEq, Prod.mk.injEq] at H
   obtain ⟨rfl, rfl⟩ := H
   go_enter Tryz.func113, Tryz.ntmps113
   try go_wp2_with (first | (refine gL_ 144 7 Tryz.func144 #[.slice A0 l0.length c0] ?_; (with_reducible refine (spec_l1New.calls k _ _ l0 t782 t783 t784 w _ ?side1 ?side2 ?side3 A2.out).mono ?_); (case side1 => exact s1_); (case side2 => exact HR0.out); (case side3 => exact HC0.out); rintro e w30 ⟨g785, rfl, hi, hb, hb2⟩; refine ⟨_, rfl, ?_⟩; have n_ := ac_ (hb) <| Aside0.mk (hi); clear HB; obtain ⟨HB, HI785⟩ := n_; (try clear hb hb2 hi)) | (refine gL_ 205 9 Tryz.func205 #[.pointer (some ⟨g785, 0, none⟩)] ?_; (with_reducible refine (spec_l3Draw.calls k g785 t782 t783 t784 t786 t787 t790 t791 w _ ?side1 ?side2 A3.out).mono ?_); (case side1 => exact q10_12); (case side2 => exact q10_13); rintro e w31 ⟨v788, rfl, ho0, hi, hb, hk⟩; refine ⟨_, rfl, ?_⟩; have n_ := ac_ (Kd.R_lower ho0 (below_size q10_13)) <| ac_ (hb) <| Aside0.mk (hi); clear HB HI785; obtain ⟨HO789, HB, HI785⟩ := n_; (try clear hb hk hi ho0)) | ((with_reducible refine gate_dst (N := 5) rfl ?_); refine box_event ?hg (N := 5) ?hd (cs := #[.int .i64 0, .slice none 0 0]) (t := 29) ?hr ?_; (case hd => rfl); (case hg => rfl); (case hr => first | (go_simp; done) | (go_simp; rfl)); intro gb792 hg w32 hbox hb; have n_ := ac_ (Kd.R_below q10_18 hb) <| ac_ (IsS152.below q10_12 hb) <| ac_ (below_step q10_13 hb) <| ac_ (hbox) <| ac_ ((by rw [hg]; exact (below_size q10_13) : w.heap.size ≤ gb792)) <| ac_ ((by rw [hg]; exact (below_size q10_13) : w.heap.size ≤ gb792)) <| ac_ ((by rw [hg]; exact Nat.ne_of_lt (IsS152.lt (show IsS152 w _ g785 t782 t790 t791 from q10_12)) : g785 ≠ gb792)) <| Aside0.mk ((by rw [hg]; exact Nat.ne_of_gt (IsS152.lt (show IsS152 w _ g785 t782 t790 t791 from q10_12)) : gb792 ≠ g785)); clear HO789 HI785 HB; obtain ⟨HO789, HI785, HB, BK792, GW792, GE792, NB785_792, NB792_785⟩ := n_; clear hb hbox hg; have hnb33 := NB792_785.out; have hnc33 := NB785_792.out; have hcz34_0 : w32.cell? ⟨gb792, 0, none⟩ = some (.int .i64 0) := (blk_cell BK792.out 0).trans rfl; have hcz34_1 : w32.cell? ⟨gb792, 1, none⟩ = some (.slice none 0 0) := (blk_cell BK792.out 1).trans rfl; have hfz34_0 := blk_frozen BK792.out 0; have hfz34_1 := blk_frozen BK792.out 1; obtain ⟨Ao35, co35, eo35⟩ := Kd.R_slice HO789.out; subst eo35) | (refine gL_ 145 11 Tryz.func145 #[.pointer (some ⟨g785, 0, none⟩), .int .i64 2] ?_; (with_reducible refine (spec_l1Once.calls g785 t782 t790 t791 2 false t794 t795 w _ ?side1 ?side2 A4.out).mono ?_); (case side1 => exact q10_10); (case side2 => exact q10_11); rintro e w36 ⟨rfl, hi, hb, hk⟩; refine ⟨_, rfl, ?_⟩; have n_ := ac_ (Kd.R_mono (Kd.R_keep (IsS152.apart (show IsS152 w _ g785 t782 t790 t791 from q10_10) (by (with_reducible repeat (first | apply Kd.R_alloc | apply Kd.R_drewN | apply Kd.R_drew)); exact (Kd.R_mono (Kd.R_far (p := ⟨gb792, 1, none⟩) (Kd.R_far (p := ⟨gb792, 0, none⟩) (Kd.R_types HO789.out BK792.out (by decide)) (fun _ hk => hk.2) (.int .i64 t786)) (fun _ hk => hk.2) (.slice Ao35 t787.length co35)) (fun _ h_ => h_.1))) (by decide)) hk (fun _ h => h.2)) (fun _ h => h.1)) <| ac_ (KeepBut.blk hk (g' := gb792) (o := .cells #[.int .i64 t786, .slice Ao35 t787.length co35] 29 (0, 0)) q10_9 NB792_785.out (by simp)) <| ac_ (hb) <| Aside0.mk (hi); clear HO789 BK792 HB HI785; obtain ⟨HO789, BK792, HB, HI785⟩ := n_; (try clear hb hk hi)) | (refine gL_ 145 17 Tryz.func145 #[.pointer (some ⟨g785, 0, none⟩), .int .i64 3] ?_; (with_reducible refine (spec_l1Once.calls g785 t782 t794 t795 3 false t800 t801 w _ ?side1 ?side2 A16.out).mono ?_); (case side1 => exact q10_10); (case side2 => exact q10_11); rintro e w37 ⟨rfl, hi, hb, hk⟩; refine ⟨_, rfl, ?_⟩; have n_ := ac_ (Kd.R_mono (Kd.R_keep (IsS152.apart (show IsS152 w _ g785 t782 t794 t795 from q10_10) q10_18 (by decide)) hk (fun _ h => h.2)) (fun _ h => h.1)) <| ac_ (KeepBut.blk hk (g' := gb792) (o := .cells #[.int .i64 t786, .slice Ao35 t787.length co35] 29 (0, 0)) q10_17 NB792_785.out (by simp)) <| ac_ (hb) <| Aside0.mk (hi); clear HO789 BK792 HB HI785; obtain ⟨HO789, BK792, HB, HI785⟩ := n_; (try clear hb hk hi)))
   have n0_ := Aside0.mk (Kd.R_drew HO789.out); have n1_ := Aside0.mk (blk_drew BK792.out); have n2_ := Aside0.mk (IsS152.drew HI785.out); have n3_ := Aside0.mk (below_drew1 HB.out); clear HO789; clear BK792; clear HI785; clear HB; have HO789 := n0_; have BK792 := n1_; have HI785 := n2_; have HB := n3_; clear n0_ n1_ n2_ n3_
   refine start_ (n := 6) (S := fun w' => w'.cell? ⟨gb792, 0, none⟩ = some (.int .i64 t786) ∧ w'.cell? ⟨gb792, 1, none⟩ = some (.slice Ao35 t787.length co35)) (ds := []) (tb_ 6 0) s12_ rfl rfl ⟨(blk_cell BK792.out 0).trans rfl, (blk_cell BK792.out 1).trans rfl⟩ (fun hHeld => ?_)
   generalize w37.drew = w38 at HO789 BK792 HI785 HB hHeld ⊢
   refine pl_ 0 24 (tb_ 6 1) ?_
   refine take_ (i := 1) (N := some 25) (v := ?_) (a' := ?_) (tb_ 6 3) rfl rfl s12_ (fun _ _ _ h => h) (Or.inl ⟨by rfl, ?_⟩) hHeld ?_ ?_
   rotate_left
   ·
    rintro w' ⟨s0, s1⟩
    go_simp; with_reducible rfl
   rotate_left
   ·
    exact s10_
   refine take_ (i := 2) (N := some 26) (v := ?_) (a' := ?_) (tb_ 6 7) rfl rfl s12_ (fun _ _ _ h => h) (Or.inl ⟨by rfl, ?_⟩) hHeld ?_ ?_
   rotate_left
   ·
    rintro w' ⟨s0, s1⟩
    go_simp; with_reducible rfl
   rotate_left
   ·
    exact s10_
   refine one_ (i := 3) (N := some 27) (tb_ 6 15) rfl rfl s12_ (by decide) (fun K hK => ?_)
   refine goes_ Tryz.func114 s12_ rfl #[.agg #[.int .i64 t786, .slice Ao35 t787.length co35]] (by rfl) rfl rfl s0_ ?_
   with_reducible refine (spec_DirectBase.calls k t786 _ _ t787 t807 _ ?side1 ?side2 A29.out).mono ?_
   (case side1 => exact q10_14)
   (case side2 => exact (Kd.R_reads' HO789.out).2.1)
   rintro e w39 ⟨v808, rfl, ho0, hb⟩
   refine ⟨_, rfl, ?_⟩
   have n0_ := Aside0.mk (Kd.R_below q10_18 hb); have n1_ := Aside0.mk (Kd.R_lower ho0 (below_size q10_11)); have n2_ := Aside0.mk (IsS152.below q10_10 hb); have n3_ := Aside0.mk (blk_below (g := gb792) (o := .cells #[.int .i64 t786, .slice Ao35 t787.length co35] 29 (0, 0)) q10_17 hb); have n4_ := Aside0.mk (below_step q10_11 hb); clear HO789; clear HI785; clear BK792; clear HB; have HO789 := n0_; have HO809 := n1_; have HI785 := n2_; have BK792 := n3_; have HB := n4_; clear n0_ n1_ n2_ n3_ n4_
   (try clear hb)
   (try clear hb2)
   (try clear hk)
   (try clear hi)
   (try clear ho0)
   refine hK.out _ _ ⟨(blk_cell BK792.out 0).trans rfl, (blk_cell BK792.out 1).trans rfl⟩ (fun hHeld => ?_)
   clear hK K
   refine norm_ (a' := ?_) ?_ ?_
   rotate_left
   ·
    show Act.put _ (some 27) _ = _
    exact s10_
   refine pl_ 4 2 (tb_ 6 31) ?_; refine pl_ 5 3 (tb_ 6 63) ?_
   refine done_ s12_ ?_
   try go_wp2
   go_ret2
   exact ⟨_, s8_, (by (with_reducible repeat (first | apply Kd.R_alloc | apply Kd.R_drewN | apply Kd.R_drew)); exact HO809.out), q10_11⟩
def spec_l12Step.l0 : Nat → List (S48) → Int → Int → Int → Option (Int)
 | 0, _, _, _, _ => none
 | k + 1, x0, x1, x5, x6 => if x6 < (x0.length : Int) then (if 0 ≤ x6 then (if (Go.bits .and .i64 ((rd_T48 x0 x6).f0) x1) = ((rd_T48 x0 x6).f0) then (spec_l12Step.l0 k x0 x1 (Go.bits .or .i64 x5 ((rd_T48 x0 x6).f1)) (wrap64 (x6 + 1))) else (spec_l12Step.l0 k x0 x1 x5 (wrap64 (x6 + 1)))) else (none)) else (some x5)
def spec_l12Step.f (k : Nat) (l0 : List (S48)) (a1 : Int) : Option (Int) := spec_l12Step.l0 k l0 a1 a1 0
set_option maxHeartbeats 8000000 in
set_option maxRecDepth 100000 in
theorem spec_l12Step.calls (k : Nat) (A0 : Option Addr) (c0 : Nat) (l0 : List (S48)) (a1 : Int) (r : Int) (w : World) (hr0 : Kd.C k48 w A0 l0.length l0) (hc0 : l0.length ≤ c0) (h : spec_l12Step.f k l0 a1 = some r) :
  Calls Tryz.prog 207 #[.slice A0 l0.length c0, .int .i64 a1] w fun e w' => e = .returned (.int .i64 r) ∧ Drawn0 w w' := by
 have HR0 := Aside0.mk hr0; have HC0 := Aside0.mk hc0; clear hr0 hc0; have H := h; clear h; unfold spec_l12Step.f at H; have H' := Aside0.mk H; clear H
 go_enter Tryz.func207, Tryz.ntmps207
 go_wp2
 repeat (go_quiet (fail); try go_wp2)
 go_loopg [5, 6] k (fun kq v5 v6 w' => ∃ (x5_1 : Int) (x6_1 : Int), v5 = .int .i64 x5_1 ∧ v6 = .int .i64 x6_1 ∧ Aside0 (spec_l12Step.l0 kq l0 a1 x5_1 x6_1 = some r) ∧ Aside0 (kq ≤ k) ∧ Drawn0 w w')
 case atStart => exact ⟨(a1), (0), s2_, s2_, H', ⟨Nat.le_refl _⟩, s7_⟩
 case round =>
  clear H'
  try clear c2
  try clear p2
  obtain ⟨x5_1, x6_1, rfl, rfl, HA, HK1, ⟨m1, rfl⟩⟩ := hrel
  cases gk with
  | zero => exact absurd HA.out (by simp [spec_l12Step.l0])
  | succ k1 =>
   have H := HA.out; clear HA
   simp only [spec_l12Step.l0] at H
   by_cases c3 : x6_1 < (l0.length : Int)
   ·
    rw [if_pos c3] at H; have c3b0 : decide (x6_1 < (l0.length : Int)) = true := decide_eq_true c3; clear c3
    by_cases c4 : 0 ≤ x6_1
    ·
     rw [if_pos c4] at H; have c4b0 : decide (0 ≤ x6_1) = true := decide_eq_true c4; clear c4
     by_cases c5 : (Go.bits .and .i64 ((rd_T48 l0 x6_1).f0) a1) = ((rd_T48 l0 x6_1).f0)
     ·
      rw [if_pos c5] at H; have c5b0 : ((Go.bits .and .i64 ((rd_T48 l0 x6_1).f0) a1) == ((rd_T48 l0 x6_1).f0)) = true := beq_iff_eq.mpr c5; have c5b1 : ((Go.bits .and .i64 ((rd_T48 l0 x6_1).f0) a1) != ((rd_T48 l0 x6_1).f0)) = false := bne_eq_false_iff_eq.mpr c5; clear c5; have H' := Aside0.mk H; clear H; have p810 : 0 ≤ (x6_1 : Int) := of_decide_eq_true s3_; have q810 : x6_1 < (l0.length : Int) := of_decide_eq_true s3_; obtain ⟨ad810, e810, hx810_0, hx810_1⟩ := at_T48 HR0.out x6_1 p810 q810
      cases e810
      replace p810 := eq_true p810; replace q810 := eq_true q810; have p811 : 0 ≤ (x6_1 : Int) := of_decide_eq_true s3_; have q811 : x6_1 < (l0.length : Int) := of_decide_eq_true s3_; obtain ⟨ad811, e811, hx811_0, hx811_1⟩ := at_T48 HR0.out x6_1 p811 q811
      obtain rfl : ad810 = ad811 := (by injection e811)
      replace p811 := eq_true p811; replace q811 := eq_true q811; have p812 : 0 ≤ (x6_1 : Int) := of_decide_eq_true s3_; have q812 : x6_1 < (l0.length : Int) := of_decide_eq_true s3_; obtain ⟨ad812, e812, hx812_0, hx812_1⟩ := at_T48 HR0.out x6_1 p812 q812
      obtain rfl : ad810 = ad812 := (by injection e812)
      replace p812 := eq_true p812; replace q812 := eq_true q812
      go_wp2
      repeat (go_quiet (fail); try go_wp2)
      go_roundg k1
      case measure => have := HK1.out; omega
      case rel => exact ⟨(Go.bits .or .i64 x5_1 ((rd_T48 l0 x6_1).f1)), (wrap64 (x6_1 + 1)), s2_, s2_, H', ⟨by have := HK1.out; omega⟩, s7_⟩
     ·
      rw [if_neg c5] at H; have c5b0 : ((Go.bits .and .i64 ((rd_T48 l0 x6_1).f0) a1) == ((rd_T48 l0 x6_1).f0)) = false := beq_eq_false_iff_ne.mpr c5; have c5b1 : ((Go.bits .and .i64 ((rd_T48 l0 x6_1).f0) a1) != ((rd_T48 l0 x6_1).f0)) = true := bne_iff_ne.mpr c5; have H' := Aside0.mk H; clear H; have p810 : 0 ≤ (x6_1 : Int) := of_decide_eq_true s3_; have q810 : x6_1 < (l0.length : Int) := of_decide_eq_true s3_; obtain ⟨ad810, e810, hx810_0, hx810_1⟩ := at_T48 HR0.out x6_1 p810 q810
      cases e810
      replace p810 := eq_true p810; replace q810 := eq_true q810; have p811 : 0 ≤ (x6_1 : Int) := of_decide_eq_true s3_; have q811 : x6_1 < (l0.length : Int) := of_decide_eq_true s3_; obtain ⟨ad811, e811, hx811_0, hx811_1⟩ := at_T48 HR0.out x6_1 p811 q811
      obtain rfl : ad810 = ad811 := (by injection e811)
      replace p811 := eq_true p811; replace q811 := eq_true q811
      go_wp2
      repeat (go_quiet (fail); try go_wp2)
      go_roundg k1
      case measure => have := HK1.out; omega
      case rel => exact ⟨(x5_1), (wrap64 (x6_1 + 1)), s2_, s2_, H', ⟨by have := HK1.out; omega⟩, s7_⟩
    ·
     rw [if_neg c4] at H
     exact absurd H (by simp)
   ·
    rw [if_neg c3] at H; have c3b0 : decide (x6_1 < (l0.length : Int)) = false := decide_eq_false c3; clear c3; obtain rfl := Option.some.inj H
    go_wp2
    repeat (go_quiet (fail); try go_wp2)
    go_ret
    exact ⟨s2_, s7_⟩
def spec_OneStep.f (k : Nat) (l0 : List (S48)) (a1 : Int) : Option (Int) := (spec_l9Sets.f k l0).bind fun t813 => (if t813 = true then ((spec_IsSet.f 8 a1).bind fun t814 => (if t814 = true then ((spec_l12Step.f k l0 a1).bind fun t815 => (some t815)) else (some a1))) else (some a1))
set_option maxHeartbeats 8000000 in
set_option maxRecDepth 100000 in
theorem spec_OneStep.calls (k : Nat) (A0 : Option Addr) (c0 : Nat) (l0 : List (S48)) (a1 : Int) (r : Int) (w : World) (hr0 : Kd.C k48 w A0 l0.length l0) (hc0 : l0.length ≤ c0) (h : spec_OneStep.f k l0 a1 = some r) :
  Calls Tryz.prog 117 #[.slice A0 l0.length c0, .int .i64 a1] w fun e w' => e = .returned (.int .i64 r) ∧ Below w.heap.size w w' := by
 have HR0 := Aside0.mk hr0; have HC0 := Aside0.mk hc0; clear hr0 hc0; have HB := Aside0.mk (Below.refl w.heap.size w); have H := h; clear h; unfold spec_OneStep.f at H; obtain ⟨t813, A3, H⟩ := bnd10_ H
 by_cases c4 : t813 = true
 ·
  subst c4; rw [if_pos rfl] at H; obtain ⟨t814, A5, H⟩ := bnd10_ H
  by_cases c6 : t814 = true
  ·
   subst c6; rw [if_pos rfl] at H; obtain ⟨t815, A7, H⟩ := bnd10_ H; obtain rfl := Option.some.inj H
   go_enter Tryz.func117, Tryz.ntmps117
   go_wp2_with (first | (refine gL_ 156 6 Tryz.func156 #[.slice A0 l0.length c0] ?_; (with_reducible refine (spec_l9Sets.calls k _ _ l0 true _ ?side1 ?side2 A3.out).mono ?_); (case side1 => exact s16_); (case side2 => exact HC0.out); rintro e w8 ⟨rfl, hb⟩; refine ⟨_, rfl, ?_⟩; have n_ := Aside0.mk (below_step s1_ hb); clear HB; have HB := n_; clear n_; (try clear hb)) | (go_at_call 86; (with_reducible refine (spec_IsSet.calls 8 a1 true _ A5.out).mono ?_); rintro e w' ⟨rfl, ⟨nd, rfl⟩⟩) | (refine gL_ 207 16 Tryz.func207 #[.slice A0 l0.length c0, .int .i64 a1] ?_; (with_reducible refine (spec_l12Step.calls k _ _ l0 a1 t815 _ ?side1 ?side2 A7.out).mono ?_); (case side1 => repeat (first | exact (Kd.C_below HR0.out s1_) | (with_reducible refine Kd.C_alloc ?_ _) | (with_reducible refine Kd.C_drewN ?_ _) | (with_reducible refine Kd.C_drew ?_))); (case side2 => exact HC0.out); rintro e w' ⟨rfl, ⟨nd, rfl⟩⟩; refine ⟨_, rfl, ?_⟩))
   go_ret
   exact ⟨s8_, s1_⟩
  ·
   replace c6 := Bool.eq_false_iff.mpr c6; subst c6
   rw [if_neg (show ¬ (false = true) by decide)] at H
   obtain rfl := Option.some.inj H
   go_enter Tryz.func117, Tryz.ntmps117
   go_wp2_with (first | (refine gL_ 156 6 Tryz.func156 #[.slice A0 l0.length c0] ?_; (with_reducible refine (spec_l9Sets.calls k _ _ l0 true _ ?side1 ?side2 A3.out).mono ?_); (case side1 => exact s16_); (case side2 => exact HC0.out); rintro e w9 ⟨rfl, hb⟩; refine ⟨_, rfl, ?_⟩; have n_ := Aside0.mk (below_step s1_ hb); clear HB; have HB := n_; clear n_; (try clear hb)) | (go_at_call 86; (with_reducible refine (spec_IsSet.calls 8 a1 false _ A5.out).mono ?_); rintro e w' ⟨rfl, ⟨nd, rfl⟩⟩))
   go_ret
   exact ⟨s8_, s1_⟩
 ·
  replace c4 := Bool.eq_false_iff.mpr c4; subst c4
  rw [if_neg (show ¬ (false = true) by decide)] at H
  obtain rfl := Option.some.inj H
  go_enter Tryz.func117, Tryz.ntmps117
  go_wp2_with (first | (refine gL_ 156 6 Tryz.func156 #[.slice A0 l0.length c0] ?_; (with_reducible refine (spec_l9Sets.calls k _ _ l0 false _ ?side1 ?side2 A3.out).mono ?_); (case side1 => exact s16_); (case side2 => exact HC0.out); rintro e w10 ⟨rfl, hb⟩; refine ⟨_, rfl, ?_⟩; have n_ := Aside0.mk (below_step s1_ hb); clear HB; have HB := n_; clear n_; (try clear hb)))
  go_ret
  exact ⟨s8_, s1_⟩
theorem q10_28 {P : Prop} (h : P := by repeat (first | exact (Kd.C_below HR1.out (by repeat (first | (with_reducible first | exact HB.out | apply below_alloc | apply pw_below_drewN | apply below_drew1) | exact HB.out))) | (with_reducible refine Kd.C_alloc ?_ _) | (with_reducible refine Kd.C_drewN ?_ _) | (with_reducible refine Kd.C_drew ?_))) : P := h
def spec_IsDirect.l0 : Nat → Int → List (S48) → Int → Option (Bool)
 | 0, _, _, _ => none
 | k + 1, x0, x1, x5 => (spec_FullSet.f x0).bind fun t820 => (if x5 ≤ t820 then ((spec_l12Step.f k x1 x5).bind fun t821 => ((spec_l9Closed.f k x1 x5).bind fun t822 => (if t821 = t822 then (spec_IsDirect.l0 k x0 x1 (wrap64 (x5 + 1))) else (some false)))) else (some true))
def spec_IsDirect.f (k : Nat) (a0 : Int) (l1 : List (S48)) : Option (Bool) := (spec_AreRules.f k a0 l1).bind fun t819 => (if t819 = true then (spec_IsDirect.l0 k a0 l1 0) else (some false))
set_option maxHeartbeats 8000000 in
set_option maxRecDepth 100000 in
theorem spec_IsDirect.calls (k : Nat) (a0 : Int) (A1 : Option Addr) (c1 : Nat) (l1 : List (S48)) (r : Bool) (w : World) (hr1 : Kd.C k48 w A1 l1.length l1) (hc1 : l1.length ≤ c1) (h : spec_IsDirect.f k a0 l1 = some r) :
  Calls Tryz.prog 119 #[.int .i64 a0, .slice A1 l1.length c1] w fun e w' => e = .returned (.bool r) ∧ Below w.heap.size w w' := by
 have HR1 := Aside0.mk hr1; have HC1 := Aside0.mk hc1; clear hr1 hc1; have HB := Aside0.mk (Below.refl w.heap.size w); have H := h; clear h; unfold spec_IsDirect.f at H; obtain ⟨t819, A3, H⟩ := bnd10_ H
 by_cases c4 : t819 = true
 ·
  subst c4; rw [if_pos rfl] at H; have H' := Aside0.mk H; clear H
  go_enter Tryz.func119, Tryz.ntmps119
  go_wp2_with (first | (refine gL_ 82 8 Tryz.func82 #[.int .i64 a0, .slice A1 l1.length c1] ?_; (with_reducible refine (spec_AreRules.calls k a0 _ _ l1 true _ ?side1 ?side2 A3.out).mono ?_); (case side1 => exact s17_); (case side2 => exact HC1.out); rintro e w5 ⟨rfl, hb⟩; refine ⟨_, rfl, ?_⟩; have n_ := Aside0.mk (below_step s1_ hb); clear HB; have HB := n_; clear n_; (try clear hb)))
  go_loopg [5] k (fun kq v5 w' => ∃ (x5_1 : Int), v5 = .int .i64 x5_1 ∧ Aside0 (spec_IsDirect.l0 kq a0 l1 x5_1 = some r) ∧ Aside0 (kq ≤ k) ∧ Aside0 (Below w.heap.size w w'))
  case atStart => exact ⟨(0), (by first | rfl | (simp; done) | (simp [*]; done) | (simp [i64_w, i32_w]; done)), H', ⟨Nat.le_refl _⟩, ⟨s1_⟩⟩
  case round =>
   clear H'
   try clear c1
   try clear p2
   try clear c4
   obtain ⟨x5_1, rfl, HA, HK1, HB⟩ := hrel
   cases gk with
   | zero => exact absurd HA.out (by simp [spec_IsDirect.l0])
   | succ k1 =>
    have H := HA.out; clear HA
    simp only [spec_IsDirect.l0] at H
    obtain ⟨t820, A6, H⟩ := bnd10_ H
    by_cases c7 : x5_1 ≤ t820
    ·
     rw [if_pos c7] at H; have c7b0 : decide (x5_1 ≤ t820) = true := decide_eq_true c7; clear c7; obtain ⟨t821, A8, H⟩ := bnd10_ H; obtain ⟨t822, A9, H⟩ := bnd10_ H
     by_cases c10 : t821 = t822
     ·
      rw [if_pos c10] at H; have c10b0 : (t821 == t822) = true := beq_iff_eq.mpr c10; have c10b1 : (t821 != t822) = false := bne_eq_false_iff_eq.mpr c10; clear c10; have H' := Aside0.mk H; clear H
      go_wp2_with (first | (refine gL_ 62 12 Tryz.func62 #[.int .i64 a0] ?_; (with_reducible refine (spec_FullSet.calls a0 t820 _ A6.out).mono ?_); rintro e w' ⟨rfl, ⟨nd, rfl⟩⟩; refine ⟨_, rfl, ?_⟩) | (refine gL_ 207 18 Tryz.func207 #[.slice A1 l1.length c1, .int .i64 x5_1] ?_; (with_reducible refine (spec_l12Step.calls k1 _ _ l1 x5_1 t821 _ ?side1 ?side2 A8.out).mono ?_); (case side1 => exact q10_28); (case side2 => exact HC1.out); rintro e w' ⟨rfl, ⟨nd, rfl⟩⟩; refine ⟨_, rfl, ?_⟩) | (refine gL_ 138 21 Tryz.func138 #[.slice A1 l1.length c1, .int .i64 x5_1] ?_; (with_reducible refine (spec_l9Closed.calls k1 _ _ l1 x5_1 t822 _ ?side1 ?side2 A9.out).mono ?_); (case side1 => exact q10_28); (case side2 => exact HC1.out); rintro e w' ⟨rfl, ⟨nd, rfl⟩⟩; refine ⟨_, rfl, ?_⟩))
      go_roundg k1
      case measure => have := HK1.out; omega
      case rel => exact ⟨(wrap64 (x5_1 + 1)), (by first | rfl | (simp; done) | (simp [*]; done) | (simp [i64_w, i32_w]; done)), H', ⟨by have := HK1.out; omega⟩, ⟨s1_⟩⟩
     ·
      rw [if_neg c10] at H; have c10b0 : (t821 == t822) = false := beq_eq_false_iff_ne.mpr c10; have c10b1 : (t821 != t822) = true := bne_iff_ne.mpr c10; obtain rfl := Option.some.inj H
      go_wp2_with (first | (refine gL_ 62 12 Tryz.func62 #[.int .i64 a0] ?_; (with_reducible refine (spec_FullSet.calls a0 t820 _ A6.out).mono ?_); rintro e w' ⟨rfl, ⟨nd, rfl⟩⟩; refine ⟨_, rfl, ?_⟩) | (refine gL_ 207 18 Tryz.func207 #[.slice A1 l1.length c1, .int .i64 x5_1] ?_; (with_reducible refine (spec_l12Step.calls k1 _ _ l1 x5_1 t821 _ ?side1 ?side2 A8.out).mono ?_); (case side1 => exact q10_28); (case side2 => exact HC1.out); rintro e w' ⟨rfl, ⟨nd, rfl⟩⟩; refine ⟨_, rfl, ?_⟩) | (refine gL_ 138 21 Tryz.func138 #[.slice A1 l1.length c1, .int .i64 x5_1] ?_; (with_reducible refine (spec_l9Closed.calls k1 _ _ l1 x5_1 t822 _ ?side1 ?side2 A9.out).mono ?_); (case side1 => exact q10_28); (case side2 => exact HC1.out); rintro e w' ⟨rfl, ⟨nd, rfl⟩⟩; refine ⟨_, rfl, ?_⟩))
      go_ret
      exact ⟨s8_, s1_⟩
    ·
     rw [if_neg c7] at H; have c7b0 : decide (x5_1 ≤ t820) = false := decide_eq_false c7; clear c7; obtain rfl := Option.some.inj H
     go_wp2_with (first | (refine gL_ 62 12 Tryz.func62 #[.int .i64 a0] ?_; (with_reducible refine (spec_FullSet.calls a0 t820 _ A6.out).mono ?_); rintro e w' ⟨rfl, ⟨nd, rfl⟩⟩; refine ⟨_, rfl, ?_⟩))
     go_ret
     exact ⟨s8_, s1_⟩
 ·
  replace c4 := Bool.eq_false_iff.mpr c4; subst c4
  rw [if_neg (show ¬ (false = true) by decide)] at H
  obtain rfl := Option.some.inj H
  go_enter Tryz.func119, Tryz.ntmps119
  go_wp2_with (first | (refine gL_ 82 8 Tryz.func82 #[.int .i64 a0, .slice A1 l1.length c1] ?_; (with_reducible refine (spec_AreRules.calls k a0 _ _ l1 false _ ?side1 ?side2 A3.out).mono ?_); (case side1 => exact s17_); (case side2 => exact HC1.out); rintro e w11 ⟨rfl, hb⟩; refine ⟨_, rfl, ?_⟩; have n_ := Aside0.mk (below_step s1_ hb); clear HB; have HB := n_; clear n_; (try clear hb)))
  go_ret
  exact ⟨s8_, s1_⟩
end Go.Proofs.YtafnamchckehmaaGreatDoor.Pr
namespace Go.Proofs.YtafnamchckehmaaGreatDoor.Pr
open Go.RowKit Go.Proofs.YtafnamchckehmaaGreatDoorW.PrintWords Go.Proofs.YtafnamchckehmaaGreatDoorW.PrintLast Go.Proofs.YtafnamchckehmaaGreatDoorW.PrintMore
set_option linter.unusedVariables false
set_option linter.unusedSimpArgs false
def idxF {α : Type} (p : α → Bool) (l : List α) : Int := if l.any p = true then (l.findIdx p : Int) else -1
theorem idxF_hit {α : Type} (p : α → Bool) (l : List α) (d : α) (k : Nat) (hk : k < l.length) (h : p (l.getD k d) = true) (hn : ∀ j, j < k → p (l.getD j d) = false) : idxF p l = k := by
  have hg : ∀ j (hj : j < l.length), l.getD j d = l[j] := fun j hj => by simp [List.getD_eq_getElem?_getD, List.getElem?_eq_getElem hj]
  have hf : l.findIdx p = k := (List.findIdx_eq hk).2 ⟨by rw [← hg k hk]; exact h, fun j hj => by rw [← hg j (by omega)]; exact hn j hj⟩
  have ha : l.any p = true := List.any_eq_true.2 ⟨l[k], List.getElem_mem hk, by rw [← hg k hk]; exact h⟩
  unfold idxF
  rw [if_pos ha, hf]
theorem idxF_miss {α : Type} (p : α → Bool) (l : List α) (d : α) (hn : ∀ j, j < l.length → p (l.getD j d) = false) : idxF p l = -1 ∧ l.any p = false := by
  have ha : l.any p = false := by
    rw [List.any_eq_false]
    intro x hx
    obtain ⟨j, hj, rfl⟩ := List.getElem_of_mem hx
    have := hn j hj
    rw [List.getD_eq_getElem?_getD, List.getElem?_eq_getElem hj] at this
    simpa using this
  unfold idxF
  rw [ha]
  exact ⟨rfl, rfl⟩
theorem idxF_nonneg {α : Type} (p : α → Bool) (l : List α) : decide (0 ≤ idxF p l) = l.any p := by
  unfold idxF
  cases l.any p <;> simp
end Go.Proofs.YtafnamchckehmaaGreatDoor.Pr
namespace Go.Proofs.YtafnamchckehmaaGreatDoor.Pr
open Go.RowKit Go.Proofs.YtafnamchckehmaaGreatDoorW.PrintWords Go.Proofs.YtafnamchckehmaaGreatDoorW.PrintLast Go.Proofs.YtafnamchckehmaaGreatDoorW.PrintMore
set_option linter.unusedVariables false
set_option linter.unusedSimpArgs false
def FnRb (g : Nat) (lb : Array Value) (p : S48 → Bool) (w : World) : Prop :=
  ∀ (W : World) (x : S48), Below w.heap.size w W → Calls Tryz.prog g (#[.agg #[.int .i64 x.f0, .int .i64 x.f1]] ++ lb) W fun e w' => e = .returned (.bool (p x)) ∧ Below W.heap.size W w'
set_option maxHeartbeats 4000000 in
set_option maxRecDepth 100000 in
theorem IndexFunc_rule (g : Nat) (lb : Array Value) (eg : ∀ args w, (callFunc g args).run Tryz.prog w = .ok (.enter g args) w) (A : Option Addr) (c : Nat) (l : List S48) (p : S48 → Bool) (w : World)
    (hr : Kd.C k48 w A l.length l) (hp : FnRb g lb p w) :
    Calls Tryz.prog 142 #[.slice A l.length c, .func (.func g) #[] lb] w fun e w' => e = .returned (.int .i64 (idxF p l)) ∧ Below w.heap.size w w' := by
  have hu := Tryz.underlying48
  have HR0 := Aside0.mk hr
  have HP := Aside0.mk hp
  clear hr hp
  go_enter Tryz.func142, Tryz.ntmps142
  go_wp2
  go_loopg [5, 8] (l.length + 1) (fun kq _ v8 w' => ∃ (x : Int), v8 = .int .i64 x ∧ Aside0 (0 ≤ x ∧ x ≤ l.length ∧ (l.length : Int) - x < kq) ∧ Aside0 (∀ j : Nat, (j : Int) < x → p (l.getD j z48) = false) ∧ Aside0 (Below w.heap.size w w'))
  case atStart => exact ⟨0, rfl, ⟨by omega⟩, ⟨fun j hj => by omega⟩, ⟨Below.refl _ _⟩⟩
  case round =>
    obtain ⟨x, rfl, HX, HN, HB⟩ := hrel
    by_cases hlt : x < (l.length : Int)
    · have c0 : decide (x < (l.length : Int)) = true := decide_eq_true hlt
      have p0 : 0 ≤ x := HX.out.1
      obtain ⟨ad, e, hx0, hx1⟩ := at_T48 HR0.out x p0 hlt
      cases e
      replace hx0 := (HB.out.cell (World.block_lt_of_cell? w _ hx0)).trans hx0
      replace hx1 := (HB.out.cell (World.block_lt_of_cell? w _ hx1)).trans hx1
      have HL := Aside0.mk hlt
      replace p0 := eq_true p0
      replace hlt := eq_true hlt
      have hcall := HP.out wr (rd_T48 l x) HB.out
      cases hq : p (rd_T48 l x) with
      | true =>
        rw [hq] at hcall
        have HQ := Aside0.mk hq
        clear hq
        go_wp2_with (go_at_fn g; refine hcall.mono ?_; rintro e w' ⟨rfl, hb⟩)
        go_ret
        have hx := HX.out
        have h1 := idxF_hit p l z48 x.toNat (by have := HL.out; omega) HQ.out (fun j hj => HN.out j (by omega))
        refine ⟨?_, below_step HB.out hb⟩
        rw [h1, Int.toNat_of_nonneg hx.1]
        rfl
      | false =>
        rw [hq] at hcall
        have HQ := Aside0.mk hq
        clear hq
        go_wp2_with (go_at_fn g; refine hcall.mono ?_; rintro e w' ⟨rfl, hb⟩)
        have hw : wrap64 (x + 1) = x + 1 := by have h1 := HX.out; have h2 := HL.out; have h3 := HR0.out.2.1; unfold wrap64; omega
        have HW := Aside0.mk hw
        clear hw
        go_roundg (gk - 1)
        case measure => have h1 := HX.out; have h2 := HL.out; omega
        case rel =>
          refine ⟨x + 1, by rw [HW.out], ⟨?_⟩, ⟨fun j hj => ?_⟩, ⟨below_step HB.out hb⟩⟩
          · have h1 := HX.out; have h2 := HL.out; omega
          · by_cases e : (j : Int) = x
            · have : j = x.toNat := by omega
              subst this
              exact HQ.out
            · exact HN.out j (by omega)
    · have c0 : decide (x < (l.length : Int)) = false := decide_eq_false hlt
      have HL := Aside0.mk hlt
      clear hlt
      go_wp2
      go_ret
      have h1 := HX.out
      have h2 := HL.out
      rw [(idxF_miss p l z48 (fun j hj => HN.out j (by omega))).1]
      exact ⟨rfl, HB.out⟩
set_option maxHeartbeats 4000000 in
set_option maxRecDepth 100000 in
theorem ContainsFunc_rule (g : Nat) (lb : Array Value) (eg : ∀ args w, (callFunc g args).run Tryz.prog w = .ok (.enter g args) w) (A : Option Addr) (c : Nat) (l : List S48) (p : S48 → Bool) (w : World)
    (hr : Kd.C k48 w A l.length l) (hp : FnRb g lb p w) :
    Calls Tryz.prog 167 #[.slice A l.length c, .func (.func g) #[] lb] w fun e w' => e = .returned (.bool (l.any p)) ∧ Below w.heap.size w w' := by
  have h0 := IndexFunc_rule g lb eg A c l p w hr hp
  have h1 := Aside0.mk (idxF_nonneg p l)
  clear hr hp
  go_enter Tryz.func167, Tryz.ntmps167
  go_wp2_with (go_at_call 142; refine h0.mono ?_; rintro e w' ⟨rfl, hb⟩)
  go_ret
  exact ⟨by rw [← h1.out]; rfl, hb⟩
end Go.Proofs.YtafnamchckehmaaGreatDoor.Pr
namespace Go.Proofs.YtafnamchckehmaaGreatDoor.Pr
open Go.RowKit Go.Proofs.YtafnamchckehmaaGreatDoorW.PrintWords Go.Proofs.YtafnamchckehmaaGreatDoorW.PrintLast Go.Proofs.YtafnamchckehmaaGreatDoorW.PrintMore
set_option linter.unusedVariables false
set_option linter.unusedSimpArgs false
def FnIb (g : Nat) (lb : Array Value) (p : Int → Bool) (w : World) : Prop :=
  ∀ (W : World) (x : Int), Below w.heap.size w W → Calls Tryz.prog g (#[.int .i64 x] ++ lb) W fun e w' => e = .returned (.bool (p x)) ∧ Below W.heap.size W w'
set_option maxHeartbeats 4000000 in
set_option maxRecDepth 100000 in
theorem IndexFunc_int (g : Nat) (lb : Array Value) (eg : ∀ args w, (callFunc g args).run Tryz.prog w = .ok (.enter g args) w) (A : Option Addr) (c : Nat) (l : List Int) (p : Int → Bool) (w : World)
    (hr : Kd.C (Kd.int .i64) w A l.length l) (hp : FnIb g lb p w) :
    Calls Tryz.prog 255 #[.slice A l.length c, .func (.func g) #[] lb] w fun e w' => e = .returned (.int .i64 (idxF p l)) ∧ Below w.heap.size w w' := by
  have HR0 := Aside0.mk hr
  have HP := Aside0.mk hp
  clear hr hp
  go_enter Tryz.func255, Tryz.ntmps255
  go_wp2
  go_loopg [5, 8] (l.length + 1) (fun kq _ v8 w' => ∃ (x : Int), v8 = .int .i64 x ∧ Aside0 (0 ≤ x ∧ x ≤ l.length ∧ (l.length : Int) - x < kq) ∧ Aside0 (∀ j : Nat, (j : Int) < x → p (l.getD j (0 : Int)) = false) ∧ Aside0 (Below w.heap.size w w'))
  case atStart => exact ⟨0, rfl, ⟨by omega⟩, ⟨fun j hj => by omega⟩, ⟨Below.refl _ _⟩⟩
  case round =>
    obtain ⟨x, rfl, HX, HN, HB⟩ := hrel
    by_cases hlt : x < (l.length : Int)
    · have c0 : decide (x < (l.length : Int)) = true := decide_eq_true hlt
      have p0 : 0 ≤ x := HX.out.1
      obtain ⟨ad, e, hx0⟩ := Kd.at_int HR0.out x p0 hlt
      cases e
      replace hx0 := (HB.out.cell (World.block_lt_of_cell? w _ hx0)).trans hx0
      have HL := Aside0.mk hlt
      replace p0 := eq_true p0
      replace hlt := eq_true hlt
      have hcall := HP.out wr (rd l x) HB.out
      cases hq : p (rd l x) with
      | true =>
        rw [hq] at hcall
        have HQ := Aside0.mk hq
        clear hq
        go_wp2_with (go_at_fn g; refine hcall.mono ?_; rintro e w' ⟨rfl, hb⟩)
        go_ret
        have hx := HX.out
        have h1 := idxF_hit p l (0 : Int) x.toNat (by have := HL.out; omega) HQ.out (fun j hj => HN.out j (by omega))
        refine ⟨?_, below_step HB.out hb⟩
        rw [h1, Int.toNat_of_nonneg hx.1]
        rfl
      | false =>
        rw [hq] at hcall
        have HQ := Aside0.mk hq
        clear hq
        go_wp2_with (go_at_fn g; refine hcall.mono ?_; rintro e w' ⟨rfl, hb⟩)
        have hw : wrap64 (x + 1) = x + 1 := by have h1 := HX.out; have h2 := HL.out; have h3 := HR0.out.2.1; unfold wrap64; omega
        have HW := Aside0.mk hw
        clear hw
        go_roundg (gk - 1)
        case measure => have h1 := HX.out; have h2 := HL.out; omega
        case rel =>
          refine ⟨x + 1, by rw [HW.out], ⟨?_⟩, ⟨fun j hj => ?_⟩, ⟨below_step HB.out hb⟩⟩
          · have h1 := HX.out; have h2 := HL.out; omega
          · by_cases e : (j : Int) = x
            · have : j = x.toNat := by omega
              subst this
              exact HQ.out
            · exact HN.out j (by omega)
    · have c0 : decide (x < (l.length : Int)) = false := decide_eq_false hlt
      have HL := Aside0.mk hlt
      clear hlt
      go_wp2
      go_ret
      have h1 := HX.out
      have h2 := HL.out
      rw [(idxF_miss p l (0 : Int) (fun j hj => HN.out j (by omega))).1]
      exact ⟨rfl, HB.out⟩
set_option maxHeartbeats 4000000 in
set_option maxRecDepth 100000 in
theorem ContainsFunc_int (g : Nat) (lb : Array Value) (eg : ∀ args w, (callFunc g args).run Tryz.prog w = .ok (.enter g args) w) (A : Option Addr) (c : Nat) (l : List Int) (p : Int → Bool) (w : World)
    (hr : Kd.C (Kd.int .i64) w A l.length l) (hp : FnIb g lb p w) :
    Calls Tryz.prog 223 #[.slice A l.length c, .func (.func g) #[] lb] w fun e w' => e = .returned (.bool (l.any p)) ∧ Below w.heap.size w w' := by
  have h0 := IndexFunc_int g lb eg A c l p w hr hp
  have h1 := Aside0.mk (idxF_nonneg p l)
  clear hr hp
  go_enter Tryz.func223, Tryz.ntmps223
  go_wp2_with (go_at_call 255; refine h0.mono ?_; rintro e w' ⟨rfl, hb⟩)
  go_ret
  exact ⟨by rw [← h1.out]; rfl, hb⟩
end Go.Proofs.YtafnamchckehmaaGreatDoor.Pr
namespace Go.Proofs.YtafnamchckehmaaGreatDoor.Pr
open Go.RowKit Go.Proofs.YtafnamchckehmaaGreatDoorW.PrintWords Go.Proofs.YtafnamchckehmaaGreatDoorW.PrintLast Go.Proofs.YtafnamchckehmaaGreatDoorW.PrintMore
set_option linter.unusedVariables false
set_option linter.unusedSimpArgs false
def Tab64 (w : World) : Prop := ∀ j, j < 64 → w.cell? ⟨1, j, none⟩ = some (.int .u8 (Lib.deBruijn64tab.getD j 0))
theorem Tab64.below {w w' : World} (h : Tab64 w) (hb : Below w.heap.size w w') : Tab64 w' := fun j hj => (hb.cell (p := ⟨1, j, none⟩) (World.block_lt_of_cell? w _ (h j hj))).trans (h j hj)
theorem tz64_key (x a : Nat) (hx : x < 18446744073709551616) (hx0 : x ≠ 0) (hlow : x &&& (18446744073709551616 - x) = a) :
    IntKind.u64.wrap (bits BinOp.and IntKind.u64 (x : Int) (IntKind.u64.wrap (-(x : Int))) * 285870213051353865) / 288230376151711744 = ((a * 285870213051353865 % 18446744073709551616 / 288230376151711744 : Nat) : Int) := by
  have e1 : IntKind.u64.wrap (-(x : Int)) = ((18446744073709551616 - x : Nat) : Int) := by rw [IntKind.wrap_u64]; omega
  rw [e1, bits_and_u64_nat x _ hx (by omega), hlow, IntKind.wrap_u64]
  omega
set_option maxHeartbeats 1000000 in
theorem tz64_core (x k idx : Nat) (w : World) (hx0 : ((x : Int) == 0) = false)
    (key : IntKind.u64.wrap (bits BinOp.and IntKind.u64 (x : Int) (IntKind.u64.wrap (-(x : Int))) * 285870213051353865) / 288230376151711744 = (idx : Int))
    (hi : idx < 64) (hk : k < 64) (hcell : w.cell? ⟨1, idx, none⟩ = some (.int .u8 k)) :
    Calls Tryz.prog 252 #[.int .u64 x] w fun e w' => e = .returned (.int .i64 k) ∧ w' = w := by
  go_enter Tryz.func252, Tryz.ntmps252
  go_wp2_with (simp only [key])
  go_ret
  exact ⟨rfl, rfl⟩
theorem tz64_zero (w : World) : Calls Tryz.prog 252 #[.int .u64 0] w fun e w' => e = .returned (.int .i64 64) ∧ w' = w := by
  go_enter Tryz.func252, Tryz.ntmps252
  go_wp2
  go_ret
  exact ⟨rfl, rfl⟩
def bits_TrailingZeros64.f (a0 : Int) : Option Int := if 0 ≤ a0 ∧ a0 < 18446744073709551616 then some ((Lib.ctz 64 a0.toNat : Nat) : Int) else none
theorem bits_TrailingZeros64.calls (a0 : Int) (r : Int) (w : World) (htab : Tab64 w) (h : bits_TrailingZeros64.f a0 = some r) :
    Calls Tryz.prog 252 #[.int .u64 a0] w fun e w' => e = .returned (.int .i64 r) ∧ Drawn0 w w' := by
  unfold bits_TrailingZeros64.f at h
  by_cases ha : 0 ≤ a0 ∧ a0 < 18446744073709551616
  · rw [if_pos ha] at h
    obtain rfl := Option.some.inj h
    obtain ⟨x, rfl⟩ : ∃ x : Nat, a0 = (x : Int) := ⟨a0.toNat, by omega⟩
    rw [Int.toNat_natCast]
    have hx : x < 18446744073709551616 := by omega
    by_cases hx0 : x = 0
    · subst hx0
      refine (tz64_zero w).mono ?_
      rintro e w' ⟨rfl, rfl⟩
      exact ⟨rfl, Drawn0.refl _⟩
    · obtain ⟨hlow, hk⟩ := Lib.lowest_bit 64 x hx0 hx
      obtain ⟨hi, htb⟩ := Lib.deBruijn64_at _ hk
      have hcell := htab _ hi
      rw [htb] at hcell
      refine (tz64_core x _ _ w (by simp; omega) (tz64_key x _ hx hx0 hlow) hi hk hcell).mono ?_
      rintro e w' ⟨rfl, rfl⟩
      exact ⟨rfl, Drawn0.refl _⟩
  · rw [if_neg ha] at h
    cases h
end Go.Proofs.YtafnamchckehmaaGreatDoor.Pr
namespace Go.Proofs.YtafnamchckehmaaGreatDoor.Pr
open Go.RowKit Go.Proofs.YtafnamchckehmaaGreatDoorW.PrintWords Go.Proofs.YtafnamchckehmaaGreatDoorW.PrintLast Go.Proofs.YtafnamchckehmaaGreatDoorW.PrintMore
attribute [local go_sem] max2_int min2_int max_two min_two max_three min_three max_four min_four
set_option linter.unusedVariables false
set_option linter.unusedSimpArgs false
theorem bnd20_ {α β : Type} {o : Option α} {f : α → Option β} {r : β} (h : o.bind f = some r) : ∃ a, Aside0 (o = some a) ∧ f a = some r := by
 obtain ⟨a, h1, h2⟩ := Option.bind_eq_some_iff.mp h
 exact ⟨a, ⟨h1⟩, h2⟩
def bits_TrailingZeros.f (a0 : Int) : Option (Int) := (bits_TrailingZeros64.f a0).bind fun t345 => (some t345)
set_option maxHeartbeats 8000000 in
set_option maxRecDepth 100000 in
theorem bits_TrailingZeros.calls (a0 : Int) (r : Int) (w : World) (htab : Tab64 w) (h : bits_TrailingZeros.f a0 = some r) :
  Calls Tryz.prog 213 #[.int .u64 a0] w fun e w' => e = .returned (.int .i64 r) ∧ Drawn0 w w' := by
 have HTB := Aside0.mk htab; clear htab; have H := h; clear h; unfold bits_TrailingZeros.f at H; obtain ⟨t345, A2, H⟩ := bnd20_ H; obtain rfl := Option.some.inj H
 go_enter Tryz.func213, Tryz.ntmps213
 go_wp2_with (first | ((with_reducible refine gate_callee (f := 252) rfl ?_); refine goesL_ (some 7) rfl rfl Tryz.func252 (by kernel_rfl) rfl #[.int .u64 a0] rfl (by (try simp only [List.map_toArray, List.map_cons, List.map_nil]); first | done | rfl | (simp only [List.length_drop, List.length_take]; rfl)) ?_; (with_reducible refine (bits_TrailingZeros64.calls a0 t345 _ ?tab A2.out).mono ?_); (case tab => first | exact HTB.out | (refine Tab64.below HTB.out ?_; repeat (first | (with_reducible first | exact HB.out | apply below_alloc | apply pw_below_drewN | apply below_drew1) | exact HB.out)) | (repeat (first | exact HTB.out | apply Tab64.drewN | apply Tab64.drew | apply Tab64.alloc))); rintro e w' ⟨rfl, ⟨nd, rfl⟩⟩; refine ⟨_, rfl, ?_⟩))
 go_ret
 exact ⟨(by first | rfl | (simp; done) | (simp [*]; done) | (simp [i64_w, i32_w]; done)), (by repeat (first | exact Drawn0.refl _ | apply Drawn0.step))⟩
def impl_BeforeSet.j0 : Nat → Int → Int → Bool → Option (Bool)
 | 0, _, _, _ => none
 | k + 1, x0, x1, x17 => if x17 = true then (some false) else ((bits_TrailingZeros.f (IntKind.u64.wrap (Go.bits .xor .i64 x0 x1))).bind fun t348 => ((impl_HasElement.f x1 t348).bind fun t349 => (some t349)))
def impl_BeforeSet.f (k : Nat) (a0 : Int) (a1 : Int) : Option (Bool) := (impl_isAnySet.f a0).bind fun t346 => (if t346 = true then ((impl_isAnySet.f a1).bind fun t347 => (if t347 = true then (impl_BeforeSet.j0 k a0 a1 (a0 == a1)) else (impl_BeforeSet.j0 k a0 a1 true))) else (impl_BeforeSet.j0 k a0 a1 true))
set_option maxHeartbeats 8000000 in
set_option maxRecDepth 100000 in
theorem impl_BeforeSet.calls (k : Nat) (a0 : Int) (a1 : Int) (r : Bool) (w : World) (htab : Tab64 w) (h : impl_BeforeSet.f k a0 a1 = some r) :
  Calls Tryz.prog 131 #[.int .i64 a0, .int .i64 a1] w fun e w' => e = .returned (.bool r) ∧ Drawn0 w w' := by
 have HTB := Aside0.mk htab; clear htab; have H := h; clear h; unfold impl_BeforeSet.f at H; have HC3 := Aside0.mk H; clear H
 go_enter Tryz.func131, Tryz.ntmps131
 go_upto_region 1 with (fail)
 go_cut [17] (fun v17 wc => ∃ (kq : Nat) (x17_2 : Bool), v17 = .bool x17_2 ∧ Aside0 (impl_BeforeSet.j0 kq a0 a1 x17_2 = some r) ∧ Aside0 (kq ≤ k) ∧ Drawn0 w wc)
 case first =>
  have H := HC3.out; clear HC3; obtain ⟨t346, A4, H⟩ := bnd20_ H
  by_cases c5 : t346 = true
  ·
   subst c5; rw [if_pos rfl] at H; obtain ⟨t347, A6, H⟩ := bnd20_ H
   by_cases c7 : t347 = true
   ·
    subst c7; rw [if_pos rfl] at H; have H' := Aside0.mk H; clear H
    go_wp2_with (first | (refine gL_ 177 6 Tryz.func177 #[.int .i64 a0] ?_; (with_reducible refine (impl_isAnySet.calls a0 true _ A4.out).mono ?_); rintro e w' ⟨rfl, ⟨nd, rfl⟩⟩; refine ⟨_, rfl, ?_⟩) | (go_at_call 177; (with_reducible refine (impl_isAnySet.calls a1 true _ A6.out).mono ?_); rintro e w' ⟨rfl, ⟨nd, rfl⟩⟩))
    go_meet
    case rel => exact ⟨_, ((a0 == a1)), s2_, H', ⟨(by first | omega | exact Nat.le_refl _)⟩, s7_⟩
   ·
    replace c7 := Bool.eq_false_iff.mpr c7; subst c7
    rw [if_neg (show ¬ (false = true) by decide)] at H
    have H' := Aside0.mk H; clear H
    go_wp2_with (first | (refine gL_ 177 6 Tryz.func177 #[.int .i64 a0] ?_; (with_reducible refine (impl_isAnySet.calls a0 true _ A4.out).mono ?_); rintro e w' ⟨rfl, ⟨nd, rfl⟩⟩; refine ⟨_, rfl, ?_⟩) | (go_at_call 177; (with_reducible refine (impl_isAnySet.calls a1 false _ A6.out).mono ?_); rintro e w' ⟨rfl, ⟨nd, rfl⟩⟩))
    go_meet
    case rel => exact ⟨_, (true), s2_, H', ⟨(by first | omega | exact Nat.le_refl _)⟩, s7_⟩
  ·
   replace c5 := Bool.eq_false_iff.mpr c5; subst c5
   rw [if_neg (show ¬ (false = true) by decide)] at H
   have H' := Aside0.mk H; clear H
   go_wp2_with (first | (refine gL_ 177 6 Tryz.func177 #[.int .i64 a0] ?_; (with_reducible refine (impl_isAnySet.calls a0 false _ A4.out).mono ?_); rintro e w' ⟨rfl, ⟨nd, rfl⟩⟩; refine ⟨_, rfl, ?_⟩))
   go_meet
   case rel => exact ⟨_, (true), s2_, H', ⟨(by first | omega | exact Nat.le_refl _)⟩, s7_⟩
 case rest =>
  clear HC3
  try clear c1
  try clear p2
  try clear c5
  try clear c7
  obtain ⟨kq, x17_2, rfl, HA, HJ2, ⟨mc2, rfl⟩⟩ := hcut
  cases kq with
  | zero => exact absurd HA.out (by simp [impl_BeforeSet.j0])
  | succ kj2 =>
   have H := HA.out; clear HA
   simp only [impl_BeforeSet.j0] at H
   by_cases c8 : x17_2 = true
   ·
    subst c8; rw [if_pos rfl] at H; obtain rfl := Option.some.inj H
    go_wp2
    go_ret
    exact ⟨s2_, s7_⟩
   ·
    replace c8 := Bool.eq_false_iff.mpr c8; subst c8
    rw [if_neg (show ¬ (false = true) by decide)] at H
    obtain ⟨t348, A9, H⟩ := bnd20_ H; obtain ⟨t349, A10, H⟩ := bnd20_ H; obtain rfl := Option.some.inj H
    go_wp2_with (first | (refine gL_ 213 23 Tryz.func213 #[.int .u64 (IntKind.u64.wrap (Go.bits .xor .i64 a0 a1))] ?_; (with_reducible refine (bits_TrailingZeros.calls (IntKind.u64.wrap (Go.bits .xor .i64 a0 a1)) t348 _ ?tab A9.out).mono ?_); (case tab => first | exact HTB.out | (refine Tab64.below HTB.out ?_; repeat (first | (with_reducible first | exact HB.out | apply below_alloc | apply pw_below_drewN | apply below_drew1) | exact HB.out)) | (repeat (first | exact HTB.out | apply Tab64.drewN | apply Tab64.drew | apply Tab64.alloc))); rintro e w' ⟨rfl, ⟨nd, rfl⟩⟩; refine ⟨_, rfl, ?_⟩) | (refine gL_ 212 24 Tryz.func212 #[.int .i64 a1, .int .i64 t348] ?_; (with_reducible refine (impl_HasElement.calls a1 t348 t349 _ A10.out).mono ?_); rintro e w' ⟨rfl, ⟨nd, rfl⟩⟩; refine ⟨_, rfl, ?_⟩))
    go_ret
    exact ⟨s2_, s7_⟩
def impl_SortLectic_2.f (k : Nat) (a0 : Int) (a1 : Int) : Option (Int) := if a0 = a1 then (some 0) else ((impl_BeforeSet.f k a0 a1).bind fun t350 => (if t350 = true then (some (-1)) else (some 1)))
set_option maxHeartbeats 8000000 in
set_option maxRecDepth 100000 in
theorem impl_SortLectic_2.calls (k : Nat) (a0 : Int) (a1 : Int) (r : Int) (w : World) (htab : Tab64 w) (h : impl_SortLectic_2.f k a0 a1 = some r) :
  Calls Tryz.prog 249 #[.int .i64 a0, .int .i64 a1] w fun e w' => e = .returned (.int .i64 r) ∧ Drawn0 w w' := by
 have HTB := Aside0.mk htab; clear htab; have H := h; clear h; unfold impl_SortLectic_2.f at H
 by_cases c3 : a0 = a1
 ·
  rw [if_pos c3] at H; have c3b0 : (a0 == a1) = true := beq_iff_eq.mpr c3; have c3b1 : (a0 != a1) = false := bne_eq_false_iff_eq.mpr c3; clear c3; obtain rfl := Option.some.inj H
  go_enter Tryz.func249, Tryz.ntmps249
  go_wp2
  go_ret
  exact ⟨s2_, (by repeat (first | exact Drawn0.refl _ | apply Drawn0.step))⟩
 ·
  rw [if_neg c3] at H; have c3b0 : (a0 == a1) = false := beq_eq_false_iff_ne.mpr c3; have c3b1 : (a0 != a1) = true := bne_iff_ne.mpr c3; obtain ⟨t350, A4, H⟩ := bnd20_ H
  by_cases c5 : t350 = true
  ·
   subst c5; rw [if_pos rfl] at H; obtain rfl := Option.some.inj H
   go_enter Tryz.func249, Tryz.ntmps249
   go_wp2_with (first | (refine gL_ 131 12 Tryz.func131 #[.int .i64 a0, .int .i64 a1] ?_; (with_reducible refine (impl_BeforeSet.calls k a0 a1 true _ ?tab A4.out).mono ?_); (case tab => first | exact HTB.out | (refine Tab64.below HTB.out ?_; repeat (first | (with_reducible first | exact HB.out | apply below_alloc | apply pw_below_drewN | apply below_drew1) | exact HB.out)) | (repeat (first | exact HTB.out | apply Tab64.drewN | apply Tab64.drew | apply Tab64.alloc))); rintro e w' ⟨rfl, ⟨nd, rfl⟩⟩; refine ⟨_, rfl, ?_⟩))
   go_ret
   exact ⟨s2_, (by repeat (first | exact Drawn0.refl _ | apply Drawn0.step))⟩
  ·
   replace c5 := Bool.eq_false_iff.mpr c5; subst c5
   rw [if_neg (show ¬ (false = true) by decide)] at H
   obtain rfl := Option.some.inj H
   go_enter Tryz.func249, Tryz.ntmps249
   go_wp2_with (first | (refine gL_ 131 12 Tryz.func131 #[.int .i64 a0, .int .i64 a1] ?_; (with_reducible refine (impl_BeforeSet.calls k a0 a1 false _ ?tab A4.out).mono ?_); (case tab => first | exact HTB.out | (refine Tab64.below HTB.out ?_; repeat (first | (with_reducible first | exact HB.out | apply below_alloc | apply pw_below_drewN | apply below_drew1) | exact HB.out)) | (repeat (first | exact HTB.out | apply Tab64.drewN | apply Tab64.drew | apply Tab64.alloc))); rintro e w' ⟨rfl, ⟨nd, rfl⟩⟩; refine ⟨_, rfl, ?_⟩))
   go_ret
   exact ⟨s2_, (by repeat (first | exact Drawn0.refl _ | apply Drawn0.step))⟩
end Go.Proofs.YtafnamchckehmaaGreatDoor.Pr
namespace Go.Proofs.YtafnamchckehmaaGreatDoor.Pr
open Go.RowKit Go.Proofs.YtafnamchckehmaaGreatDoorW.PrintWords Go.Proofs.YtafnamchckehmaaGreatDoorW.PrintLast Go.Proofs.YtafnamchckehmaaGreatDoorW.PrintMore
set_option linter.unusedVariables false
set_option linter.unusedSimpArgs false
def slices_Clone_int.f (l0 : List Int) : Option (List Int) := if l0.length < 8796093022208 then some l0 else none
set_option maxHeartbeats 4000000 in
set_option maxRecDepth 100000 in
theorem slices_Clone_int.calls (A0 : Option Addr) (c0 : Nat) (l0 : List Int) (r : List Int) (w : World) (hr0 : Kd.C (Kd.int .i64) w A0 l0.length l0) (hc0 : l0.length ≤ c0) (h : slices_Clone_int.f l0 = some r) :
    Calls Tryz.prog 247 #[.slice A0 l0.length c0] w fun e w' => ∃ v0_ : Value, e = .returned (v0_) ∧ Kd.R (Kd.int .i64) 3 w' w.heap.size (fun _ => True) v0_ r ∧ Below w.heap.size w w' := by
  unfold slices_Clone_int.f at h
  by_cases hlen : l0.length < 8796093022208
  · rw [if_pos hlen] at h
    obtain rfl := Option.some.inj h
    clear h
    have HR0 := Aside0.mk hr0
    have HC0 := Aside0.mk hc0
    have HL := Aside0.mk hlen
    have HB := Aside0.mk (Below.refl w.heap.size w)
    cases A0 with
    | none =>
      have h0 : l0 = [] := by
        rcases Nat.eq_zero_or_pos l0.length with h | h
        · exact List.eq_nil_of_length_eq_zero h
        · obtain ⟨ad, e, _⟩ := hr0.2.2 h
          cases e
      have H0 := Aside0.mk h0
      clear h0 hr0 hc0 hlen
      have hnil : ∀ W, (binOp .eql 27 (.slice none l0.length c0) (.slice none 0 0)).run Tryz.prog W = .ok (.bool true) W := fun W => Lib.run_eql_slice_nil W _ _ _ _ _ _ _ Tryz.underlying27
      go_enter Tryz.func247, Tryz.ntmps247
      go_wp2
      go_ret
      exact ⟨_, rfl, by rw [H0.out]; exact Kd.R_nil _ _ _ _ _, HB.out⟩
    | some ad =>
      clear hr0 hc0 hlen
      have hnil : ∀ W, (binOp .eql 27 (.slice (some ad) l0.length c0) (.slice none 0 0)).run Tryz.prog W = .ok (.bool false) W := fun W => Lib.run_eql_slice_nil W _ _ _ _ _ _ _ Tryz.underlying27
      go_enter Tryz.func247, Tryz.ntmps247
      go_wp2_with (first | ((with_reducible refine gate_dst (N := 5) rfl ?_); refine Kd.R_lit (Kd.int .i64) _ 3 ?hg (N := 5) ?hd (xs := ([] : List (Int))) (inner := []) (ok := fun _ => True) (okp := fun _ => True) ?hr ?hp (fun _ hk => hk) trivial (Below.refl _ _) (Nat.le_refl _) (by simp) ?_; (case hd => rfl); (case hg => rfl); (case hr => first | (go_simp; done) | (go_simp; rfl)); (case hp => exact (Reps.none _ _)); intro v5 w5 ho6 hb hg_ hnew_; clear hg_ hnew_; have n0_ := Aside0.mk (Kd.R_lower ho6 (below_size HB.out)); have n1_ := Aside0.mk (below_step HB.out hb); clear HB; have HO := n0_; have HB := n1_; clear n0_ n1_; clear hb ho6) | ((with_reducible refine gate_builtin (b := .append) (xs := #[.tmp 5, .tmp 6]) rfl ?_); at_builtin; refine Kd.R_append_rows (Kd.int .i64) (w0 := w) w.heap.size rfl (.tmp 5) (.tmp 6) 27 3 (.int .i64 0) 8 rfl Tryz.underlying27 info3 rfl (by decide) (by omega) v5 [] l0 _ _ _ (fun _ => True) (fun _ => False) rfl rfl ?aO ?aR (fun _ _ h => h) (fun _ h => h.elim) ?aF ?aB ?aS ?aL ?_; (case aR => exact (Kd.C_below HR0.out HB.out)); (case aB => exact HB.out); (case aF => exact (fun _ _ => trivial)); (case aO => exact HO.out); (case aS => exact below_size HB.out); (case aL => have := HL.out; simp; omega); intro v6 w8 ho hb hg hat; have n0_ := Aside0.mk (hb); have n1_ := Aside0.mk (ho); clear HB HO; have HB := n0_; have HO := n1_; clear n0_ n1_; clear ho hb hg hat))
      go_ret
      exact ⟨_, rfl, HO.out, HB.out⟩
  · rw [if_neg hlen] at h
    cases h
end Go.Proofs.YtafnamchckehmaaGreatDoor.Pr
namespace Go.Proofs.YtafnamchckehmaaGreatDoor.Pr
open Go.RowKit Go.Proofs.YtafnamchckehmaaGreatDoorW.PrintWords Go.Proofs.YtafnamchckehmaaGreatDoorW.PrintLast Go.Proofs.YtafnamchckehmaaGreatDoorW.PrintMore
set_option linter.unusedVariables false
set_option linter.unusedSimpArgs false
def ruleMap (fv : Int → Int) (l : List Int) : List S48 := l.map fun s => ⟨s, fv s⟩
def ruleLoop (fv : Int → Int) : Nat → List (S48) → List Int → Int → Int → Option ((List (S48)))
  | 0, _, _, _, _ => none
  | k + 1, x5, x9, x10, x11 => if x11 < x10 then (if 0 ≤ x11 then (if x11 < (x9.length : Int) then (if x5.length < 8796093022208 then (ruleLoop fv k (x5 ++ [(⟨rd x9 x11, fv (rd x9 x11)⟩ : S48)]) x9 x10 (wrap64 (x11 + 1))) else (none)) else (none)) else (none)) else (some x5)
theorem ruleLoop_val (fv : Int → Int) (l : List Int) (hl : l.length ≤ 1048576) : ∀ (d i : Nat) (out : List S48), i + d = l.length → out.length ≤ i → ruleLoop fv (d + 1) out l (l.length : Int) (i : Int) = some (out ++ ruleMap fv (l.drop i)) := by
  intro d
  induction d with
  | zero =>
    intro i out hi ho
    unfold ruleLoop
    rw [if_neg (by omega), List.drop_of_length_le (by omega)]
    unfold ruleMap
    simp
  | succ d ih =>
    intro i out hi ho
    unfold ruleLoop
    have hlt : i < l.length := by omega
    have hrd : rd l (i : Int) = l[i] := by
      unfold rd
      rw [Int.toNat_natCast, List.getD_eq_getElem?_getD, List.getElem?_eq_getElem hlt]
      rfl
    rw [if_pos (by omega), if_pos (by omega), if_pos (by omega), if_pos (by omega), show wrap64 ((i : Int) + 1) = ((i + 1 : Nat) : Int) from by unfold wrap64; omega, ih (i + 1) _ (by omega) (by rw [List.length_append, List.length_singleton]; omega), hrd, List.append_assoc, List.drop_eq_getElem_cons hlt]
    rfl
theorem rd_memR {l : List Int} {x : Int} (h0 : 0 ≤ x) (h1 : x < (l.length : Int)) : rd l x ∈ l := by
  unfold rd
  rw [List.getD_eq_getElem?_getD, List.getElem?_eq_getElem (by omega)]
  exact List.getElem_mem _
set_option maxHeartbeats 8000000 in
set_option maxRecDepth 100000 in
theorem rulesTo_at (g : Nat) (cb : Array Value) (eg : ∀ args w, (callFunc g args).run Tryz.prog w = .ok (.enter g args) w) (fv : Int → Int) (A0 : Option Addr) (c0 : Nat) (l0 : List Int) (w : World) (hr0 : Kd.C (Kd.int .i64) w A0 l0.length l0) (hl : l0.length ≤ 1048576)
    (hp : ∀ (W : World) (x : Int), x ∈ l0 → Below w.heap.size w W → Calls Tryz.prog g (#[.int .i64 x] ++ cb) W fun e w' => e = .returned (.int .i64 (fv x)) ∧ Below W.heap.size W w') :
    Calls Tryz.prog 153 #[.slice A0 l0.length c0, .func (.func g) #[] cb] w fun e w' => ∃ v0_ : Value, e = .returned (v0_) ∧ Kd.R k48 48 w' w.heap.size (fun _ => True) v0_ (ruleMap fv l0) ∧ Below w.heap.size w w' := by
  have hu48 := Tryz.underlying48
  have HR0 := Aside0.mk hr0
  have HP := Aside0.mk hp
  have H : ruleLoop fv (l0.length + 1) ([] : List (S48)) l0 (l0.length : Int) 0 = some (ruleMap fv l0) := ruleLoop_val fv l0 hl l0.length 0 [] (by omega) (Nat.le_refl _)
  clear hr0 hp hl
  have HB := Aside0.mk (Below.refl w.heap.size w)
  generalize ruleMap fv l0 = r at *
  generalize l0.length + 1 = k at *
  have H' := Aside0.mk H
  clear H
  go_enter Tryz.func153, Tryz.ntmps153
  go_wp2_with (first | ((with_reducible refine gate_dst (N := 8) rfl ?_); refine Kd.R_lit k48 _ 48 ?hg (N := 8) ?hd (xs := ([] : List (S48))) (inner := []) (ok := fun _ => True) (okp := fun _ => True) ?hr ?hp (fun _ hk => hk) trivial (Below.refl _ _) (Nat.le_refl _) (by simp) ?_; (case hd => rfl); (case hg => rfl); (case hr => first | (go_simp; done) | (go_simp; rfl)); (case hp => exact (Reps.none _ _)); intro v320 w2 ho3 hb hg_ hnew_; clear hg_ hnew_; have n0_ := Aside0.mk (Kd.R_lower ho3 (below_size (by repeat (first | (with_reducible first | exact HB.out | apply below_alloc | apply pw_below_drewN | apply below_drew1) | exact HB.out)))); have n1_ := Aside0.mk (below_step (by repeat (first | (with_reducible first | exact HB.out | apply below_alloc | apply pw_below_drewN | apply below_drew1) | exact HB.out)) hb); clear HB; have HO321 := n0_; have HB := n1_; clear n0_ n1_; clear hb ho3))
  go_loopg [5, 11] k (fun kq v5 v11 w' => ∃ (x5_1 : List (S48)) (x11_1 : Int), v11 = .int .i64 x11_1 ∧ Aside0 (ruleLoop fv kq x5_1 l0 (l0.length : Int) x11_1 = some r) ∧ Aside0 (kq ≤ k) ∧ Aside0 (Kd.R k48 48 w' w.heap.size (fun _ => True) v5 x5_1) ∧ Aside0 (Below w.heap.size w w'))
  case atStart => exact ⟨([] : List (S48)), (0), (by first | rfl | (simp; done) | (simp [*]; done) | (simp [i64_w, i32_w]; done)), H', ⟨Nat.le_refl _⟩, ⟨by (with_reducible repeat (first | apply Kd.R_alloc | apply Kd.R_drewN | apply Kd.R_drew)); exact HO321.out⟩, ⟨by repeat (first | (with_reducible first | exact HB.out | apply below_alloc | apply pw_below_drewN | apply below_drew1) | exact HB.out)⟩⟩
  case round =>
    clear H'
    obtain ⟨x5_1, x11_1, rfl, HA, HK1, HO_5, HB⟩ := hrel
    cases gk with
    | zero => exact absurd HA.out (by simp [ruleLoop])
    | succ k1 =>
      have H := HA.out
      clear HA
      simp only [ruleLoop] at H
      by_cases c4 : x11_1 < (l0.length : Int)
      · rw [if_pos c4] at H
        have c4b0 : decide (x11_1 < (l0.length : Int)) = true := decide_eq_true c4
        by_cases c5 : 0 ≤ x11_1
        · rw [if_pos c5, if_pos c4] at H
          have HM := Aside0.mk (rd_memR c5 c4)
          clear c4
          have c5b0 : decide (0 ≤ x11_1) = true := decide_eq_true c5
          clear c5
          by_cases c8 : x5_1.length < 8796093022208
          · rw [if_pos c8] at H
            have LMc8 := Aside0.mk c8
            clear c8
            have H' := Aside0.mk H
            clear H
            have p322 : 0 ≤ (x11_1 : Int) := of_decide_eq_true (by first | (with_reducible assumption) | assumption)
            have q322 : x11_1 < (l0.length : Int) := of_decide_eq_true (by first | (with_reducible assumption) | assumption)
            obtain ⟨ad322, e322, hx322_0⟩ := Kd.at_int HR0.out x11_1 p322 q322
            cases e322
            replace hx322_0 := (HB.out.cell (World.block_lt_of_cell? w _ hx322_0)).trans hx322_0
            replace p322 := eq_true p322
            replace q322 := eq_true q322
            go_wp2_with fail
            refine (HP.out _ (rd l0 x11_1) HM.out (by repeat (first | (with_reducible first | exact HB.out | apply below_alloc | apply pw_below_drewN | apply below_drew1) | exact HB.out))).mono ?_
            rintro e w8 ⟨rfl, hb⟩
            have n0_ := Aside0.mk (Kd.R_below (by (with_reducible repeat (first | apply Kd.R_alloc | apply Kd.R_drewN | apply Kd.R_drew)); exact HO_5.out) hb)
            have n1_ := Aside0.mk (below_step (by repeat (first | (with_reducible first | exact HB.out | apply below_alloc | apply pw_below_drewN | apply below_drew1) | exact HB.out)) hb)
            clear HB HO_5
            have HO_5 := n0_
            have HB := n1_
            clear n0_ n1_ hb
            go_wp2_with (first | ((with_reducible refine gate_builtin (b := .append) (xs := #[.tmp 15, .tmp 21]) rfl ?_); at_builtin; refine Kd.R_append k48 (w0 := w) w.heap.size rfl (.tmp 15) (.tmp 21) 24 48 (.agg #[(.int .i64 0), (.int .i64 0)]) 16 rfl Tryz.underlying24 info48 rfl (by decide) (by omega) u5 x5_1 (⟨rd l0 x11_1, fv (rd l0 x11_1)⟩ : S48) [.int .i64 (rd l0 x11_1), .int .i64 (fv (rd l0 x11_1))] (fun _ => True) (fun _ => False) rfl rfl ?aP (fun _ hk => hk.elim) ?aF ?aO ?aB ?aS ?aL ?_; (case aP => exact k48_mkM _ _ _ (⟨rd l0 x11_1, fv (rd l0 x11_1)⟩ : S48)); (case aB => exact (by repeat (first | (with_reducible first | exact HB.out | apply below_alloc | apply pw_below_drewN | apply below_drew1) | exact HB.out))); (case aF => exact (fun _ _ => trivial)); (case aO => exact (by (with_reducible repeat (first | apply Kd.R_alloc | apply Kd.R_drewN | apply Kd.R_drew)); exact HO_5.out)); (case aS => exact (below_size (by repeat (first | (with_reducible first | exact HB.out | apply below_alloc | apply pw_below_drewN | apply below_drew1) | exact HB.out)))); (case aL => have := LMc8.out; omega); intro v325 w9 ho hb hg hat; have n0_ := Aside0.mk (hb); have n1_ := Aside0.mk (ho); clear HB; clear HO_5; have HB := n0_; have HO326 := n1_; clear n0_ n1_; clear ho hb hg hat))
            go_roundg k1
            case measure => have := HK1.out; omega
            case rel => exact ⟨(x5_1 ++ [(⟨rd l0 x11_1, fv (rd l0 x11_1)⟩ : S48)]), (wrap64 (x11_1 + 1)), (by first | rfl | (simp; done) | (simp [*]; done) | (simp [i64_w, i32_w]; done)), H', ⟨by have := HK1.out; omega⟩, ⟨by (with_reducible repeat (first | apply Kd.R_alloc | apply Kd.R_drewN | apply Kd.R_drew)); exact HO326.out⟩, ⟨by repeat (first | (with_reducible first | exact HB.out | apply below_alloc | apply pw_below_drewN | apply below_drew1) | exact HB.out)⟩⟩
          · rw [if_neg c8] at H
            exact absurd H (by simp)
        · rw [if_neg c5] at H
          exact absurd H (by simp)
      · rw [if_neg c4] at H
        have c4b0 : decide (x11_1 < (l0.length : Int)) = false := decide_eq_false c4
        clear c4
        obtain rfl := Option.some.inj H
        go_wp2
        go_ret
        exact ⟨_, by first | rfl | (simp [errW_none, errW_some] <;> rfl) | (simp [*, errW_none, errW_some] <;> rfl), by (with_reducible repeat (first | apply Kd.R_alloc | apply Kd.R_drewN | apply Kd.R_drew)); exact HO_5.out, by repeat (first | (with_reducible first | exact HB.out | apply below_alloc | apply pw_below_drewN | apply below_drew1) | exact HB.out)⟩
end Go.Proofs.YtafnamchckehmaaGreatDoor.Pr
namespace Go.Proofs.YtafnamchckehmaaGreatDoor.Pr
open Go.RowKit Go.Proofs.YtafnamchckehmaaGreatDoorW.PrintWords
set_option linter.unusedVariables false
def tabLaid : List (String × DataW Unit) := [("math/bits.deBruijn64tab", Lib.tabData .u8 (Lib.deBruijn64tab.map fun n : Nat => (n : Int)))]
theorem tabLaid_at : ∀ j, j < 64 → (Lib.deBruijn64tab.map fun n : Nat => (n : Int)).getD j 0 = ((Lib.deBruijn64tab.getD j 0 : Nat) : Int) := by decide
theorem Tab64.of_laid {W : World} (h : laidMet Tryz.prog tabLaid W) : Tab64 W := by
  have ht := Lib.tabIs_of_head (g := 1) (t := 185) (e := 5) (n := 64) (by kernel_rfl) (by kernel_rfl) Tryz.underlying185 Tryz.underlying5 (by kernel_rfl) (by kernel_rfl) h
  intro j hj
  have := ht.cell (g := 1) (by kernel_rfl) j (by rw [List.length_map]; exact hj)
  rw [tabLaid_at j hj] at this
  exact this
end Go.Proofs.YtafnamchckehmaaGreatDoor.Pr
