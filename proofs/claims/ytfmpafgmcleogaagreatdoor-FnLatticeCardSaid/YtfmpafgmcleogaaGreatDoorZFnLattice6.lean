/- Functions of the program as plain functions, proofs that their calls answer so, and plain laws: what the law needs. No condition beyond what each statement says. -/
import Derived.Test.YtfmpafgmcleogaaGreatDoorZFnLattice5
namespace Go.Proofs.YtfmpafgmcleogaaGreatDoor.Pr
set_option maxHeartbeats 40000000
set_option maxRecDepth 100000
open Go.RowKit Go.Proofs.YtfmpafgmcleogaaGreatDoorW.PrintWords Go.Proofs.YtfmpafgmcleogaaGreatDoorW.PrintLast Go.Proofs.YtfmpafgmcleogaaGreatDoorW.PrintMore
attribute [local go_sem] max2_int min2_int max_two min_two max_three min_three max_four min_four
set_option linter.unusedVariables false
set_option linter.unusedSimpArgs false
theorem bnd6_ {α β : Type} {o : Option α} {f : α → Option β} {r : β} (h : o.bind f = some r) : ∃ a, Aside0 (o = some a) ∧ f a = some r := by
 obtain ⟨a, h1, h2⟩ := Option.bind_eq_some_iff.mp h
 exact ⟨a, ⟨h1⟩, h2⟩
theorem q6_2 {P : Prop} (h : P := by repeat (first | exact (Kd.R_reads' HO425.out).2.2 | (with_reducible refine Kd.C_alloc ?_ _) | (with_reducible refine Kd.C_drewN ?_ _) | (with_reducible refine Kd.C_drew ?_))) : P := h
theorem q6_3 {P : Prop} (h : P := by repeat (first | (with_reducible first | exact HB.out | apply below_alloc | apply pw_below_drewN | apply below_drew1 | refine below_set ?_ GE422.out) | exact HB.out)) : P := h
theorem q6_6 {P : Prop} (h : P := by (with_reducible repeat (first | refine blk_drewN ?_ _ | refine blk_drew ?_ | refine blk_alloc ?_ _)); exact BK422.out) : P := h
def spec_MeetOf.j0 : Nat → Int → Int → List (S51) → Bool → Int → List Int → Option (Int)
 | 0, _, _, _, _, _, _ => none
 | k + 1, x1, x2, x7, x19, x423000, x423001 => if x19 = true then (some (-1)) else (if 0 ≤ x1 then (if x1 < (x7.length : Int) then (if 0 ≤ x2 then (if x2 < (x7.length : Int) then ((spec_l4Intent.f k x423000 x423001 (Go.bits .and .i64 ((rd_T51 x7 x1).f0) ((rd_T51 x7 x2).f0))).bind fun t430 => ((spec_l6At.f k x7 t430).bind fun t431 => (some t431))) else (none)) else (none)) else (none)) else (none))
def spec_MeetOf.f (k : Nat) (a0_0 : Int) (l0_1 : List Int) (a1 : Int) (a2 : Int) : Option (Int) := (spec_Concepts.f k a0_0 l0_1).bind fun t423 => ((spec_l6Exists.f t423 a1).bind fun t426 => (if t426 = true then ((spec_l6Exists.f t423 a2).bind fun t427 => (spec_MeetOf.j0 k a1 a2 t423 (!t427) a0_0 l0_1)) else (spec_MeetOf.j0 k a1 a2 t423 true a0_0 l0_1)))
def spec_MeetOf.T4 : Bool × List (List Nat × List Nat) := (true, [([], []), ([], []), ([], []), ([], []), ([2, 3], [2, 3]), ([4], [4]), ([5], [5]), ([], []), ([], []), ([7, 8], [7, 8]), ([9], [9]), ([10], [10]), ([6, 11], [6, 11]), ([1, 12], [1, 12]), ([0, 13, 13], [0, 13]), ([14, 14, 0, 1, 2, 3, 4, 5, 6, 7, 8, 9, 10, 11, 12, 13, 14], [14])])
def spec_MeetOf.B4 : List Nat := [0, 0, 0, 0, 12, 28, 60, 0, 0, 384, 896, 1920, 4092, 8190, 16383, 32767]
theorem spec_MeetOf.tab4 : rtab .any (opsOf Tryz.f12 4) = spec_MeetOf.T4 := by kernel_rfl
theorem spec_MeetOf.bits4 : waitsOk spec_MeetOf.T4.2 spec_MeetOf.B4 = true := by kernel_rfl
theorem spec_MeetOf.calls (k : Nat) (a0_0 : Int) (A0_1 : Option Addr) (c0_1 : Nat) (l0_1 : List Int) (a1 : Int) (a2 : Int) (r : Int) (w : World) (hr0_1 : Kd.C (Kd.int .i64) w A0_1 l0_1.length l0_1) (hc0_1 : l0_1.length ≤ c0_1) (h : spec_MeetOf.f k a0_0 l0_1 a1 a2 = some r) :
  Calls Tryz.prog 12 #[.agg #[.int .i64 a0_0, .slice A0_1 l0_1.length c0_1], .int .i64 a1, .int .i64 a2] w fun e w' => e = .returned (.int .i64 r) ∧ Below w.heap.size w w' := by
 have hu26 := Tryz.underlying26; have HR0_1 := Aside0.mk hr0_1; have HC0_1 := Aside0.mk hc0_1; clear hr0_1 hc0_1; have HB := Aside0.mk (Below.refl w.heap.size w); have H := h; clear h; unfold spec_MeetOf.f at H; obtain ⟨t423, A4, H⟩ := bnd6_ H; have HC5 := Aside0.mk H; clear H
 go_enter Tryz.func12, Tryz.ntmps12
 go_upto_region 2 with (first | (refine be_ 3 #[.int .i64 a0_0, .slice A0_1 l0_1.length c0_1] 26 ?_; intro gb422 hg w6 hbox hb; have n_ := ac_ (below_step s0_ hb) <| ac_ (hbox) <| ac_ ((gz_ w hg s0_)) <| Aside0.mk ((gz_ w hg s0_)); clear HB; obtain ⟨HB, BK422, GW422, GE422⟩ := n_; clear hb hbox hg; have hcz7_0 : w6.cell? ⟨gb422, 0, none⟩ = some (.int .i64 a0_0) := (blk_cell BK422.out 0).trans rfl; have hcz7_1 : w6.cell? ⟨gb422, 1, none⟩ = some (.slice A0_1 l0_1.length c0_1) := (blk_cell BK422.out 1).trans rfl; have hfz7_0 := blk_frozen BK422.out 0; have hfz7_1 := blk_frozen BK422.out 1) | (refine gL_ 28 9 Tryz.func28 #[.agg #[.int .i64 a0_0, .slice A0_1 l0_1.length c0_1]] ?_; (with_reducible refine (spec_Concepts.calls k a0_0 _ _ l0_1 t423 _ ?side1 ?side2 A4.out).mono ?_); (case side1 => exact s2_); (case side2 => exact HC0_1.out); rintro e w8 ⟨v424, rfl, ho0, hb⟩; refine ⟨_, rfl, ?_⟩; have n_ := ac_ (Kd.R_lower ho0 (below_size q6_3)) <| ac_ (blk_below (g := gb422) (o := .cells #[.int .i64 a0_0, .slice A0_1 l0_1.length c0_1] 26 (0, 0)) q6_6 hb) <| Aside0.mk (below_step q6_3 hb); clear BK422 HB; obtain ⟨HO425, BK422, HB⟩ := n_; (try clear hb ho0)))
 (try simp only [Act.put, List.setIfInBounds_toArray, List.set_cons_zero, List.set_cons_succ])
 go_cut [19] (fun v19 wc => ∃ (kq : Nat) (x19_4 : Bool), v19 = .bool x19_4 ∧ Aside0 (spec_MeetOf.j0 kq a1 a2 t423 x19_4 a0_0 l0_1 = some r) ∧ Aside0 (kq ≤ k) ∧ Aside0 (Kd.R k51 51 wc w.heap.size (fun _ => True) v424 t423) ∧ Aside0 (wc.heap[gb422]? = some (.cells #[.int .i64 a0_0, (.slice A0_1 l0_1.length c0_1)] 26 (0, 0))) ∧ Aside0 (Below w.heap.size w wc))
 case first =>
  have H := HC5.out; clear HC5; obtain ⟨t426, A9, H⟩ := bnd6_ H
  by_cases c10 : t426 = true
  ·
   subst c10; rw [if_pos rfl] at H; obtain ⟨t427, A11, H⟩ := bnd6_ H; have H' := Aside0.mk H; clear H; obtain ⟨Ao12, co12, eo12⟩ := Kd.R_slice HO425.out; subst eo12
   go_wp2_with (first | (refine gL_ 38 12 Tryz.func38 #[.slice Ao12 t423.length co12, .int .i64 a1] ?_; (with_reducible refine (spec_l6Exists.calls _ _ t423 a1 true _ ?side1 ?side2 A9.out).mono ?_); (case side1 => exact q6_2); (case side2 => exact (Kd.R_reads' HO425.out).2.1); rintro e w' ⟨rfl, ⟨nd, rfl⟩⟩; refine ⟨_, rfl, ?_⟩) | (go_at_call 38; (with_reducible refine (spec_l6Exists.calls _ _ t423 a2 t427 _ ?side1 ?side2 A11.out).mono ?_); (case side1 => exact q6_2); (case side2 => exact (Kd.R_reads' HO425.out).2.1); rintro e w' ⟨rfl, ⟨nd, rfl⟩⟩))
   go_meet
   case rel => exact ⟨_, (!t427), rf_, H', ⟨(by first | omega | exact Nat.le_refl _)⟩, ⟨(by (with_reducible repeat (first | apply Kd.R_alloc | apply Kd.R_drewN | apply Kd.R_drew)); exact HO425.out)⟩, ⟨q6_6⟩, ⟨q6_3⟩⟩
  ·
   replace c10 := Bool.eq_false_iff.mpr c10; subst c10
   rw [if_neg (show ¬ (false = true) by decide)] at H
   have H' := Aside0.mk H; clear H; obtain ⟨Ao13, co13, eo13⟩ := Kd.R_slice HO425.out; subst eo13
   go_wp2_with (first | (refine gL_ 38 12 Tryz.func38 #[.slice Ao13 t423.length co13, .int .i64 a1] ?_; (with_reducible refine (spec_l6Exists.calls _ _ t423 a1 false _ ?side1 ?side2 A9.out).mono ?_); (case side1 => exact q6_2); (case side2 => exact (Kd.R_reads' HO425.out).2.1); rintro e w' ⟨rfl, ⟨nd, rfl⟩⟩; refine ⟨_, rfl, ?_⟩))
   go_meet
   case rel => exact ⟨_, (true), rf_, H', ⟨(by first | omega | exact Nat.le_refl _)⟩, ⟨(by (with_reducible repeat (first | apply Kd.R_alloc | apply Kd.R_drewN | apply Kd.R_drew)); exact HO425.out)⟩, ⟨q6_6⟩, ⟨q6_3⟩⟩
 case rest =>
  clear HC5
  try clear c1
  try clear c2
  try clear p2
  try clear c3
  try clear c10
  try clear c12
  try clear hcz7_0
  try clear hcz7_1
  try clear hfz7_0
  try clear hfz7_1
  obtain ⟨kq, x19_4, rfl, HA, HJ4, HO_7, BK422, HB⟩ := hcut
  cases kq with
  | zero => exact absurd HA.out (by simp [spec_MeetOf.j0])
  | succ kj4 =>
   have H := HA.out; clear HA
   simp only [spec_MeetOf.j0] at H
   by_cases c14 : x19_4 = true
   ·
    subst c14; rw [if_pos rfl] at H; obtain rfl := Option.some.inj H
    go_wp2
    go_ret
    exact ⟨(by first | rfl | (simp [errW_none, errW_some] <;> rfl) | (simp [*, errW_none, errW_some] <;> rfl)), q6_3⟩
   ·
    replace c14 := Bool.eq_false_iff.mpr c14; subst c14
    rw [if_neg (show ¬ (false = true) by decide)] at H
    by_cases c15 : 0 ≤ a1
    ·
     rw [if_pos c15] at H; have c15b0 : decide (0 ≤ a1) = true := decide_eq_true c15; clear c15
     by_cases c16 : a1 < (t423.length : Int)
     ·
      rw [if_pos c16] at H; have c16b0 : decide (a1 < (t423.length : Int)) = true := decide_eq_true c16; clear c16
      by_cases c17 : 0 ≤ a2
      ·
       rw [if_pos c17] at H; have c17b0 : decide (0 ≤ a2) = true := decide_eq_true c17; clear c17
       by_cases c18 : a2 < (t423.length : Int)
       ·
        rw [if_pos c18] at H; have c18b0 : decide (a2 < (t423.length : Int)) = true := decide_eq_true c18; clear c18; obtain ⟨t430, A19, H⟩ := bnd6_ H; obtain ⟨t431, A20, H⟩ := bnd6_ H; obtain rfl := Option.some.inj H
        try go_wp2
        have n0_ := Aside0.mk (Kd.R_drew HO_7.out); have n1_ := Aside0.mk (blk_drew BK422.out); have n2_ := Aside0.mk (below_drew1 HB.out); clear HO_7; clear BK422; clear HB; have HO_7 := n0_; have BK422 := n1_; have HB := n2_; clear n0_ n1_ n2_; obtain ⟨Ao22, co22, eo22⟩ := Kd.R_slice HO_7.out
        (first | subst eo22 | (injection eo22 with f1_ f2_ f3_; have f4_ := f1_.symm; have f5_ := f3_.symm; clear f1_ f2_ f3_; subst f4_; subst f5_))
        have p428 : 0 ≤ (a1 : Int) := of_decide_eq_true s4_; have q428 : a1 < (t423.length : Int) := of_decide_eq_true s4_; obtain ⟨ad428, e428, hx428_0, hx428_1⟩ := at_T51 (Kd.R_reads' HO_7.out).2.2 a1 p428 q428
        cases e428
        replace p428 := eq_true p428; replace q428 := eq_true q428; have p429 : 0 ≤ (a2 : Int) := of_decide_eq_true s4_; have q429 : a2 < (t423.length : Int) := of_decide_eq_true s4_; obtain ⟨ad429, e429, hx429_0, hx429_1⟩ := at_T51 (Kd.R_reads' HO_7.out).2.2 a2 p429 q429
        obtain rfl : ad428 = ad429 := (by injection e429)
        replace p429 := eq_true p429; replace q429 := eq_true q429
        refine start_ (n := 16) (S := fun w' => w'.cell? ⟨gb422, 0, none⟩ = some (.int .i64 a0_0) ∧ w'.cell? ⟨gb422, 1, none⟩ = some (.slice A0_1 l0_1.length c0_1) ∧ w'.cell? (ad428.add ((a1).toNat * 2)) = some (.int .i64 ((rd_T51 t423 a1).f0)) ∧ w'.cell? ⟨(ad428.add ((a1).toNat * 2)).block, (ad428.add ((a1).toNat * 2)).off + 1, none⟩ = some (.int .i64 ((rd_T51 t423 a1).f1)) ∧ w'.cell? (ad428.add ((a2).toNat * 2)) = some (.int .i64 ((rd_T51 t423 a2).f0)) ∧ w'.cell? ⟨(ad428.add ((a2).toNat * 2)).block, (ad428.add ((a2).toNat * 2)).off + 1, none⟩ = some (.int .i64 ((rd_T51 t423 a2).f1))) (ds := []) (tb_ 16 0) (by kernel_rfl) rfl rfl ⟨(blk_cell BK422.out 0).trans rfl, (blk_cell BK422.out 1).trans rfl, hx428_0, hx428_1, hx429_0, hx429_1⟩ (fun hHeld => ?_); refine with_tabW spec_MeetOf.tab4 spec_MeetOf.bits4 (fun HT_ HW_ => ?_)
        generalize wc.drew = w21 at HO_7 BK422 HB hx428_0 hx428_1 hx429_0 hx429_1 hHeld ⊢
        refine pl_ 0 20 (tb_ 16 1) ?_; refine pl_ 2 22 (tb_ 16 5) ?_; refine pl_ 3 23 (tb_ 16 13) ?_; refine pl_ 4 24 (tb_ 16 29) ?_; refine pl_ 5 25 (tb_ 16 61) ?_; refine pl_ 7 27 (tb_ 16 189) ?_; refine pl_ 8 28 (tb_ 16 445) ?_; refine pl_ 9 29 (tb_ 16 957) ?_; refine pl_ 10 30 (tb_ 16 1981) ?_; refine tk_ 1 21 (tb_ 16 1983) hHeld ?_; refine tk_ 6 26 (tb_ 16 2047) hHeld ?_; refine tk_ 11 31 (tb_ 16 4095) hHeld ?_; refine pl_ 12 32 (tb_ 16 8191) ?_
        refine on_ 13 33 (tb_ 16 16383) (fun K hK => ?_)
        refine goes_ Tryz.func40 (by kernel_rfl) rfl #[.agg #[.int .i64 a0_0, .slice _ l0_1.length c0_1], .int .i64 (Go.bits .and .i64 ((rd_T51 t423 a1).f0) ((rd_T51 t423 a2).f0))] (by rfl) rfl rfl s1_ ?_
        with_reducible refine (spec_l4Intent.calls kj4 a0_0 _ _ l0_1 (Go.bits .and .i64 ((rd_T51 t423 a1).f0) ((rd_T51 t423 a2).f0)) t430 _ ?side1 ?side2 A19.out).mono ?_
        (case side1 => exact s2_)
        (case side2 => exact HC0_1.out)
        rintro e w23 ⟨rfl, hb⟩
        have HS2_ := (hb.cell (World.block_lt_of_cell? _ _ (hHeld.2.2.1))).trans (hHeld.2.2.1); have HS3_ := (hb.cell (World.block_lt_of_cell? _ _ (hHeld.2.2.2.1))).trans (hHeld.2.2.2.1); have HS4_ := (hb.cell (World.block_lt_of_cell? _ _ (hHeld.2.2.2.2.1))).trans (hHeld.2.2.2.2.1); have HS5_ := (hb.cell (World.block_lt_of_cell? _ _ (hHeld.2.2.2.2.2))).trans (hHeld.2.2.2.2.2)
        refine ⟨_, rfl, ?_⟩
        have n0_ := Aside0.mk (Kd.R_below (by (with_reducible repeat (first | apply Kd.R_alloc | apply Kd.R_drewN | apply Kd.R_drew)); exact HO_7.out) hb)
        have n1_ := Aside0.mk (blk_below (g := gb422) (o := .cells #[.int .i64 a0_0, .slice A0_1 l0_1.length c0_1] 26 (0, 0)) q6_6 hb); have n2_ := Aside0.mk (below_step q6_3 hb); clear HO_7; clear BK422; clear HB; have HO_7 := n0_; have BK422 := n1_; have HB := n2_; clear n0_ n1_ n2_
        (try clear hb)
        (try clear hb2)
        (try clear hk)
        (try clear hi)
        refine hK.out _ _ ⟨(blk_cell BK422.out 0).trans rfl, (blk_cell BK422.out 1).trans rfl, HS2_, HS3_, HS4_, HS5_⟩ (fun hHeld => ?_)
        clear hK K
        refine norm_ (a' := ?_) ?_ ?_
        rotate_left
        ·
         show Act.put _ (some 33) _ = _
         exact s8_
        refine on_ 14 34 (tb_ 16 32767) (fun K hK => ?_)
        refine goes_ Tryz.func39 (by kernel_rfl) rfl #[.slice (some ad428) t423.length co22, .int .i64 t430] (by rfl) rfl rfl s1_ ?_
        with_reducible refine (spec_l6At.calls kj4 _ _ t423 t430 t431 _ ?side1 ?side2 A20.out).mono ?_
        (case side1 => repeat (first | exact (Kd.R_reads' HO_7.out).2.2 | (with_reducible refine Kd.C_alloc ?_ _) | (with_reducible refine Kd.C_drewN ?_ _) | (with_reducible refine Kd.C_drew ?_)))
        (case side2 => exact (Kd.R_reads' HO_7.out).2.1)
        rintro e w' ⟨rfl, ⟨nd, rfl⟩⟩
        refine ⟨_, rfl, ?_⟩
        refine hK.out _ _ ⟨(blk_cell BK422.out 0).trans rfl, (blk_cell BK422.out 1).trans rfl, hHeld.2.2.1, hHeld.2.2.2.1, hHeld.2.2.2.2.1, hHeld.2.2.2.2.2⟩ (fun hHeld => ?_)
        clear hK K
        refine norm_ (a' := ?_) ?_ ?_
        rotate_left
        ·
         show Act.put _ (some 34) _ = _
         exact s8_
        refine pl_ 15 6 (tb_ 16 65535) ?_
        refine done_ (done_of HT_.out (by kernel_rfl)) ?_
        try go_wp2
        go_ret
        exact ⟨(by first | rfl | (simp [errW_none, errW_some] <;> rfl) | (simp [*, errW_none, errW_some] <;> rfl)), q6_3⟩
       ·
        rw [if_neg c18] at H
        exact absurd H (by simp)
      ·
       rw [if_neg c17] at H
       exact absurd H (by simp)
     ·
      rw [if_neg c16] at H
      exact absurd H (by simp)
    ·
     rw [if_neg c15] at H
     exact absurd H (by simp)
theorem q6_9 {P : Prop} (h : P := by repeat (first | exact (Kd.R_reads' HO435.out).2.2 | (with_reducible refine Kd.C_alloc ?_ _) | (with_reducible refine Kd.C_drewN ?_ _) | (with_reducible refine Kd.C_drew ?_))) : P := h
theorem q6_10 {P : Prop} (h : P := by repeat (first | (with_reducible first | exact HB.out | apply below_alloc | apply pw_below_drewN | apply below_drew1 | refine below_set ?_ GE432.out) | exact HB.out)) : P := h
theorem q6_12 {P : Prop} (h : P := by (with_reducible repeat (first | refine blk_drewN ?_ _ | refine blk_drew ?_ | refine blk_alloc ?_ _)); exact BK432.out) : P := h
def spec_JoinOf.f (k : Nat) (a0_0 : Int) (l0_1 : List Int) (a1 : Int) (a2 : Int) : Option (Int) := (spec_Concepts.f k a0_0 l0_1).bind fun t433 => ((spec_l6Exists.f t433 a1).bind fun t436 => (if t436 = true then ((spec_l6Exists.f t433 a2).bind fun t437 => (if t437 = true then (if 0 ≤ a1 then (if a1 < (t433.length : Int) then (if 0 ≤ a2 then (if a2 < (t433.length : Int) then ((spec_l6At.f k t433 (Go.bits .and .i64 ((rd_T51 t433 a1).f1) ((rd_T51 t433 a2).f1))).bind fun t440 => (some t440)) else (none)) else (none)) else (none)) else (none)) else (some (-1)))) else (some (-1))))
theorem spec_JoinOf.calls (k : Nat) (a0_0 : Int) (A0_1 : Option Addr) (c0_1 : Nat) (l0_1 : List Int) (a1 : Int) (a2 : Int) (r : Int) (w : World) (hr0_1 : Kd.C (Kd.int .i64) w A0_1 l0_1.length l0_1) (hc0_1 : l0_1.length ≤ c0_1) (h : spec_JoinOf.f k a0_0 l0_1 a1 a2 = some r) :
  Calls Tryz.prog 13 #[.agg #[.int .i64 a0_0, .slice A0_1 l0_1.length c0_1], .int .i64 a1, .int .i64 a2] w fun e w' => e = .returned (.int .i64 r) ∧ Below w.heap.size w w' := by
 have hu26 := Tryz.underlying26; have HR0_1 := Aside0.mk hr0_1; have HC0_1 := Aside0.mk hc0_1; clear hr0_1 hc0_1; have HB := Aside0.mk (Below.refl w.heap.size w); have H := h; clear h; unfold spec_JoinOf.f at H; obtain ⟨t433, A4, H⟩ := bnd6_ H; obtain ⟨t436, A5, H⟩ := bnd6_ H
 by_cases c6 : t436 = true
 ·
  subst c6; rw [if_pos rfl] at H; obtain ⟨t437, A7, H⟩ := bnd6_ H
  by_cases c8 : t437 = true
  ·
   subst c8; rw [if_pos rfl] at H
   by_cases c9 : 0 ≤ a1
   ·
    rw [if_pos c9] at H; have c9b0 : decide (0 ≤ a1) = true := decide_eq_true c9; clear c9
    by_cases c10 : a1 < (t433.length : Int)
    ·
     rw [if_pos c10] at H; have c10b0 : decide (a1 < (t433.length : Int)) = true := decide_eq_true c10; clear c10
     by_cases c11 : 0 ≤ a2
     ·
      rw [if_pos c11] at H; have c11b0 : decide (0 ≤ a2) = true := decide_eq_true c11; clear c11
      by_cases c12 : a2 < (t433.length : Int)
      ·
       rw [if_pos c12] at H; have c12b0 : decide (a2 < (t433.length : Int)) = true := decide_eq_true c12; clear c12; obtain ⟨t440, A13, H⟩ := bnd6_ H; obtain rfl := Option.some.inj H
       go_enter Tryz.func13, Tryz.ntmps13
       go_wp2_with (first | (refine be_ 3 #[.int .i64 a0_0, .slice A0_1 l0_1.length c0_1] 26 ?_; intro gb432 hg w14 hbox hb; have n_ := ac_ (below_step s0_ hb) <| ac_ (hbox) <| ac_ ((gz_ w hg s0_)) <| Aside0.mk ((gz_ w hg s0_)); clear HB; obtain ⟨HB, BK432, GW432, GE432⟩ := n_; clear hb hbox hg; have hcz15_0 : w14.cell? ⟨gb432, 0, none⟩ = some (.int .i64 a0_0) := (blk_cell BK432.out 0).trans rfl; have hcz15_1 : w14.cell? ⟨gb432, 1, none⟩ = some (.slice A0_1 l0_1.length c0_1) := (blk_cell BK432.out 1).trans rfl; have hfz15_0 := blk_frozen BK432.out 0; have hfz15_1 := blk_frozen BK432.out 1) | (go_at_call 28; (with_reducible refine (spec_Concepts.calls k a0_0 _ _ l0_1 t433 _ ?side1 ?side2 A4.out).mono ?_); (case side1 => exact s2_); (case side2 => exact HC0_1.out); rintro e w16 ⟨v434, rfl, ho0, hb⟩; have n_ := ac_ (Kd.R_lower ho0 (below_size q6_10)) <| ac_ (blk_below (g := gb432) (o := .cells #[.int .i64 a0_0, .slice A0_1 l0_1.length c0_1] 26 (0, 0)) q6_12 hb) <| Aside0.mk (below_step q6_10 hb); clear BK432 HB; obtain ⟨HO435, BK432, HB⟩ := n_; (try clear hb ho0); obtain ⟨Ao17, co17, eo17⟩ := Kd.R_slice HO435.out; subst eo17) | (go_at_call 38; (with_reducible refine (spec_l6Exists.calls _ _ t433 a1 true _ ?side1 ?side2 A5.out).mono ?_); (case side1 => exact q6_9); (case side2 => exact (Kd.R_reads' HO435.out).2.1); rintro e w' ⟨rfl, ⟨nd, rfl⟩⟩; (try exact dn_)) | (go_at_call 38; (with_reducible refine (spec_l6Exists.calls _ _ t433 a2 true _ ?side1 ?side2 A7.out).mono ?_); (case side1 => exact q6_9); (case side2 => exact (Kd.R_reads' HO435.out).2.1); rintro e w' ⟨rfl, ⟨nd, rfl⟩⟩; (try exact dn_); have p438 : 0 ≤ (a1 : Int) := of_decide_eq_true s4_; have q438 : a1 < (t433.length : Int) := of_decide_eq_true s4_; obtain ⟨ad438, e438, hx438_0, hx438_1⟩ := at_T51 (Kd.R_reads' HO435.out).2.2 a1 p438 q438; cases e438; replace p438 := eq_true p438; replace q438 := eq_true q438; have p439 : 0 ≤ (a2 : Int) := of_decide_eq_true s4_; have q439 : a2 < (t433.length : Int) := of_decide_eq_true s4_; obtain ⟨ad439, e439, hx439_0, hx439_1⟩ := at_T51 (Kd.R_reads' HO435.out).2.2 a2 p439 q439; obtain rfl : ad438 = ad439 := (by injection e439); replace p439 := eq_true p439; replace q439 := eq_true q439) | (go_at_call 39; (with_reducible refine (spec_l6At.calls k _ _ t433 (Go.bits .and .i64 ((rd_T51 t433 a1).f1) ((rd_T51 t433 a2).f1)) t440 _ ?side1 ?side2 A13.out).mono ?_); (case side1 => exact q6_9); (case side2 => exact (Kd.R_reads' HO435.out).2.1); rintro e w' ⟨rfl, ⟨nd, rfl⟩⟩; (try exact dn_)))
       repeat (go_quiet (first | (refine be_ 3 #[.int .i64 a0_0, .slice A0_1 l0_1.length c0_1] 26 ?_; intro gb432 hg w14 hbox hb; have n_ := ac_ (below_step s0_ hb) <| ac_ (hbox) <| ac_ ((gz_ w hg s0_)) <| Aside0.mk ((gz_ w hg s0_)); clear HB; obtain ⟨HB, BK432, GW432, GE432⟩ := n_; clear hb hbox hg; have hcz15_0 : w14.cell? ⟨gb432, 0, none⟩ = some (.int .i64 a0_0) := (blk_cell BK432.out 0).trans rfl; have hcz15_1 : w14.cell? ⟨gb432, 1, none⟩ = some (.slice A0_1 l0_1.length c0_1) := (blk_cell BK432.out 1).trans rfl; have hfz15_0 := blk_frozen BK432.out 0; have hfz15_1 := blk_frozen BK432.out 1) | (go_at_call 28; (with_reducible refine (spec_Concepts.calls k a0_0 _ _ l0_1 t433 _ ?side1 ?side2 A4.out).mono ?_); (case side1 => exact s2_); (case side2 => exact HC0_1.out); rintro e w16 ⟨v434, rfl, ho0, hb⟩; have n_ := ac_ (Kd.R_lower ho0 (below_size q6_10)) <| ac_ (blk_below (g := gb432) (o := .cells #[.int .i64 a0_0, .slice A0_1 l0_1.length c0_1] 26 (0, 0)) q6_12 hb) <| Aside0.mk (below_step q6_10 hb); clear BK432 HB; obtain ⟨HO435, BK432, HB⟩ := n_; (try clear hb ho0); obtain ⟨Ao17, co17, eo17⟩ := Kd.R_slice HO435.out; subst eo17) | (go_at_call 38; (with_reducible refine (spec_l6Exists.calls _ _ t433 a1 true _ ?side1 ?side2 A5.out).mono ?_); (case side1 => exact q6_9); (case side2 => exact (Kd.R_reads' HO435.out).2.1); rintro e w' ⟨rfl, ⟨nd, rfl⟩⟩; (try exact dn_)) | (go_at_call 38; (with_reducible refine (spec_l6Exists.calls _ _ t433 a2 true _ ?side1 ?side2 A7.out).mono ?_); (case side1 => exact q6_9); (case side2 => exact (Kd.R_reads' HO435.out).2.1); rintro e w' ⟨rfl, ⟨nd, rfl⟩⟩; (try exact dn_); have p438 : 0 ≤ (a1 : Int) := of_decide_eq_true s4_; have q438 : a1 < (t433.length : Int) := of_decide_eq_true s4_; obtain ⟨ad438, e438, hx438_0, hx438_1⟩ := at_T51 (Kd.R_reads' HO435.out).2.2 a1 p438 q438; cases e438; replace p438 := eq_true p438; replace q438 := eq_true q438; have p439 : 0 ≤ (a2 : Int) := of_decide_eq_true s4_; have q439 : a2 < (t433.length : Int) := of_decide_eq_true s4_; obtain ⟨ad439, e439, hx439_0, hx439_1⟩ := at_T51 (Kd.R_reads' HO435.out).2.2 a2 p439 q439; obtain rfl : ad438 = ad439 := (by injection e439); replace p439 := eq_true p439; replace q439 := eq_true q439) | (go_at_call 39; (with_reducible refine (spec_l6At.calls k _ _ t433 (Go.bits .and .i64 ((rd_T51 t433 a1).f1) ((rd_T51 t433 a2).f1)) t440 _ ?side1 ?side2 A13.out).mono ?_); (case side1 => exact q6_9); (case side2 => exact (Kd.R_reads' HO435.out).2.1); rintro e w' ⟨rfl, ⟨nd, rfl⟩⟩; (try exact dn_))); try go_wp2_with (first | (refine be_ 3 #[.int .i64 a0_0, .slice A0_1 l0_1.length c0_1] 26 ?_; intro gb432 hg w14 hbox hb; have n_ := ac_ (below_step s0_ hb) <| ac_ (hbox) <| ac_ ((gz_ w hg s0_)) <| Aside0.mk ((gz_ w hg s0_)); clear HB; obtain ⟨HB, BK432, GW432, GE432⟩ := n_; clear hb hbox hg; have hcz15_0 : w14.cell? ⟨gb432, 0, none⟩ = some (.int .i64 a0_0) := (blk_cell BK432.out 0).trans rfl; have hcz15_1 : w14.cell? ⟨gb432, 1, none⟩ = some (.slice A0_1 l0_1.length c0_1) := (blk_cell BK432.out 1).trans rfl; have hfz15_0 := blk_frozen BK432.out 0; have hfz15_1 := blk_frozen BK432.out 1) | (go_at_call 28; (with_reducible refine (spec_Concepts.calls k a0_0 _ _ l0_1 t433 _ ?side1 ?side2 A4.out).mono ?_); (case side1 => exact s2_); (case side2 => exact HC0_1.out); rintro e w16 ⟨v434, rfl, ho0, hb⟩; have n_ := ac_ (Kd.R_lower ho0 (below_size q6_10)) <| ac_ (blk_below (g := gb432) (o := .cells #[.int .i64 a0_0, .slice A0_1 l0_1.length c0_1] 26 (0, 0)) q6_12 hb) <| Aside0.mk (below_step q6_10 hb); clear BK432 HB; obtain ⟨HO435, BK432, HB⟩ := n_; (try clear hb ho0); obtain ⟨Ao17, co17, eo17⟩ := Kd.R_slice HO435.out; subst eo17) | (go_at_call 38; (with_reducible refine (spec_l6Exists.calls _ _ t433 a1 true _ ?side1 ?side2 A5.out).mono ?_); (case side1 => exact q6_9); (case side2 => exact (Kd.R_reads' HO435.out).2.1); rintro e w' ⟨rfl, ⟨nd, rfl⟩⟩; (try exact dn_)) | (go_at_call 38; (with_reducible refine (spec_l6Exists.calls _ _ t433 a2 true _ ?side1 ?side2 A7.out).mono ?_); (case side1 => exact q6_9); (case side2 => exact (Kd.R_reads' HO435.out).2.1); rintro e w' ⟨rfl, ⟨nd, rfl⟩⟩; (try exact dn_); have p438 : 0 ≤ (a1 : Int) := of_decide_eq_true s4_; have q438 : a1 < (t433.length : Int) := of_decide_eq_true s4_; obtain ⟨ad438, e438, hx438_0, hx438_1⟩ := at_T51 (Kd.R_reads' HO435.out).2.2 a1 p438 q438; cases e438; replace p438 := eq_true p438; replace q438 := eq_true q438; have p439 : 0 ≤ (a2 : Int) := of_decide_eq_true s4_; have q439 : a2 < (t433.length : Int) := of_decide_eq_true s4_; obtain ⟨ad439, e439, hx439_0, hx439_1⟩ := at_T51 (Kd.R_reads' HO435.out).2.2 a2 p439 q439; obtain rfl : ad438 = ad439 := (by injection e439); replace p439 := eq_true p439; replace q439 := eq_true q439) | (go_at_call 39; (with_reducible refine (spec_l6At.calls k _ _ t433 (Go.bits .and .i64 ((rd_T51 t433 a1).f1) ((rd_T51 t433 a2).f1)) t440 _ ?side1 ?side2 A13.out).mono ?_); (case side1 => exact q6_9); (case side2 => exact (Kd.R_reads' HO435.out).2.1); rintro e w' ⟨rfl, ⟨nd, rfl⟩⟩; (try exact dn_))))
       go_ret
       exact ⟨s5_, q6_10⟩
      ·
       rw [if_neg c12] at H
       exact absurd H (by simp)
     ·
      rw [if_neg c11] at H
      exact absurd H (by simp)
    ·
     rw [if_neg c10] at H
     exact absurd H (by simp)
   ·
    rw [if_neg c9] at H
    exact absurd H (by simp)
  ·
   replace c8 := Bool.eq_false_iff.mpr c8; subst c8
   rw [if_neg (show ¬ (false = true) by decide)] at H
   obtain rfl := Option.some.inj H
   go_enter Tryz.func13, Tryz.ntmps13
   go_wp2_with (first | (refine be_ 3 #[.int .i64 a0_0, .slice A0_1 l0_1.length c0_1] 26 ?_; intro gb432 hg w18 hbox hb; have n_ := ac_ (below_step s0_ hb) <| ac_ (hbox) <| ac_ ((gz_ w hg s0_)) <| Aside0.mk ((gz_ w hg s0_)); clear HB; obtain ⟨HB, BK432, GW432, GE432⟩ := n_; clear hb hbox hg; have hcz19_0 : w18.cell? ⟨gb432, 0, none⟩ = some (.int .i64 a0_0) := (blk_cell BK432.out 0).trans rfl; have hcz19_1 : w18.cell? ⟨gb432, 1, none⟩ = some (.slice A0_1 l0_1.length c0_1) := (blk_cell BK432.out 1).trans rfl; have hfz19_0 := blk_frozen BK432.out 0; have hfz19_1 := blk_frozen BK432.out 1) | (go_at_call 28; (with_reducible refine (spec_Concepts.calls k a0_0 _ _ l0_1 t433 _ ?side1 ?side2 A4.out).mono ?_); (case side1 => exact s2_); (case side2 => exact HC0_1.out); rintro e w20 ⟨v434, rfl, ho0, hb⟩; have n_ := ac_ (Kd.R_lower ho0 (below_size q6_10)) <| ac_ (blk_below (g := gb432) (o := .cells #[.int .i64 a0_0, .slice A0_1 l0_1.length c0_1] 26 (0, 0)) q6_12 hb) <| Aside0.mk (below_step q6_10 hb); clear BK432 HB; obtain ⟨HO435, BK432, HB⟩ := n_; (try clear hb ho0); obtain ⟨Ao21, co21, eo21⟩ := Kd.R_slice HO435.out; subst eo21) | (go_at_call 38; (with_reducible refine (spec_l6Exists.calls _ _ t433 a1 true _ ?side1 ?side2 A5.out).mono ?_); (case side1 => exact q6_9); (case side2 => exact (Kd.R_reads' HO435.out).2.1); rintro e w' ⟨rfl, ⟨nd, rfl⟩⟩; (try exact dn_)) | (go_at_call 38; (with_reducible refine (spec_l6Exists.calls _ _ t433 a2 false _ ?side1 ?side2 A7.out).mono ?_); (case side1 => exact q6_9); (case side2 => exact (Kd.R_reads' HO435.out).2.1); rintro e w' ⟨rfl, ⟨nd, rfl⟩⟩; (try exact dn_)))
   repeat (go_quiet (first | (refine be_ 3 #[.int .i64 a0_0, .slice A0_1 l0_1.length c0_1] 26 ?_; intro gb432 hg w18 hbox hb; have n_ := ac_ (below_step s0_ hb) <| ac_ (hbox) <| ac_ ((gz_ w hg s0_)) <| Aside0.mk ((gz_ w hg s0_)); clear HB; obtain ⟨HB, BK432, GW432, GE432⟩ := n_; clear hb hbox hg; have hcz19_0 : w18.cell? ⟨gb432, 0, none⟩ = some (.int .i64 a0_0) := (blk_cell BK432.out 0).trans rfl; have hcz19_1 : w18.cell? ⟨gb432, 1, none⟩ = some (.slice A0_1 l0_1.length c0_1) := (blk_cell BK432.out 1).trans rfl; have hfz19_0 := blk_frozen BK432.out 0; have hfz19_1 := blk_frozen BK432.out 1) | (go_at_call 28; (with_reducible refine (spec_Concepts.calls k a0_0 _ _ l0_1 t433 _ ?side1 ?side2 A4.out).mono ?_); (case side1 => exact s2_); (case side2 => exact HC0_1.out); rintro e w20 ⟨v434, rfl, ho0, hb⟩; have n_ := ac_ (Kd.R_lower ho0 (below_size q6_10)) <| ac_ (blk_below (g := gb432) (o := .cells #[.int .i64 a0_0, .slice A0_1 l0_1.length c0_1] 26 (0, 0)) q6_12 hb) <| Aside0.mk (below_step q6_10 hb); clear BK432 HB; obtain ⟨HO435, BK432, HB⟩ := n_; (try clear hb ho0); obtain ⟨Ao21, co21, eo21⟩ := Kd.R_slice HO435.out; subst eo21) | (go_at_call 38; (with_reducible refine (spec_l6Exists.calls _ _ t433 a1 true _ ?side1 ?side2 A5.out).mono ?_); (case side1 => exact q6_9); (case side2 => exact (Kd.R_reads' HO435.out).2.1); rintro e w' ⟨rfl, ⟨nd, rfl⟩⟩; (try exact dn_)) | (go_at_call 38; (with_reducible refine (spec_l6Exists.calls _ _ t433 a2 false _ ?side1 ?side2 A7.out).mono ?_); (case side1 => exact q6_9); (case side2 => exact (Kd.R_reads' HO435.out).2.1); rintro e w' ⟨rfl, ⟨nd, rfl⟩⟩; (try exact dn_))); try go_wp2_with (first | (refine be_ 3 #[.int .i64 a0_0, .slice A0_1 l0_1.length c0_1] 26 ?_; intro gb432 hg w18 hbox hb; have n_ := ac_ (below_step s0_ hb) <| ac_ (hbox) <| ac_ ((gz_ w hg s0_)) <| Aside0.mk ((gz_ w hg s0_)); clear HB; obtain ⟨HB, BK432, GW432, GE432⟩ := n_; clear hb hbox hg; have hcz19_0 : w18.cell? ⟨gb432, 0, none⟩ = some (.int .i64 a0_0) := (blk_cell BK432.out 0).trans rfl; have hcz19_1 : w18.cell? ⟨gb432, 1, none⟩ = some (.slice A0_1 l0_1.length c0_1) := (blk_cell BK432.out 1).trans rfl; have hfz19_0 := blk_frozen BK432.out 0; have hfz19_1 := blk_frozen BK432.out 1) | (go_at_call 28; (with_reducible refine (spec_Concepts.calls k a0_0 _ _ l0_1 t433 _ ?side1 ?side2 A4.out).mono ?_); (case side1 => exact s2_); (case side2 => exact HC0_1.out); rintro e w20 ⟨v434, rfl, ho0, hb⟩; have n_ := ac_ (Kd.R_lower ho0 (below_size q6_10)) <| ac_ (blk_below (g := gb432) (o := .cells #[.int .i64 a0_0, .slice A0_1 l0_1.length c0_1] 26 (0, 0)) q6_12 hb) <| Aside0.mk (below_step q6_10 hb); clear BK432 HB; obtain ⟨HO435, BK432, HB⟩ := n_; (try clear hb ho0); obtain ⟨Ao21, co21, eo21⟩ := Kd.R_slice HO435.out; subst eo21) | (go_at_call 38; (with_reducible refine (spec_l6Exists.calls _ _ t433 a1 true _ ?side1 ?side2 A5.out).mono ?_); (case side1 => exact q6_9); (case side2 => exact (Kd.R_reads' HO435.out).2.1); rintro e w' ⟨rfl, ⟨nd, rfl⟩⟩; (try exact dn_)) | (go_at_call 38; (with_reducible refine (spec_l6Exists.calls _ _ t433 a2 false _ ?side1 ?side2 A7.out).mono ?_); (case side1 => exact q6_9); (case side2 => exact (Kd.R_reads' HO435.out).2.1); rintro e w' ⟨rfl, ⟨nd, rfl⟩⟩; (try exact dn_))))
   go_ret
   exact ⟨s5_, q6_10⟩
 ·
  replace c6 := Bool.eq_false_iff.mpr c6; subst c6
  rw [if_neg (show ¬ (false = true) by decide)] at H
  obtain rfl := Option.some.inj H
  go_enter Tryz.func13, Tryz.ntmps13
  go_wp2_with (first | (refine be_ 3 #[.int .i64 a0_0, .slice A0_1 l0_1.length c0_1] 26 ?_; intro gb432 hg w22 hbox hb; have n_ := ac_ (below_step s0_ hb) <| ac_ (hbox) <| ac_ ((gz_ w hg s0_)) <| Aside0.mk ((gz_ w hg s0_)); clear HB; obtain ⟨HB, BK432, GW432, GE432⟩ := n_; clear hb hbox hg; have hcz23_0 : w22.cell? ⟨gb432, 0, none⟩ = some (.int .i64 a0_0) := (blk_cell BK432.out 0).trans rfl; have hcz23_1 : w22.cell? ⟨gb432, 1, none⟩ = some (.slice A0_1 l0_1.length c0_1) := (blk_cell BK432.out 1).trans rfl; have hfz23_0 := blk_frozen BK432.out 0; have hfz23_1 := blk_frozen BK432.out 1) | (go_at_call 28; (with_reducible refine (spec_Concepts.calls k a0_0 _ _ l0_1 t433 _ ?side1 ?side2 A4.out).mono ?_); (case side1 => exact s2_); (case side2 => exact HC0_1.out); rintro e w24 ⟨v434, rfl, ho0, hb⟩; have n_ := ac_ (Kd.R_lower ho0 (below_size q6_10)) <| ac_ (blk_below (g := gb432) (o := .cells #[.int .i64 a0_0, .slice A0_1 l0_1.length c0_1] 26 (0, 0)) q6_12 hb) <| Aside0.mk (below_step q6_10 hb); clear BK432 HB; obtain ⟨HO435, BK432, HB⟩ := n_; (try clear hb ho0); obtain ⟨Ao25, co25, eo25⟩ := Kd.R_slice HO435.out; subst eo25) | (go_at_call 38; (with_reducible refine (spec_l6Exists.calls _ _ t433 a1 false _ ?side1 ?side2 A5.out).mono ?_); (case side1 => exact q6_9); (case side2 => exact (Kd.R_reads' HO435.out).2.1); rintro e w' ⟨rfl, ⟨nd, rfl⟩⟩; (try exact dn_)))
  repeat (go_quiet (first | (refine be_ 3 #[.int .i64 a0_0, .slice A0_1 l0_1.length c0_1] 26 ?_; intro gb432 hg w22 hbox hb; have n_ := ac_ (below_step s0_ hb) <| ac_ (hbox) <| ac_ ((gz_ w hg s0_)) <| Aside0.mk ((gz_ w hg s0_)); clear HB; obtain ⟨HB, BK432, GW432, GE432⟩ := n_; clear hb hbox hg; have hcz23_0 : w22.cell? ⟨gb432, 0, none⟩ = some (.int .i64 a0_0) := (blk_cell BK432.out 0).trans rfl; have hcz23_1 : w22.cell? ⟨gb432, 1, none⟩ = some (.slice A0_1 l0_1.length c0_1) := (blk_cell BK432.out 1).trans rfl; have hfz23_0 := blk_frozen BK432.out 0; have hfz23_1 := blk_frozen BK432.out 1) | (go_at_call 28; (with_reducible refine (spec_Concepts.calls k a0_0 _ _ l0_1 t433 _ ?side1 ?side2 A4.out).mono ?_); (case side1 => exact s2_); (case side2 => exact HC0_1.out); rintro e w24 ⟨v434, rfl, ho0, hb⟩; have n_ := ac_ (Kd.R_lower ho0 (below_size q6_10)) <| ac_ (blk_below (g := gb432) (o := .cells #[.int .i64 a0_0, .slice A0_1 l0_1.length c0_1] 26 (0, 0)) q6_12 hb) <| Aside0.mk (below_step q6_10 hb); clear BK432 HB; obtain ⟨HO435, BK432, HB⟩ := n_; (try clear hb ho0); obtain ⟨Ao25, co25, eo25⟩ := Kd.R_slice HO435.out; subst eo25) | (go_at_call 38; (with_reducible refine (spec_l6Exists.calls _ _ t433 a1 false _ ?side1 ?side2 A5.out).mono ?_); (case side1 => exact q6_9); (case side2 => exact (Kd.R_reads' HO435.out).2.1); rintro e w' ⟨rfl, ⟨nd, rfl⟩⟩; (try exact dn_))); try go_wp2_with (first | (refine be_ 3 #[.int .i64 a0_0, .slice A0_1 l0_1.length c0_1] 26 ?_; intro gb432 hg w22 hbox hb; have n_ := ac_ (below_step s0_ hb) <| ac_ (hbox) <| ac_ ((gz_ w hg s0_)) <| Aside0.mk ((gz_ w hg s0_)); clear HB; obtain ⟨HB, BK432, GW432, GE432⟩ := n_; clear hb hbox hg; have hcz23_0 : w22.cell? ⟨gb432, 0, none⟩ = some (.int .i64 a0_0) := (blk_cell BK432.out 0).trans rfl; have hcz23_1 : w22.cell? ⟨gb432, 1, none⟩ = some (.slice A0_1 l0_1.length c0_1) := (blk_cell BK432.out 1).trans rfl; have hfz23_0 := blk_frozen BK432.out 0; have hfz23_1 := blk_frozen BK432.out 1) | (go_at_call 28; (with_reducible refine (spec_Concepts.calls k a0_0 _ _ l0_1 t433 _ ?side1 ?side2 A4.out).mono ?_); (case side1 => exact s2_); (case side2 => exact HC0_1.out); rintro e w24 ⟨v434, rfl, ho0, hb⟩; have n_ := ac_ (Kd.R_lower ho0 (below_size q6_10)) <| ac_ (blk_below (g := gb432) (o := .cells #[.int .i64 a0_0, .slice A0_1 l0_1.length c0_1] 26 (0, 0)) q6_12 hb) <| Aside0.mk (below_step q6_10 hb); clear BK432 HB; obtain ⟨HO435, BK432, HB⟩ := n_; (try clear hb ho0); obtain ⟨Ao25, co25, eo25⟩ := Kd.R_slice HO435.out; subst eo25) | (go_at_call 38; (with_reducible refine (spec_l6Exists.calls _ _ t433 a1 false _ ?side1 ?side2 A5.out).mono ?_); (case side1 => exact q6_9); (case side2 => exact (Kd.R_reads' HO435.out).2.1); rintro e w' ⟨rfl, ⟨nd, rfl⟩⟩; (try exact dn_))))
  go_ret
  exact ⟨s5_, q6_10⟩
def laws_sameInts.l0 : Nat → List Int → List Int → Int → Option (Bool)
 | 0, _, _, _ => none
 | k + 1, x0, x1, x5 => if x5 < (x0.length : Int) then (if 0 ≤ x5 then (if x5 < (x1.length : Int) then (if (rd x0 x5) = (rd x1 x5) then (laws_sameInts.l0 k x0 x1 (wrap64 (x5 + 1))) else (some false)) else (none)) else (none)) else (some true)
def laws_sameInts.f (k : Nat) (l0 : List Int) (l1 : List Int) : Option (Bool) := if (l0.length : Int) = (l1.length : Int) then (laws_sameInts.l0 k l0 l1 0) else (some false)
theorem laws_sameInts.calls (k : Nat) (A0 : Option Addr) (c0 : Nat) (l0 : List Int) (A1 : Option Addr) (c1 : Nat) (l1 : List Int) (r : Bool) (w : World) (hr0 : Kd.C (Kd.int .i64) w A0 l0.length l0) (hc0 : l0.length ≤ c0) (hr1 : Kd.C (Kd.int .i64) w A1 l1.length l1) (hc1 : l1.length ≤ c1) (h : laws_sameInts.f k l0 l1 = some r) :
  Calls Tryz.prog 14 #[.slice A0 l0.length c0, .slice A1 l1.length c1] w fun e w' => e = .returned (.bool r) ∧ Drawn0 w w' := by
 have HR0 := Aside0.mk hr0; have HC0 := Aside0.mk hc0; clear hr0 hc0; have HR1 := Aside0.mk hr1; have HC1 := Aside0.mk hc1; clear hr1 hc1; have H := h; clear h; unfold laws_sameInts.f at H
 by_cases c3 : (l0.length : Int) = (l1.length : Int)
 ·
  rw [if_pos c3] at H; have c3b0 : ((l0.length : Int) == (l1.length : Int)) = true := beq_iff_eq.mpr c3; have c3b1 : ((l0.length : Int) != (l1.length : Int)) = false := bne_eq_false_iff_eq.mpr c3
  have c3b2 : (l0.length == l1.length) = true := by first | simpa using c3 | (simp at c3 ⊢; omega)
  clear c3; have H' := Aside0.mk H; clear H
  go_enter Tryz.func14, Tryz.ntmps14
  go_wp2
  repeat (go_quiet (fail); try go_wp2)
  go_loopg [5] k (fun kq v5 w' => ∃ (x5_1 : Int), v5 = .int .i64 x5_1 ∧ Aside0 (laws_sameInts.l0 kq l0 l1 x5_1 = some r) ∧ Aside0 (kq ≤ k) ∧ Drawn0 w w')
  case atStart => exact ⟨(0), s3_, H', ⟨Nat.le_refl _⟩, s10_⟩
  case round =>
   clear H'
   try clear c1
   try clear p2
   try clear c3
   try clear c3b0
   try clear c3b1
   try clear c3b2
   obtain ⟨x5_1, rfl, HA, HK1, ⟨m1, rfl⟩⟩ := hrel
   cases gk with
   | zero => exact absurd HA.out (by simp [laws_sameInts.l0])
   | succ k1 =>
    have H := HA.out; clear HA
    simp only [laws_sameInts.l0] at H
    by_cases c4 : x5_1 < (l0.length : Int)
    ·
     rw [if_pos c4] at H; have c4b0 : decide (x5_1 < (l0.length : Int)) = true := decide_eq_true c4; clear c4
     by_cases c5 : 0 ≤ x5_1
     ·
      rw [if_pos c5] at H; have c5b0 : decide (0 ≤ x5_1) = true := decide_eq_true c5; clear c5
      by_cases c6 : x5_1 < (l1.length : Int)
      ·
       rw [if_pos c6] at H; have c6b0 : decide (x5_1 < (l1.length : Int)) = true := decide_eq_true c6; clear c6
       by_cases c7 : (rd l0 x5_1) = (rd l1 x5_1)
       ·
        rw [if_pos c7] at H; have c7b0 : ((rd l0 x5_1) == (rd l1 x5_1)) = true := beq_iff_eq.mpr c7; have c7b1 : ((rd l0 x5_1) != (rd l1 x5_1)) = false := bne_eq_false_iff_eq.mpr c7; clear c7; have H' := Aside0.mk H; clear H; have p441 : 0 ≤ (x5_1 : Int) := of_decide_eq_true s4_; have q441 : x5_1 < (l0.length : Int) := of_decide_eq_true s4_; obtain ⟨ad441, e441, hx441_0⟩ := Kd.at_int HR0.out x5_1 p441 q441
        cases e441
        replace p441 := eq_true p441; replace q441 := eq_true q441; have p442 : 0 ≤ (x5_1 : Int) := of_decide_eq_true s4_; have q442 : x5_1 < (l1.length : Int) := of_decide_eq_true s4_; obtain ⟨ad442, e442, hx442_0⟩ := Kd.at_int HR1.out x5_1 p442 q442
        cases e442
        replace p442 := eq_true p442; replace q442 := eq_true q442
        go_wp2
        repeat (go_quiet (fail); try go_wp2)
        go_roundg k1
        case measure => have := HK1.out; omega
        case rel => exact ⟨(wrap64 (x5_1 + 1)), s3_, H', ⟨by have := HK1.out; omega⟩, s10_⟩
       ·
        rw [if_neg c7] at H; have c7b0 : ((rd l0 x5_1) == (rd l1 x5_1)) = false := beq_eq_false_iff_ne.mpr c7; have c7b1 : ((rd l0 x5_1) != (rd l1 x5_1)) = true := bne_iff_ne.mpr c7; obtain rfl := Option.some.inj H; have p441 : 0 ≤ (x5_1 : Int) := of_decide_eq_true s4_; have q441 : x5_1 < (l0.length : Int) := of_decide_eq_true s4_; obtain ⟨ad441, e441, hx441_0⟩ := Kd.at_int HR0.out x5_1 p441 q441
        cases e441
        replace p441 := eq_true p441; replace q441 := eq_true q441; have p442 : 0 ≤ (x5_1 : Int) := of_decide_eq_true s4_; have q442 : x5_1 < (l1.length : Int) := of_decide_eq_true s4_; obtain ⟨ad442, e442, hx442_0⟩ := Kd.at_int HR1.out x5_1 p442 q442
        cases e442
        replace p442 := eq_true p442; replace q442 := eq_true q442
        go_wp2
        repeat (go_quiet (fail); try go_wp2)
        go_ret
        exact ⟨s3_, s10_⟩
      ·
       rw [if_neg c6] at H
       exact absurd H (by simp)
     ·
      rw [if_neg c5] at H
      exact absurd H (by simp)
    ·
     rw [if_neg c4] at H; have c4b0 : decide (x5_1 < (l0.length : Int)) = false := decide_eq_false c4; clear c4; obtain rfl := Option.some.inj H
     go_wp2
     repeat (go_quiet (fail); try go_wp2)
     go_ret
     exact ⟨s3_, s10_⟩
 ·
  rw [if_neg c3] at H; have c3b0 : ((l0.length : Int) == (l1.length : Int)) = false := beq_eq_false_iff_ne.mpr c3; have c3b1 : ((l0.length : Int) != (l1.length : Int)) = true := bne_iff_ne.mpr c3
  have c3b2 : (l0.length == l1.length) = false := by first | simpa using c3 | (simp at c3 ⊢; omega)
  obtain rfl := Option.some.inj H
  go_enter Tryz.func14, Tryz.ntmps14
  go_wp2
  repeat (go_quiet (fail); try go_wp2)
  go_ret
  exact ⟨s3_, s10_⟩
theorem q6_18 {P : Prop} (h : P := by repeat (first | (with_reducible first | exact HB.out | apply below_alloc | apply pw_below_drewN | apply below_drew1 | refine below_set ?_ GE443.out) | exact HB.out)) : P := h
theorem q6_20 {P : Prop} (h : P := by (with_reducible repeat (first | refine blk_drewN ?_ _ | refine blk_drew ?_ | refine blk_alloc ?_ _)); exact BK443.out) : P := h
def spec_l6Under.f (a0_0 : Int) (a0_1 : Int) (a1_0 : Int) (a1_1 : Int) : Option (Bool) := some ((Go.bits .and .i64 a0_0 a1_0) == a0_0)
theorem spec_l6Under.calls (a0_0 : Int) (a0_1 : Int) (a1_0 : Int) (a1_1 : Int) (r : Bool) (w : World) (h : spec_l6Under.f a0_0 a0_1 a1_0 a1_1 = some r) :
  Calls Tryz.prog 43 #[.agg #[.int .i64 a0_0, .int .i64 a0_1], .agg #[.int .i64 a1_0, .int .i64 a1_1]] w fun e w' => e = .returned (.bool r) ∧ Below w.heap.size w w' := by
 have hu51 := Tryz.underlying51; have HB := Aside0.mk (Below.refl w.heap.size w); have H := h; clear h; unfold spec_l6Under.f at H; obtain rfl := Option.some.inj H
 go_enter Tryz.func43, Tryz.ntmps43
 go_wp2_with (first | (refine be_ 2 #[.int .i64 a0_0, .int .i64 a0_1] 51 ?_; intro gb443 hg w3 hbox hb; have n_ := ac_ (below_step s0_ hb) <| ac_ (hbox) <| ac_ ((gz_ w hg s0_)) <| Aside0.mk ((gz_ w hg s0_)); clear HB; obtain ⟨HB, BK443, GW443, GE443⟩ := n_; clear hb hbox hg) | (refine be_ 3 #[.int .i64 a1_0, .int .i64 a1_1] 51 ?_; intro gb444 hg w4 hbox hb; have n_ := ac_ (blk_below (g := gb443) (o := .cells #[.int .i64 a0_0, .int .i64 a0_1] 51 (0, 0)) q6_20 hb) <| ac_ (below_step q6_18 hb) <| ac_ (hbox) <| ac_ ((gz_ w hg q6_18)) <| ac_ ((gz_ w hg q6_18)) <| ac_ ((nl_ hg (blk_lt (g := gb443) (o := .cells #[.int .i64 a0_0, .int .i64 a0_1] 51 (0, 0)) q6_20))) <| Aside0.mk ((ng_ hg (blk_lt (g := gb443) (o := .cells #[.int .i64 a0_0, .int .i64 a0_1] 51 (0, 0)) q6_20))); clear BK443 HB; obtain ⟨BK443, HB, BK444, GW444, GE444, NB443_444, NB444_443⟩ := n_; clear hb hbox hg; have hnb5 := NB443_444.out; have hnc5 := NB444_443.out; have hcz6_0 : w4.cell? ⟨gb443, 0, none⟩ = some (.int .i64 a0_0) := (blk_cell BK443.out 0).trans rfl; have hcz6_1 : w4.cell? ⟨gb443, 1, none⟩ = some (.int .i64 a0_1) := (blk_cell BK443.out 1).trans rfl; have hfz6_0 := blk_frozen BK443.out 0; have hfz6_1 := blk_frozen BK443.out 1; have hcz7_0 : w4.cell? ⟨gb444, 0, none⟩ = some (.int .i64 a1_0) := (blk_cell BK444.out 0).trans rfl; have hcz7_1 : w4.cell? ⟨gb444, 1, none⟩ = some (.int .i64 a1_1) := (blk_cell BK444.out 1).trans rfl; have hfz7_0 := blk_frozen BK444.out 0; have hfz7_1 := blk_frozen BK444.out 1))
 go_ret
 exact ⟨(by first | rfl | (simp [errW_none, errW_some] <;> rfl) | (simp [*, errW_none, errW_some] <;> rfl)), (by repeat (first | (with_reducible first | exact HB.out | apply below_alloc | apply pw_below_drewN | apply below_drew1 | refine below_set ?_ GE443.out | refine below_set ?_ GE444.out) | exact HB.out))⟩
def spec_l6Sorted.f (l0 : List (S51)) (a1 : Int) (a2 : Int) (a3 : Bool) : Option (Bool) := if a3 = true then (if 0 ≤ a1 then (if a1 < (l0.length : Int) then (if 0 ≤ a2 then (if a2 < (l0.length : Int) then ((spec_l6Under.f ((rd_T51 l0 a1).f0) ((rd_T51 l0 a1).f1) ((rd_T51 l0 a2).f0) ((rd_T51 l0 a2).f1)).bind fun t447 => (some t447)) else (none)) else (none)) else (none)) else (none)) else (if 0 ≤ a2 then (if a2 < (l0.length : Int) then (if 0 ≤ a1 then (if a1 < (l0.length : Int) then ((spec_l6Under.f ((rd_T51 l0 a2).f0) ((rd_T51 l0 a2).f1) ((rd_T51 l0 a1).f0) ((rd_T51 l0 a1).f1)).bind fun t450 => (some t450)) else (none)) else (none)) else (none)) else (none))
def spec_l6Sorted.T2 : Bool × List (List Nat × List Nat) := (true, [([], []), ([], []), ([0, 1], [0, 1]), ([2], [2]), ([], []), ([], []), ([4, 5], [4, 5]), ([6], [6]), ([3, 7], [3, 7]), ([8, 8, 0, 1, 2, 3, 4, 5, 6, 7, 8], [8])])
def spec_l6Sorted.B2 : List Nat := [0, 0, 3, 7, 0, 0, 48, 112, 255, 511]
theorem spec_l6Sorted.tab2 : rtab .any (opsOf Tryz.f70 2) = spec_l6Sorted.T2 := by kernel_rfl
theorem spec_l6Sorted.bits2 : waitsOk spec_l6Sorted.T2.2 spec_l6Sorted.B2 = true := by kernel_rfl
def spec_l6Sorted.T3 : Bool × List (List Nat × List Nat) := (true, [([], []), ([], []), ([0, 1], [0, 1]), ([2], [2]), ([], []), ([], []), ([4, 5], [4, 5]), ([6], [6]), ([3, 7], [3, 7]), ([8, 8, 0, 1, 2, 3, 4, 5, 6, 7, 8], [8])])
def spec_l6Sorted.B3 : List Nat := [0, 0, 3, 7, 0, 0, 48, 112, 255, 511]
theorem spec_l6Sorted.tab3 : rtab .any (opsOf Tryz.f70 3) = spec_l6Sorted.T3 := by kernel_rfl
theorem spec_l6Sorted.bits3 : waitsOk spec_l6Sorted.T3.2 spec_l6Sorted.B3 = true := by kernel_rfl
theorem spec_l6Sorted.calls (A0 : Option Addr) (c0 : Nat) (l0 : List (S51)) (a1 : Int) (a2 : Int) (a3 : Bool) (r : Bool) (w : World) (hr0 : Kd.C k51 w A0 l0.length l0) (hc0 : l0.length ≤ c0) (h : spec_l6Sorted.f l0 a1 a2 a3 = some r) :
  Calls Tryz.prog 70 #[.slice A0 l0.length c0, .int .i64 a1, .int .i64 a2, .bool a3] w fun e w' => e = .returned (.bool r) ∧ Below w.heap.size w w' := by
 have hu51 := Tryz.underlying51; have HR0 := Aside0.mk hr0; have HC0 := Aside0.mk hc0; clear hr0 hc0; have HB := Aside0.mk (Below.refl w.heap.size w); have H := h; clear h; unfold spec_l6Sorted.f at H
 by_cases c5 : a3 = true
 ·
  subst c5; rw [if_pos rfl] at H
  by_cases c6 : 0 ≤ a1
  ·
   rw [if_pos c6] at H; have c6b0 : decide (0 ≤ a1) = true := decide_eq_true c6; clear c6
   by_cases c7 : a1 < (l0.length : Int)
   ·
    rw [if_pos c7] at H; have c7b0 : decide (a1 < (l0.length : Int)) = true := decide_eq_true c7; clear c7
    by_cases c8 : 0 ≤ a2
    ·
     rw [if_pos c8] at H; have c8b0 : decide (0 ≤ a2) = true := decide_eq_true c8; clear c8
     by_cases c9 : a2 < (l0.length : Int)
     ·
      rw [if_pos c9] at H; have c9b0 : decide (a2 < (l0.length : Int)) = true := decide_eq_true c9; clear c9; obtain ⟨t447, A10, H⟩ := bnd6_ H; obtain rfl := Option.some.inj H
      go_enter Tryz.func70, Tryz.ntmps70
      try go_wp2
      have n0_ := Aside0.mk (below_drew1 HB.out); clear HB; have HB := n0_; clear n0_; have p445 : 0 ≤ (a1 : Int) := of_decide_eq_true s4_; have q445 : a1 < (l0.length : Int) := of_decide_eq_true s4_; obtain ⟨ad445, e445, hx445_0, hx445_1⟩ := at_T51 HR0.out a1 p445 q445; have hw445_1 := hx445_1; have hw445_0 := hx445_0
      cases e445
      replace hx445_0 := (HB.out.cell (World.block_lt_of_cell? w _ hx445_0)).trans hx445_0; replace hx445_1 := (HB.out.cell (World.block_lt_of_cell? w _ hx445_1)).trans hx445_1; replace p445 := eq_true p445; replace q445 := eq_true q445; have p446 : 0 ≤ (a2 : Int) := of_decide_eq_true s4_; have q446 : a2 < (l0.length : Int) := of_decide_eq_true s4_; obtain ⟨ad446, e446, hx446_0, hx446_1⟩ := at_T51 HR0.out a2 p446 q446; have hw446_1 := hx446_1; have hw446_0 := hx446_0
      obtain rfl : ad445 = ad446 := (by injection e446)
      replace hx446_0 := (HB.out.cell (World.block_lt_of_cell? w _ hx446_0)).trans hx446_0; replace hx446_1 := (HB.out.cell (World.block_lt_of_cell? w _ hx446_1)).trans hx446_1; replace p446 := eq_true p446; replace q446 := eq_true q446
      refine start_ (n := 10) (S := fun w' => w'.cell? (ad445.add ((a1).toNat * 2)) = some (.int .i64 ((rd_T51 l0 a1).f0)) ∧ w'.cell? ⟨(ad445.add ((a1).toNat * 2)).block, (ad445.add ((a1).toNat * 2)).off + 1, none⟩ = some (.int .i64 ((rd_T51 l0 a1).f1)) ∧ w'.cell? (ad445.add ((a2).toNat * 2)) = some (.int .i64 ((rd_T51 l0 a2).f0)) ∧ w'.cell? ⟨(ad445.add ((a2).toNat * 2)).block, (ad445.add ((a2).toNat * 2)).off + 1, none⟩ = some (.int .i64 ((rd_T51 l0 a2).f1))) (ds := []) (tb_ 10 0) (by kernel_rfl) rfl rfl ⟨((HB.out.cell (World.block_lt_of_cell? w _ hw445_0)).trans hw445_0), ((HB.out.cell (World.block_lt_of_cell? w _ hw445_1)).trans hw445_1), ((HB.out.cell (World.block_lt_of_cell? w _ hw446_0)).trans hw446_0), ((HB.out.cell (World.block_lt_of_cell? w _ hw446_1)).trans hw446_1)⟩ (fun hHeld => ?_); refine with_tabW spec_l6Sorted.tab2 spec_l6Sorted.bits2 (fun HT_ HW_ => ?_)
      generalize w.drew = w11 at HB hx445_0 hx445_1 hx446_0 hx446_1 hHeld ⊢
      refine pl_ 0 10 (tb_ 10 1) ?_; refine pl_ 1 11 (tb_ 10 3) ?_; refine pl_ 2 12 (tb_ 10 7) ?_; refine pl_ 4 14 (tb_ 10 23) ?_; refine pl_ 5 15 (tb_ 10 55) ?_; refine pl_ 6 16 (tb_ 10 119) ?_; refine tk_ 3 13 (tb_ 10 127) hHeld ?_; refine tk_ 7 17 (tb_ 10 255) hHeld ?_
      refine on_ 8 18 (tb_ 10 511) (fun K hK => ?_)
      refine goes_ Tryz.func43 (by kernel_rfl) rfl #[.agg #[.int .i64 ((rd_T51 l0 a1).f0), .int .i64 ((rd_T51 l0 a1).f1)], .agg #[.int .i64 ((rd_T51 l0 a2).f0), .int .i64 ((rd_T51 l0 a2).f1)]] (by rfl) rfl rfl s1_ ?_
      with_reducible refine (spec_l6Under.calls ((rd_T51 l0 a1).f0) ((rd_T51 l0 a1).f1) ((rd_T51 l0 a2).f0) ((rd_T51 l0 a2).f1) t447 _ A10.out).mono ?_
      rintro e w12 ⟨rfl, hb⟩
      refine ⟨_, rfl, ?_⟩
      have n0_ := Aside0.mk (below_step s0_ hb); clear HB; have HB := n0_; clear n0_
      (try clear hb)
      (try clear hb2)
      (try clear hk)
      (try clear hi)
      refine hK.out _ _ ⟨((HB.out.cell (World.block_lt_of_cell? w _ hw445_0)).trans hw445_0), ((HB.out.cell (World.block_lt_of_cell? w _ hw445_1)).trans hw445_1), ((HB.out.cell (World.block_lt_of_cell? w _ hw446_0)).trans hw446_0), ((HB.out.cell (World.block_lt_of_cell? w _ hw446_1)).trans hw446_1)⟩ (fun hHeld => ?_)
      clear hK K
      refine norm_ (a' := ?_) ?_ ?_
      rotate_left
      ·
       show Act.put _ (some 18) _ = _
       exact s8_
      refine pl_ 9 8 (tb_ 10 1023) ?_
      refine done_ (done_of HT_.out (by kernel_rfl)) ?_
      try go_wp2
      go_ret
      exact ⟨(by first | rfl | (simp [errW_none, errW_some] <;> rfl) | (simp [*, errW_none, errW_some] <;> rfl)), s0_⟩
     ·
      rw [if_neg c9] at H
      exact absurd H (by simp)
    ·
     rw [if_neg c8] at H
     exact absurd H (by simp)
   ·
    rw [if_neg c7] at H
    exact absurd H (by simp)
  ·
   rw [if_neg c6] at H
   exact absurd H (by simp)
 ·
  replace c5 := Bool.eq_false_iff.mpr c5; subst c5
  rw [if_neg (show ¬ (false = true) by decide)] at H
  by_cases c13 : 0 ≤ a2
  ·
   rw [if_pos c13] at H; have c13b0 : decide (0 ≤ a2) = true := decide_eq_true c13; clear c13
   by_cases c14 : a2 < (l0.length : Int)
   ·
    rw [if_pos c14] at H; have c14b0 : decide (a2 < (l0.length : Int)) = true := decide_eq_true c14; clear c14
    by_cases c15 : 0 ≤ a1
    ·
     rw [if_pos c15] at H; have c15b0 : decide (0 ≤ a1) = true := decide_eq_true c15; clear c15
     by_cases c16 : a1 < (l0.length : Int)
     ·
      rw [if_pos c16] at H; have c16b0 : decide (a1 < (l0.length : Int)) = true := decide_eq_true c16; clear c16; obtain ⟨t450, A17, H⟩ := bnd6_ H; obtain rfl := Option.some.inj H
      go_enter Tryz.func70, Tryz.ntmps70
      try go_wp2
      have n0_ := Aside0.mk (below_drew1 HB.out); clear HB; have HB := n0_; clear n0_; have p448 : 0 ≤ (a2 : Int) := of_decide_eq_true s4_; have q448 : a2 < (l0.length : Int) := of_decide_eq_true s4_; obtain ⟨ad448, e448, hx448_0, hx448_1⟩ := at_T51 HR0.out a2 p448 q448; have hw448_1 := hx448_1; have hw448_0 := hx448_0
      cases e448
      replace hx448_0 := (HB.out.cell (World.block_lt_of_cell? w _ hx448_0)).trans hx448_0; replace hx448_1 := (HB.out.cell (World.block_lt_of_cell? w _ hx448_1)).trans hx448_1; replace p448 := eq_true p448; replace q448 := eq_true q448; have p449 : 0 ≤ (a1 : Int) := of_decide_eq_true s4_; have q449 : a1 < (l0.length : Int) := of_decide_eq_true s4_; obtain ⟨ad449, e449, hx449_0, hx449_1⟩ := at_T51 HR0.out a1 p449 q449; have hw449_1 := hx449_1; have hw449_0 := hx449_0
      obtain rfl : ad448 = ad449 := (by injection e449)
      replace hx449_0 := (HB.out.cell (World.block_lt_of_cell? w _ hx449_0)).trans hx449_0; replace hx449_1 := (HB.out.cell (World.block_lt_of_cell? w _ hx449_1)).trans hx449_1; replace p449 := eq_true p449; replace q449 := eq_true q449
      refine start_ (n := 10) (S := fun w' => w'.cell? (ad448.add ((a2).toNat * 2)) = some (.int .i64 ((rd_T51 l0 a2).f0)) ∧ w'.cell? ⟨(ad448.add ((a2).toNat * 2)).block, (ad448.add ((a2).toNat * 2)).off + 1, none⟩ = some (.int .i64 ((rd_T51 l0 a2).f1)) ∧ w'.cell? (ad448.add ((a1).toNat * 2)) = some (.int .i64 ((rd_T51 l0 a1).f0)) ∧ w'.cell? ⟨(ad448.add ((a1).toNat * 2)).block, (ad448.add ((a1).toNat * 2)).off + 1, none⟩ = some (.int .i64 ((rd_T51 l0 a1).f1))) (ds := []) (tb_ 10 0) (by kernel_rfl) rfl rfl ⟨((HB.out.cell (World.block_lt_of_cell? w _ hw448_0)).trans hw448_0), ((HB.out.cell (World.block_lt_of_cell? w _ hw448_1)).trans hw448_1), ((HB.out.cell (World.block_lt_of_cell? w _ hw449_0)).trans hw449_0), ((HB.out.cell (World.block_lt_of_cell? w _ hw449_1)).trans hw449_1)⟩ (fun hHeld => ?_); refine with_tabW spec_l6Sorted.tab3 spec_l6Sorted.bits3 (fun HT_ HW_ => ?_)
      generalize w.drew = w18 at HB hx448_0 hx448_1 hx449_0 hx449_1 hHeld ⊢
      refine pl_ 0 19 (tb_ 10 1) ?_; refine pl_ 1 20 (tb_ 10 3) ?_; refine pl_ 2 21 (tb_ 10 7) ?_; refine pl_ 4 23 (tb_ 10 23) ?_; refine pl_ 5 24 (tb_ 10 55) ?_; refine pl_ 6 25 (tb_ 10 119) ?_; refine tk_ 3 22 (tb_ 10 127) hHeld ?_; refine tk_ 7 26 (tb_ 10 255) hHeld ?_
      refine on_ 8 27 (tb_ 10 511) (fun K hK => ?_)
      refine goes_ Tryz.func43 (by kernel_rfl) rfl #[.agg #[.int .i64 ((rd_T51 l0 a2).f0), .int .i64 ((rd_T51 l0 a2).f1)], .agg #[.int .i64 ((rd_T51 l0 a1).f0), .int .i64 ((rd_T51 l0 a1).f1)]] (by rfl) rfl rfl s1_ ?_
      with_reducible refine (spec_l6Under.calls ((rd_T51 l0 a2).f0) ((rd_T51 l0 a2).f1) ((rd_T51 l0 a1).f0) ((rd_T51 l0 a1).f1) t450 _ A17.out).mono ?_
      rintro e w19 ⟨rfl, hb⟩
      refine ⟨_, rfl, ?_⟩
      have n0_ := Aside0.mk (below_step s0_ hb); clear HB; have HB := n0_; clear n0_
      (try clear hb)
      (try clear hb2)
      (try clear hk)
      (try clear hi)
      refine hK.out _ _ ⟨((HB.out.cell (World.block_lt_of_cell? w _ hw448_0)).trans hw448_0), ((HB.out.cell (World.block_lt_of_cell? w _ hw448_1)).trans hw448_1), ((HB.out.cell (World.block_lt_of_cell? w _ hw449_0)).trans hw449_0), ((HB.out.cell (World.block_lt_of_cell? w _ hw449_1)).trans hw449_1)⟩ (fun hHeld => ?_)
      clear hK K
      refine norm_ (a' := ?_) ?_ ?_
      rotate_left
      ·
       show Act.put _ (some 27) _ = _
       exact s8_
      refine pl_ 9 8 (tb_ 10 1023) ?_
      refine done_ (done_of HT_.out (by kernel_rfl)) ?_
      try go_wp2
      go_ret
      exact ⟨(by first | rfl | (simp [errW_none, errW_some] <;> rfl) | (simp [*, errW_none, errW_some] <;> rfl)), s0_⟩
     ·
      rw [if_neg c16] at H
      exact absurd H (by simp)
    ·
     rw [if_neg c15] at H
     exact absurd H (by simp)
   ·
    rw [if_neg c14] at H
    exact absurd H (by simp)
  ·
   rw [if_neg c13] at H
   exact absurd H (by simp)
theorem bnd7_ {α β : Type} {o : Option α} {f : α → Option β} {r : β} (h : o.bind f = some r) : ∃ a, Aside0 (o = some a) ∧ f a = some r := by
 obtain ⟨a, h1, h2⟩ := Option.bind_eq_some_iff.mp h
 exact ⟨a, ⟨h1⟩, h2⟩
theorem q7_3 {P : Prop} (h : P := by (with_reducible repeat (first | apply Kd.R_alloc | apply Kd.R_drewN | apply Kd.R_drew)); exact HO_7.out) : P := h
mutual
def spec_l6Covers.l0 : Nat → List (S51) → Int → Bool → List Int → Int → Option (List Int)
 | 0, _, _, _, _, _ => none
 | k + 1, x0, x1, x2, x7, x8 => if x8 < (x0.length : Int) then ((spec_l6Exists.f x0 x1).bind fun t454 => (spec_l6Covers.j1 k x0 x1 x2 x7 x8 t454)) else (spec_l6Covers.j1 k x0 x1 x2 x7 x8 false)
def spec_l6Covers.j1 : Nat → List (S51) → Int → Bool → List Int → Int → Bool → Option (List Int)
 | 0, _, _, _, _, _, _ => none
 | k + 1, x0, x1, x2, x7, x8, x20 => if x20 = true then (if x8 = x1 then (spec_l6Covers.j2 k x0 x1 x2 x7 x8 true) else ((spec_l6Sorted.f x0 x1 x8 x2).bind fun t455 => (spec_l6Covers.j2 k x0 x1 x2 x7 x8 (!t455)))) else (some x7)
def spec_l6Covers.j2 : Nat → List (S51) → Int → Bool → List Int → Int → Bool → Option (List Int)
 | 0, _, _, _, _, _, _ => none
 | k + 1, x0, x1, x2, x7, x8, x33 => if x33 = true then (spec_l6Covers.l0 k x0 x1 x2 x7 (wrap64 (x8 + 1))) else (spec_l6Covers.l1 k x0 x1 x2 x7 x8 true 0)
def spec_l6Covers.l1 : Nat → List (S51) → Int → Bool → List Int → Int → Bool → Int → Option (List Int)
 | 0, _, _, _, _, _, _, _ => none
 | k + 1, x0, x1, x2, x7, x8, x9, x10 => if x10 < (x0.length : Int) then (if x9 = true then (if x10 = x1 then (spec_l6Covers.l1 k x0 x1 x2 x7 x8 true (wrap64 (x10 + 1))) else (if x10 = x8 then (spec_l6Covers.l1 k x0 x1 x2 x7 x8 true (wrap64 (x10 + 1))) else ((spec_l6Sorted.f x0 x1 x10 x2).bind fun t456 => (if t456 = true then ((spec_l6Sorted.f x0 x10 x8 x2).bind fun t457 => (spec_l6Covers.l1 k x0 x1 x2 x7 x8 (!t457) (wrap64 (x10 + 1)))) else (spec_l6Covers.l1 k x0 x1 x2 x7 x8 true (wrap64 (x10 + 1))))))) else (spec_l6Covers.l1 k x0 x1 x2 x7 x8 false (wrap64 (x10 + 1)))) else (if x9 = true then (if x7.length < 17592186044416 then (spec_l6Covers.l0 k x0 x1 x2 (x7 ++ [x8]) (wrap64 (x8 + 1))) else (none)) else (spec_l6Covers.l0 k x0 x1 x2 x7 (wrap64 (x8 + 1))))
end
def spec_l6Covers.f (k : Nat) (l0 : List (S51)) (a1 : Int) (a2 : Bool) : Option (List Int) := spec_l6Covers.l0 k l0 a1 a2 (([] : List Int)) 0
theorem spec_l6Covers.calls (k : Nat) (A0 : Option Addr) (c0 : Nat) (l0 : List (S51)) (a1 : Int) (a2 : Bool) (r : List Int) (w : World) (hr0 : Kd.C k51 w A0 l0.length l0) (hc0 : l0.length ≤ c0) (h : spec_l6Covers.f k l0 a1 a2 = some r) :
  Calls Tryz.prog 41 #[.slice A0 l0.length c0, .int .i64 a1, .bool a2] w fun e w' => ∃ v0_ : Value, e = .returned (v0_) ∧ Kd.R (Kd.int .i64) 3 w' w.heap.size (fun _ => True) v0_ r ∧ Below w.heap.size w w' := by
 have HR0 := Aside0.mk hr0; have HC0 := Aside0.mk hc0; clear hr0 hc0; have HB := Aside0.mk (Below.refl w.heap.size w); have H := h; clear h; unfold spec_l6Covers.f at H; obtain ⟨y451, hy_⟩ : ∃ y_ : List Int, y_ = (([] : List Int)) := ⟨_, rfl⟩
 replace H : (spec_l6Covers.l0 k l0 a1 a2 y451 0) = some r := rH_
 have Ny451 := Aside0.mk hy_; clear hy_; have H' := Aside0.mk H; clear H
 go_enter Tryz.func41, Tryz.ntmps41
 go_wp2_with (first | (refine rl_ (Kd.int .i64) 3 11 ?_; intro v452 w4 ho5 hb hg_ hnew_; clear hg_ hnew_; (first | rw [← Ny451.out] at ho5 | (simp only [Int.reduceToNat] at ho5; rw [← Ny451.out] at ho5)); have n_ := ac_ (Kd.R_lower ho5 (below_size s0_)) <| Aside0.mk (below_step s0_ hb); clear HB; obtain ⟨HO453, HB⟩ := n_; clear hb ho5))
 go_loopg [7, 8] k (fun kq v7 v8 w' => ∃ (x7_1 : List Int) (x8_1 : Int), v8 = .int .i64 x8_1 ∧ Aside0 (spec_l6Covers.l0 kq l0 a1 a2 x7_1 x8_1 = some r) ∧ Aside0 (kq ≤ k) ∧ Aside0 (Kd.R (Kd.int .i64) 3 w' w.heap.size (fun _ => True) v7 x7_1) ∧ Aside0 (Below w.heap.size w w'))
 case atStart => exact ⟨(y451), (0), s3_, H', ⟨Nat.le_refl _⟩, ⟨(by (with_reducible repeat (first | apply Kd.R_alloc | apply Kd.R_drewN | apply Kd.R_drew)); exact HO453.out)⟩, ⟨s0_⟩⟩
 case round =>
  clear H'
  try clear p2
  try clear c4
  obtain ⟨x7_1, x8_1, rfl, HA, HK1, HO_7, HB⟩ := hrel
  cases gk with
  | zero => exact absurd HA.out (by simp [spec_l6Covers.l0])
  | succ k1 =>
   have H := HA.out; clear HA
   simp only [spec_l6Covers.l0] at H
   have HC6 := Aside0.mk H; clear H
   go_upto_region 3 with (fail)
   go_cut [20] (fun v20 wc => ∃ (kq : Nat) (x20_5 : Bool), v20 = .bool x20_5 ∧ Aside0 (spec_l6Covers.j1 kq l0 a1 a2 x7_1 x8_1 x20_5 = some r) ∧ Aside0 (kq ≤ k1) ∧ Aside0 (Kd.R (Kd.int .i64) 3 wc w.heap.size (fun _ => True) u7 x7_1) ∧ Aside0 (Below w.heap.size w wc))
   case first =>
    have H := HC6.out; clear HC6
    by_cases c7 : x8_1 < (l0.length : Int)
    ·
     rw [if_pos c7] at H; have c7b0 : decide (x8_1 < (l0.length : Int)) = true := decide_eq_true c7; clear c7
     (first | rw [c7b0] | (simp only [i64_w, i32_w]; rw [c7b0]) | skip)
     obtain ⟨t454, A8, H⟩ := bnd7_ H; have H' := Aside0.mk H; clear H
     go_wp2_with (first | (go_at_call 38; (with_reducible refine (spec_l6Exists.calls _ _ l0 a1 t454 _ ?side1 ?side2 A8.out).mono ?_); (case side1 => exact s12_); (case side2 => exact HC0.out); rintro e w' ⟨rfl, ⟨nd, rfl⟩⟩))
     go_meet
     case rel => exact ⟨_, (t454), s3_, H', ⟨by have := HK1.out; first | omega | exact Nat.le_refl _⟩, ⟨q7_3⟩, ⟨s0_⟩⟩
    ·
     rw [if_neg c7] at H; have c7b0 : decide (x8_1 < (l0.length : Int)) = false := decide_eq_false c7; clear c7
     (first | rw [c7b0] | (simp only [i64_w, i32_w]; rw [c7b0]) | skip)
     have H' := Aside0.mk H; clear H
     go_wp2
     go_meet
     case rel => exact ⟨_, (false), s3_, H', ⟨by have := HK1.out; first | omega | exact Nat.le_refl _⟩, ⟨q7_3⟩, ⟨s0_⟩⟩
   case rest =>
    clear HC6
    try clear p2
    try clear c4
    try clear c7
    try clear c7b0
    try clear p2
    obtain ⟨kq, x20_5, rfl, HA, HJ5, HO_7, HB⟩ := hcut
    cases kq with
    | zero => exact absurd HA.out (by simp [spec_l6Covers.j1])
    | succ kj5 =>
     have H := HA.out; clear HA
     simp only [spec_l6Covers.j1] at H
     by_cases c9 : x20_5 = true
     ·
      subst c9; rw [if_pos rfl] at H; have HC10 := Aside0.mk H; clear H
      go_upto_region 5 with (fail)
      go_cut [33] (fun v33 wc => ∃ (kq : Nat) (x33_9 : Bool), v33 = .bool x33_9 ∧ Aside0 (spec_l6Covers.j2 kq l0 a1 a2 x7_1 x8_1 x33_9 = some r) ∧ Aside0 (kq ≤ kj5) ∧ Aside0 (Kd.R (Kd.int .i64) 3 wc w.heap.size (fun _ => True) u7 x7_1) ∧ Aside0 (Below w.heap.size w wc))
      case first =>
       have H := HC10.out; clear HC10
       by_cases c11 : x8_1 = a1
       ·
        rw [if_pos c11] at H; have c11b0 : (x8_1 == a1) = true := beq_iff_eq.mpr c11; have c11b1 : (x8_1 != a1) = false := bne_eq_false_iff_eq.mpr c11; clear c11
        (first | rw [c11b0] | (simp only [i64_w, i32_w]; rw [c11b0]) | skip)
        have H' := Aside0.mk H; clear H
        go_wp2
        go_meet
        case rel => exact ⟨_, (true), s3_, H', ⟨by have := HK1.out; have := HJ5.out; first | omega | exact Nat.le_refl _⟩, ⟨q7_3⟩, ⟨s0_⟩⟩
       ·
        rw [if_neg c11] at H; have c11b0 : (x8_1 == a1) = false := beq_eq_false_iff_ne.mpr c11; have c11b1 : (x8_1 != a1) = true := bne_iff_ne.mpr c11
        (first | rw [c11b0] | (simp only [i64_w, i32_w]; rw [c11b0]) | skip)
        obtain ⟨t455, A12, H⟩ := bnd7_ H; have H' := Aside0.mk H; clear H
        go_wp2_with (first | (go_at_call 70; (with_reducible refine (spec_l6Sorted.calls _ _ l0 a1 x8_1 a2 t455 _ ?side1 ?side2 A12.out).mono ?_); (case side1 => exact s12_); (case side2 => exact HC0.out); rintro e w13 ⟨rfl, hb⟩; have n_ := ac_ (Kd.R_below q7_3 hb) <| Aside0.mk (below_step s0_ hb); clear HO_7 HB; obtain ⟨HO_7, HB⟩ := n_; (try clear hb)))
        go_meet
        case rel => exact ⟨_, (!t455), s3_, H', ⟨by have := HK1.out; have := HJ5.out; first | omega | exact Nat.le_refl _⟩, ⟨q7_3⟩, ⟨s0_⟩⟩
      case rest =>
       clear HC10
       try clear c1
       try clear p2
       try clear c4
       try clear c7
       try clear c7b0
       try clear c9
       try clear c11
       try clear c11b0
       try clear c11b1
       try clear p2
       obtain ⟨kq, x33_9, rfl, HA, HJ9, HO_7, HB⟩ := hcut
       cases kq with
       | zero => exact absurd HA.out (by simp [spec_l6Covers.j2])
       | succ kj9 =>
        have H := HA.out; clear HA
        simp only [spec_l6Covers.j2] at H
        by_cases c14 : x33_9 = true
        ·
         subst c14; rw [if_pos rfl] at H; have H' := Aside0.mk H; clear H
         go_wp2
         go_roundg kj9
         case measure => have := HK1.out; have := HJ5.out; have := HJ9.out; omega
         case rel => exact ⟨(x7_1), (wrap64 (x8_1 + 1)), s3_, H', ⟨by have := HK1.out; have := HJ5.out; have := HJ9.out; omega⟩, ⟨q7_3⟩, ⟨s0_⟩⟩
        ·
         replace c14 := Bool.eq_false_iff.mpr c14; subst c14
         rw [if_neg (show ¬ (false = true) by decide)] at H
         have H' := Aside0.mk H; clear H
         go_wp2
         go_loopg [9, 10] kj9 (fun kq v9 v10 w' => ∃ (x9_4 : Bool) (x10_4 : Int), v9 = .bool x9_4 ∧ v10 = .int .i64 x10_4 ∧ Aside0 (spec_l6Covers.l1 kq l0 a1 a2 x7_1 x8_1 x9_4 x10_4 = some r) ∧ Aside0 (kq ≤ kj9) ∧ Aside0 (Kd.R (Kd.int .i64) 3 w' w.heap.size (fun _ => True) u7 x7_1) ∧ Aside0 (Below w.heap.size w w'))
         case atStart => exact ⟨(true), (0), s3_, s3_, H', ⟨Nat.le_refl _⟩, ⟨q7_3⟩, ⟨s0_⟩⟩
         case round =>
          clear H'
          try clear c1
          try clear p2
          try clear c4
          try clear p6
          try clear c7
          try clear c7b0
          try clear c9
          try clear c11
          try clear c11b0
          try clear c11b1
          try clear c14
          try clear p2
          obtain ⟨x9_4, x10_4, rfl, rfl, HA, HK4, HO_7, HB⟩ := hrel
          cases gk with
          | zero => exact absurd HA.out (by simp [spec_l6Covers.l1])
          | succ k4 =>
           have H := HA.out; clear HA
           simp only [spec_l6Covers.l1] at H
           by_cases c15 : x10_4 < (l0.length : Int)
           ·
            rw [if_pos c15] at H; have c15b0 : decide (x10_4 < (l0.length : Int)) = true := decide_eq_true c15; clear c15
            by_cases c16 : x9_4 = true
            ·
             subst c16; rw [if_pos rfl] at H
             by_cases c17 : x10_4 = a1
             ·
              rw [if_pos c17] at H; have c17b0 : (x10_4 == a1) = true := beq_iff_eq.mpr c17; have c17b1 : (x10_4 != a1) = false := bne_eq_false_iff_eq.mpr c17; clear c17; have H' := Aside0.mk H; clear H
              go_wp2
              go_roundg k4
              case measure => have := HK1.out; have := HJ5.out; have := HJ9.out; have := HK4.out; omega
              case rel => exact ⟨(true), (wrap64 (x10_4 + 1)), s3_, s3_, H', ⟨by have := HK1.out; have := HJ5.out; have := HJ9.out; have := HK4.out; omega⟩, ⟨q7_3⟩, ⟨s0_⟩⟩
             ·
              rw [if_neg c17] at H; have c17b0 : (x10_4 == a1) = false := beq_eq_false_iff_ne.mpr c17; have c17b1 : (x10_4 != a1) = true := bne_iff_ne.mpr c17
              by_cases c18 : x10_4 = x8_1
              ·
               rw [if_pos c18] at H; have c18b0 : (x10_4 == x8_1) = true := beq_iff_eq.mpr c18; have c18b1 : (x10_4 != x8_1) = false := bne_eq_false_iff_eq.mpr c18; clear c18; have H' := Aside0.mk H; clear H
               go_wp2
               go_roundg k4
               case measure => have := HK1.out; have := HJ5.out; have := HJ9.out; have := HK4.out; omega
               case rel => exact ⟨(true), (wrap64 (x10_4 + 1)), s3_, s3_, H', ⟨by have := HK1.out; have := HJ5.out; have := HJ9.out; have := HK4.out; omega⟩, ⟨q7_3⟩, ⟨s0_⟩⟩
              ·
               rw [if_neg c18] at H; have c18b0 : (x10_4 == x8_1) = false := beq_eq_false_iff_ne.mpr c18; have c18b1 : (x10_4 != x8_1) = true := bne_iff_ne.mpr c18; obtain ⟨t456, A19, H⟩ := bnd7_ H
               by_cases c20 : t456 = true
               ·
                subst c20; rw [if_pos rfl] at H; obtain ⟨t457, A21, H⟩ := bnd7_ H; have H' := Aside0.mk H; clear H
                go_wp2_with (first | (go_at_call 70; (with_reducible refine (spec_l6Sorted.calls _ _ l0 a1 x10_4 a2 true _ ?side1 ?side2 A19.out).mono ?_); (case side1 => exact s12_); (case side2 => exact HC0.out); rintro e w22 ⟨rfl, hb⟩; have n_ := ac_ (Kd.R_below q7_3 hb) <| Aside0.mk (below_step s0_ hb); clear HO_7 HB; obtain ⟨HO_7, HB⟩ := n_; (try clear hb)) | (go_at_call 70; (with_reducible refine (spec_l6Sorted.calls _ _ l0 x10_4 x8_1 a2 t457 _ ?side1 ?side2 A21.out).mono ?_); (case side1 => exact s12_); (case side2 => exact HC0.out); rintro e w23 ⟨rfl, hb⟩; have n_ := ac_ (Kd.R_below q7_3 hb) <| Aside0.mk (below_step s0_ hb); clear HO_7 HB; obtain ⟨HO_7, HB⟩ := n_; (try clear hb)))
                go_roundg k4
                case measure => have := HK1.out; have := HJ5.out; have := HJ9.out; have := HK4.out; omega
                case rel => exact ⟨(!t457), (wrap64 (x10_4 + 1)), s3_, s3_, H', ⟨by have := HK1.out; have := HJ5.out; have := HJ9.out; have := HK4.out; omega⟩, ⟨q7_3⟩, ⟨s0_⟩⟩
               ·
                replace c20 := Bool.eq_false_iff.mpr c20; subst c20
                rw [if_neg (show ¬ (false = true) by decide)] at H
                have H' := Aside0.mk H; clear H
                go_wp2_with (first | (go_at_call 70; (with_reducible refine (spec_l6Sorted.calls _ _ l0 a1 x10_4 a2 false _ ?side1 ?side2 A19.out).mono ?_); (case side1 => exact s12_); (case side2 => exact HC0.out); rintro e w24 ⟨rfl, hb⟩; have n_ := ac_ (Kd.R_below q7_3 hb) <| Aside0.mk (below_step s0_ hb); clear HO_7 HB; obtain ⟨HO_7, HB⟩ := n_; (try clear hb)))
                go_roundg k4
                case measure => have := HK1.out; have := HJ5.out; have := HJ9.out; have := HK4.out; omega
                case rel => exact ⟨(true), (wrap64 (x10_4 + 1)), s3_, s3_, H', ⟨by have := HK1.out; have := HJ5.out; have := HJ9.out; have := HK4.out; omega⟩, ⟨q7_3⟩, ⟨s0_⟩⟩
            ·
             replace c16 := Bool.eq_false_iff.mpr c16; subst c16
             rw [if_neg (show ¬ (false = true) by decide)] at H
             have H' := Aside0.mk H; clear H
             go_wp2
             go_roundg k4
             case measure => have := HK1.out; have := HJ5.out; have := HJ9.out; have := HK4.out; omega
             case rel => exact ⟨(false), (wrap64 (x10_4 + 1)), s3_, s3_, H', ⟨by have := HK1.out; have := HJ5.out; have := HJ9.out; have := HK4.out; omega⟩, ⟨q7_3⟩, ⟨s0_⟩⟩
           ·
            rw [if_neg c15] at H; have c15b0 : decide (x10_4 < (l0.length : Int)) = false := decide_eq_false c15; clear c15
            by_cases c25 : x9_4 = true
            ·
             subst c25; rw [if_pos rfl] at H
             by_cases c26 : x7_1.length < 17592186044416
             ·
              rw [if_pos c26] at H; have LMc26 := Aside0.mk c26; clear c26; obtain ⟨y458, hy_⟩ : ∃ y_ : List Int, y_ = (x7_1 ++ [x8_1]) := ⟨_, rfl⟩
              replace H : (spec_l6Covers.l0 k4 l0 a1 a2 y458 (wrap64 (x8_1 + 1))) = some r := rH_
              have Ny458 := Aside0.mk hy_; clear hy_; have H' := Aside0.mk H; clear H
              go_wp2_with (first | ((with_reducible refine gate_builtin (b := .append) (xs := #[.tmp 68, .tmp 70]) rfl ?_); at_builtin; refine Kd.R_append (Kd.int .i64) (w0 := w) w.heap.size rfl (.tmp 68) (.tmp 70) 24 3 (.int .i64 0) 8 rfl Tryz.underlying24 info3 rfl (by decide) (by omega) u7 x7_1 x8_1 [.int .i64 x8_1] (fun _ => True) (fun _ => False) rfl rfl ?aP (fun _ hk => hk.elim) ?aF ?aO ?aB ?aS ?aL ?_; (case aP => exact rfl); (case aB => exact s0_); (case aF => exact (fun _ _ => trivial)); (case aO => exact q7_3); (case aS => exact (below_size s0_)); (case aL => have := LMc26.out; omega); intro v459 w27 ho hb hg hat; rw [← Ny458.out] at ho; have n_ := ac_ (hb) <| Aside0.mk (ho); clear HB HO_7; obtain ⟨HB, HO460⟩ := n_; clear ho hb hg hat))
              go_roundg k4
              case measure => have := HK1.out; have := HJ5.out; have := HJ9.out; have := HK4.out; omega
              case rel => exact ⟨(y458), (wrap64 (x8_1 + 1)), s3_, H', ⟨by have := HK1.out; have := HJ5.out; have := HJ9.out; have := HK4.out; omega⟩, ⟨(by (with_reducible repeat (first | apply Kd.R_alloc | apply Kd.R_drewN | apply Kd.R_drew)); exact HO460.out)⟩, ⟨s0_⟩⟩
             ·
              rw [if_neg c26] at H
              exact absurd H (by simp)
            ·
             replace c25 := Bool.eq_false_iff.mpr c25; subst c25
             rw [if_neg (show ¬ (false = true) by decide)] at H
             have H' := Aside0.mk H; clear H
             go_wp2
             go_roundg k4
             case measure => have := HK1.out; have := HJ5.out; have := HJ9.out; have := HK4.out; omega
             case rel => exact ⟨(x7_1), (wrap64 (x8_1 + 1)), s3_, H', ⟨by have := HK1.out; have := HJ5.out; have := HJ9.out; have := HK4.out; omega⟩, ⟨q7_3⟩, ⟨s0_⟩⟩
     ·
      replace c9 := Bool.eq_false_iff.mpr c9; subst c9
      rw [if_neg (show ¬ (false = true) by decide)] at H
      obtain rfl := Option.some.inj H
      go_wp2
      go_ret
      exact ⟨_, (by first | rfl | (simp [errW_none, errW_some] <;> rfl) | (simp [*, errW_none, errW_some] <;> rfl)), q7_3, s0_⟩
theorem q7_5 {P : Prop} (h : P := by repeat (first | (with_reducible first | exact HB.out | apply below_alloc | apply pw_below_drewN | apply below_drew1 | refine below_set ?_ GE461.out) | exact HB.out)) : P := h
theorem q7_8 {P : Prop} (h : P := by (with_reducible repeat (first | refine blk_drewN ?_ _ | refine blk_drew ?_ | refine blk_alloc ?_ _)); exact BK461.out) : P := h
def spec_UpperCovers.f (k : Nat) (a0_0 : Int) (l0_1 : List Int) (a1 : Int) : Option (List Int) := (spec_Concepts.f k a0_0 l0_1).bind fun t462 => ((spec_l6Covers.f k t462 a1 true).bind fun t465 => (some t465))
theorem spec_UpperCovers.calls (k : Nat) (a0_0 : Int) (A0_1 : Option Addr) (c0_1 : Nat) (l0_1 : List Int) (a1 : Int) (r : List Int) (w : World) (hr0_1 : Kd.C (Kd.int .i64) w A0_1 l0_1.length l0_1) (hc0_1 : l0_1.length ≤ c0_1) (h : spec_UpperCovers.f k a0_0 l0_1 a1 = some r) :
  Calls Tryz.prog 15 #[.agg #[.int .i64 a0_0, .slice A0_1 l0_1.length c0_1], .int .i64 a1] w fun e w' => ∃ v0_ : Value, e = .returned (v0_) ∧ Kd.R (Kd.int .i64) 3 w' w.heap.size (fun _ => True) v0_ r ∧ Below w.heap.size w w' := by
 have hu26 := Tryz.underlying26; have HR0_1 := Aside0.mk hr0_1; have HC0_1 := Aside0.mk hc0_1; clear hr0_1 hc0_1; have HB := Aside0.mk (Below.refl w.heap.size w); have H := h; clear h; unfold spec_UpperCovers.f at H; obtain ⟨t462, A3, H⟩ := bnd7_ H; obtain ⟨t465, A4, H⟩ := bnd7_ H; obtain rfl := Option.some.inj H
 go_enter Tryz.func15, Tryz.ntmps15
 go_wp2_with (first | (refine be_ 2 #[.int .i64 a0_0, .slice A0_1 l0_1.length c0_1] 26 ?_; intro gb461 hg w5 hbox hb; have n_ := ac_ (below_step s0_ hb) <| ac_ (hbox) <| ac_ ((gz_ w hg s0_)) <| Aside0.mk ((gz_ w hg s0_)); clear HB; obtain ⟨HB, BK461, GW461, GE461⟩ := n_; clear hb hbox hg; have hcz6_0 : w5.cell? ⟨gb461, 0, none⟩ = some (.int .i64 a0_0) := (blk_cell BK461.out 0).trans rfl; have hcz6_1 : w5.cell? ⟨gb461, 1, none⟩ = some (.slice A0_1 l0_1.length c0_1) := (blk_cell BK461.out 1).trans rfl; have hfz6_0 := blk_frozen BK461.out 0; have hfz6_1 := blk_frozen BK461.out 1) | (refine gL_ 28 6 Tryz.func28 #[.agg #[.int .i64 a0_0, .slice A0_1 l0_1.length c0_1]] ?_; (with_reducible refine (spec_Concepts.calls k a0_0 _ _ l0_1 t462 _ ?side1 ?side2 A3.out).mono ?_); (case side1 => repeat (first | exact (Kd.C_below HR0_1.out HB.out) | (with_reducible refine Kd.C_alloc ?_ _) | (with_reducible refine Kd.C_drewN ?_ _) | (with_reducible refine Kd.C_drew ?_))); (case side2 => exact HC0_1.out); rintro e w7 ⟨v463, rfl, ho0, hb⟩; refine ⟨_, rfl, ?_⟩; have n_ := ac_ (Kd.R_lower ho0 (below_size q7_5)) <| ac_ (blk_below (g := gb461) (o := .cells #[.int .i64 a0_0, .slice A0_1 l0_1.length c0_1] 26 (0, 0)) q7_8 hb) <| Aside0.mk (below_step q7_5 hb); clear BK461 HB; obtain ⟨HO464, BK461, HB⟩ := n_; (try clear hb ho0); obtain ⟨Ao8, co8, eo8⟩ := Kd.R_slice HO464.out; subst eo8) | (refine gL_ 41 8 Tryz.func41 #[.slice Ao8 t462.length co8, .int .i64 a1, .bool true] ?_; (with_reducible refine (spec_l6Covers.calls k _ _ t462 a1 true t465 _ ?side1 ?side2 A4.out).mono ?_); (case side1 => repeat (first | exact (Kd.R_reads' HO464.out).2.2 | (with_reducible refine Kd.C_alloc ?_ _) | (with_reducible refine Kd.C_drewN ?_ _) | (with_reducible refine Kd.C_drew ?_))); (case side2 => exact (Kd.R_reads' HO464.out).2.1); rintro e w9 ⟨v466, rfl, ho0, hb⟩; refine ⟨_, rfl, ?_⟩; have n_ := ac_ (Kd.R_below (by (with_reducible repeat (first | apply Kd.R_alloc | apply Kd.R_drewN | apply Kd.R_drew)); exact HO464.out) hb) <| ac_ (Kd.R_lower ho0 (below_size q7_5)) <| ac_ (blk_below (g := gb461) (o := .cells #[.int .i64 a0_0, .slice A0_1 l0_1.length c0_1] 26 (0, 0)) q7_8 hb) <| Aside0.mk (below_step q7_5 hb); clear HO464 BK461 HB; obtain ⟨HO464, HO467, BK461, HB⟩ := n_; (try clear hb ho0)))
 go_ret
 exact ⟨_, (by first | rfl | (simp [errW_none, errW_some] <;> rfl) | (simp [*, errW_none, errW_some] <;> rfl)), (by (with_reducible repeat (first | apply Kd.R_alloc | apply Kd.R_drewN | apply Kd.R_drew)); exact HO467.out), q7_5⟩
theorem q7_9 {P : Prop} (h : P := by repeat (first | (with_reducible first | exact HB.out | apply below_alloc | apply pw_below_drewN | apply below_drew1 | refine below_set ?_ GE468.out) | exact HB.out)) : P := h
theorem q7_12 {P : Prop} (h : P := by (with_reducible repeat (first | refine blk_drewN ?_ _ | refine blk_drew ?_ | refine blk_alloc ?_ _)); exact BK468.out) : P := h
def spec_LowerCovers.f (k : Nat) (a0_0 : Int) (l0_1 : List Int) (a1 : Int) : Option (List Int) := (spec_Concepts.f k a0_0 l0_1).bind fun t469 => ((spec_l6Covers.f k t469 a1 false).bind fun t472 => (some t472))
theorem spec_LowerCovers.calls (k : Nat) (a0_0 : Int) (A0_1 : Option Addr) (c0_1 : Nat) (l0_1 : List Int) (a1 : Int) (r : List Int) (w : World) (hr0_1 : Kd.C (Kd.int .i64) w A0_1 l0_1.length l0_1) (hc0_1 : l0_1.length ≤ c0_1) (h : spec_LowerCovers.f k a0_0 l0_1 a1 = some r) :
  Calls Tryz.prog 16 #[.agg #[.int .i64 a0_0, .slice A0_1 l0_1.length c0_1], .int .i64 a1] w fun e w' => ∃ v0_ : Value, e = .returned (v0_) ∧ Kd.R (Kd.int .i64) 3 w' w.heap.size (fun _ => True) v0_ r ∧ Below w.heap.size w w' := by
 have hu26 := Tryz.underlying26; have HR0_1 := Aside0.mk hr0_1; have HC0_1 := Aside0.mk hc0_1; clear hr0_1 hc0_1; have HB := Aside0.mk (Below.refl w.heap.size w); have H := h; clear h; unfold spec_LowerCovers.f at H; obtain ⟨t469, A3, H⟩ := bnd7_ H; obtain ⟨t472, A4, H⟩ := bnd7_ H; obtain rfl := Option.some.inj H
 go_enter Tryz.func16, Tryz.ntmps16
 go_wp2_with (first | (refine be_ 2 #[.int .i64 a0_0, .slice A0_1 l0_1.length c0_1] 26 ?_; intro gb468 hg w5 hbox hb; have n_ := ac_ (below_step s0_ hb) <| ac_ (hbox) <| ac_ ((gz_ w hg s0_)) <| Aside0.mk ((gz_ w hg s0_)); clear HB; obtain ⟨HB, BK468, GW468, GE468⟩ := n_; clear hb hbox hg; have hcz6_0 : w5.cell? ⟨gb468, 0, none⟩ = some (.int .i64 a0_0) := (blk_cell BK468.out 0).trans rfl; have hcz6_1 : w5.cell? ⟨gb468, 1, none⟩ = some (.slice A0_1 l0_1.length c0_1) := (blk_cell BK468.out 1).trans rfl; have hfz6_0 := blk_frozen BK468.out 0; have hfz6_1 := blk_frozen BK468.out 1) | (refine gL_ 28 6 Tryz.func28 #[.agg #[.int .i64 a0_0, .slice A0_1 l0_1.length c0_1]] ?_; (with_reducible refine (spec_Concepts.calls k a0_0 _ _ l0_1 t469 _ ?side1 ?side2 A3.out).mono ?_); (case side1 => repeat (first | exact (Kd.C_below HR0_1.out HB.out) | (with_reducible refine Kd.C_alloc ?_ _) | (with_reducible refine Kd.C_drewN ?_ _) | (with_reducible refine Kd.C_drew ?_))); (case side2 => exact HC0_1.out); rintro e w7 ⟨v470, rfl, ho0, hb⟩; refine ⟨_, rfl, ?_⟩; have n_ := ac_ (Kd.R_lower ho0 (below_size q7_9)) <| ac_ (blk_below (g := gb468) (o := .cells #[.int .i64 a0_0, .slice A0_1 l0_1.length c0_1] 26 (0, 0)) q7_12 hb) <| Aside0.mk (below_step q7_9 hb); clear BK468 HB; obtain ⟨HO471, BK468, HB⟩ := n_; (try clear hb ho0); obtain ⟨Ao8, co8, eo8⟩ := Kd.R_slice HO471.out; subst eo8) | (refine gL_ 41 8 Tryz.func41 #[.slice Ao8 t469.length co8, .int .i64 a1, .bool false] ?_; (with_reducible refine (spec_l6Covers.calls k _ _ t469 a1 false t472 _ ?side1 ?side2 A4.out).mono ?_); (case side1 => repeat (first | exact (Kd.R_reads' HO471.out).2.2 | (with_reducible refine Kd.C_alloc ?_ _) | (with_reducible refine Kd.C_drewN ?_ _) | (with_reducible refine Kd.C_drew ?_))); (case side2 => exact (Kd.R_reads' HO471.out).2.1); rintro e w9 ⟨v473, rfl, ho0, hb⟩; refine ⟨_, rfl, ?_⟩; have n_ := ac_ (Kd.R_below (by (with_reducible repeat (first | apply Kd.R_alloc | apply Kd.R_drewN | apply Kd.R_drew)); exact HO471.out) hb) <| ac_ (Kd.R_lower ho0 (below_size q7_9)) <| ac_ (blk_below (g := gb468) (o := .cells #[.int .i64 a0_0, .slice A0_1 l0_1.length c0_1] 26 (0, 0)) q7_12 hb) <| Aside0.mk (below_step q7_9 hb); clear HO471 BK468 HB; obtain ⟨HO471, HO474, BK468, HB⟩ := n_; (try clear hb ho0)))
 go_ret
 exact ⟨_, (by first | rfl | (simp [errW_none, errW_some] <;> rfl) | (simp [*, errW_none, errW_some] <;> rfl)), (by (with_reducible repeat (first | apply Kd.R_alloc | apply Kd.R_drewN | apply Kd.R_drew)); exact HO474.out), q7_9⟩
theorem q7_14 {P : Prop} (h : P := by repeat (first | exact (Kd.R_reads' HO485.out).2.2 | (with_reducible refine Kd.C_alloc ?_ _) | (with_reducible refine Kd.C_drewN ?_ _) | (with_reducible refine Kd.C_drew ?_))) : P := h
theorem q7_15 {P : Prop} (h : P := by repeat (first | (with_reducible first | exact HB.out | apply below_alloc | apply pw_below_drewN | apply below_drew1 | refine below_set ?_ GE482.out) | exact HB.out)) : P := h
theorem q7_18 {P : Prop} (h : P := by (with_reducible repeat (first | refine blk_drewN ?_ _ | refine blk_drew ?_ | refine blk_alloc ?_ _)); exact BK482.out) : P := h
def spec_IsBelow.f (k : Nat) (a0_0 : Int) (l0_1 : List Int) (a1 : Int) (a2 : Int) : Option (Bool) := (spec_Concepts.f k a0_0 l0_1).bind fun t483 => ((spec_l6Exists.f t483 a1).bind fun t486 => (if t486 = true then ((spec_l6Exists.f t483 a2).bind fun t487 => (if t487 = true then (if 0 ≤ a1 then (if a1 < (t483.length : Int) then (if 0 ≤ a2 then (if a2 < (t483.length : Int) then ((spec_l6Under.f ((rd_T51 t483 a1).f0) ((rd_T51 t483 a1).f1) ((rd_T51 t483 a2).f0) ((rd_T51 t483 a2).f1)).bind fun t490 => (some t490)) else (none)) else (none)) else (none)) else (none)) else (some false))) else (some false)))
def spec_IsBelow.T2 : Bool × List (List Nat × List Nat) := (true, [([], []), ([], []), ([0, 1], [0, 1]), ([2, 2], [2]), ([3], [3]), ([3], [3]), ([4, 5, 3, 3], [3, 4, 5]), ([3, 6], [3, 6]), ([7, 6], [7]), ([8], [8]), ([8], [8]), ([9, 10, 8], [8, 9, 10]), ([11, 8], [8, 11]), ([8], [8]), ([8], [8]), ([13, 14, 8], [8, 13, 14]), ([15, 8], [8, 15]), ([12, 16, 8, 8], [8, 12, 16]), ([8, 17], [8, 17]), ([18, 17, 0, 1, 2, 3, 4, 5, 6, 7, 8, 9, 10, 11, 12, 13, 14, 15, 16, 17, 18], [18])])
def spec_IsBelow.B2 : List Nat := [0, 0, 3, 7, 15, 15, 63, 127, 255, 511, 511, 2047, 4095, 511, 511, 25087, 57855, 131071, 262143, 524287]
theorem spec_IsBelow.tab2 : rtab .any (opsOf Tryz.f18 2) = spec_IsBelow.T2 := s13_
theorem spec_IsBelow.bits2 : waitsOk spec_IsBelow.T2.2 spec_IsBelow.B2 = true := s13_
theorem spec_IsBelow.calls (k : Nat) (a0_0 : Int) (A0_1 : Option Addr) (c0_1 : Nat) (l0_1 : List Int) (a1 : Int) (a2 : Int) (r : Bool) (w : World) (hr0_1 : Kd.C (Kd.int .i64) w A0_1 l0_1.length l0_1) (hc0_1 : l0_1.length ≤ c0_1) (h : spec_IsBelow.f k a0_0 l0_1 a1 a2 = some r) :
  Calls Tryz.prog 18 #[.agg #[.int .i64 a0_0, .slice A0_1 l0_1.length c0_1], .int .i64 a1, .int .i64 a2] w fun e w' => e = .returned (.bool r) ∧ Below w.heap.size w w' := by
 have hu26 := Tryz.underlying26; have hu51 := Tryz.underlying51; have HR0_1 := Aside0.mk hr0_1; have HC0_1 := Aside0.mk hc0_1; clear hr0_1 hc0_1; have HB := Aside0.mk (Below.refl w.heap.size w); have H := h; clear h; unfold spec_IsBelow.f at H; obtain ⟨t483, A4, H⟩ := bnd7_ H; obtain ⟨t486, A5, H⟩ := bnd7_ H
 by_cases c6 : t486 = true
 ·
  subst c6; rw [if_pos rfl] at H; obtain ⟨t487, A7, H⟩ := bnd7_ H
  by_cases c8 : t487 = true
  ·
   subst c8; rw [if_pos rfl] at H
   by_cases c9 : 0 ≤ a1
   ·
    rw [if_pos c9] at H; have c9b0 : decide (0 ≤ a1) = true := decide_eq_true c9; clear c9
    by_cases c10 : a1 < (t483.length : Int)
    ·
     rw [if_pos c10] at H; have c10b0 : decide (a1 < (t483.length : Int)) = true := decide_eq_true c10; clear c10
     by_cases c11 : 0 ≤ a2
     ·
      rw [if_pos c11] at H; have c11b0 : decide (0 ≤ a2) = true := decide_eq_true c11; clear c11
      by_cases c12 : a2 < (t483.length : Int)
      ·
       rw [if_pos c12] at H; have c12b0 : decide (a2 < (t483.length : Int)) = true := decide_eq_true c12; clear c12; obtain ⟨t490, A13, H⟩ := bnd7_ H; obtain rfl := Option.some.inj H
       go_enter Tryz.func18, Tryz.ntmps18
       try go_wp2_with (first | (refine be_ 3 #[.int .i64 a0_0, .slice A0_1 l0_1.length c0_1] 26 ?_; intro gb482 hg w14 hbox hb; have n_ := ac_ (below_step s0_ hb) <| ac_ (hbox) <| ac_ ((gz_ w hg s0_)) <| Aside0.mk ((gz_ w hg s0_)); clear HB; obtain ⟨HB, BK482, GW482, GE482⟩ := n_; clear hb hbox hg; have hcz15_0 : w14.cell? ⟨gb482, 0, none⟩ = some (.int .i64 a0_0) := (blk_cell BK482.out 0).trans rfl; have hcz15_1 : w14.cell? ⟨gb482, 1, none⟩ = some (.slice A0_1 l0_1.length c0_1) := (blk_cell BK482.out 1).trans rfl; have hfz15_0 := blk_frozen BK482.out 0; have hfz15_1 := blk_frozen BK482.out 1) | (refine gL_ 28 9 Tryz.func28 #[.agg #[.int .i64 a0_0, .slice A0_1 l0_1.length c0_1]] ?_; (with_reducible refine (spec_Concepts.calls k a0_0 _ _ l0_1 t483 _ ?side1 ?side2 A4.out).mono ?_); (case side1 => exact s2_); (case side2 => exact HC0_1.out); rintro e w16 ⟨v484, rfl, ho0, hb⟩; refine ⟨_, rfl, ?_⟩; have n_ := ac_ (Kd.R_lower ho0 (below_size q7_15)) <| ac_ (blk_below (g := gb482) (o := .cells #[.int .i64 a0_0, .slice A0_1 l0_1.length c0_1] 26 (0, 0)) q7_18 hb) <| Aside0.mk (below_step q7_15 hb); clear BK482 HB; obtain ⟨HO485, BK482, HB⟩ := n_; (try clear hb ho0)))
       have n0_ := Aside0.mk (Kd.R_drew HO485.out); have n1_ := Aside0.mk (blk_drew BK482.out); have n2_ := Aside0.mk (below_drew1 HB.out); clear HO485; clear BK482; clear HB; have HO485 := n0_; have BK482 := n1_; have HB := n2_; clear n0_ n1_ n2_; obtain ⟨Ao18, co18, eo18⟩ := Kd.R_slice HO485.out
       (first | subst eo18 | (injection eo18 with f1_ f2_ f3_; have f4_ := f1_.symm; have f5_ := f3_.symm; clear f1_ f2_ f3_; subst f4_; subst f5_))
       have p488 : 0 ≤ (a1 : Int) := of_decide_eq_true s4_; have q488 : a1 < (t483.length : Int) := of_decide_eq_true s4_; obtain ⟨ad488, e488, hx488_0, hx488_1⟩ := at_T51 (Kd.R_reads' HO485.out).2.2 a1 p488 q488
       cases e488
       replace p488 := eq_true p488; replace q488 := eq_true q488; have p489 : 0 ≤ (a2 : Int) := of_decide_eq_true s4_; have q489 : a2 < (t483.length : Int) := of_decide_eq_true s4_; obtain ⟨ad489, e489, hx489_0, hx489_1⟩ := at_T51 (Kd.R_reads' HO485.out).2.2 a2 p489 q489
       obtain rfl : ad488 = ad489 := (by injection e489)
       replace p489 := eq_true p489; replace q489 := eq_true q489
       refine start_ (n := 20) (S := fun w' => w'.cell? (ad488.add ((a1).toNat * 2)) = some (.int .i64 ((rd_T51 t483 a1).f0)) ∧ w'.cell? ⟨(ad488.add ((a1).toNat * 2)).block, (ad488.add ((a1).toNat * 2)).off + 1, none⟩ = some (.int .i64 ((rd_T51 t483 a1).f1)) ∧ w'.cell? (ad488.add ((a2).toNat * 2)) = some (.int .i64 ((rd_T51 t483 a2).f0)) ∧ w'.cell? ⟨(ad488.add ((a2).toNat * 2)).block, (ad488.add ((a2).toNat * 2)).off + 1, none⟩ = some (.int .i64 ((rd_T51 t483 a2).f1))) (ds := []) (tb_ 20 0) s13_ rfl rfl ⟨hx488_0, hx488_1, hx489_0, hx489_1⟩ (fun hHeld => ?_); refine with_tabW spec_IsBelow.tab2 spec_IsBelow.bits2 (fun HT_ HW_ => ?_)
       generalize w16.drew = w17 at HO485 BK482 HB hx488_0 hx488_1 hx489_0 hx489_1 hHeld ⊢
       refine pl_ 0 10 (tb_ 20 1) ?_; refine pl_ 1 11 (tb_ 20 3) ?_
       refine on_ 2 12 (tb_ 20 7) (fun K hK => ?_)
       refine goes_ Tryz.func38 s13_ rfl #[.slice _ t483.length _, .int .i64 a1] (by rfl) rfl rfl s1_ ?_
       with_reducible refine (spec_l6Exists.calls _ _ t483 a1 true _ ?side1 ?side2 A5.out).mono ?_
       (case side1 => exact q7_14)
       (case side2 => exact (Kd.R_reads' HO485.out).2.1)
       rintro e w' ⟨rfl, ⟨nd, rfl⟩⟩
       refine ⟨_, rfl, ?_⟩
       refine hK.out _ _ ⟨hHeld.1, hHeld.2.1, hHeld.2.2.1, hHeld.2.2.2⟩ (fun hHeld => ?_)
       clear hK K
       refine norm_ (a' := ?_) ?_ ?_
       rotate_left
       ·
        show Act.put _ (some 12) _ = _
        exact s8_
       refine pl_ 3 13 (tb_ 20 15) ?_; refine pl_ 4 14 (tb_ 20 31) ?_; refine pl_ 5 15 (tb_ 20 63) ?_
       refine on_ 6 16 (tb_ 20 127) (fun K hK => ?_)
       refine goes_ Tryz.func38 s13_ rfl #[.slice _ t483.length _, .int .i64 a2] (by rfl) rfl rfl s1_ ?_
       with_reducible refine (spec_l6Exists.calls _ _ t483 a2 true _ ?side1 ?side2 A7.out).mono ?_
       (case side1 => exact q7_14)
       (case side2 => exact (Kd.R_reads' HO485.out).2.1)
       rintro e w' ⟨rfl, ⟨nd, rfl⟩⟩
       refine ⟨_, rfl, ?_⟩
       refine hK.out _ _ ⟨hHeld.1, hHeld.2.1, hHeld.2.2.1, hHeld.2.2.2⟩ (fun hHeld => ?_)
       clear hK K
       refine norm_ (a' := ?_) ?_ ?_
       rotate_left
       ·
        show Act.put _ (some 16) _ = _
        exact s8_
       refine pl_ 7 17 (tb_ 20 255) ?_; refine pl_ 8 18 (tb_ 20 511) ?_; refine pl_ 9 19 (tb_ 20 1023) ?_; refine pl_ 10 20 (tb_ 20 2047) ?_; refine pl_ 11 21 (tb_ 20 4095) ?_; refine pl_ 13 23 (tb_ 20 12287) ?_; refine pl_ 14 24 (tb_ 20 28671) ?_; refine pl_ 15 25 (tb_ 20 61439) ?_; refine tk_ 12 22 (tb_ 20 65535) hHeld ?_; refine tk_ 16 26 (tb_ 20 131071) hHeld ?_
       refine on_ 17 27 (tb_ 20 262143) (fun K hK => ?_)
       refine goes_ Tryz.func43 s13_ rfl #[.agg #[.int .i64 ((rd_T51 t483 a1).f0), .int .i64 ((rd_T51 t483 a1).f1)], .agg #[.int .i64 ((rd_T51 t483 a2).f0), .int .i64 ((rd_T51 t483 a2).f1)]] (by rfl) rfl rfl s1_ ?_
       with_reducible refine (spec_l6Under.calls ((rd_T51 t483 a1).f0) ((rd_T51 t483 a1).f1) ((rd_T51 t483 a2).f0) ((rd_T51 t483 a2).f1) t490 _ A13.out).mono ?_
       rintro e w19 ⟨rfl, hb⟩
       have HS0_ := (hb.cell (World.block_lt_of_cell? _ _ (hHeld.1))).trans (hHeld.1); have HS1_ := (hb.cell (World.block_lt_of_cell? _ _ (hHeld.2.1))).trans (hHeld.2.1); have HS2_ := (hb.cell (World.block_lt_of_cell? _ _ (hHeld.2.2.1))).trans (hHeld.2.2.1); have HS3_ := (hb.cell (World.block_lt_of_cell? _ _ (hHeld.2.2.2))).trans (hHeld.2.2.2)
       refine ⟨_, rfl, ?_⟩
       have n0_ := Aside0.mk (Kd.R_below (by (with_reducible repeat (first | apply Kd.R_alloc | apply Kd.R_drewN | apply Kd.R_drew)); exact HO485.out) hb)
       have n1_ := Aside0.mk (blk_below (g := gb482) (o := .cells #[.int .i64 a0_0, .slice A0_1 l0_1.length c0_1] 26 (0, 0)) q7_18 hb); have n2_ := Aside0.mk (below_step q7_15 hb); clear HO485; clear BK482; clear HB; have HO485 := n0_; have BK482 := n1_; have HB := n2_; clear n0_ n1_ n2_
       (try clear hb)
       (try clear hb2)
       (try clear hk)
       (try clear hi)
       refine hK.out _ _ ⟨HS0_, HS1_, HS2_, HS3_⟩ (fun hHeld => ?_)
       clear hK K
       refine norm_ (a' := ?_) ?_ ?_
       rotate_left
       ·
        show Act.put _ (some 27) _ = _
        exact s8_
       refine pl_ 18 28 (tb_ 20 524287) ?_; refine pl_ 19 6 (tb_ 20 1048575) ?_
       refine done_ (done_of HT_.out s13_) ?_
       try go_wp2
       go_ret
       exact ⟨s5_, q7_15⟩
      ·
       rw [if_neg c12] at H
       exact absurd H (by simp)
     ·
      rw [if_neg c11] at H
      exact absurd H (by simp)
    ·
     rw [if_neg c10] at H
     exact absurd H (by simp)
   ·
    rw [if_neg c9] at H
    exact absurd H (by simp)
  ·
   replace c8 := Bool.eq_false_iff.mpr c8; subst c8
   rw [if_neg (show ¬ (false = true) by decide)] at H
   obtain rfl := Option.some.inj H
   go_enter Tryz.func18, Tryz.ntmps18
   try go_wp2_with (first | (refine be_ 3 #[.int .i64 a0_0, .slice A0_1 l0_1.length c0_1] 26 ?_; intro gb482 hg w20 hbox hb; have n_ := ac_ (below_step s0_ hb) <| ac_ (hbox) <| ac_ ((gz_ w hg s0_)) <| Aside0.mk ((gz_ w hg s0_)); clear HB; obtain ⟨HB, BK482, GW482, GE482⟩ := n_; clear hb hbox hg; have hcz21_0 : w20.cell? ⟨gb482, 0, none⟩ = some (.int .i64 a0_0) := (blk_cell BK482.out 0).trans rfl; have hcz21_1 : w20.cell? ⟨gb482, 1, none⟩ = some (.slice A0_1 l0_1.length c0_1) := (blk_cell BK482.out 1).trans rfl; have hfz21_0 := blk_frozen BK482.out 0; have hfz21_1 := blk_frozen BK482.out 1) | (refine gL_ 28 9 Tryz.func28 #[.agg #[.int .i64 a0_0, .slice A0_1 l0_1.length c0_1]] ?_; (with_reducible refine (spec_Concepts.calls k a0_0 _ _ l0_1 t483 _ ?side1 ?side2 A4.out).mono ?_); (case side1 => exact s2_); (case side2 => exact HC0_1.out); rintro e w22 ⟨v484, rfl, ho0, hb⟩; refine ⟨_, rfl, ?_⟩; have n_ := ac_ (Kd.R_lower ho0 (below_size q7_15)) <| ac_ (blk_below (g := gb482) (o := .cells #[.int .i64 a0_0, .slice A0_1 l0_1.length c0_1] 26 (0, 0)) q7_18 hb) <| Aside0.mk (below_step q7_15 hb); clear BK482 HB; obtain ⟨HO485, BK482, HB⟩ := n_; (try clear hb ho0)))
   have n0_ := Aside0.mk (Kd.R_drew HO485.out); have n1_ := Aside0.mk (blk_drew BK482.out); have n2_ := Aside0.mk (below_drew1 HB.out); clear HO485; clear BK482; clear HB; have HO485 := n0_; have BK482 := n1_; have HB := n2_; clear n0_ n1_ n2_; obtain ⟨Ao24, co24, eo24⟩ := Kd.R_slice HO485.out
   (first | subst eo24 | (injection eo24 with f1_ f2_ f3_; have f4_ := f1_.symm; have f5_ := f3_.symm; clear f1_ f2_ f3_; subst f4_; subst f5_))
   refine start_ (n := 20) (S := fun w' => True) (ds := []) (tb_ 20 0) s13_ rfl rfl trivial (fun hHeld => ?_); refine with_tabW spec_IsBelow.tab2 spec_IsBelow.bits2 (fun HT_ HW_ => ?_)
   generalize w22.drew = w23 at HO485 BK482 HB hHeld ⊢
   refine pl_ 0 10 (tb_ 20 1) ?_; refine pl_ 1 11 (tb_ 20 3) ?_
   refine on_ 2 12 (tb_ 20 7) (fun K hK => ?_)
   refine goes_ Tryz.func38 s13_ rfl #[.slice _ t483.length _, .int .i64 a1] (by rfl) rfl rfl s1_ ?_
   with_reducible refine (spec_l6Exists.calls _ _ t483 a1 true _ ?side1 ?side2 A5.out).mono ?_
   (case side1 => exact q7_14)
   (case side2 => exact (Kd.R_reads' HO485.out).2.1)
   rintro e w' ⟨rfl, ⟨nd, rfl⟩⟩
   refine ⟨_, rfl, ?_⟩
   refine hK.out _ _ trivial (fun hHeld => ?_)
   clear hK K
   refine norm_ (a' := ?_) ?_ ?_
   rotate_left
   ·
    show Act.put _ (some 12) _ = _
    exact s8_
   refine pl_ 3 13 (tb_ 20 15) ?_; refine pl_ 4 14 (tb_ 20 31) ?_; refine pl_ 5 15 (tb_ 20 63) ?_
   refine on_ 6 16 (tb_ 20 127) (fun K hK => ?_)
   refine goes_ Tryz.func38 s13_ rfl #[.slice _ t483.length _, .int .i64 a2] (by rfl) rfl rfl s1_ ?_
   with_reducible refine (spec_l6Exists.calls _ _ t483 a2 false _ ?side1 ?side2 A7.out).mono ?_
   (case side1 => exact q7_14)
   (case side2 => exact (Kd.R_reads' HO485.out).2.1)
   rintro e w' ⟨rfl, ⟨nd, rfl⟩⟩
   refine ⟨_, rfl, ?_⟩
   refine hK.out _ _ trivial (fun hHeld => ?_)
   clear hK K
   refine norm_ (a' := ?_) ?_ ?_
   rotate_left
   ·
    show Act.put _ (some 16) _ = _
    exact s8_
   refine pl_ 7 17 (tb_ 20 255) ?_; refine pl_ 8 18 (tb_ 20 511) ?_; refine pr_ 9 19 (tb_ 20 1023) ?_; refine pr_ 10 20 (tb_ 20 2047) ?_; refine pr_ 11 21 (tb_ 20 4095) ?_; refine pr_ 12 22 (tb_ 20 8191) ?_; refine pr_ 13 23 (tb_ 20 16383) ?_; refine pr_ 14 24 (tb_ 20 32767) ?_; refine pr_ 15 25 (tb_ 20 65535) ?_; refine pr_ 16 26 (tb_ 20 131071) ?_; refine pr_ 17 27 (tb_ 20 262143) ?_; refine pl_ 18 28 (tb_ 20 524287) ?_; refine pl_ 19 6 (tb_ 20 1048575) ?_
   refine done_ (done_of HT_.out s13_) ?_
   try go_wp2
   go_ret
   exact ⟨s5_, q7_15⟩
 ·
  replace c6 := Bool.eq_false_iff.mpr c6; subst c6
  rw [if_neg (show ¬ (false = true) by decide)] at H
  obtain rfl := Option.some.inj H
  go_enter Tryz.func18, Tryz.ntmps18
  try go_wp2_with (first | (refine be_ 3 #[.int .i64 a0_0, .slice A0_1 l0_1.length c0_1] 26 ?_; intro gb482 hg w25 hbox hb; have n_ := ac_ (below_step s0_ hb) <| ac_ (hbox) <| ac_ ((gz_ w hg s0_)) <| Aside0.mk ((gz_ w hg s0_)); clear HB; obtain ⟨HB, BK482, GW482, GE482⟩ := n_; clear hb hbox hg; have hcz26_0 : w25.cell? ⟨gb482, 0, none⟩ = some (.int .i64 a0_0) := (blk_cell BK482.out 0).trans rfl; have hcz26_1 : w25.cell? ⟨gb482, 1, none⟩ = some (.slice A0_1 l0_1.length c0_1) := (blk_cell BK482.out 1).trans rfl; have hfz26_0 := blk_frozen BK482.out 0; have hfz26_1 := blk_frozen BK482.out 1) | (refine gL_ 28 9 Tryz.func28 #[.agg #[.int .i64 a0_0, .slice A0_1 l0_1.length c0_1]] ?_; (with_reducible refine (spec_Concepts.calls k a0_0 _ _ l0_1 t483 _ ?side1 ?side2 A4.out).mono ?_); (case side1 => exact s2_); (case side2 => exact HC0_1.out); rintro e w27 ⟨v484, rfl, ho0, hb⟩; refine ⟨_, rfl, ?_⟩; have n_ := ac_ (Kd.R_lower ho0 (below_size q7_15)) <| ac_ (blk_below (g := gb482) (o := .cells #[.int .i64 a0_0, .slice A0_1 l0_1.length c0_1] 26 (0, 0)) q7_18 hb) <| Aside0.mk (below_step q7_15 hb); clear BK482 HB; obtain ⟨HO485, BK482, HB⟩ := n_; (try clear hb ho0)))
  have n0_ := Aside0.mk (Kd.R_drew HO485.out); have n1_ := Aside0.mk (blk_drew BK482.out); have n2_ := Aside0.mk (below_drew1 HB.out); clear HO485; clear BK482; clear HB; have HO485 := n0_; have BK482 := n1_; have HB := n2_; clear n0_ n1_ n2_; obtain ⟨Ao29, co29, eo29⟩ := Kd.R_slice HO485.out
  (first | subst eo29 | (injection eo29 with f1_ f2_ f3_; have f4_ := f1_.symm; have f5_ := f3_.symm; clear f1_ f2_ f3_; subst f4_; subst f5_))
  refine start_ (n := 20) (S := fun w' => True) (ds := []) (tb_ 20 0) s13_ rfl rfl trivial (fun hHeld => ?_); refine with_tabW spec_IsBelow.tab2 spec_IsBelow.bits2 (fun HT_ HW_ => ?_)
  generalize w27.drew = w28 at HO485 BK482 HB hHeld ⊢
  refine pl_ 0 10 (tb_ 20 1) ?_; refine pl_ 1 11 (tb_ 20 3) ?_
  refine on_ 2 12 (tb_ 20 7) (fun K hK => ?_)
  refine goes_ Tryz.func38 s13_ rfl #[.slice _ t483.length _, .int .i64 a1] (by rfl) rfl rfl s1_ ?_
  with_reducible refine (spec_l6Exists.calls _ _ t483 a1 false _ ?side1 ?side2 A5.out).mono ?_
  (case side1 => exact q7_14)
  (case side2 => exact (Kd.R_reads' HO485.out).2.1)
  rintro e w' ⟨rfl, ⟨nd, rfl⟩⟩
  refine ⟨_, rfl, ?_⟩
  refine hK.out _ _ trivial (fun hHeld => ?_)
  clear hK K
  refine norm_ (a' := ?_) ?_ ?_
  rotate_left
  ·
   show Act.put _ (some 12) _ = _
   exact s8_
  refine pl_ 3 13 (tb_ 20 15) ?_; refine pr_ 4 14 (tb_ 20 31) ?_; refine pr_ 5 15 (tb_ 20 63) ?_; refine pr_ 6 16 (tb_ 20 127) ?_; refine pl_ 7 17 (tb_ 20 255) ?_; refine pl_ 8 18 (tb_ 20 511) ?_; refine pr_ 9 19 (tb_ 20 1023) ?_; refine pr_ 10 20 (tb_ 20 2047) ?_; refine pr_ 11 21 (tb_ 20 4095) ?_; refine pr_ 12 22 (tb_ 20 8191) ?_; refine pr_ 13 23 (tb_ 20 16383) ?_; refine pr_ 14 24 (tb_ 20 32767) ?_; refine pr_ 15 25 (tb_ 20 65535) ?_; refine pr_ 16 26 (tb_ 20 131071) ?_; refine pr_ 17 27 (tb_ 20 262143) ?_; refine pl_ 18 28 (tb_ 20 524287) ?_; refine pl_ 19 6 (tb_ 20 1048575) ?_
  refine done_ (done_of HT_.out s13_) ?_
  try go_wp2
  go_ret
  exact ⟨s5_, q7_15⟩
theorem q7_23 {P : Prop} (h : P := by repeat (first | (with_reducible first | exact HB.out | apply below_alloc | apply pw_below_drewN | apply below_drew1 | refine below_set ?_ GE498.out) | exact HB.out)) : P := h
theorem q7_26 {P : Prop} (h : P := by (with_reducible repeat (first | refine blk_drewN ?_ _ | refine blk_drew ?_ | refine blk_alloc ?_ _)); exact BK498.out) : P := h
def spec_TopOf.f (k : Nat) (a0_0 : Int) (l0_1 : List Int) : Option (Int) := (spec_IsContext.f k a0_0 l0_1).bind fun t499 => (if t499 = true then (some 0) else (some (-1)))
theorem spec_TopOf.calls (k : Nat) (a0_0 : Int) (A0_1 : Option Addr) (c0_1 : Nat) (l0_1 : List Int) (r : Int) (w : World) (hr0_1 : Kd.C (Kd.int .i64) w A0_1 l0_1.length l0_1) (hc0_1 : l0_1.length ≤ c0_1) (h : spec_TopOf.f k a0_0 l0_1 = some r) :
  Calls Tryz.prog 20 #[.agg #[.int .i64 a0_0, .slice A0_1 l0_1.length c0_1]] w fun e w' => e = .returned (.int .i64 r) ∧ Below w.heap.size w w' := by
 have hu26 := Tryz.underlying26; have HR0_1 := Aside0.mk hr0_1; have HC0_1 := Aside0.mk hc0_1; clear hr0_1 hc0_1; have HB := Aside0.mk (Below.refl w.heap.size w); have H := h; clear h; unfold spec_TopOf.f at H; obtain ⟨t499, A2, H⟩ := bnd7_ H
 by_cases c3 : t499 = true
 ·
  subst c3; rw [if_pos rfl] at H; obtain rfl := Option.some.inj H
  go_enter Tryz.func20, Tryz.ntmps20
  go_wp2_with (first | (refine be_ 1 #[.int .i64 a0_0, .slice A0_1 l0_1.length c0_1] 26 ?_; intro gb498 hg w4 hbox hb; have n_ := ac_ (below_step s0_ hb) <| ac_ (hbox) <| ac_ ((gz_ w hg s0_)) <| Aside0.mk ((gz_ w hg s0_)); clear HB; obtain ⟨HB, BK498, GW498, GE498⟩ := n_; clear hb hbox hg; have hcz5_0 : w4.cell? ⟨gb498, 0, none⟩ = some (.int .i64 a0_0) := (blk_cell BK498.out 0).trans rfl; have hcz5_1 : w4.cell? ⟨gb498, 1, none⟩ = some (.slice A0_1 l0_1.length c0_1) := (blk_cell BK498.out 1).trans rfl; have hfz5_0 := blk_frozen BK498.out 0; have hfz5_1 := blk_frozen BK498.out 1) | (refine gL_ 47 4 Tryz.func47 #[.agg #[.int .i64 a0_0, .slice A0_1 l0_1.length c0_1]] ?_; (with_reducible refine (spec_IsContext.calls k a0_0 _ _ l0_1 true _ ?side1 ?side2 A2.out).mono ?_); (case side1 => exact s2_); (case side2 => exact HC0_1.out); rintro e w6 ⟨rfl, hb⟩; refine ⟨_, rfl, ?_⟩; have n_ := ac_ (blk_below (g := gb498) (o := .cells #[.int .i64 a0_0, .slice A0_1 l0_1.length c0_1] 26 (0, 0)) q7_26 hb) <| Aside0.mk (below_step q7_23 hb); clear BK498 HB; obtain ⟨BK498, HB⟩ := n_; (try clear hb)))
  go_ret
  exact ⟨(by first | rfl | (simp [errW_none, errW_some] <;> rfl) | (simp [*, errW_none, errW_some] <;> rfl)), q7_23⟩
 ·
  replace c3 := Bool.eq_false_iff.mpr c3; subst c3
  rw [if_neg (show ¬ (false = true) by decide)] at H
  obtain rfl := Option.some.inj H
  go_enter Tryz.func20, Tryz.ntmps20
  go_wp2_with (first | (refine be_ 1 #[.int .i64 a0_0, .slice A0_1 l0_1.length c0_1] 26 ?_; intro gb498 hg w7 hbox hb; have n_ := ac_ (below_step s0_ hb) <| ac_ (hbox) <| ac_ ((gz_ w hg s0_)) <| Aside0.mk ((gz_ w hg s0_)); clear HB; obtain ⟨HB, BK498, GW498, GE498⟩ := n_; clear hb hbox hg; have hcz8_0 : w7.cell? ⟨gb498, 0, none⟩ = some (.int .i64 a0_0) := (blk_cell BK498.out 0).trans rfl; have hcz8_1 : w7.cell? ⟨gb498, 1, none⟩ = some (.slice A0_1 l0_1.length c0_1) := (blk_cell BK498.out 1).trans rfl; have hfz8_0 := blk_frozen BK498.out 0; have hfz8_1 := blk_frozen BK498.out 1) | (refine gL_ 47 4 Tryz.func47 #[.agg #[.int .i64 a0_0, .slice A0_1 l0_1.length c0_1]] ?_; (with_reducible refine (spec_IsContext.calls k a0_0 _ _ l0_1 false _ ?side1 ?side2 A2.out).mono ?_); (case side1 => exact s2_); (case side2 => exact HC0_1.out); rintro e w9 ⟨rfl, hb⟩; refine ⟨_, rfl, ?_⟩; have n_ := ac_ (blk_below (g := gb498) (o := .cells #[.int .i64 a0_0, .slice A0_1 l0_1.length c0_1] 26 (0, 0)) q7_26 hb) <| Aside0.mk (below_step q7_23 hb); clear BK498 HB; obtain ⟨BK498, HB⟩ := n_; (try clear hb)))
  go_ret
  exact ⟨(by first | rfl | (simp [errW_none, errW_some] <;> rfl) | (simp [*, errW_none, errW_some] <;> rfl)), q7_23⟩
end Go.Proofs.YtfmpafgmcleogaaGreatDoor.Pr
