/- Functions of the program as plain functions, proofs that their calls answer so, and plain laws: what the law needs. No condition beyond what each statement says. -/
import Derived.Test.YtafnamchckehmaaGreatDoorZFnInference10
namespace Go.Proofs.YtafnamchckehmaaGreatDoor.Pr
open Go.RowKit Go.Proofs.YtafnamchckehmaaGreatDoorW.PrintWords Go.Proofs.YtafnamchckehmaaGreatDoorW.PrintLast Go.Proofs.YtafnamchckehmaaGreatDoorW.PrintMore
set_option linter.unusedVariables false
def impl_areAnyRules.f (l0 : List S48) : Option Bool := some (l0.all Pu.anyR)
theorem areAny1_val (r : S48) : impl_areAnyRules_1.f r.f0 r.f1 = some (!Pu.anyR r) := by
  unfold impl_areAnyRules_1.f
  rw [Pu.any_val, Option.bind_some]
  unfold Pu.anyR
  cases Pu.isAny r.f0 with
  | false => rfl
  | true => simp [Pu.any_val]
theorem impl_areAnyRules.calls (A0 : Option Addr) (c0 : Nat) (l0 : List S48) (r : Bool) (w : World) (hr0 : Kd.C k48 w A0 l0.length l0) (hc0 : l0.length ≤ c0) (h : impl_areAnyRules.f l0 = some r) :
    Calls Tryz.prog 149 #[.slice A0 l0.length c0] w fun e w' => e = .returned (.bool r) ∧ Below w.heap.size w w' := by
  obtain rfl := Option.some.inj h
  clear h
  have eg : ∀ args w, (callFunc 218 args).run Tryz.prog w = .ok (.enter 218 args) w := enters_of Tryz.func218 (by kernel_rfl) rfl
  have h0 := ContainsFunc_rule 218 #[] eg A0 c0 l0 (fun r => !Pu.anyR r) w hr0 (fun W x hb => (impl_areAnyRules_1.calls x.f0 x.f1 _ W (areAny1_val x)).mono fun e w' ⟨he, hb'⟩ => ⟨he, hb'⟩)
  have h1 : Aside0 ((!(l0.any fun r => !Pu.anyR r)) = l0.all Pu.anyR) := ⟨by rw [List.all_eq_not_any_not]⟩
  clear hr0
  go_enter Tryz.func149, Tryz.ntmps149
  go_wp2_with (go_at_call 167; refine h0.mono ?_; rintro e w' ⟨rfl, hb⟩)
  go_ret
  exact ⟨by rw [← h1.out]; rfl, hb⟩
end Go.Proofs.YtafnamchckehmaaGreatDoor.Pr
namespace Go.Proofs.YtafnamchckehmaaGreatDoor.Pr
open Go.RowKit Go.Proofs.YtafnamchckehmaaGreatDoorW.PrintWords Go.Proofs.YtafnamchckehmaaGreatDoorW.PrintLast Go.Proofs.YtafnamchckehmaaGreatDoorW.PrintMore
attribute [local go_sem] max2_int min2_int max_two min_two max_three min_three max_four min_four
set_option linter.unusedVariables false
set_option linter.unusedSimpArgs false
theorem bnd31_ {α β : Type} {o : Option α} {f : α → Option β} {r : β} (h : o.bind f = some r) : ∃ a, Aside0 (o = some a) ∧ f a = some r := by
 obtain ⟨a, h1, h2⟩ := Option.bind_eq_some_iff.mp h
 exact ⟨a, ⟨h1⟩, h2⟩
theorem q31_1 {P : Prop} (h : P := by repeat (first | (with_reducible first | exact HB.out | apply below_alloc | apply pw_below_drewN | apply below_drew1 | refine below_set ?_ GE589.out | refine below_set ?_ GE597.out) | exact HB.out)) : P := h
theorem q31_3 {P : Prop} (h : P := by repeat (first | (with_reducible first | exact HB.out | apply below_alloc | apply pw_below_drewN | apply below_drew1 | refine below_set ?_ GE589.out) | exact HB.out)) : P := h
theorem q31_6 {P : Prop} (h : P := by (with_reducible repeat (first | refine blk_drewN ?_ _ | refine blk_drew ?_ | refine blk_alloc ?_ _)); exact BK589.out) : P := h
mutual
def impl_CheckProof.j0 : Nat → List (S48) → List (S110) → Bool → Int → Int → Option (Bool)
 | 0, _, _, _, _, _ => none
 | k + 1, x0, x2, x18, x590000, x590001 => if x18 = true then (some false) else (impl_CheckProof.l0 k x0 x590000 x2 (x2.length : Int) 0 x590000 x590001)
def impl_CheckProof.l0 : Nat → List (S48) → Int → List (S110) → Int → Int → Int → Int → Option (Bool)
 | 0, _, _, _, _, _, _, _ => none
 | k + 1, x0, x7, x21, x22, x23, x590000, x590001 => if x23 < x22 then (if 0 ≤ x23 then (if x23 < (x21.length : Int) then ((impl_within.f ((rd_T110 x21 x23).f0) 0 (wrap64 ((x0.length : Int) - 1))).bind fun t598 => (if t598 = true then (if 0 ≤ ((rd_T110 x21 x23).f0) then (if ((rd_T110 x21 x23).f0) < (x0.length : Int) then ((impl_inSet.f ((rd_T48 x0 ((rd_T110 x21 x23).f0)).f0) x7).bind fun t600 => (if t600 = true then (if ((rd_T110 x21 x23).f1) = (Go.bits .or .i64 x7 ((rd_T48 x0 ((rd_T110 x21 x23).f0)).f1)) then (impl_CheckProof.l0 k x0 ((rd_T110 x21 x23).f1) x21 x22 (wrap64 (x23 + 1)) x590000 x590001) else (some false)) else (some false))) else (none)) else (none)) else (some false))) else (none)) else (none)) else ((impl_inSet.f x590001 x7).bind fun t595 => (some t595))
end
def impl_CheckProof.f (k : Nat) (l0 : List (S48)) (a1_0 : Int) (a1_1 : Int) (l2 : List (S110)) : Option (Bool) := (impl_areAnyRules.f l0).bind fun t590 => (if t590 = true then ((impl_areAnyRules.f (([(⟨a1_0, a1_1⟩ : S48)] : List (S48)))).bind fun t594 => (impl_CheckProof.j0 k l0 l2 (!t594) a1_0 a1_1)) else (impl_CheckProof.j0 k l0 l2 true a1_0 a1_1))
def impl_CheckProof.T7 : Bool × List (List Nat × List Nat) := (true, [([], []), ([0], [0]), ([], []), ([2], [2]), ([3], [3]), ([1, 4], [1, 4]), ([5], [5]), ([6, 5], [6]), ([7], [7]), ([7], [7]), ([9, 7], [7, 9]), ([8, 10, 7], [7, 8, 10]), ([11, 7], [7, 11]), ([12, 7], [7, 12]), ([7], [7]), ([13, 14, 7, 7], [7, 13, 14]), ([15, 7], [7, 15]), ([7, 16], [7, 16]), ([17, 15], [17]), ([18], [18]), ([19, 18], [18, 19]), ([18], [18]), ([18], [18]), ([18], [18]), ([23, 18], [18, 23]), ([22, 24, 18], [18, 22, 24]), ([25, 18], [18, 25]), ([26, 18], [18, 26]), ([21, 27, 18], [18, 21, 27]), ([20, 28, 18], [18, 20, 28]), ([18, 29], [18, 29])])
def impl_CheckProof.B7 : List Nat := [0, 1, 0, 4, 12, 31, 63, 127, 255, 255, 767, 2047, 4095, 8191, 255, 32767, 65535, 131071, 262143, 524287, 1048575, 524287, 524287, 524287, 8912895, 29884415, 63438847, 130547711, 266862591, 536870911, 1073741823]
theorem impl_CheckProof.tab7 : rtab .any (opsOf Tryz.f42 7) = impl_CheckProof.T7 := s10_
theorem impl_CheckProof.bits7 : waitsOk impl_CheckProof.T7.2 impl_CheckProof.B7 = true := s10_
set_option maxHeartbeats 40000000 in
set_option maxRecDepth 100000 in
theorem impl_CheckProof.calls (k : Nat) (A0 : Option Addr) (c0 : Nat) (l0 : List (S48)) (a1_0 : Int) (a1_1 : Int) (A2 : Option Addr) (c2 : Nat) (l2 : List (S110)) (r : Bool) (w : World) (hr0 : Kd.C k48 w A0 l0.length l0) (hc0 : l0.length ≤ c0) (hr2 : Kd.C k110 w A2 l2.length l2) (hc2 : l2.length ≤ c2) (h : impl_CheckProof.f k l0 a1_0 a1_1 l2 = some r) :
  Calls Tryz.prog 42 #[.slice A0 l0.length c0, .agg #[.int .i64 a1_0, .int .i64 a1_1], .slice A2 l2.length c2] w fun e w' => e = .returned (.bool r) ∧ Below w.heap.size w w' := by
 have hu48 := Tryz.underlying48; have hu110 := Tryz.underlying110; have HR0 := Aside0.mk hr0; have HC0 := Aside0.mk hc0; clear hr0 hc0; have HR2 := Aside0.mk hr2; have HC2 := Aside0.mk hc2; clear hr2 hc2; have HB := Aside0.mk (Below.refl w.heap.size w); have H := h; clear h; unfold impl_CheckProof.f at H; have HC4 := Aside0.mk H; clear H
 go_enter Tryz.func42, Tryz.ntmps42
 go_upto_region 1 with (first | ((with_reducible refine gate_dst (N := 4) rfl ?_); (try (refine gate_guard (by rfl) ?_; dsimp only)); refine box_event ?hg (N := 4) ?hd (cs := #[.int .i64 a1_0, .int .i64 a1_1]) (t := 48) ?hr ?_; (case hd => rfl); (case hg => rfl); (case hr => first | (go_simp; done) | (go_simp; rfl)); intro gb589 hg w5 hbox hb; have n_ := ac_ (below_step s1_ hb) <| ac_ (hbox) <| ac_ ((gz_ w hg s1_)) <| Aside0.mk ((gz_ w hg s1_)); clear HB; obtain ⟨HB, BK589, GW589, GE589⟩ := n_; clear hb hbox hg))
 (try simp only [Act.put, List.setIfInBounds_toArray, List.set_cons_zero, List.set_cons_succ])
 go_cut [18] (fun v18 wc => ∃ (kq : Nat) (x18_3 : Bool), v18 = .bool x18_3 ∧ Aside0 (impl_CheckProof.j0 kq l0 l2 x18_3 a1_0 a1_1 = some r) ∧ Aside0 (kq ≤ k) ∧ Aside0 (wc.heap[gb589]? = some (.cells #[.int .i64 a1_0, .int .i64 a1_1] 48 (0, 0))) ∧ Aside0 (Below w.heap.size w wc))
 case first =>
  have H := HC4.out; clear HC4; obtain ⟨t590, A6, H⟩ := bnd31_ H
  by_cases c7 : t590 = true
  ·
   subst c7; rw [if_pos rfl] at H; obtain ⟨y591, hy_⟩ : ∃ y_ : List (S48), y_ = (([(⟨a1_0, a1_1⟩ : S48)] : List (S48))) := ⟨_, rfl⟩
   replace H : ((impl_areAnyRules.f y591).bind fun t594 => (impl_CheckProof.j0 k l0 l2 (!t594) a1_0 a1_1)) = some r := rH_
   have Ny591 := Aside0.mk hy_; clear hy_; obtain ⟨t594, A8, H⟩ := bnd31_ H; have H' := Aside0.mk H; clear H
   go_wp2_with (first | ((with_reducible refine gw_ rfl ?_); (refine gL_ 149 11 Tryz.func149 #[.slice A0 l0.length c0] ?_; (with_reducible refine (impl_areAnyRules.calls _ _ l0 true _ ?side1 ?side2 A6.out).mono ?_); (case side1 => exact s5_); (case side2 => exact HC0.out); rintro e w9 ⟨rfl, hb⟩; refine ⟨_, rfl, ?_⟩; have n_ := ac_ (blk_below (g := gb589) (o := .cells #[.int .i64 a1_0, .int .i64 a1_1] 48 (0, 0)) q31_6 hb) <| Aside0.mk (below_step q31_3 hb); clear BK589 HB; obtain ⟨BK589, HB⟩ := n_; (try clear hb); have hcz10_0 : w9.cell? ⟨gb589, 0, none⟩ = some (.int .i64 a1_0) := (blk_cell BK589.out 0).trans rfl; have hcz10_1 : w9.cell? ⟨gb589, 1, none⟩ = some (.int .i64 a1_1) := (blk_cell BK589.out 1).trans rfl; have hfz10_0 := blk_frozen BK589.out 0; have hfz10_1 := blk_frozen BK589.out 1)) | ((with_reducible refine gate_dst (N := 15) rfl ?_); (try (refine gate_guard (by rfl) ?_; dsimp only)); refine Kd.R_lit k48 _ 48 ?hg (N := 15) ?hd (xs := ([(⟨a1_0, a1_1⟩ : S48)] : List (S48))) (inner := [.int .i64 a1_0, .int .i64 a1_1]) (ok := fun _ => True) (okp := fun _ => True) ?hr ?hp (fun _ hk => hk) trivial (Below.refl _ _) (Nat.le_refl _) (by simp) ?_; (case hd => rfl); (case hg => rfl); (case hr => first | (go_simp; done) | (go_simp; rfl)); (case hp => exact (Reps.c2 (show Kd.M k48 _ _ _ (⟨a1_0, a1_1⟩ : S48) [.int .i64 a1_0, .int .i64 a1_1] from (k48_mkM _ _ _ (⟨a1_0, a1_1⟩ : S48) )) (Reps.none _ _))); intro v592 w11 ho12 hb hg_ hnew_; clear hg_ hnew_; (first | rw [← Ny591.out] at ho12 | (simp only [Int.reduceToNat] at ho12; rw [← Ny591.out] at ho12)); have n_ := ac_ (Kd.R_lower (Kd.R_newB ho12 (g := gb589) (o := .cells #[.int .i64 a1_0, .int .i64 a1_1] 48 (0, 0)) q31_6) (below_size q31_3)) <| ac_ (blk_below (g := gb589) (o := .cells #[.int .i64 a1_0, .int .i64 a1_1] 48 (0, 0)) q31_6 hb) <| Aside0.mk (below_step q31_3 hb); clear BK589 HB; obtain ⟨HO593, BK589, HB⟩ := n_; clear hb ho12; obtain ⟨Ao13, co13, eo13⟩ := Kd.R_slice HO593.out; subst eo13) | (go_at_call 149; (with_reducible refine (impl_areAnyRules.calls _ _ y591 t594 _ ?side1 ?side2 A8.out).mono ?_); (case side1 => repeat (first | exact (Kd.R_reads' HO593.out).2.2 | (with_reducible refine Kd.C_alloc ?_ _) | (with_reducible refine Kd.C_drewN ?_ _) | (with_reducible refine Kd.C_drew ?_))); (case side2 => exact (Kd.R_reads' HO593.out).2.1); rintro e w14 ⟨rfl, hb⟩; have n_ := ac_ (Kd.R_below (by (with_reducible repeat (first | apply Kd.R_alloc | apply Kd.R_drewN | apply Kd.R_drew)); exact HO593.out) hb) <| ac_ (blk_below (g := gb589) (o := .cells #[.int .i64 a1_0, .int .i64 a1_1] 48 (0, 0)) q31_6 hb) <| Aside0.mk (below_step q31_3 hb); clear HO593 BK589 HB; obtain ⟨HO593, BK589, HB⟩ := n_; (try clear hb)))
   go_meet
   case rel => exact ⟨_, (!t594), s2_, H', ⟨(by first | omega | exact Nat.le_refl _)⟩, ⟨q31_6⟩, ⟨q31_3⟩⟩
  ·
   replace c7 := Bool.eq_false_iff.mpr c7; subst c7
   rw [if_neg (show ¬ (false = true) by decide)] at H
   have H' := Aside0.mk H; clear H
   go_wp2_with ((with_reducible refine gw_ rfl ?_); (refine gL_ 149 11 Tryz.func149 #[.slice A0 l0.length c0] ?_; (with_reducible refine (impl_areAnyRules.calls _ _ l0 false _ ?side1 ?side2 A6.out).mono ?_); (case side1 => exact s5_); (case side2 => exact HC0.out); rintro e w15 ⟨rfl, hb⟩; refine ⟨_, rfl, ?_⟩; have n_ := ac_ (blk_below (g := gb589) (o := .cells #[.int .i64 a1_0, .int .i64 a1_1] 48 (0, 0)) q31_6 hb) <| Aside0.mk (below_step q31_3 hb); clear BK589 HB; obtain ⟨BK589, HB⟩ := n_; (try clear hb)))
   go_meet
   case rel => exact ⟨_, (true), s2_, H', ⟨(by first | omega | exact Nat.le_refl _)⟩, ⟨q31_6⟩, ⟨q31_3⟩⟩
 case rest =>
  clear HC4
  try clear c1
  try clear c2
  try clear p2
  try clear c4
  try clear c7
  try clear c14
  try clear hcz10_0
  try clear hcz10_1
  try clear hfz10_0
  try clear hfz10_1
  obtain ⟨kq, x18_3, rfl, HA, HJ3, BK589, HB⟩ := hcut
  cases kq with
  | zero => exact absurd HA.out (by simp [impl_CheckProof.j0])
  | succ kj3 =>
   have H := HA.out; clear HA
   simp only [impl_CheckProof.j0] at H
   by_cases c16 : x18_3 = true
   ·
    subst c16; rw [if_pos rfl] at H; obtain rfl := Option.some.inj H
    go_wp2
    go_ret
    exact ⟨s4_, q31_3⟩
   ·
    replace c16 := Bool.eq_false_iff.mpr c16; subst c16
    rw [if_neg (show ¬ (false = true) by decide)] at H
    have H' := Aside0.mk H; clear H; have hcz17_0 : wc.cell? ⟨gb589, 0, none⟩ = some (.int .i64 a1_0) := (blk_cell BK589.out 0).trans rfl; have hcz17_1 : wc.cell? ⟨gb589, 1, none⟩ = some (.int .i64 a1_1) := (blk_cell BK589.out 1).trans rfl; have hfz17_0 := blk_frozen BK589.out 0; have hfz17_1 := blk_frozen BK589.out 1
    go_wp2
    go_loopg [7, 23] kj3 (fun kq v7 v23 w' => ∃ (x7_2 : Int) (x23_2 : Int), v7 = .int .i64 x7_2 ∧ v23 = .int .i64 x23_2 ∧ Aside0 (impl_CheckProof.l0 kq l0 x7_2 l2 (l2.length : Int) x23_2 a1_0 a1_1 = some r) ∧ Aside0 (kq ≤ kj3) ∧ Aside0 (w'.heap[gb589]? = some (.cells #[.int .i64 a1_0, .int .i64 a1_1] 48 (0, 0))) ∧ Aside0 (Below w.heap.size w w'))
    case atStart => exact ⟨(a1_0), (0), s2_, s2_, H', ⟨Nat.le_refl _⟩, ⟨q31_6⟩, ⟨q31_3⟩⟩
    case round =>
     clear H'
     try clear c1
     try clear c2
     try clear p2
     try clear c4
     try clear c7
     try clear c14
     try clear c16
     try clear hcz10_0
     try clear hcz10_1
     try clear hcz17_0
     try clear hcz17_1
     try clear hfz10_0
     try clear hfz10_1
     try clear hfz17_0
     try clear hfz17_1
     try clear p2
     obtain ⟨x7_2, x23_2, rfl, rfl, HA, HK2, BK589, HB⟩ := hrel
     cases gk with
     | zero => exact absurd HA.out (by simp [impl_CheckProof.l0])
     | succ k2 =>
      have H := HA.out; clear HA
      simp only [impl_CheckProof.l0] at H
      by_cases c18 : x23_2 < (l2.length : Int)
      ·
       rw [if_pos c18] at H; have c18b0 : decide (x23_2 < (l2.length : Int)) = true := decide_eq_true c18; clear c18
       by_cases c19 : 0 ≤ x23_2
       ·
        rw [if_pos c19] at H; have c19b0 : decide (0 ≤ x23_2) = true := decide_eq_true c19; clear c19
        by_cases c20 : x23_2 < (l2.length : Int)
        ·
         rw [if_pos c20] at H; have c20b0 : decide (x23_2 < (l2.length : Int)) = true := decide_eq_true c20; clear c20; obtain ⟨t598, A21, H⟩ := bnd31_ H
         by_cases c22 : t598 = true
         ·
          subst c22; rw [if_pos rfl] at H
          by_cases c23 : 0 ≤ ((rd_T110 l2 x23_2).f0)
          ·
           rw [if_pos c23] at H; have c23b0 : decide (0 ≤ ((rd_T110 l2 x23_2).f0)) = true := decide_eq_true c23; clear c23
           by_cases c24 : ((rd_T110 l2 x23_2).f0) < (l0.length : Int)
           ·
            rw [if_pos c24] at H; have c24b0 : decide (((rd_T110 l2 x23_2).f0) < (l0.length : Int)) = true := decide_eq_true c24; clear c24; obtain ⟨t600, A25, H⟩ := bnd31_ H
            by_cases c26 : t600 = true
            ·
             subst c26; rw [if_pos rfl] at H
             by_cases c27 : ((rd_T110 l2 x23_2).f1) = (Go.bits .or .i64 x7_2 ((rd_T48 l0 ((rd_T110 l2 x23_2).f0)).f1))
             ·
              rw [if_pos c27] at H; have c27b0 : (((rd_T110 l2 x23_2).f1) == (Go.bits .or .i64 x7_2 ((rd_T48 l0 ((rd_T110 l2 x23_2).f0)).f1))) = true := beq_iff_eq.mpr c27; have c27b1 : (((rd_T110 l2 x23_2).f1) != (Go.bits .or .i64 x7_2 ((rd_T48 l0 ((rd_T110 l2 x23_2).f0)).f1))) = false := bne_eq_false_iff_eq.mpr c27; clear c27; have H' := Aside0.mk H; clear H; have p596 : 0 ≤ (x23_2 : Int) := of_decide_eq_true s3_; have q596 : x23_2 < (l2.length : Int) := of_decide_eq_true s3_; obtain ⟨ad596, e596, hx596_0, hx596_1⟩ := at_T110 HR2.out x23_2 p596 q596
              cases e596
              replace hx596_0 := (HB.out.cell (World.block_lt_of_cell? w _ hx596_0)).trans hx596_0; replace hx596_1 := (HB.out.cell (World.block_lt_of_cell? w _ hx596_1)).trans hx596_1; replace p596 := eq_true p596; replace q596 := eq_true q596
              try go_wp2_with (first | ((with_reducible refine gate_dst (N := 9) rfl ?_); (try (refine gate_guard (by rfl) ?_; dsimp only)); refine box_event ?hg (N := 9) ?hd (cs := #[.int .i64 0, .int .i64 0]) (t := 110) ?hr ?_; (case hd => rfl); (case hg => rfl); (case hr => first | (go_simp; done) | (go_simp; rfl)); intro gb597 hg w28 hbox hb; have n_ := ac_ (blk_below (g := gb589) (o := .cells #[.int .i64 a1_0, .int .i64 a1_1] 48 (0, 0)) q31_6 hb) <| ac_ (below_step q31_3 hb) <| ac_ (hbox) <| ac_ ((gz_ w hg q31_3)) <| ac_ ((gz_ w hg q31_3)) <| ac_ ((nl_ hg (blk_lt (g := gb589) (o := .cells #[.int .i64 a1_0, .int .i64 a1_1] 48 (0, 0)) q31_6))) <| Aside0.mk ((ng_ hg (blk_lt (g := gb589) (o := .cells #[.int .i64 a1_0, .int .i64 a1_1] 48 (0, 0)) q31_6))); clear BK589 HB; obtain ⟨BK589, HB, BK597, GW597, GE597, NB589_597, NB597_589⟩ := n_; clear hb hbox hg; have hnb29 := NB597_589.out; have hnc29 := NB589_597.out; have hcz30_0 : w28.cell? ⟨gb597, 0, none⟩ = some (.int .i64 0) := (blk_cell BK597.out 0).trans rfl; have hcz30_1 : w28.cell? ⟨gb597, 1, none⟩ = some (.int .i64 0) := (blk_cell BK597.out 1).trans rfl; have hfz30_0 := blk_frozen BK597.out 0; have hfz30_1 := blk_frozen BK597.out 1))
              have n0_ : Aside0 (((w28.setCell ⟨gb597, 0, none⟩ (.int .i64 ((rd_T110 l2 x23_2).f0))).setCell ⟨gb597, 1, none⟩ (.int .i64 ((rd_T110 l2 x23_2).f1))).heap[gb589]? = some (.cells #[.int .i64 a1_0, .int .i64 a1_1] 48 (0, 0))) := ⟨by (with_reducible repeat (first | refine blk_drewN ?_ _ | refine blk_drew ?_ | refine blk_alloc ?_ _)); refine blk_far ?_ NB589_597.out _; (with_reducible repeat (first | refine blk_drewN ?_ _ | refine blk_drew ?_ | refine blk_alloc ?_ _)); refine blk_far ?_ NB589_597.out _; (with_reducible repeat (first | refine blk_drewN ?_ _ | refine blk_drew ?_ | refine blk_alloc ?_ _)); exact BK589.out⟩
              have n1_ : Aside0 (((w28.setCell ⟨gb597, 0, none⟩ (.int .i64 ((rd_T110 l2 x23_2).f0))).setCell ⟨gb597, 1, none⟩ (.int .i64 ((rd_T110 l2 x23_2).f1))).heap[gb597]? = some (.cells #[.int .i64 ((rd_T110 l2 x23_2).f0), .int .i64 ((rd_T110 l2 x23_2).f1)] 110 (0, 0))) := ⟨by (with_reducible repeat (first | refine blk_drewN ?_ _ | refine blk_drew ?_ | refine blk_alloc ?_ _)); refine blk_put (cs := #[.int .i64 ((rd_T110 l2 x23_2).f0), .int .i64 0]) ?_ 1 _ rfl; (with_reducible repeat (first | refine blk_drewN ?_ _ | refine blk_drew ?_ | refine blk_alloc ?_ _)); refine blk_put (cs := #[.int .i64 0, .int .i64 0]) ?_ 0 _ rfl; (with_reducible repeat (first | refine blk_drewN ?_ _ | refine blk_drew ?_ | refine blk_alloc ?_ _)); exact BK597.out⟩
              have n2_ : Aside0 (Below w.heap.size w ((w28.setCell ⟨gb597, 0, none⟩ (.int .i64 ((rd_T110 l2 x23_2).f0))).setCell ⟨gb597, 1, none⟩ (.int .i64 ((rd_T110 l2 x23_2).f1)))) := ⟨by repeat (first | (with_reducible first | exact HB.out | apply below_alloc | apply pw_below_drewN | apply below_drew1 | refine below_set ?_ GE589.out | refine below_set ?_ GE597.out) | exact HB.out)⟩
              (try clear BK589)
              (try clear BK597)
              (try clear HB)
              generalize ((w28.setCell ⟨gb597, 0, none⟩ (.int .i64 ((rd_T110 l2 x23_2).f0))).setCell ⟨gb597, 1, none⟩ (.int .i64 ((rd_T110 l2 x23_2).f1))) = w31 at n0_ n1_ n2_ ⊢
              have BK589 := n0_; have BK597 := n1_; have HB := n2_; clear n0_ n1_ n2_; have n0_ := Aside0.mk (blk_drew BK589.out); have n1_ := Aside0.mk (blk_drew BK597.out); have n2_ := Aside0.mk (below_drew1 HB.out); clear BK589; clear BK597; clear HB; have BK589 := n0_; have BK597 := n1_; have HB := n2_; clear n0_ n1_ n2_; have p599 : 0 ≤ (((rd_T110 l2 x23_2).f0) : Int) := of_decide_eq_true s3_; have q599 : ((rd_T110 l2 x23_2).f0) < (l0.length : Int) := of_decide_eq_true s3_; obtain ⟨ad599, e599, hx599_0, hx599_1⟩ := at_T48 HR0.out ((rd_T110 l2 x23_2).f0) p599 q599; have hw599_1 := hx599_1; have hw599_0 := hx599_0
              cases e599
              replace hx599_0 := (HB.out.cell (World.block_lt_of_cell? w _ hx599_0)).trans hx599_0; replace hx599_1 := (HB.out.cell (World.block_lt_of_cell? w _ hx599_1)).trans hx599_1; replace p599 := eq_true p599; replace q599 := eq_true q599; have p601 : 0 ≤ (((rd_T110 l2 x23_2).f0) : Int) := of_decide_eq_true s3_; have q601 : ((rd_T110 l2 x23_2).f0) < (l0.length : Int) := of_decide_eq_true s3_; obtain ⟨ad601, e601, hx601_0, hx601_1⟩ := at_T48 HR0.out ((rd_T110 l2 x23_2).f0) p601 q601; have hw601_1 := hx601_1; have hw601_0 := hx601_0
              obtain rfl : ad599 = ad601 := (by injection e601)
              replace hx601_0 := (HB.out.cell (World.block_lt_of_cell? w _ hx601_0)).trans hx601_0; replace hx601_1 := (HB.out.cell (World.block_lt_of_cell? w _ hx601_1)).trans hx601_1; replace p601 := eq_true p601; replace q601 := eq_true q601
              refine start_ (n := 31) (S := fun w' => w'.cell? ⟨gb597, 0, none⟩ = some (.int .i64 ((rd_T110 l2 x23_2).f0)) ∧ w'.cell? ⟨gb597, 1, none⟩ = some (.int .i64 ((rd_T110 l2 x23_2).f1)) ∧ w'.cell? (ad599.add ((((rd_T110 l2 x23_2).f0)).toNat * 2)) = some (.int .i64 ((rd_T48 l0 ((rd_T110 l2 x23_2).f0)).f0)) ∧ w'.cell? ⟨(ad599.add ((((rd_T110 l2 x23_2).f0)).toNat * 2)).block, (ad599.add ((((rd_T110 l2 x23_2).f0)).toNat * 2)).off + 1, none⟩ = some (.int .i64 ((rd_T48 l0 ((rd_T110 l2 x23_2).f0)).f1)) ∧ w'.cell? (ad599.add ((((rd_T110 l2 x23_2).f0)).toNat * 2)) = some (.int .i64 ((rd_T48 l0 ((rd_T110 l2 x23_2).f0)).f0)) ∧ w'.cell? ⟨(ad599.add ((((rd_T110 l2 x23_2).f0)).toNat * 2)).block, (ad599.add ((((rd_T110 l2 x23_2).f0)).toNat * 2)).off + 1, none⟩ = some (.int .i64 ((rd_T48 l0 ((rd_T110 l2 x23_2).f0)).f1))) (ds := []) (tb_ 31 0) s10_ rfl rfl ⟨(blk_cell BK597.out 0).trans rfl, (blk_cell BK597.out 1).trans rfl, ((HB.out.cell (World.block_lt_of_cell? w _ hw599_0)).trans hw599_0), ((HB.out.cell (World.block_lt_of_cell? w _ hw599_1)).trans hw599_1), ((HB.out.cell (World.block_lt_of_cell? w _ hw601_0)).trans hw601_0), ((HB.out.cell (World.block_lt_of_cell? w _ hw601_1)).trans hw601_1)⟩ (fun hHeld => ?_); refine with_tabW impl_CheckProof.tab7 impl_CheckProof.bits7 (fun HT_ HW_ => ?_)
              generalize w31.drew = w32 at BK589 BK597 HB hx599_0 hx599_1 hx601_0 hx601_1 hHeld ⊢
              refine pl_ 0 27 (tb_ 31 1) ?_; refine pl_ 2 29 (tb_ 31 5) ?_; refine pl_ 3 30 (tb_ 31 13) ?_; refine pl_ 4 31 (tb_ 31 29) ?_; refine tk_ 1 28 (tb_ 31 31) hHeld ?_
              refine on_ 5 32 (tb_ 31 63) (fun K hK => ?_)
              refine goes_ Tryz.func127 s10_ rfl #[.int .i64 ((rd_T110 l2 x23_2).f0), .int .i64 0, .int .i64 (wrap64 ((l0.length : Int) - 1))] (by rfl) rfl rfl s0_ ?_
              with_reducible refine (impl_within.calls ((rd_T110 l2 x23_2).f0) 0 (wrap64 ((l0.length : Int) - 1)) true _ A21.out).mono ?_
              rintro e w' ⟨rfl, ⟨nd, rfl⟩⟩
              refine ⟨_, rfl, ?_⟩
              refine hK.out _ _ ⟨(blk_cell BK597.out 0).trans rfl, (blk_cell BK597.out 1).trans rfl, ((HB.out.cell (World.block_lt_of_cell? w _ hw599_0)).trans hw599_0), ((HB.out.cell (World.block_lt_of_cell? w _ hw599_1)).trans hw599_1), ((HB.out.cell (World.block_lt_of_cell? w _ hw601_0)).trans hw601_0), ((HB.out.cell (World.block_lt_of_cell? w _ hw601_1)).trans hw601_1)⟩ (fun hHeld => ?_)
              clear hK K
              refine norm_ (a' := ?_) ?_ ?_
              rotate_left
              ·
               show Act.put _ (some 32) _ = _
               exact s6_
              refine pl_ 6 33 (tb_ 31 127) ?_; refine pl_ 7 34 (tb_ 31 255) ?_; refine pl_ 8 35 (tb_ 31 511) ?_; refine pl_ 9 36 (tb_ 31 1023) ?_; refine pl_ 14 41 (tb_ 31 17407) ?_; refine tk_ 10 37 (tb_ 31 18431) hHeld ?_; refine pl_ 11 38 (tb_ 31 20479) ?_; refine pl_ 12 39 (tb_ 31 24575) ?_; refine tk_ 13 40 (tb_ 31 32767) hHeld ?_
              refine on_ 15 42 (tb_ 31 65535) (fun K hK => ?_)
              refine goes_ Tryz.func141 s10_ rfl #[.int .i64 ((rd_T48 l0 ((rd_T110 l2 x23_2).f0)).f0), .int .i64 x7_2] (by rfl) rfl rfl s0_ ?_
              with_reducible refine (impl_inSet.calls ((rd_T48 l0 ((rd_T110 l2 x23_2).f0)).f0) x7_2 true _ A25.out).mono ?_
              rintro e w' ⟨rfl, ⟨nd, rfl⟩⟩
              refine ⟨_, rfl, ?_⟩
              refine hK.out _ _ ⟨(blk_cell BK597.out 0).trans rfl, (blk_cell BK597.out 1).trans rfl, ((HB.out.cell (World.block_lt_of_cell? w _ hw599_0)).trans hw599_0), ((HB.out.cell (World.block_lt_of_cell? w _ hw599_1)).trans hw599_1), ((HB.out.cell (World.block_lt_of_cell? w _ hw601_0)).trans hw601_0), ((HB.out.cell (World.block_lt_of_cell? w _ hw601_1)).trans hw601_1)⟩ (fun hHeld => ?_)
              clear hK K
              refine norm_ (a' := ?_) ?_ ?_
              rotate_left
              ·
               show Act.put _ (some 42) _ = _
               exact s6_
              refine pl_ 16 43 (tb_ 31 131071) ?_; refine pl_ 17 44 (tb_ 31 262143) ?_; refine pl_ 18 45 (tb_ 31 524287) ?_; refine pl_ 19 46 (tb_ 31 1048575) ?_; refine pl_ 21 48 (tb_ 31 3145727) ?_; refine pl_ 22 49 (tb_ 31 7340031) ?_; refine pl_ 23 50 (tb_ 31 15728639) ?_; refine tk_ 20 47 (tb_ 31 16777215) hHeld ?_; refine tk_ 24 51 (tb_ 31 33554431) hHeld ?_; refine pl_ 25 52 (tb_ 31 67108863) ?_; refine pl_ 26 53 (tb_ 31 134217727) ?_; refine tk_ 27 54 (tb_ 31 268435455) hHeld ?_; refine pl_ 28 55 (tb_ 31 536870911) ?_; refine pl_ 29 56 (tb_ 31 1073741823) ?_; refine pl_ 30 57 (tb_ 31 2147483647) ?_
              refine done_ (done_of HT_.out s10_) ?_
              have hcz33_0 : w32.cell? ⟨gb597, 0, none⟩ = some (.int .i64 ((rd_T110 l2 x23_2).f0)) := (blk_cell BK597.out 0).trans rfl; have hcz33_1 : w32.cell? ⟨gb597, 1, none⟩ = some (.int .i64 ((rd_T110 l2 x23_2).f1)) := (blk_cell BK597.out 1).trans rfl; have hfz33_0 := blk_frozen BK597.out 0; have hfz33_1 := blk_frozen BK597.out 1
              try go_wp2
              go_roundg k2
              case measure => have := HJ3.out; have := HK2.out; omega
              case rel => exact ⟨((rd_T110 l2 x23_2).f1), (wrap64 (x23_2 + 1)), s2_, s2_, H', ⟨by have := HJ3.out; have := HK2.out; omega⟩, ⟨q31_6⟩, ⟨q31_1⟩⟩
             ·
              rw [if_neg c27] at H; have c27b0 : (((rd_T110 l2 x23_2).f1) == (Go.bits .or .i64 x7_2 ((rd_T48 l0 ((rd_T110 l2 x23_2).f0)).f1))) = false := beq_eq_false_iff_ne.mpr c27; have c27b1 : (((rd_T110 l2 x23_2).f1) != (Go.bits .or .i64 x7_2 ((rd_T48 l0 ((rd_T110 l2 x23_2).f0)).f1))) = true := bne_iff_ne.mpr c27; obtain rfl := Option.some.inj H; have p596 : 0 ≤ (x23_2 : Int) := of_decide_eq_true s3_; have q596 : x23_2 < (l2.length : Int) := of_decide_eq_true s3_; obtain ⟨ad596, e596, hx596_0, hx596_1⟩ := at_T110 HR2.out x23_2 p596 q596
              cases e596
              replace hx596_0 := (HB.out.cell (World.block_lt_of_cell? w _ hx596_0)).trans hx596_0; replace hx596_1 := (HB.out.cell (World.block_lt_of_cell? w _ hx596_1)).trans hx596_1; replace p596 := eq_true p596; replace q596 := eq_true q596
              try go_wp2_with (first | ((with_reducible refine gate_dst (N := 9) rfl ?_); (try (refine gate_guard (by rfl) ?_; dsimp only)); refine box_event ?hg (N := 9) ?hd (cs := #[.int .i64 0, .int .i64 0]) (t := 110) ?hr ?_; (case hd => rfl); (case hg => rfl); (case hr => first | (go_simp; done) | (go_simp; rfl)); intro gb597 hg w34 hbox hb; have n_ := ac_ (blk_below (g := gb589) (o := .cells #[.int .i64 a1_0, .int .i64 a1_1] 48 (0, 0)) q31_6 hb) <| ac_ (below_step q31_3 hb) <| ac_ (hbox) <| ac_ ((gz_ w hg q31_3)) <| ac_ ((gz_ w hg q31_3)) <| ac_ ((nl_ hg (blk_lt (g := gb589) (o := .cells #[.int .i64 a1_0, .int .i64 a1_1] 48 (0, 0)) q31_6))) <| Aside0.mk ((ng_ hg (blk_lt (g := gb589) (o := .cells #[.int .i64 a1_0, .int .i64 a1_1] 48 (0, 0)) q31_6))); clear BK589 HB; obtain ⟨BK589, HB, BK597, GW597, GE597, NB589_597, NB597_589⟩ := n_; clear hb hbox hg; have hnb35 := NB597_589.out; have hnc35 := NB589_597.out; have hcz36_0 : w34.cell? ⟨gb597, 0, none⟩ = some (.int .i64 0) := (blk_cell BK597.out 0).trans rfl; have hcz36_1 : w34.cell? ⟨gb597, 1, none⟩ = some (.int .i64 0) := (blk_cell BK597.out 1).trans rfl; have hfz36_0 := blk_frozen BK597.out 0; have hfz36_1 := blk_frozen BK597.out 1))
              have n0_ : Aside0 (((w34.setCell ⟨gb597, 0, none⟩ (.int .i64 ((rd_T110 l2 x23_2).f0))).setCell ⟨gb597, 1, none⟩ (.int .i64 ((rd_T110 l2 x23_2).f1))).heap[gb589]? = some (.cells #[.int .i64 a1_0, .int .i64 a1_1] 48 (0, 0))) := ⟨by (with_reducible repeat (first | refine blk_drewN ?_ _ | refine blk_drew ?_ | refine blk_alloc ?_ _)); refine blk_far ?_ NB589_597.out _; (with_reducible repeat (first | refine blk_drewN ?_ _ | refine blk_drew ?_ | refine blk_alloc ?_ _)); refine blk_far ?_ NB589_597.out _; (with_reducible repeat (first | refine blk_drewN ?_ _ | refine blk_drew ?_ | refine blk_alloc ?_ _)); exact BK589.out⟩
              have n1_ : Aside0 (((w34.setCell ⟨gb597, 0, none⟩ (.int .i64 ((rd_T110 l2 x23_2).f0))).setCell ⟨gb597, 1, none⟩ (.int .i64 ((rd_T110 l2 x23_2).f1))).heap[gb597]? = some (.cells #[.int .i64 ((rd_T110 l2 x23_2).f0), .int .i64 ((rd_T110 l2 x23_2).f1)] 110 (0, 0))) := ⟨by (with_reducible repeat (first | refine blk_drewN ?_ _ | refine blk_drew ?_ | refine blk_alloc ?_ _)); refine blk_put (cs := #[.int .i64 ((rd_T110 l2 x23_2).f0), .int .i64 0]) ?_ 1 _ rfl; (with_reducible repeat (first | refine blk_drewN ?_ _ | refine blk_drew ?_ | refine blk_alloc ?_ _)); refine blk_put (cs := #[.int .i64 0, .int .i64 0]) ?_ 0 _ rfl; (with_reducible repeat (first | refine blk_drewN ?_ _ | refine blk_drew ?_ | refine blk_alloc ?_ _)); exact BK597.out⟩
              have n2_ : Aside0 (Below w.heap.size w ((w34.setCell ⟨gb597, 0, none⟩ (.int .i64 ((rd_T110 l2 x23_2).f0))).setCell ⟨gb597, 1, none⟩ (.int .i64 ((rd_T110 l2 x23_2).f1)))) := ⟨by repeat (first | (with_reducible first | exact HB.out | apply below_alloc | apply pw_below_drewN | apply below_drew1 | refine below_set ?_ GE589.out | refine below_set ?_ GE597.out) | exact HB.out)⟩
              (try clear BK589)
              (try clear BK597)
              (try clear HB)
              generalize ((w34.setCell ⟨gb597, 0, none⟩ (.int .i64 ((rd_T110 l2 x23_2).f0))).setCell ⟨gb597, 1, none⟩ (.int .i64 ((rd_T110 l2 x23_2).f1))) = w37 at n0_ n1_ n2_ ⊢
              have BK589 := n0_; have BK597 := n1_; have HB := n2_; clear n0_ n1_ n2_; have n0_ := Aside0.mk (blk_drew BK589.out); have n1_ := Aside0.mk (blk_drew BK597.out); have n2_ := Aside0.mk (below_drew1 HB.out); clear BK589; clear BK597; clear HB; have BK589 := n0_; have BK597 := n1_; have HB := n2_; clear n0_ n1_ n2_; have p599 : 0 ≤ (((rd_T110 l2 x23_2).f0) : Int) := of_decide_eq_true s3_; have q599 : ((rd_T110 l2 x23_2).f0) < (l0.length : Int) := of_decide_eq_true s3_; obtain ⟨ad599, e599, hx599_0, hx599_1⟩ := at_T48 HR0.out ((rd_T110 l2 x23_2).f0) p599 q599; have hw599_1 := hx599_1; have hw599_0 := hx599_0
              cases e599
              replace hx599_0 := (HB.out.cell (World.block_lt_of_cell? w _ hx599_0)).trans hx599_0; replace hx599_1 := (HB.out.cell (World.block_lt_of_cell? w _ hx599_1)).trans hx599_1; replace p599 := eq_true p599; replace q599 := eq_true q599; have p601 : 0 ≤ (((rd_T110 l2 x23_2).f0) : Int) := of_decide_eq_true s3_; have q601 : ((rd_T110 l2 x23_2).f0) < (l0.length : Int) := of_decide_eq_true s3_; obtain ⟨ad601, e601, hx601_0, hx601_1⟩ := at_T48 HR0.out ((rd_T110 l2 x23_2).f0) p601 q601; have hw601_1 := hx601_1; have hw601_0 := hx601_0
              obtain rfl : ad599 = ad601 := (by injection e601)
              replace hx601_0 := (HB.out.cell (World.block_lt_of_cell? w _ hx601_0)).trans hx601_0; replace hx601_1 := (HB.out.cell (World.block_lt_of_cell? w _ hx601_1)).trans hx601_1; replace p601 := eq_true p601; replace q601 := eq_true q601
              refine start_ (n := 31) (S := fun w' => w'.cell? ⟨gb597, 0, none⟩ = some (.int .i64 ((rd_T110 l2 x23_2).f0)) ∧ w'.cell? ⟨gb597, 1, none⟩ = some (.int .i64 ((rd_T110 l2 x23_2).f1)) ∧ w'.cell? (ad599.add ((((rd_T110 l2 x23_2).f0)).toNat * 2)) = some (.int .i64 ((rd_T48 l0 ((rd_T110 l2 x23_2).f0)).f0)) ∧ w'.cell? ⟨(ad599.add ((((rd_T110 l2 x23_2).f0)).toNat * 2)).block, (ad599.add ((((rd_T110 l2 x23_2).f0)).toNat * 2)).off + 1, none⟩ = some (.int .i64 ((rd_T48 l0 ((rd_T110 l2 x23_2).f0)).f1)) ∧ w'.cell? (ad599.add ((((rd_T110 l2 x23_2).f0)).toNat * 2)) = some (.int .i64 ((rd_T48 l0 ((rd_T110 l2 x23_2).f0)).f0)) ∧ w'.cell? ⟨(ad599.add ((((rd_T110 l2 x23_2).f0)).toNat * 2)).block, (ad599.add ((((rd_T110 l2 x23_2).f0)).toNat * 2)).off + 1, none⟩ = some (.int .i64 ((rd_T48 l0 ((rd_T110 l2 x23_2).f0)).f1))) (ds := []) (tb_ 31 0) s10_ rfl rfl ⟨(blk_cell BK597.out 0).trans rfl, (blk_cell BK597.out 1).trans rfl, ((HB.out.cell (World.block_lt_of_cell? w _ hw599_0)).trans hw599_0), ((HB.out.cell (World.block_lt_of_cell? w _ hw599_1)).trans hw599_1), ((HB.out.cell (World.block_lt_of_cell? w _ hw601_0)).trans hw601_0), ((HB.out.cell (World.block_lt_of_cell? w _ hw601_1)).trans hw601_1)⟩ (fun hHeld => ?_); refine with_tabW impl_CheckProof.tab7 impl_CheckProof.bits7 (fun HT_ HW_ => ?_)
              generalize w37.drew = w38 at BK589 BK597 HB hx599_0 hx599_1 hx601_0 hx601_1 hHeld ⊢
              refine pl_ 0 27 (tb_ 31 1) ?_; refine pl_ 2 29 (tb_ 31 5) ?_; refine pl_ 3 30 (tb_ 31 13) ?_; refine pl_ 4 31 (tb_ 31 29) ?_; refine tk_ 1 28 (tb_ 31 31) hHeld ?_
              refine on_ 5 32 (tb_ 31 63) (fun K hK => ?_)
              refine goes_ Tryz.func127 s10_ rfl #[.int .i64 ((rd_T110 l2 x23_2).f0), .int .i64 0, .int .i64 (wrap64 ((l0.length : Int) - 1))] (by rfl) rfl rfl s0_ ?_
              with_reducible refine (impl_within.calls ((rd_T110 l2 x23_2).f0) 0 (wrap64 ((l0.length : Int) - 1)) true _ A21.out).mono ?_
              rintro e w' ⟨rfl, ⟨nd, rfl⟩⟩
              refine ⟨_, rfl, ?_⟩
              refine hK.out _ _ ⟨(blk_cell BK597.out 0).trans rfl, (blk_cell BK597.out 1).trans rfl, ((HB.out.cell (World.block_lt_of_cell? w _ hw599_0)).trans hw599_0), ((HB.out.cell (World.block_lt_of_cell? w _ hw599_1)).trans hw599_1), ((HB.out.cell (World.block_lt_of_cell? w _ hw601_0)).trans hw601_0), ((HB.out.cell (World.block_lt_of_cell? w _ hw601_1)).trans hw601_1)⟩ (fun hHeld => ?_)
              clear hK K
              refine norm_ (a' := ?_) ?_ ?_
              rotate_left
              ·
               show Act.put _ (some 32) _ = _
               exact s6_
              refine pl_ 6 33 (tb_ 31 127) ?_; refine pl_ 7 34 (tb_ 31 255) ?_; refine pl_ 8 35 (tb_ 31 511) ?_; refine pl_ 9 36 (tb_ 31 1023) ?_; refine pl_ 14 41 (tb_ 31 17407) ?_; refine tk_ 10 37 (tb_ 31 18431) hHeld ?_; refine pl_ 11 38 (tb_ 31 20479) ?_; refine pl_ 12 39 (tb_ 31 24575) ?_; refine tk_ 13 40 (tb_ 31 32767) hHeld ?_
              refine on_ 15 42 (tb_ 31 65535) (fun K hK => ?_)
              refine goes_ Tryz.func141 s10_ rfl #[.int .i64 ((rd_T48 l0 ((rd_T110 l2 x23_2).f0)).f0), .int .i64 x7_2] (by rfl) rfl rfl s0_ ?_
              with_reducible refine (impl_inSet.calls ((rd_T48 l0 ((rd_T110 l2 x23_2).f0)).f0) x7_2 true _ A25.out).mono ?_
              rintro e w' ⟨rfl, ⟨nd, rfl⟩⟩
              refine ⟨_, rfl, ?_⟩
              refine hK.out _ _ ⟨(blk_cell BK597.out 0).trans rfl, (blk_cell BK597.out 1).trans rfl, ((HB.out.cell (World.block_lt_of_cell? w _ hw599_0)).trans hw599_0), ((HB.out.cell (World.block_lt_of_cell? w _ hw599_1)).trans hw599_1), ((HB.out.cell (World.block_lt_of_cell? w _ hw601_0)).trans hw601_0), ((HB.out.cell (World.block_lt_of_cell? w _ hw601_1)).trans hw601_1)⟩ (fun hHeld => ?_)
              clear hK K
              refine norm_ (a' := ?_) ?_ ?_
              rotate_left
              ·
               show Act.put _ (some 42) _ = _
               exact s6_
              refine pl_ 16 43 (tb_ 31 131071) ?_; refine pl_ 17 44 (tb_ 31 262143) ?_; refine pl_ 18 45 (tb_ 31 524287) ?_; refine pl_ 19 46 (tb_ 31 1048575) ?_; refine pl_ 21 48 (tb_ 31 3145727) ?_; refine pl_ 22 49 (tb_ 31 7340031) ?_; refine pl_ 23 50 (tb_ 31 15728639) ?_; refine tk_ 20 47 (tb_ 31 16777215) hHeld ?_; refine tk_ 24 51 (tb_ 31 33554431) hHeld ?_; refine pl_ 25 52 (tb_ 31 67108863) ?_; refine pl_ 26 53 (tb_ 31 134217727) ?_; refine tk_ 27 54 (tb_ 31 268435455) hHeld ?_; refine pl_ 28 55 (tb_ 31 536870911) ?_; refine pl_ 29 56 (tb_ 31 1073741823) ?_; refine pl_ 30 57 (tb_ 31 2147483647) ?_
              refine done_ (done_of HT_.out s10_) ?_
              try go_wp2
              go_ret
              exact ⟨s4_, q31_1⟩
            ·
             replace c26 := Bool.eq_false_iff.mpr c26; subst c26
             rw [if_neg (show ¬ (false = true) by decide)] at H
             obtain rfl := Option.some.inj H; have p596 : 0 ≤ (x23_2 : Int) := of_decide_eq_true s3_; have q596 : x23_2 < (l2.length : Int) := of_decide_eq_true s3_; obtain ⟨ad596, e596, hx596_0, hx596_1⟩ := at_T110 HR2.out x23_2 p596 q596
             cases e596
             replace hx596_0 := (HB.out.cell (World.block_lt_of_cell? w _ hx596_0)).trans hx596_0; replace hx596_1 := (HB.out.cell (World.block_lt_of_cell? w _ hx596_1)).trans hx596_1; replace p596 := eq_true p596; replace q596 := eq_true q596
             try go_wp2_with (first | ((with_reducible refine gate_dst (N := 9) rfl ?_); (try (refine gate_guard (by rfl) ?_; dsimp only)); refine box_event ?hg (N := 9) ?hd (cs := #[.int .i64 0, .int .i64 0]) (t := 110) ?hr ?_; (case hd => rfl); (case hg => rfl); (case hr => first | (go_simp; done) | (go_simp; rfl)); intro gb597 hg w39 hbox hb; have n_ := ac_ (blk_below (g := gb589) (o := .cells #[.int .i64 a1_0, .int .i64 a1_1] 48 (0, 0)) q31_6 hb) <| ac_ (below_step q31_3 hb) <| ac_ (hbox) <| ac_ ((gz_ w hg q31_3)) <| ac_ ((gz_ w hg q31_3)) <| ac_ ((nl_ hg (blk_lt (g := gb589) (o := .cells #[.int .i64 a1_0, .int .i64 a1_1] 48 (0, 0)) q31_6))) <| Aside0.mk ((ng_ hg (blk_lt (g := gb589) (o := .cells #[.int .i64 a1_0, .int .i64 a1_1] 48 (0, 0)) q31_6))); clear BK589 HB; obtain ⟨BK589, HB, BK597, GW597, GE597, NB589_597, NB597_589⟩ := n_; clear hb hbox hg; have hnb40 := NB597_589.out; have hnc40 := NB589_597.out; have hcz41_0 : w39.cell? ⟨gb597, 0, none⟩ = some (.int .i64 0) := (blk_cell BK597.out 0).trans rfl; have hcz41_1 : w39.cell? ⟨gb597, 1, none⟩ = some (.int .i64 0) := (blk_cell BK597.out 1).trans rfl; have hfz41_0 := blk_frozen BK597.out 0; have hfz41_1 := blk_frozen BK597.out 1))
             have n0_ : Aside0 (((w39.setCell ⟨gb597, 0, none⟩ (.int .i64 ((rd_T110 l2 x23_2).f0))).setCell ⟨gb597, 1, none⟩ (.int .i64 ((rd_T110 l2 x23_2).f1))).heap[gb589]? = some (.cells #[.int .i64 a1_0, .int .i64 a1_1] 48 (0, 0))) := ⟨by (with_reducible repeat (first | refine blk_drewN ?_ _ | refine blk_drew ?_ | refine blk_alloc ?_ _)); refine blk_far ?_ NB589_597.out _; (with_reducible repeat (first | refine blk_drewN ?_ _ | refine blk_drew ?_ | refine blk_alloc ?_ _)); refine blk_far ?_ NB589_597.out _; (with_reducible repeat (first | refine blk_drewN ?_ _ | refine blk_drew ?_ | refine blk_alloc ?_ _)); exact BK589.out⟩
             have n1_ : Aside0 (((w39.setCell ⟨gb597, 0, none⟩ (.int .i64 ((rd_T110 l2 x23_2).f0))).setCell ⟨gb597, 1, none⟩ (.int .i64 ((rd_T110 l2 x23_2).f1))).heap[gb597]? = some (.cells #[.int .i64 ((rd_T110 l2 x23_2).f0), .int .i64 ((rd_T110 l2 x23_2).f1)] 110 (0, 0))) := ⟨by (with_reducible repeat (first | refine blk_drewN ?_ _ | refine blk_drew ?_ | refine blk_alloc ?_ _)); refine blk_put (cs := #[.int .i64 ((rd_T110 l2 x23_2).f0), .int .i64 0]) ?_ 1 _ rfl; (with_reducible repeat (first | refine blk_drewN ?_ _ | refine blk_drew ?_ | refine blk_alloc ?_ _)); refine blk_put (cs := #[.int .i64 0, .int .i64 0]) ?_ 0 _ rfl; (with_reducible repeat (first | refine blk_drewN ?_ _ | refine blk_drew ?_ | refine blk_alloc ?_ _)); exact BK597.out⟩
             have n2_ : Aside0 (Below w.heap.size w ((w39.setCell ⟨gb597, 0, none⟩ (.int .i64 ((rd_T110 l2 x23_2).f0))).setCell ⟨gb597, 1, none⟩ (.int .i64 ((rd_T110 l2 x23_2).f1)))) := ⟨by repeat (first | (with_reducible first | exact HB.out | apply below_alloc | apply pw_below_drewN | apply below_drew1 | refine below_set ?_ GE589.out | refine below_set ?_ GE597.out) | exact HB.out)⟩
             (try clear BK589)
             (try clear BK597)
             (try clear HB)
             generalize ((w39.setCell ⟨gb597, 0, none⟩ (.int .i64 ((rd_T110 l2 x23_2).f0))).setCell ⟨gb597, 1, none⟩ (.int .i64 ((rd_T110 l2 x23_2).f1))) = w42 at n0_ n1_ n2_ ⊢
             have BK589 := n0_; have BK597 := n1_; have HB := n2_; clear n0_ n1_ n2_; have n0_ := Aside0.mk (blk_drew BK589.out); have n1_ := Aside0.mk (blk_drew BK597.out); have n2_ := Aside0.mk (below_drew1 HB.out); clear BK589; clear BK597; clear HB; have BK589 := n0_; have BK597 := n1_; have HB := n2_; clear n0_ n1_ n2_; have p599 : 0 ≤ (((rd_T110 l2 x23_2).f0) : Int) := of_decide_eq_true s3_; have q599 : ((rd_T110 l2 x23_2).f0) < (l0.length : Int) := of_decide_eq_true s3_; obtain ⟨ad599, e599, hx599_0, hx599_1⟩ := at_T48 HR0.out ((rd_T110 l2 x23_2).f0) p599 q599; have hw599_1 := hx599_1; have hw599_0 := hx599_0
             cases e599
             replace hx599_0 := (HB.out.cell (World.block_lt_of_cell? w _ hx599_0)).trans hx599_0; replace hx599_1 := (HB.out.cell (World.block_lt_of_cell? w _ hx599_1)).trans hx599_1; replace p599 := eq_true p599; replace q599 := eq_true q599
             refine start_ (n := 31) (S := fun w' => w'.cell? ⟨gb597, 0, none⟩ = some (.int .i64 ((rd_T110 l2 x23_2).f0)) ∧ w'.cell? ⟨gb597, 1, none⟩ = some (.int .i64 ((rd_T110 l2 x23_2).f1)) ∧ w'.cell? (ad599.add ((((rd_T110 l2 x23_2).f0)).toNat * 2)) = some (.int .i64 ((rd_T48 l0 ((rd_T110 l2 x23_2).f0)).f0)) ∧ w'.cell? ⟨(ad599.add ((((rd_T110 l2 x23_2).f0)).toNat * 2)).block, (ad599.add ((((rd_T110 l2 x23_2).f0)).toNat * 2)).off + 1, none⟩ = some (.int .i64 ((rd_T48 l0 ((rd_T110 l2 x23_2).f0)).f1))) (ds := []) (tb_ 31 0) s10_ rfl rfl ⟨(blk_cell BK597.out 0).trans rfl, (blk_cell BK597.out 1).trans rfl, ((HB.out.cell (World.block_lt_of_cell? w _ hw599_0)).trans hw599_0), ((HB.out.cell (World.block_lt_of_cell? w _ hw599_1)).trans hw599_1)⟩ (fun hHeld => ?_); refine with_tabW impl_CheckProof.tab7 impl_CheckProof.bits7 (fun HT_ HW_ => ?_)
             generalize w42.drew = w43 at BK589 BK597 HB hx599_0 hx599_1 hHeld ⊢
             refine pl_ 0 27 (tb_ 31 1) ?_; refine pl_ 2 29 (tb_ 31 5) ?_; refine pl_ 3 30 (tb_ 31 13) ?_; refine pl_ 4 31 (tb_ 31 29) ?_; refine tk_ 1 28 (tb_ 31 31) hHeld ?_
             refine on_ 5 32 (tb_ 31 63) (fun K hK => ?_)
             refine goes_ Tryz.func127 s10_ rfl #[.int .i64 ((rd_T110 l2 x23_2).f0), .int .i64 0, .int .i64 (wrap64 ((l0.length : Int) - 1))] (by rfl) rfl rfl s0_ ?_
             with_reducible refine (impl_within.calls ((rd_T110 l2 x23_2).f0) 0 (wrap64 ((l0.length : Int) - 1)) true _ A21.out).mono ?_
             rintro e w' ⟨rfl, ⟨nd, rfl⟩⟩
             refine ⟨_, rfl, ?_⟩
             refine hK.out _ _ ⟨(blk_cell BK597.out 0).trans rfl, (blk_cell BK597.out 1).trans rfl, ((HB.out.cell (World.block_lt_of_cell? w _ hw599_0)).trans hw599_0), ((HB.out.cell (World.block_lt_of_cell? w _ hw599_1)).trans hw599_1)⟩ (fun hHeld => ?_)
             clear hK K
             refine norm_ (a' := ?_) ?_ ?_
             rotate_left
             ·
              show Act.put _ (some 32) _ = _
              exact s6_
             refine pl_ 6 33 (tb_ 31 127) ?_; refine pl_ 7 34 (tb_ 31 255) ?_; refine pl_ 8 35 (tb_ 31 511) ?_; refine pl_ 9 36 (tb_ 31 1023) ?_; refine pl_ 14 41 (tb_ 31 17407) ?_; refine tk_ 10 37 (tb_ 31 18431) hHeld ?_; refine pl_ 11 38 (tb_ 31 20479) ?_; refine pl_ 12 39 (tb_ 31 24575) ?_; refine tk_ 13 40 (tb_ 31 32767) hHeld ?_
             refine on_ 15 42 (tb_ 31 65535) (fun K hK => ?_)
             refine goes_ Tryz.func141 s10_ rfl #[.int .i64 ((rd_T48 l0 ((rd_T110 l2 x23_2).f0)).f0), .int .i64 x7_2] (by rfl) rfl rfl s0_ ?_
             with_reducible refine (impl_inSet.calls ((rd_T48 l0 ((rd_T110 l2 x23_2).f0)).f0) x7_2 false _ A25.out).mono ?_
             rintro e w' ⟨rfl, ⟨nd, rfl⟩⟩
             refine ⟨_, rfl, ?_⟩
             refine hK.out _ _ ⟨(blk_cell BK597.out 0).trans rfl, (blk_cell BK597.out 1).trans rfl, ((HB.out.cell (World.block_lt_of_cell? w _ hw599_0)).trans hw599_0), ((HB.out.cell (World.block_lt_of_cell? w _ hw599_1)).trans hw599_1)⟩ (fun hHeld => ?_)
             clear hK K
             refine norm_ (a' := ?_) ?_ ?_
             rotate_left
             ·
              show Act.put _ (some 42) _ = _
              exact s6_
             refine pl_ 16 43 (tb_ 31 131071) ?_; refine pl_ 17 44 (tb_ 31 262143) ?_; refine pl_ 18 45 (tb_ 31 524287) ?_; refine pr_ 19 46 (tb_ 31 1048575) ?_; refine pr_ 20 47 (tb_ 31 2097151) ?_; refine pr_ 21 48 (tb_ 31 4194303) ?_; refine pr_ 22 49 (tb_ 31 8388607) ?_; refine pr_ 23 50 (tb_ 31 16777215) ?_; refine pr_ 24 51 (tb_ 31 33554431) ?_; refine pr_ 25 52 (tb_ 31 67108863) ?_; refine pr_ 26 53 (tb_ 31 134217727) ?_; refine pr_ 27 54 (tb_ 31 268435455) ?_; refine pr_ 28 55 (tb_ 31 536870911) ?_; refine pr_ 29 56 (tb_ 31 1073741823) ?_; refine pl_ 30 57 (tb_ 31 2147483647) ?_
             refine done_ (done_of HT_.out s10_) ?_
             try go_wp2
             go_ret
             exact ⟨s4_, q31_1⟩
           ·
            rw [if_neg c24] at H
            exact absurd H (by simp)
          ·
           rw [if_neg c23] at H
           exact absurd H (by simp)
         ·
          replace c22 := Bool.eq_false_iff.mpr c22; subst c22
          rw [if_neg (show ¬ (false = true) by decide)] at H
          obtain rfl := Option.some.inj H; have p596 : 0 ≤ (x23_2 : Int) := of_decide_eq_true s3_; have q596 : x23_2 < (l2.length : Int) := of_decide_eq_true s3_; obtain ⟨ad596, e596, hx596_0, hx596_1⟩ := at_T110 HR2.out x23_2 p596 q596
          cases e596
          replace hx596_0 := (HB.out.cell (World.block_lt_of_cell? w _ hx596_0)).trans hx596_0; replace hx596_1 := (HB.out.cell (World.block_lt_of_cell? w _ hx596_1)).trans hx596_1; replace p596 := eq_true p596; replace q596 := eq_true q596
          try go_wp2_with (first | ((with_reducible refine gate_dst (N := 9) rfl ?_); (try (refine gate_guard (by rfl) ?_; dsimp only)); refine box_event ?hg (N := 9) ?hd (cs := #[.int .i64 0, .int .i64 0]) (t := 110) ?hr ?_; (case hd => rfl); (case hg => rfl); (case hr => first | (go_simp; done) | (go_simp; rfl)); intro gb597 hg w44 hbox hb; have n_ := ac_ (blk_below (g := gb589) (o := .cells #[.int .i64 a1_0, .int .i64 a1_1] 48 (0, 0)) q31_6 hb) <| ac_ (below_step q31_3 hb) <| ac_ (hbox) <| ac_ ((gz_ w hg q31_3)) <| ac_ ((gz_ w hg q31_3)) <| ac_ ((nl_ hg (blk_lt (g := gb589) (o := .cells #[.int .i64 a1_0, .int .i64 a1_1] 48 (0, 0)) q31_6))) <| Aside0.mk ((ng_ hg (blk_lt (g := gb589) (o := .cells #[.int .i64 a1_0, .int .i64 a1_1] 48 (0, 0)) q31_6))); clear BK589 HB; obtain ⟨BK589, HB, BK597, GW597, GE597, NB589_597, NB597_589⟩ := n_; clear hb hbox hg; have hnb45 := NB597_589.out; have hnc45 := NB589_597.out; have hcz46_0 : w44.cell? ⟨gb597, 0, none⟩ = some (.int .i64 0) := (blk_cell BK597.out 0).trans rfl; have hcz46_1 : w44.cell? ⟨gb597, 1, none⟩ = some (.int .i64 0) := (blk_cell BK597.out 1).trans rfl; have hfz46_0 := blk_frozen BK597.out 0; have hfz46_1 := blk_frozen BK597.out 1))
          have n0_ : Aside0 (((w44.setCell ⟨gb597, 0, none⟩ (.int .i64 ((rd_T110 l2 x23_2).f0))).setCell ⟨gb597, 1, none⟩ (.int .i64 ((rd_T110 l2 x23_2).f1))).heap[gb589]? = some (.cells #[.int .i64 a1_0, .int .i64 a1_1] 48 (0, 0))) := ⟨by (with_reducible repeat (first | refine blk_drewN ?_ _ | refine blk_drew ?_ | refine blk_alloc ?_ _)); refine blk_far ?_ NB589_597.out _; (with_reducible repeat (first | refine blk_drewN ?_ _ | refine blk_drew ?_ | refine blk_alloc ?_ _)); refine blk_far ?_ NB589_597.out _; (with_reducible repeat (first | refine blk_drewN ?_ _ | refine blk_drew ?_ | refine blk_alloc ?_ _)); exact BK589.out⟩
          have n1_ : Aside0 (((w44.setCell ⟨gb597, 0, none⟩ (.int .i64 ((rd_T110 l2 x23_2).f0))).setCell ⟨gb597, 1, none⟩ (.int .i64 ((rd_T110 l2 x23_2).f1))).heap[gb597]? = some (.cells #[.int .i64 ((rd_T110 l2 x23_2).f0), .int .i64 ((rd_T110 l2 x23_2).f1)] 110 (0, 0))) := ⟨by (with_reducible repeat (first | refine blk_drewN ?_ _ | refine blk_drew ?_ | refine blk_alloc ?_ _)); refine blk_put (cs := #[.int .i64 ((rd_T110 l2 x23_2).f0), .int .i64 0]) ?_ 1 _ rfl; (with_reducible repeat (first | refine blk_drewN ?_ _ | refine blk_drew ?_ | refine blk_alloc ?_ _)); refine blk_put (cs := #[.int .i64 0, .int .i64 0]) ?_ 0 _ rfl; (with_reducible repeat (first | refine blk_drewN ?_ _ | refine blk_drew ?_ | refine blk_alloc ?_ _)); exact BK597.out⟩
          have n2_ : Aside0 (Below w.heap.size w ((w44.setCell ⟨gb597, 0, none⟩ (.int .i64 ((rd_T110 l2 x23_2).f0))).setCell ⟨gb597, 1, none⟩ (.int .i64 ((rd_T110 l2 x23_2).f1)))) := ⟨by repeat (first | (with_reducible first | exact HB.out | apply below_alloc | apply pw_below_drewN | apply below_drew1 | refine below_set ?_ GE589.out | refine below_set ?_ GE597.out) | exact HB.out)⟩
          (try clear BK589)
          (try clear BK597)
          (try clear HB)
          generalize ((w44.setCell ⟨gb597, 0, none⟩ (.int .i64 ((rd_T110 l2 x23_2).f0))).setCell ⟨gb597, 1, none⟩ (.int .i64 ((rd_T110 l2 x23_2).f1))) = w47 at n0_ n1_ n2_ ⊢
          have BK589 := n0_; have BK597 := n1_; have HB := n2_; clear n0_ n1_ n2_; have n0_ := Aside0.mk (blk_drew BK589.out); have n1_ := Aside0.mk (blk_drew BK597.out); have n2_ := Aside0.mk (below_drew1 HB.out); clear BK589; clear BK597; clear HB; have BK589 := n0_; have BK597 := n1_; have HB := n2_; clear n0_ n1_ n2_
          refine start_ (n := 31) (S := fun w' => w'.cell? ⟨gb597, 0, none⟩ = some (.int .i64 ((rd_T110 l2 x23_2).f0)) ∧ w'.cell? ⟨gb597, 1, none⟩ = some (.int .i64 ((rd_T110 l2 x23_2).f1))) (ds := []) (tb_ 31 0) s10_ rfl rfl ⟨(blk_cell BK597.out 0).trans rfl, (blk_cell BK597.out 1).trans rfl⟩ (fun hHeld => ?_); refine with_tabW impl_CheckProof.tab7 impl_CheckProof.bits7 (fun HT_ HW_ => ?_)
          generalize w47.drew = w48 at BK589 BK597 HB hHeld ⊢
          refine pl_ 0 27 (tb_ 31 1) ?_; refine pl_ 2 29 (tb_ 31 5) ?_; refine pl_ 3 30 (tb_ 31 13) ?_; refine pl_ 4 31 (tb_ 31 29) ?_; refine tk_ 1 28 (tb_ 31 31) hHeld ?_
          refine on_ 5 32 (tb_ 31 63) (fun K hK => ?_)
          refine goes_ Tryz.func127 s10_ rfl #[.int .i64 ((rd_T110 l2 x23_2).f0), .int .i64 0, .int .i64 (wrap64 ((l0.length : Int) - 1))] (by rfl) rfl rfl s0_ ?_
          with_reducible refine (impl_within.calls ((rd_T110 l2 x23_2).f0) 0 (wrap64 ((l0.length : Int) - 1)) false _ A21.out).mono ?_
          rintro e w' ⟨rfl, ⟨nd, rfl⟩⟩
          refine ⟨_, rfl, ?_⟩
          refine hK.out _ _ ⟨(blk_cell BK597.out 0).trans rfl, (blk_cell BK597.out 1).trans rfl⟩ (fun hHeld => ?_)
          clear hK K
          refine norm_ (a' := ?_) ?_ ?_
          rotate_left
          ·
           show Act.put _ (some 32) _ = _
           exact s6_
          refine pl_ 6 33 (tb_ 31 127) ?_; refine pl_ 7 34 (tb_ 31 255) ?_; refine pr_ 8 35 (tb_ 31 511) ?_; refine pr_ 9 36 (tb_ 31 1023) ?_; refine pr_ 10 37 (tb_ 31 2047) ?_; refine pr_ 11 38 (tb_ 31 4095) ?_; refine pr_ 12 39 (tb_ 31 8191) ?_; refine pr_ 13 40 (tb_ 31 16383) ?_; refine pr_ 14 41 (tb_ 31 32767) ?_; refine pr_ 15 42 (tb_ 31 65535) ?_; refine pr_ 16 43 (tb_ 31 131071) ?_; refine pl_ 17 44 (tb_ 31 262143) ?_; refine pl_ 18 45 (tb_ 31 524287) ?_; refine pr_ 19 46 (tb_ 31 1048575) ?_; refine pr_ 20 47 (tb_ 31 2097151) ?_; refine pr_ 21 48 (tb_ 31 4194303) ?_; refine pr_ 22 49 (tb_ 31 8388607) ?_; refine pr_ 23 50 (tb_ 31 16777215) ?_; refine pr_ 24 51 (tb_ 31 33554431) ?_; refine pr_ 25 52 (tb_ 31 67108863) ?_; refine pr_ 26 53 (tb_ 31 134217727) ?_; refine pr_ 27 54 (tb_ 31 268435455) ?_; refine pr_ 28 55 (tb_ 31 536870911) ?_; refine pr_ 29 56 (tb_ 31 1073741823) ?_; refine pl_ 30 57 (tb_ 31 2147483647) ?_
          refine done_ (done_of HT_.out s10_) ?_
          try go_wp2
          go_ret
          exact ⟨s4_, q31_1⟩
        ·
         rw [if_neg c20] at H
         exact absurd H (by simp)
       ·
        rw [if_neg c19] at H
        exact absurd H (by simp)
      ·
       rw [if_neg c18] at H; have c18b0 : decide (x23_2 < (l2.length : Int)) = false := decide_eq_false c18; clear c18; obtain ⟨t595, A49, H⟩ := bnd31_ H; obtain rfl := Option.some.inj H; have hcz50_0 : wr.cell? ⟨gb589, 0, none⟩ = some (.int .i64 a1_0) := (blk_cell BK589.out 0).trans rfl; have hcz50_1 : wr.cell? ⟨gb589, 1, none⟩ = some (.int .i64 a1_1) := (blk_cell BK589.out 1).trans rfl; have hfz50_0 := blk_frozen BK589.out 0; have hfz50_1 := blk_frozen BK589.out 1
       go_wp2_with ((with_reducible refine gw_ rfl ?_); (refine gL_ 141 64 Tryz.func141 #[.int .i64 a1_1, .int .i64 x7_2] ?_; (with_reducible refine (impl_inSet.calls a1_1 x7_2 t595 _ A49.out).mono ?_); rintro e w' ⟨rfl, ⟨nd, rfl⟩⟩; refine ⟨_, rfl, ?_⟩))
       go_ret
       exact ⟨s4_, q31_3⟩
set_option maxHeartbeats 40000000
set_option maxRecDepth 100000
theorem bnd29_ {α β : Type} {o : Option α} {f : α → Option β} {r : β} (h : o.bind f = some r) : ∃ a, Aside0 (o = some a) ∧ f a = some r := by
 obtain ⟨a, h1, h2⟩ := Option.bind_eq_some_iff.mp h
 exact ⟨a, ⟨h1⟩, h2⟩
theorem q29_1 {P : Prop} (h : P := by repeat (first | (with_reducible first | exact HB.out | apply below_alloc | apply pw_below_drewN | apply below_drew1 | refine below_set ?_ GE314.out) | exact HB.out)) : P := h
mutual
def impl_OneStep.j0 : Nat → List (S48) → Int → Bool → Option (Int)
 | 0, _, _, _ => none
 | k + 1, x0, x1, x15 => if x15 = true then (some x1) else (impl_OneStep.l0 k x1 x1 x0 (x0.length : Int) 0)
def impl_OneStep.l0 : Nat → Int → Int → List (S48) → Int → Int → Option (Int)
 | 0, _, _, _, _, _ => none
 | k + 1, x1, x5, x18, x19, x20 => if x20 < x19 then (if 0 ≤ x20 then (if x20 < (x18.length : Int) then ((impl_inSet.f ((rd_T48 x18 x20).f0) x1).bind fun t315 => (if t315 = true then (impl_OneStep.l0 k x1 (Go.bits .or .i64 x5 ((rd_T48 x18 x20).f1)) x18 x19 (wrap64 (x20 + 1))) else (impl_OneStep.l0 k x1 x5 x18 x19 (wrap64 (x20 + 1))))) else (none)) else (none)) else (some x5)
end
def impl_OneStep.f (k : Nat) (l0 : List (S48)) (a1 : Int) : Option (Int) := (impl_isAnySet.f a1).bind fun t311 => (if t311 = true then ((impl_areAnyRules.f l0).bind fun t312 => (impl_OneStep.j0 k l0 a1 (!t312))) else (impl_OneStep.j0 k l0 a1 true))
theorem impl_OneStep.calls (k : Nat) (A0 : Option Addr) (c0 : Nat) (l0 : List (S48)) (a1 : Int) (r : Int) (w : World) (hr0 : Kd.C k48 w A0 l0.length l0) (hc0 : l0.length ≤ c0) (h : impl_OneStep.f k l0 a1 = some r) :
  Calls Tryz.prog 116 #[.slice A0 l0.length c0, .int .i64 a1] w fun e w' => e = .returned (.int .i64 r) ∧ Below w.heap.size w w' := by
 have hu48 := Tryz.underlying48; have HR0 := Aside0.mk hr0; have HC0 := Aside0.mk hc0; clear hr0 hc0; have HB := Aside0.mk (Below.refl w.heap.size w); have H := h; clear h; unfold impl_OneStep.f at H; have HC3 := Aside0.mk H; clear H
 go_enter Tryz.func116, Tryz.ntmps116
 go_upto_region 1 with (fail)
 go_cut [15] (fun v15 wc => ∃ (kq : Nat) (x15_2 : Bool), v15 = .bool x15_2 ∧ Aside0 (impl_OneStep.j0 kq l0 a1 x15_2 = some r) ∧ Aside0 (kq ≤ k) ∧ Aside0 (Below w.heap.size w wc))
 case first =>
  have H := HC3.out; clear HC3; obtain ⟨t311, A4, H⟩ := bnd29_ H
  by_cases c5 : t311 = true
  ·
   subst c5; rw [if_pos rfl] at H; obtain ⟨t312, A6, H⟩ := bnd29_ H; have H' := Aside0.mk H; clear H
   go_wp2_with (first | ((with_reducible refine gw_ rfl ?_); (refine gL_ 177 9 Tryz.func177 #[.int .i64 a1] ?_; (with_reducible refine (impl_isAnySet.calls a1 true _ A4.out).mono ?_); rintro e w' ⟨rfl, ⟨nd, rfl⟩⟩; refine ⟨_, rfl, ?_⟩)) | (go_at_call 149; (with_reducible refine (impl_areAnyRules.calls _ _ l0 t312 _ ?side1 ?side2 A6.out).mono ?_); (case side1 => repeat (first | exact (Kd.C_below HR0.out s1_) | (with_reducible refine Kd.C_alloc ?_ _) | (with_reducible refine Kd.C_drewN ?_ _) | (with_reducible refine Kd.C_drew ?_))); (case side2 => exact HC0.out); rintro e w7 ⟨rfl, hb⟩; have n_ := Aside0.mk (below_step s1_ hb); clear HB; have HB := n_; clear n_; (try clear hb)))
   go_meet
   case rel => exact ⟨_, (!t312), s2_, H', ⟨(by first | omega | exact Nat.le_refl _)⟩, ⟨s1_⟩⟩
  ·
   replace c5 := Bool.eq_false_iff.mpr c5; subst c5
   rw [if_neg (show ¬ (false = true) by decide)] at H
   have H' := Aside0.mk H; clear H
   go_wp2_with ((with_reducible refine gw_ rfl ?_); (refine gL_ 177 9 Tryz.func177 #[.int .i64 a1] ?_; (with_reducible refine (impl_isAnySet.calls a1 false _ A4.out).mono ?_); rintro e w' ⟨rfl, ⟨nd, rfl⟩⟩; refine ⟨_, rfl, ?_⟩))
   go_meet
   case rel => exact ⟨_, (true), s2_, H', ⟨(by first | omega | exact Nat.le_refl _)⟩, ⟨s1_⟩⟩
 case rest =>
  clear HC3
  try clear c1
  try clear p2
  try clear c5
  obtain ⟨kq, x15_2, rfl, HA, HJ2, HB⟩ := hcut
  cases kq with
  | zero => exact absurd HA.out (by simp [impl_OneStep.j0])
  | succ kj2 =>
   have H := HA.out; clear HA
   simp only [impl_OneStep.j0] at H
   by_cases c8 : x15_2 = true
   ·
    subst c8; rw [if_pos rfl] at H; obtain rfl := Option.some.inj H
    go_wp2
    go_ret
    exact ⟨(by first | rfl | (simp [errW_none, errW_some] <;> rfl) | (simp [*, errW_none, errW_some] <;> rfl)), s1_⟩
   ·
    replace c8 := Bool.eq_false_iff.mpr c8; subst c8
    rw [if_neg (show ¬ (false = true) by decide)] at H
    have H' := Aside0.mk H; clear H
    go_wp2
    go_loopg [5, 20] kj2 (fun kq v5 v20 w' => ∃ (x5_2 : Int) (x20_2 : Int), v5 = .int .i64 x5_2 ∧ v20 = .int .i64 x20_2 ∧ Aside0 (impl_OneStep.l0 kq a1 x5_2 l0 (l0.length : Int) x20_2 = some r) ∧ Aside0 (kq ≤ kj2) ∧ Aside0 (Below w.heap.size w w'))
    case atStart => exact ⟨(a1), (0), s2_, s2_, H', ⟨Nat.le_refl _⟩, ⟨s1_⟩⟩
    case round =>
     clear H'
     try clear c1
     try clear p2
     try clear c5
     try clear c8
     try clear p2
     obtain ⟨x5_2, x20_2, rfl, rfl, HA, HK2, HB⟩ := hrel
     cases gk with
     | zero => exact absurd HA.out (by simp [impl_OneStep.l0])
     | succ k2 =>
      have H := HA.out; clear HA
      simp only [impl_OneStep.l0] at H
      by_cases c9 : x20_2 < (l0.length : Int)
      ·
       rw [if_pos c9] at H; have c9b0 : decide (x20_2 < (l0.length : Int)) = true := decide_eq_true c9; clear c9
       by_cases c10 : 0 ≤ x20_2
       ·
        rw [if_pos c10] at H; have c10b0 : decide (0 ≤ x20_2) = true := decide_eq_true c10; clear c10
        by_cases c11 : x20_2 < (l0.length : Int)
        ·
         rw [if_pos c11] at H; have c11b0 : decide (x20_2 < (l0.length : Int)) = true := decide_eq_true c11; clear c11; obtain ⟨t315, A12, H⟩ := bnd29_ H
         by_cases c13 : t315 = true
         ·
          subst c13; rw [if_pos rfl] at H; have H' := Aside0.mk H; clear H; have p313 : 0 ≤ (x20_2 : Int) := of_decide_eq_true s3_; have q313 : x20_2 < (l0.length : Int) := of_decide_eq_true s3_; obtain ⟨ad313, e313, hx313_0, hx313_1⟩ := at_T48 HR0.out x20_2 p313 q313
          cases e313
          replace hx313_0 := (HB.out.cell (World.block_lt_of_cell? w _ hx313_0)).trans hx313_0; replace hx313_1 := (HB.out.cell (World.block_lt_of_cell? w _ hx313_1)).trans hx313_1; replace p313 := eq_true p313; replace q313 := eq_true q313
          go_wp2_with ((with_reducible refine gw_ rfl ?_); first | (refine be_ 7 #[.int .i64 0, .int .i64 0] 48 ?_; intro gb314 hg w14 hbox hb; have n_ := ac_ (below_step s1_ hb) <| ac_ (hbox) <| ac_ ((gz_ w hg s1_)) <| Aside0.mk ((gz_ w hg s1_)); clear HB; obtain ⟨HB, BK314, GW314, GE314⟩ := n_; clear hb hbox hg; have hcz15_0 : w14.cell? ⟨gb314, 0, none⟩ = some (.int .i64 0) := (blk_cell BK314.out 0).trans rfl; have hcz15_1 : w14.cell? ⟨gb314, 1, none⟩ = some (.int .i64 0) := (blk_cell BK314.out 1).trans rfl; have hfz15_0 := blk_frozen BK314.out 0; have hfz15_1 := blk_frozen BK314.out 1) | (refine gL_ 141 27 Tryz.func141 #[.int .i64 ((rd_T48 l0 x20_2).f0), .int .i64 a1] ?_; (with_reducible refine (impl_inSet.calls ((rd_T48 l0 x20_2).f0) a1 true _ A12.out).mono ?_); rintro e w' ⟨rfl, ⟨nd, rfl⟩⟩; refine ⟨_, rfl, ?_⟩))
          go_roundg k2
          case measure => have := HJ2.out; have := HK2.out; omega
          case rel => exact ⟨(Go.bits .or .i64 x5_2 ((rd_T48 l0 x20_2).f1)), (wrap64 (x20_2 + 1)), s2_, s2_, H', ⟨by have := HJ2.out; have := HK2.out; omega⟩, ⟨q29_1⟩⟩
         ·
          replace c13 := Bool.eq_false_iff.mpr c13; subst c13
          rw [if_neg (show ¬ (false = true) by decide)] at H
          have H' := Aside0.mk H; clear H; have p313 : 0 ≤ (x20_2 : Int) := of_decide_eq_true s3_; have q313 : x20_2 < (l0.length : Int) := of_decide_eq_true s3_; obtain ⟨ad313, e313, hx313_0, hx313_1⟩ := at_T48 HR0.out x20_2 p313 q313
          cases e313
          replace hx313_0 := (HB.out.cell (World.block_lt_of_cell? w _ hx313_0)).trans hx313_0; replace hx313_1 := (HB.out.cell (World.block_lt_of_cell? w _ hx313_1)).trans hx313_1; replace p313 := eq_true p313; replace q313 := eq_true q313
          go_wp2_with ((with_reducible refine gw_ rfl ?_); first | (refine be_ 7 #[.int .i64 0, .int .i64 0] 48 ?_; intro gb314 hg w16 hbox hb; have n_ := ac_ (below_step s1_ hb) <| ac_ (hbox) <| ac_ ((gz_ w hg s1_)) <| Aside0.mk ((gz_ w hg s1_)); clear HB; obtain ⟨HB, BK314, GW314, GE314⟩ := n_; clear hb hbox hg; have hcz17_0 : w16.cell? ⟨gb314, 0, none⟩ = some (.int .i64 0) := (blk_cell BK314.out 0).trans rfl; have hcz17_1 : w16.cell? ⟨gb314, 1, none⟩ = some (.int .i64 0) := (blk_cell BK314.out 1).trans rfl; have hfz17_0 := blk_frozen BK314.out 0; have hfz17_1 := blk_frozen BK314.out 1) | (refine gL_ 141 27 Tryz.func141 #[.int .i64 ((rd_T48 l0 x20_2).f0), .int .i64 a1] ?_; (with_reducible refine (impl_inSet.calls ((rd_T48 l0 x20_2).f0) a1 false _ A12.out).mono ?_); rintro e w' ⟨rfl, ⟨nd, rfl⟩⟩; refine ⟨_, rfl, ?_⟩))
          go_roundg k2
          case measure => have := HJ2.out; have := HK2.out; omega
          case rel => exact ⟨(x5_2), (wrap64 (x20_2 + 1)), s2_, s2_, H', ⟨by have := HJ2.out; have := HK2.out; omega⟩, ⟨q29_1⟩⟩
        ·
         rw [if_neg c11] at H
         exact absurd H (by simp)
       ·
        rw [if_neg c10] at H
        exact absurd H (by simp)
      ·
       rw [if_neg c9] at H; have c9b0 : decide (x20_2 < (l0.length : Int)) = false := decide_eq_false c9; clear c9; obtain rfl := Option.some.inj H
       go_wp2
       go_ret
       exact ⟨(by first | rfl | (simp [errW_none, errW_some] <;> rfl) | (simp [*, errW_none, errW_some] <;> rfl)), s1_⟩
mutual
def impl_ClosedBy.j0 : Nat → List (S48) → Int → Bool → Option (Int)
 | 0, _, _, _ => none
 | k + 1, x0, x1, x13 => if x13 = true then (some x1) else ((impl_OneStep.f k x0 x1).bind fun t318 => (impl_ClosedBy.l0 k x0 x1 t318))
def impl_ClosedBy.l0 : Nat → List (S48) → Int → Int → Option (Int)
 | 0, _, _, _ => none
 | k + 1, x0, x1, x5 => if x5 = x1 then (some x1) else ((impl_OneStep.f k x0 x5).bind fun t319 => (impl_ClosedBy.l0 k x0 x5 t319))
end
def impl_ClosedBy.f (k : Nat) (l0 : List (S48)) (a1 : Int) : Option (Int) := (impl_isAnySet.f a1).bind fun t316 => (if t316 = true then ((impl_areAnyRules.f l0).bind fun t317 => (impl_ClosedBy.j0 k l0 a1 (!t317))) else (impl_ClosedBy.j0 k l0 a1 true))
theorem impl_ClosedBy.calls (k : Nat) (A0 : Option Addr) (c0 : Nat) (l0 : List (S48)) (a1 : Int) (r : Int) (w : World) (hr0 : Kd.C k48 w A0 l0.length l0) (hc0 : l0.length ≤ c0) (h : impl_ClosedBy.f k l0 a1 = some r) :
  Calls Tryz.prog 70 #[.slice A0 l0.length c0, .int .i64 a1] w fun e w' => e = .returned (.int .i64 r) ∧ Below w.heap.size w w' := by
 have HR0 := Aside0.mk hr0; have HC0 := Aside0.mk hc0; clear hr0 hc0; have HB := Aside0.mk (Below.refl w.heap.size w); have H := h; clear h; unfold impl_ClosedBy.f at H; have HC3 := Aside0.mk H; clear H
 go_enter Tryz.func70, Tryz.ntmps70
 go_upto_region 1 with (fail)
 go_cut [13] (fun v13 wc => ∃ (kq : Nat) (x13_2 : Bool), v13 = .bool x13_2 ∧ Aside0 (impl_ClosedBy.j0 kq l0 a1 x13_2 = some r) ∧ Aside0 (kq ≤ k) ∧ Aside0 (Below w.heap.size w wc))
 case first =>
  have H := HC3.out; clear HC3; obtain ⟨t316, A4, H⟩ := bnd29_ H
  by_cases c5 : t316 = true
  ·
   subst c5; rw [if_pos rfl] at H; obtain ⟨t317, A6, H⟩ := bnd29_ H; have H' := Aside0.mk H; clear H
   go_wp2_with (first | ((with_reducible refine gw_ rfl ?_); (refine gL_ 177 7 Tryz.func177 #[.int .i64 a1] ?_; (with_reducible refine (impl_isAnySet.calls a1 true _ A4.out).mono ?_); rintro e w' ⟨rfl, ⟨nd, rfl⟩⟩; refine ⟨_, rfl, ?_⟩)) | (go_at_call 149; (with_reducible refine (impl_areAnyRules.calls _ _ l0 t317 _ ?side1 ?side2 A6.out).mono ?_); (case side1 => repeat (first | exact (Kd.C_below HR0.out s1_) | (with_reducible refine Kd.C_alloc ?_ _) | (with_reducible refine Kd.C_drewN ?_ _) | (with_reducible refine Kd.C_drew ?_))); (case side2 => exact HC0.out); rintro e w7 ⟨rfl, hb⟩; have n_ := Aside0.mk (below_step s1_ hb); clear HB; have HB := n_; clear n_; (try clear hb)))
   go_meet
   case rel => exact ⟨_, (!t317), s2_, H', ⟨(by first | omega | exact Nat.le_refl _)⟩, ⟨s1_⟩⟩
  ·
   replace c5 := Bool.eq_false_iff.mpr c5; subst c5
   rw [if_neg (show ¬ (false = true) by decide)] at H
   have H' := Aside0.mk H; clear H
   go_wp2_with ((with_reducible refine gw_ rfl ?_); (refine gL_ 177 7 Tryz.func177 #[.int .i64 a1] ?_; (with_reducible refine (impl_isAnySet.calls a1 false _ A4.out).mono ?_); rintro e w' ⟨rfl, ⟨nd, rfl⟩⟩; refine ⟨_, rfl, ?_⟩))
   go_meet
   case rel => exact ⟨_, (true), s2_, H', ⟨(by first | omega | exact Nat.le_refl _)⟩, ⟨s1_⟩⟩
 case rest =>
  clear HC3
  try clear c1
  try clear p2
  try clear c5
  try clear c7
  obtain ⟨kq, x13_2, rfl, HA, HJ2, HB⟩ := hcut
  cases kq with
  | zero => exact absurd HA.out (by simp [impl_ClosedBy.j0])
  | succ kj2 =>
   have H := HA.out; clear HA
   simp only [impl_ClosedBy.j0] at H
   by_cases c8 : x13_2 = true
   ·
    subst c8; rw [if_pos rfl] at H; obtain rfl := Option.some.inj H
    go_wp2
    go_ret
    exact ⟨(by first | rfl | (simp [errW_none, errW_some] <;> rfl) | (simp [*, errW_none, errW_some] <;> rfl)), s1_⟩
   ·
    replace c8 := Bool.eq_false_iff.mpr c8; subst c8
    rw [if_neg (show ¬ (false = true) by decide)] at H
    obtain ⟨t318, A9, H⟩ := bnd29_ H; have H' := Aside0.mk H; clear H
    go_wp2_with ((with_reducible refine gw_ rfl ?_); (refine gL_ 116 17 Tryz.func116 #[.slice A0 l0.length c0, .int .i64 a1] ?_; (with_reducible refine (impl_OneStep.calls kj2 _ _ l0 a1 t318 _ ?side1 ?side2 A9.out).mono ?_); (case side1 => exact s5_); (case side2 => exact HC0.out); rintro e w10 ⟨rfl, hb⟩; refine ⟨_, rfl, ?_⟩; have n_ := Aside0.mk (below_step s1_ hb); clear HB; have HB := n_; clear n_; (try clear hb)))
    go_loopg [1, 5] kj2 (fun kq v1 v5 w' => ∃ (x1_2 : Int) (x5_2 : Int), v1 = .int .i64 x1_2 ∧ v5 = .int .i64 x5_2 ∧ Aside0 (impl_ClosedBy.l0 kq l0 x1_2 x5_2 = some r) ∧ Aside0 (kq ≤ kj2) ∧ Aside0 (Below w.heap.size w w'))
    case atStart => exact ⟨(a1), (t318), s2_, s2_, H', ⟨Nat.le_refl _⟩, ⟨s1_⟩⟩
    case round =>
     clear H'
     try clear c1
     try clear p2
     try clear c5
     try clear c7
     try clear c8
     try clear p2
     obtain ⟨x1_2, x5_2, rfl, rfl, HA, HK2, HB⟩ := hrel
     cases gk with
     | zero => exact absurd HA.out (by simp [impl_ClosedBy.l0])
     | succ k2 =>
      have H := HA.out; clear HA
      simp only [impl_ClosedBy.l0] at H
      by_cases c11 : x5_2 = x1_2
      ·
       rw [if_pos c11] at H; have c11b0 : (x5_2 == x1_2) = true := beq_iff_eq.mpr c11; have c11b1 : (x5_2 != x1_2) = false := bne_eq_false_iff_eq.mpr c11; clear c11; obtain rfl := Option.some.inj H
       go_wp2
       go_ret
       exact ⟨(by first | rfl | (simp [errW_none, errW_some] <;> rfl) | (simp [*, errW_none, errW_some] <;> rfl)), s1_⟩
      ·
       rw [if_neg c11] at H; have c11b0 : (x5_2 == x1_2) = false := beq_eq_false_iff_ne.mpr c11; have c11b1 : (x5_2 != x1_2) = true := bne_iff_ne.mpr c11; obtain ⟨t319, A12, H⟩ := bnd29_ H; have H' := Aside0.mk H; clear H
       go_wp2_with ((with_reducible refine gw_ rfl ?_); (refine gL_ 116 23 Tryz.func116 #[.slice A0 l0.length c0, .int .i64 x5_2] ?_; (with_reducible refine (impl_OneStep.calls k2 _ _ l0 x5_2 t319 _ ?side1 ?side2 A12.out).mono ?_); (case side1 => exact s5_); (case side2 => exact HC0.out); rintro e w13 ⟨rfl, hb⟩; refine ⟨_, rfl, ?_⟩; have n_ := Aside0.mk (below_step s1_ hb); clear HB; have HB := n_; clear n_; (try clear hb)))
       go_roundg k2
       case measure => have := HJ2.out; have := HK2.out; omega
       case rel => exact ⟨(x5_2), (t319), s2_, s2_, H', ⟨by have := HJ2.out; have := HK2.out; omega⟩, ⟨s1_⟩⟩
theorem q29_11 {P : Prop} (h : P := by repeat (first | exact (Kd.R_reads' HO324.out).2.2 | (with_reducible refine Kd.C_alloc ?_ _) | (with_reducible refine Kd.C_drewN ?_ _) | (with_reducible refine Kd.C_drew ?_))) : P := h
theorem q29_12 {P : Prop} (h : P := by repeat (first | (with_reducible first | exact HB.out | apply below_alloc | apply pw_below_drewN | apply below_drew1 | refine below_set ?_ GE320.out) | exact HB.out)) : P := h
theorem q29_15 {P : Prop} (h : P := by (with_reducible repeat (first | refine blk_drewN ?_ _ | refine blk_drew ?_ | refine blk_alloc ?_ _)); exact BK320.out) : P := h
theorem q29_16 {P : Prop} (h : P := by (with_reducible repeat (first | apply Kd.R_alloc | apply Kd.R_drewN | apply Kd.R_drew)); exact HO324.out) : P := h
def impl_Follows.f (k : Nat) (l0 : List (S48)) (a1_0 : Int) (a1_1 : Int) : Option (Bool) := (impl_areAnyRules.f l0).bind fun t321 => (if t321 = true then ((impl_areAnyRules.f (([(⟨a1_0, a1_1⟩ : S48)] : List (S48)))).bind fun t325 => (if t325 = true then ((impl_ClosedBy.f k l0 a1_0).bind fun t326 => ((impl_inSet.f a1_1 t326).bind fun t327 => (some t327))) else (some false))) else (some false))
def impl_Follows.T1 : Bool × List (List Nat × List Nat) := (true, [([], []), ([0], [0]), ([1, 1], [1]), ([2], [2]), ([3, 2], [2, 3]), ([4, 2, 2], [2, 4]), ([2, 5], [2, 5]), ([6, 5], [6]), ([7], [7]), ([8, 7], [7, 8]), ([7], [7]), ([7], [7]), ([11, 7], [7, 11]), ([10, 12, 7, 7], [7, 10, 12]), ([9, 13, 13, 7], [7, 9, 13]), ([7, 14], [7, 14]), ([15, 14, 0, 1, 2, 3, 4, 5, 6, 7, 8, 9, 10, 11, 12, 13, 14, 15], [15])])
def impl_Follows.B1 : List Nat := [0, 1, 3, 7, 15, 31, 63, 127, 255, 511, 255, 255, 2303, 7423, 16383, 32767, 65535]
theorem impl_Follows.tab1 : rtab .any (opsOf Tryz.f68 1) = impl_Follows.T1 := by kernel_rfl
theorem impl_Follows.bits1 : waitsOk impl_Follows.T1.2 impl_Follows.B1 = true := by kernel_rfl
theorem impl_Follows.calls (k : Nat) (A0 : Option Addr) (c0 : Nat) (l0 : List (S48)) (a1_0 : Int) (a1_1 : Int) (r : Bool) (w : World) (hr0 : Kd.C k48 w A0 l0.length l0) (hc0 : l0.length ≤ c0) (h : impl_Follows.f k l0 a1_0 a1_1 = some r) :
  Calls Tryz.prog 68 #[.slice A0 l0.length c0, .agg #[.int .i64 a1_0, .int .i64 a1_1]] w fun e w' => e = .returned (.bool r) ∧ Below w.heap.size w w' := by
 have hu48 := Tryz.underlying48; have HR0 := Aside0.mk hr0; have HC0 := Aside0.mk hc0; clear hr0 hc0; have HB := Aside0.mk (Below.refl w.heap.size w); have H := h; clear h; unfold impl_Follows.f at H; obtain ⟨t321, A3, H⟩ := bnd29_ H
 by_cases c4 : t321 = true
 ·
  subst c4; rw [if_pos rfl] at H; obtain ⟨y322, hy_⟩ : ∃ y_ : List (S48), y_ = (([(⟨a1_0, a1_1⟩ : S48)] : List (S48))) := ⟨_, rfl⟩
  replace H : ((impl_areAnyRules.f y322).bind fun t325 => (if t325 = true then ((impl_ClosedBy.f k l0 a1_0).bind fun t326 => ((impl_inSet.f a1_1 t326).bind fun t327 => (some t327))) else (some false))) = some r := rH_
  have Ny322 := Aside0.mk hy_; clear hy_; obtain ⟨t325, A5, H⟩ := bnd29_ H
  by_cases c6 : t325 = true
  ·
   subst c6; rw [if_pos rfl] at H; obtain ⟨t326, A7, H⟩ := bnd29_ H; obtain ⟨t327, A8, H⟩ := bnd29_ H; obtain rfl := Option.some.inj H
   go_enter Tryz.func68, Tryz.ntmps68
   try go_wp2_with (first | ((with_reducible refine gate_dst (N := 3) rfl ?_); (try (refine gate_guard (by rfl) ?_; dsimp only)); refine box_event ?hg (N := 3) ?hd (cs := #[.int .i64 a1_0, .int .i64 a1_1]) (t := 48) ?hr ?_; (case hd => rfl); (case hg => rfl); (case hr => first | (go_simp; done) | (go_simp; rfl)); intro gb320 hg w9 hbox hb; have n_ := ac_ (below_step s1_ hb) <| ac_ (hbox) <| ac_ ((gz_ w hg s1_)) <| Aside0.mk ((gz_ w hg s1_)); clear HB; obtain ⟨HB, BK320, GW320, GE320⟩ := n_; clear hb hbox hg))
   have n0_ := Aside0.mk (blk_drew BK320.out); have n1_ := Aside0.mk (below_drew1 HB.out); clear BK320; clear HB; have BK320 := n0_; have HB := n1_; clear n0_ n1_
   refine start_ (n := 17) (S := fun w' => w'.cell? ⟨gb320, 0, none⟩ = some (.int .i64 a1_0) ∧ w'.cell? ⟨gb320, 1, none⟩ = some (.int .i64 a1_1)) (ds := []) (tb_ 17 0) (by kernel_rfl) rfl rfl ⟨(blk_cell BK320.out 0).trans rfl, (blk_cell BK320.out 1).trans rfl⟩ (fun hHeld => ?_); refine with_tabW impl_Follows.tab1 impl_Follows.bits1 (fun HT_ HW_ => ?_)
   generalize w9.drew = w10 at BK320 HB hHeld ⊢
   refine pl_ 0 5 (tb_ 17 1) ?_
   refine on_ 1 6 (tb_ 17 3) (fun K hK => ?_)
   refine goes_ Tryz.func149 (by kernel_rfl) rfl #[.slice A0 l0.length c0] (by rfl) rfl rfl s0_ ?_
   with_reducible refine (impl_areAnyRules.calls _ _ l0 true _ ?side1 ?side2 A3.out).mono ?_
   (case side1 => exact s5_)
   (case side2 => exact HC0.out)
   rintro e w11 ⟨rfl, hb⟩
   refine ⟨_, rfl, ?_⟩
   have n0_ := Aside0.mk (blk_below (g := gb320) (o := .cells #[.int .i64 a1_0, .int .i64 a1_1] 48 (0, 0)) q29_15 hb); have n1_ := Aside0.mk (below_step q29_12 hb); clear BK320; clear HB; have BK320 := n0_; have HB := n1_; clear n0_ n1_
   (try clear hb)
   (try clear hb2)
   (try clear hk)
   (try clear hi)
   refine hK.out _ _ ⟨(blk_cell BK320.out 0).trans rfl, (blk_cell BK320.out 1).trans rfl⟩ (fun hHeld => ?_)
   clear hK K
   refine norm_ (a' := ?_) ?_ ?_
   rotate_left
   ·
    show Act.put _ (some 6) _ = _
    exact s6_
   refine pl_ 2 7 (tb_ 17 7) ?_; refine tk_ 3 8 (tb_ 17 15) hHeld ?_
   refine on_ 4 9 (tb_ 17 31) (fun K hK => ?_)
   refine Kd.R_lit_step k48 _ 48 ?hg (N := 9) ?hd (xs := ([(⟨a1_0, a1_1⟩ : S48)] : List (S48))) (inner := [.int .i64 a1_0, .int .i64 a1_1]) (ok := fun _ => True) (okp := fun _ => True) ?hr ?hp (fun _ hk => hk) trivial (Below.refl _ _) (Nat.le_refl _) (by simp) ?_; (case hd => rfl); (case hg => rfl); (case hr => first | (go_simp; done) | (go_simp; rfl)); (case hp => exact (Reps.c2 (show Kd.M k48 _ _ _ (⟨a1_0, a1_1⟩ : S48) [.int .i64 a1_0, .int .i64 a1_1] from (k48_mkM _ _ _ (⟨a1_0, a1_1⟩ : S48) )) (Reps.none _ _)))
   intro v323 w12 ho13 hb hg_ hnew_
   clear hg_ hnew_
   (first | rw [← Ny322.out] at ho13 | (simp only [Int.reduceToNat] at ho13; rw [← Ny322.out] at ho13))
   have n0_ := Aside0.mk (Kd.R_lower (Kd.R_newB ho13 (g := gb320) (o := .cells #[.int .i64 a1_0, .int .i64 a1_1] 48 (0, 0)) q29_15) (below_size q29_12)); have n1_ := Aside0.mk (blk_below (g := gb320) (o := .cells #[.int .i64 a1_0, .int .i64 a1_1] 48 (0, 0)) q29_15 hb); have n2_ := Aside0.mk (below_step q29_12 hb); clear BK320; clear HB; have HO324 := n0_; have BK320 := n1_; have HB := n2_; clear n0_ n1_ n2_; clear hb ho13; obtain ⟨Ao14, co14, eo14⟩ := Kd.R_slice HO324.out
   (first | subst eo14 | (injection eo14 with f1_ f2_ f3_; have f4_ := f1_.symm; have f5_ := f3_.symm; clear f1_ f2_ f3_; subst f4_; subst f5_))
   refine hK.out _ _ ⟨(blk_cell BK320.out 0).trans rfl, (blk_cell BK320.out 1).trans rfl⟩ (fun hHeld => ?_)
   clear hK K
   refine norm_ (a' := ?_) ?_ ?_
   rotate_left
   ·
    show Act.put _ (some 9) _ = _
    exact s6_
   refine on_ 5 10 (tb_ 17 63) (fun K hK => ?_)
   refine goes_ Tryz.func149 (by kernel_rfl) rfl #[.slice Ao14 y322.length co14] (by rfl) rfl rfl s0_ ?_
   with_reducible refine (impl_areAnyRules.calls _ _ y322 true _ ?side1 ?side2 A5.out).mono ?_
   (case side1 => exact q29_11)
   (case side2 => exact (Kd.R_reads' HO324.out).2.1)
   rintro e w15 ⟨rfl, hb⟩
   refine ⟨_, rfl, ?_⟩
   have n0_ := Aside0.mk (Kd.R_below q29_16 hb); have n1_ := Aside0.mk (blk_below (g := gb320) (o := .cells #[.int .i64 a1_0, .int .i64 a1_1] 48 (0, 0)) q29_15 hb); have n2_ := Aside0.mk (below_step q29_12 hb); clear HO324; clear BK320; clear HB; have HO324 := n0_; have BK320 := n1_; have HB := n2_; clear n0_ n1_ n2_
   (try clear hb)
   (try clear hb2)
   (try clear hk)
   (try clear hi)
   refine hK.out _ _ ⟨(blk_cell BK320.out 0).trans rfl, (blk_cell BK320.out 1).trans rfl⟩ (fun hHeld => ?_)
   clear hK K
   refine norm_ (a' := ?_) ?_ ?_
   rotate_left
   ·
    show Act.put _ (some 10) _ = _
    exact s6_
   refine pl_ 6 11 (tb_ 17 127) ?_; refine pl_ 7 12 (tb_ 17 255) ?_; refine pl_ 8 13 (tb_ 17 511) ?_; refine pl_ 10 15 (tb_ 17 1535) ?_; refine pl_ 11 16 (tb_ 17 3583) ?_; refine tk_ 9 14 (tb_ 17 4095) hHeld ?_; refine tk_ 12 17 (tb_ 17 8191) hHeld ?_
   refine on_ 13 18 (tb_ 17 16383) (fun K hK => ?_)
   refine goes_ Tryz.func70 (by kernel_rfl) rfl #[.slice A0 l0.length c0, .int .i64 a1_0] (by rfl) rfl rfl s0_ ?_
   with_reducible refine (impl_ClosedBy.calls k _ _ l0 a1_0 t326 _ ?side1 ?side2 A7.out).mono ?_
   (case side1 => exact s5_)
   (case side2 => exact HC0.out)
   rintro e w16 ⟨rfl, hb⟩
   refine ⟨_, rfl, ?_⟩
   have n0_ := Aside0.mk (Kd.R_below q29_16 hb); have n1_ := Aside0.mk (blk_below (g := gb320) (o := .cells #[.int .i64 a1_0, .int .i64 a1_1] 48 (0, 0)) q29_15 hb); have n2_ := Aside0.mk (below_step q29_12 hb); clear HO324; clear BK320; clear HB; have HO324 := n0_; have BK320 := n1_; have HB := n2_; clear n0_ n1_ n2_
   (try clear hb)
   (try clear hb2)
   (try clear hk)
   (try clear hi)
   refine hK.out _ _ ⟨(blk_cell BK320.out 0).trans rfl, (blk_cell BK320.out 1).trans rfl⟩ (fun hHeld => ?_)
   clear hK K
   refine norm_ (a' := ?_) ?_ ?_
   rotate_left
   ·
    show Act.put _ (some 18) _ = _
    exact s6_
   refine on_ 14 19 (tb_ 17 32767) (fun K hK => ?_)
   refine goes_ Tryz.func141 (by kernel_rfl) rfl #[.int .i64 a1_1, .int .i64 t326] (by rfl) rfl rfl s0_ ?_
   with_reducible refine (impl_inSet.calls a1_1 t326 t327 _ A8.out).mono ?_
   rintro e w' ⟨rfl, ⟨nd, rfl⟩⟩
   refine ⟨_, rfl, ?_⟩
   refine hK.out _ _ ⟨(blk_cell BK320.out 0).trans rfl, (blk_cell BK320.out 1).trans rfl⟩ (fun hHeld => ?_)
   clear hK K
   refine norm_ (a' := ?_) ?_ ?_
   rotate_left
   ·
    show Act.put _ (some 19) _ = _
    exact s6_
   refine pl_ 15 20 (tb_ 17 65535) ?_; refine pl_ 16 4 (tb_ 17 131071) ?_
   refine done_ (done_of HT_.out (by kernel_rfl)) ?_
   try go_wp2
   go_ret
   exact ⟨s4_, q29_12⟩
  ·
   replace c6 := Bool.eq_false_iff.mpr c6; subst c6
   rw [if_neg (show ¬ (false = true) by decide)] at H
   obtain rfl := Option.some.inj H
   go_enter Tryz.func68, Tryz.ntmps68
   try go_wp2_with (first | ((with_reducible refine gate_dst (N := 3) rfl ?_); (try (refine gate_guard (by rfl) ?_; dsimp only)); refine box_event ?hg (N := 3) ?hd (cs := #[.int .i64 a1_0, .int .i64 a1_1]) (t := 48) ?hr ?_; (case hd => rfl); (case hg => rfl); (case hr => first | (go_simp; done) | (go_simp; rfl)); intro gb320 hg w17 hbox hb; have n_ := ac_ (below_step s1_ hb) <| ac_ (hbox) <| ac_ ((gz_ w hg s1_)) <| Aside0.mk ((gz_ w hg s1_)); clear HB; obtain ⟨HB, BK320, GW320, GE320⟩ := n_; clear hb hbox hg))
   have n0_ := Aside0.mk (blk_drew BK320.out); have n1_ := Aside0.mk (below_drew1 HB.out); clear BK320; clear HB; have BK320 := n0_; have HB := n1_; clear n0_ n1_
   refine start_ (n := 17) (S := fun w' => w'.cell? ⟨gb320, 0, none⟩ = some (.int .i64 a1_0) ∧ w'.cell? ⟨gb320, 1, none⟩ = some (.int .i64 a1_1)) (ds := []) (tb_ 17 0) (by kernel_rfl) rfl rfl ⟨(blk_cell BK320.out 0).trans rfl, (blk_cell BK320.out 1).trans rfl⟩ (fun hHeld => ?_); refine with_tabW impl_Follows.tab1 impl_Follows.bits1 (fun HT_ HW_ => ?_)
   generalize w17.drew = w18 at BK320 HB hHeld ⊢
   refine pl_ 0 5 (tb_ 17 1) ?_
   refine on_ 1 6 (tb_ 17 3) (fun K hK => ?_)
   refine goes_ Tryz.func149 (by kernel_rfl) rfl #[.slice A0 l0.length c0] (by rfl) rfl rfl s0_ ?_
   with_reducible refine (impl_areAnyRules.calls _ _ l0 true _ ?side1 ?side2 A3.out).mono ?_
   (case side1 => exact s5_)
   (case side2 => exact HC0.out)
   rintro e w19 ⟨rfl, hb⟩
   refine ⟨_, rfl, ?_⟩
   have n0_ := Aside0.mk (blk_below (g := gb320) (o := .cells #[.int .i64 a1_0, .int .i64 a1_1] 48 (0, 0)) q29_15 hb); have n1_ := Aside0.mk (below_step q29_12 hb); clear BK320; clear HB; have BK320 := n0_; have HB := n1_; clear n0_ n1_
   (try clear hb)
   (try clear hb2)
   (try clear hk)
   (try clear hi)
   refine hK.out _ _ ⟨(blk_cell BK320.out 0).trans rfl, (blk_cell BK320.out 1).trans rfl⟩ (fun hHeld => ?_)
   clear hK K
   refine norm_ (a' := ?_) ?_ ?_
   rotate_left
   ·
    show Act.put _ (some 6) _ = _
    exact s6_
   refine pl_ 2 7 (tb_ 17 7) ?_; refine tk_ 3 8 (tb_ 17 15) hHeld ?_
   refine on_ 4 9 (tb_ 17 31) (fun K hK => ?_)
   refine Kd.R_lit_step k48 _ 48 ?hg (N := 9) ?hd (xs := ([(⟨a1_0, a1_1⟩ : S48)] : List (S48))) (inner := [.int .i64 a1_0, .int .i64 a1_1]) (ok := fun _ => True) (okp := fun _ => True) ?hr ?hp (fun _ hk => hk) trivial (Below.refl _ _) (Nat.le_refl _) (by simp) ?_; (case hd => rfl); (case hg => rfl); (case hr => first | (go_simp; done) | (go_simp; rfl)); (case hp => exact (Reps.c2 (show Kd.M k48 _ _ _ (⟨a1_0, a1_1⟩ : S48) [.int .i64 a1_0, .int .i64 a1_1] from (k48_mkM _ _ _ (⟨a1_0, a1_1⟩ : S48) )) (Reps.none _ _)))
   intro v323 w20 ho21 hb hg_ hnew_
   clear hg_ hnew_
   (first | rw [← Ny322.out] at ho21 | (simp only [Int.reduceToNat] at ho21; rw [← Ny322.out] at ho21))
   have n0_ := Aside0.mk (Kd.R_lower (Kd.R_newB ho21 (g := gb320) (o := .cells #[.int .i64 a1_0, .int .i64 a1_1] 48 (0, 0)) q29_15) (below_size q29_12)); have n1_ := Aside0.mk (blk_below (g := gb320) (o := .cells #[.int .i64 a1_0, .int .i64 a1_1] 48 (0, 0)) q29_15 hb); have n2_ := Aside0.mk (below_step q29_12 hb); clear BK320; clear HB; have HO324 := n0_; have BK320 := n1_; have HB := n2_; clear n0_ n1_ n2_; clear hb ho21; obtain ⟨Ao22, co22, eo22⟩ := Kd.R_slice HO324.out
   (first | subst eo22 | (injection eo22 with f1_ f2_ f3_; have f4_ := f1_.symm; have f5_ := f3_.symm; clear f1_ f2_ f3_; subst f4_; subst f5_))
   refine hK.out _ _ ⟨(blk_cell BK320.out 0).trans rfl, (blk_cell BK320.out 1).trans rfl⟩ (fun hHeld => ?_)
   clear hK K
   refine norm_ (a' := ?_) ?_ ?_
   rotate_left
   ·
    show Act.put _ (some 9) _ = _
    exact s6_
   refine on_ 5 10 (tb_ 17 63) (fun K hK => ?_)
   refine goes_ Tryz.func149 (by kernel_rfl) rfl #[.slice Ao22 y322.length co22] (by rfl) rfl rfl s0_ ?_
   with_reducible refine (impl_areAnyRules.calls _ _ y322 false _ ?side1 ?side2 A5.out).mono ?_
   (case side1 => exact q29_11)
   (case side2 => exact (Kd.R_reads' HO324.out).2.1)
   rintro e w23 ⟨rfl, hb⟩
   refine ⟨_, rfl, ?_⟩
   have n0_ := Aside0.mk (Kd.R_below q29_16 hb); have n1_ := Aside0.mk (blk_below (g := gb320) (o := .cells #[.int .i64 a1_0, .int .i64 a1_1] 48 (0, 0)) q29_15 hb); have n2_ := Aside0.mk (below_step q29_12 hb); clear HO324; clear BK320; clear HB; have HO324 := n0_; have BK320 := n1_; have HB := n2_; clear n0_ n1_ n2_
   (try clear hb)
   (try clear hb2)
   (try clear hk)
   (try clear hi)
   refine hK.out _ _ ⟨(blk_cell BK320.out 0).trans rfl, (blk_cell BK320.out 1).trans rfl⟩ (fun hHeld => ?_)
   clear hK K
   refine norm_ (a' := ?_) ?_ ?_
   rotate_left
   ·
    show Act.put _ (some 10) _ = _
    exact s6_
   refine pl_ 6 11 (tb_ 17 127) ?_; refine pl_ 7 12 (tb_ 17 255) ?_; refine pr_ 8 13 (tb_ 17 511) ?_; refine pr_ 9 14 (tb_ 17 1023) ?_; refine pr_ 10 15 (tb_ 17 2047) ?_; refine pr_ 11 16 (tb_ 17 4095) ?_; refine pr_ 12 17 (tb_ 17 8191) ?_; refine pr_ 13 18 (tb_ 17 16383) ?_; refine pr_ 14 19 (tb_ 17 32767) ?_; refine pl_ 15 20 (tb_ 17 65535) ?_; refine pl_ 16 4 (tb_ 17 131071) ?_
   refine done_ (done_of HT_.out (by kernel_rfl)) ?_
   try go_wp2
   go_ret
   exact ⟨s4_, q29_12⟩
 ·
  replace c4 := Bool.eq_false_iff.mpr c4; subst c4
  rw [if_neg (show ¬ (false = true) by decide)] at H
  obtain rfl := Option.some.inj H
  go_enter Tryz.func68, Tryz.ntmps68
  try go_wp2_with (first | ((with_reducible refine gate_dst (N := 3) rfl ?_); (try (refine gate_guard (by rfl) ?_; dsimp only)); refine box_event ?hg (N := 3) ?hd (cs := #[.int .i64 a1_0, .int .i64 a1_1]) (t := 48) ?hr ?_; (case hd => rfl); (case hg => rfl); (case hr => first | (go_simp; done) | (go_simp; rfl)); intro gb320 hg w24 hbox hb; have n_ := ac_ (below_step s1_ hb) <| ac_ (hbox) <| ac_ ((gz_ w hg s1_)) <| Aside0.mk ((gz_ w hg s1_)); clear HB; obtain ⟨HB, BK320, GW320, GE320⟩ := n_; clear hb hbox hg))
  have n0_ := Aside0.mk (blk_drew BK320.out); have n1_ := Aside0.mk (below_drew1 HB.out); clear BK320; clear HB; have BK320 := n0_; have HB := n1_; clear n0_ n1_
  refine start_ (n := 17) (S := fun w' => True) (ds := []) (tb_ 17 0) (by kernel_rfl) rfl rfl trivial (fun hHeld => ?_); refine with_tabW impl_Follows.tab1 impl_Follows.bits1 (fun HT_ HW_ => ?_)
  generalize w24.drew = w25 at BK320 HB hHeld ⊢
  refine pl_ 0 5 (tb_ 17 1) ?_
  refine on_ 1 6 (tb_ 17 3) (fun K hK => ?_)
  refine goes_ Tryz.func149 (by kernel_rfl) rfl #[.slice A0 l0.length c0] (by rfl) rfl rfl s0_ ?_
  with_reducible refine (impl_areAnyRules.calls _ _ l0 false _ ?side1 ?side2 A3.out).mono ?_
  (case side1 => exact s5_)
  (case side2 => exact HC0.out)
  rintro e w26 ⟨rfl, hb⟩
  refine ⟨_, rfl, ?_⟩
  have n0_ := Aside0.mk (blk_below (g := gb320) (o := .cells #[.int .i64 a1_0, .int .i64 a1_1] 48 (0, 0)) q29_15 hb); have n1_ := Aside0.mk (below_step q29_12 hb); clear BK320; clear HB; have BK320 := n0_; have HB := n1_; clear n0_ n1_
  (try clear hb)
  (try clear hb2)
  (try clear hk)
  (try clear hi)
  refine hK.out _ _ trivial (fun hHeld => ?_)
  clear hK K
  refine norm_ (a' := ?_) ?_ ?_
  rotate_left
  ·
   show Act.put _ (some 6) _ = _
   exact s6_
  refine pl_ 2 7 (tb_ 17 7) ?_; refine pr_ 3 8 (tb_ 17 15) ?_; refine pr_ 4 9 (tb_ 17 31) ?_; refine pr_ 5 10 (tb_ 17 63) ?_; refine pl_ 6 11 (tb_ 17 127) ?_; refine pl_ 7 12 (tb_ 17 255) ?_; refine pr_ 8 13 (tb_ 17 511) ?_; refine pr_ 9 14 (tb_ 17 1023) ?_; refine pr_ 10 15 (tb_ 17 2047) ?_; refine pr_ 11 16 (tb_ 17 4095) ?_; refine pr_ 12 17 (tb_ 17 8191) ?_; refine pr_ 13 18 (tb_ 17 16383) ?_; refine pr_ 14 19 (tb_ 17 32767) ?_; refine pl_ 15 20 (tb_ 17 65535) ?_; refine pl_ 16 4 (tb_ 17 131071) ?_
  refine done_ (done_of HT_.out (by kernel_rfl)) ?_
  try go_wp2
  go_ret
  exact ⟨s4_, q29_12⟩
end Go.Proofs.YtafnamchckehmaaGreatDoor.Pr
namespace Go.Proofs.YtafnamchckehmaaGreatDoor.Pr
set_option maxHeartbeats 4000000
set_option maxRecDepth 100000
open Go.RowKit Go.Proofs.YtafnamchckehmaaGreatDoorW.PrintWords Go.Proofs.YtafnamchckehmaaGreatDoorW.PrintLast Go.Proofs.YtafnamchckehmaaGreatDoorW.PrintMore
set_option linter.unusedVariables false
def ruleB (n : Int) (r : S48) : Bool := Pu.isSetB n r.f0 && Pu.isSetB n r.f1
def impl_AreRules.f (a0 : Int) (l1 : List S48) : Option Bool := some (decide (0 ≤ a0 ∧ a0 ≤ 6) && decide ((l1.length : Int) ≤ 40) && l1.all (ruleB a0))
theorem AreRules1_calls (n : Int) (b : Nat) (x : S48) (W : World) (hc : W.cell? ⟨b, 0, none⟩ = some (.int .i64 n)) :
    Calls Tryz.prog 185 #[.agg #[.int .i64 x.f0, .int .i64 x.f1], .pointer (some ⟨b, 0, none⟩)] W fun e w' => e = .returned (.bool (!ruleB n x)) ∧ Below W.heap.size W w' := by
  have hb : b < W.heap.size := World.block_lt_of_cell? W _ hc
  have hu := Tryz.underlying48
  cases h1 : Pu.isSetB n x.f0 with
  | false =>
    have H : Aside0 (ruleB n x = false) := ⟨by unfold ruleB; rw [h1]; rfl⟩
    have K1 : Aside0 (impl_IsSet.f n x.f0 = some false) := ⟨by rw [Pu.set_val, h1]⟩
    clear h1
    go_enter Tryz.func185, Tryz.ntmps185
    go_wp2_with (go_at_call 130; refine (impl_IsSet.calls n x.f0 false _ K1.out).mono ?_; rintro e w' ⟨rfl, ⟨⟨q, rfl⟩⟩⟩)
    go_ret
    exact ⟨by rw [H.out]; rfl, by repeat (first | apply below_alloc | apply pw_below_drewN | apply below_drew1 | exact Below.refl _ _)⟩
  | true =>
    cases h2 : Pu.isSetB n x.f1 with
    | false =>
      have H : Aside0 (ruleB n x = false) := ⟨by unfold ruleB; rw [h1, h2]; rfl⟩
      have K1 : Aside0 (impl_IsSet.f n x.f0 = some true) := ⟨by rw [Pu.set_val, h1]⟩
      have K2 : Aside0 (impl_IsSet.f n x.f1 = some false) := ⟨by rw [Pu.set_val, h2]⟩
      clear h1 h2
      go_enter Tryz.func185, Tryz.ntmps185
      go_wp2_with fail
      refine (impl_IsSet.calls n x.f0 true _ K1.out).mono ?_
      rintro e w' ⟨rfl, ⟨⟨q, rfl⟩⟩⟩
      go_wp2_with fail
      refine (impl_IsSet.calls n x.f1 false _ K2.out).mono ?_
      rintro e w' ⟨rfl, ⟨⟨q2, rfl⟩⟩⟩
      go_wp2
      go_ret
      exact ⟨by rw [H.out]; rfl, by repeat (first | apply below_alloc | apply pw_below_drewN | apply below_drew1 | exact Below.refl _ _)⟩
    | true =>
      have H : Aside0 (ruleB n x = true) := ⟨by unfold ruleB; rw [h1, h2]; rfl⟩
      have K1 : Aside0 (impl_IsSet.f n x.f0 = some true) := ⟨by rw [Pu.set_val, h1]⟩
      have K2 : Aside0 (impl_IsSet.f n x.f1 = some true) := ⟨by rw [Pu.set_val, h2]⟩
      clear h1 h2
      go_enter Tryz.func185, Tryz.ntmps185
      go_wp2_with fail
      refine (impl_IsSet.calls n x.f0 true _ K1.out).mono ?_
      rintro e w' ⟨rfl, ⟨⟨q, rfl⟩⟩⟩
      go_wp2_with fail
      refine (impl_IsSet.calls n x.f1 true _ K2.out).mono ?_
      rintro e w' ⟨rfl, ⟨⟨q2, rfl⟩⟩⟩
      go_wp2
      go_ret
      exact ⟨by rw [H.out]; rfl, by repeat (first | apply below_alloc | apply pw_below_drewN | apply below_drew1 | exact Below.refl _ _)⟩
theorem AreRules1_fn (n : Int) (b : Nat) (w : World) (hc : w.cell? ⟨b, 0, none⟩ = some (.int .i64 n)) : FnRb 185 #[.pointer (some ⟨b, 0, none⟩)] (fun x => !ruleB n x) w := by
  intro W x hb
  rw [show (#[.agg #[.int .i64 x.f0, .int .i64 x.f1]] ++ #[.pointer (some ⟨b, 0, none⟩)] : Array Value) = #[.agg #[.int .i64 x.f0, .int .i64 x.f1], .pointer (some ⟨b, 0, none⟩)] from rfl]
  exact AreRules1_calls n b x W ((hb.cell (p := ⟨b, 0, none⟩) (World.block_lt_of_cell? w _ hc)).trans hc)
theorem box_cell {w w1 : World} {a : Value} {t : TypeId} (h : Below (w.alloc (.cells #[a] t)).heap.size (w.alloc (.cells #[a] t)) w1) : w1.cell? ⟨w.heap.size, 0, none⟩ = some a := by
  have h0 : (w.alloc (.cells #[a] t)).cell? ⟨w.heap.size, 0, none⟩ = some a := blk_cell (heap_alloc_new w (.cells #[a] t)) 0
  exact (h.cell (p := ⟨w.heap.size, 0, none⟩) (by simp)).trans h0
theorem impl_AreRules.calls (a0 : Int) (A1 : Option Addr) (c1 : Nat) (l1 : List S48) (r : Bool) (w : World) (hr1 : Kd.C k48 w A1 l1.length l1) (hc1 : l1.length ≤ c1) (h : impl_AreRules.f a0 l1 = some r) :
    Calls Tryz.prog 81 #[.int .i64 a0, .slice A1 l1.length c1] w fun e w' => e = .returned (.bool r) ∧ Below w.heap.size w w' := by
  have HR := Aside0.mk hr1
  have hr := Aside0.mk (Option.some.inj h)
  clear h hr1
  have eg : ∀ args w, (callFunc 185 args).run Tryz.prog w = .ok (.enter 185 args) w := enters_of Tryz.func185 (by kernel_rfl) rfl
  cases h1 : decide (0 ≤ a0 ∧ a0 ≤ 6) with
  | false =>
    have K : Aside0 (impl_within.f a0 0 6 = some false) := ⟨by rw [Pu.within_val, h1]⟩
    have H : Aside0 (r = false) := ⟨by rw [← hr.out, h1]; rfl⟩
    clear h1
    go_enter Tryz.func81, Tryz.ntmps81
    go_wp2_with (go_at_call 127; refine (impl_within.calls a0 0 6 false _ K.out).mono ?_; rintro e w' ⟨rfl, ⟨⟨q, rfl⟩⟩⟩)
    go_ret
    exact ⟨by rw [H.out]; rfl, by repeat (first | apply below_alloc | apply pw_below_drewN | apply below_drew1 | exact Below.refl _ _)⟩
  | true =>
    have K : Aside0 (impl_within.f a0 0 6 = some true) := ⟨by rw [Pu.within_val, h1]⟩
    by_cases h2 : (l1.length : Int) ≤ 40
    · have h2b : decide ((l1.length : Int) ≤ 40) = true := decide_eq_true h2
      have H : Aside0 (r = !(l1.any fun x => !ruleB a0 x)) := ⟨by rw [← hr.out, h1, h2b, ← List.all_eq_not_any_not]; rfl⟩
      clear h1 h2
      go_enter Tryz.func81, Tryz.ntmps81
      go_wp2_with (go_at_call 127; refine (impl_within.calls a0 0 6 true _ K.out).mono ?_; rintro e w1 ⟨rfl, hd⟩; have HB1 := Aside0.mk (below_step (below_alloc (Below.refl w.heap.size w) _) hd.below); have HC1 := Aside0.mk (box_cell (a := .int .i64 a0) hd.below); clear hd)
      refine (ContainsFunc_rule 185 #[.pointer (some ⟨w.heap.size, 0, none⟩)] eg A1 c1 l1 (fun x => !ruleB a0 x) w1 (Kd.C_below HR.out HB1.out) (AreRules1_fn a0 w.heap.size w1 HC1.out)).mono ?_
      rintro e w' ⟨rfl, hb⟩
      go_wp2
      go_ret
      exact ⟨by rw [H.out]; rfl, below_step HB1.out hb⟩
    · have h2b : decide ((l1.length : Int) ≤ 40) = false := decide_eq_false h2
      have H : Aside0 (r = false) := ⟨by rw [← hr.out, h1, h2b]; rfl⟩
      clear h1 h2
      go_enter Tryz.func81, Tryz.ntmps81
      go_wp2_with (go_at_call 127; refine (impl_within.calls a0 0 6 true _ K.out).mono ?_; rintro e w' ⟨rfl, ⟨⟨q, rfl⟩⟩⟩)
      go_ret
      exact ⟨by rw [H.out]; rfl, by repeat (first | apply below_alloc | apply pw_below_drewN | apply below_drew1 | exact Below.refl _ _)⟩
end Go.Proofs.YtafnamchckehmaaGreatDoor.Pr
