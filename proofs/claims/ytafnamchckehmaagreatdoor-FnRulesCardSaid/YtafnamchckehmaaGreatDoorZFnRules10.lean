/- Functions of the program as plain functions, proofs that their calls answer so, and plain laws: what the law needs. No condition beyond what each statement says. -/
import Derived.Test.YtafnamchckehmaaGreatDoorZFnRules7
import Derived.Test.YtafnamchckehmaaGreatDoorZFnRules9
namespace Go.Proofs.YtafnamchckehmaaGreatDoor.Pr
open Go.RowKit Go.Proofs.YtafnamchckehmaaGreatDoorW.PrintWords Go.Proofs.YtafnamchckehmaaGreatDoorW.PrintLast Go.Proofs.YtafnamchckehmaaGreatDoorW.PrintMore
set_option linter.unusedVariables false
def impl_areAnyRules.f (l0 : List S48) : Option Bool := some (l0.all Pu.anyR)
theorem areAny1_val (r : S48) : impl_areAnyRules_1.f r.f0 r.f1 = some (!Pu.anyR r) := by
  unfold impl_areAnyRules_1.f
  rw [Pu.any_val, Option.bind_some]
  unfold Pu.anyR
  cases Pu.isAny r.f0 with
  | false => rfl
  | true => simp [Pu.any_val]
theorem impl_areAnyRules.calls (A0 : Option Addr) (c0 : Nat) (l0 : List S48) (r : Bool) (w : World) (hr0 : Kd.C k48 w A0 l0.length l0) (hc0 : l0.length ≤ c0) (h : impl_areAnyRules.f l0 = some r) :
    Calls Tryz.prog 149 #[.slice A0 l0.length c0] w fun e w' => e = .returned (.bool r) ∧ Below w.heap.size w w' := by
  obtain rfl := Option.some.inj h
  clear h
  have eg : ∀ args w, (callFunc 218 args).run Tryz.prog w = .ok (.enter 218 args) w := enters_of Tryz.func218 (by kernel_rfl) rfl
  have h0 := ContainsFunc_rule 218 #[] eg A0 c0 l0 (fun r => !Pu.anyR r) w hr0 (fun W x hb => (impl_areAnyRules_1.calls x.f0 x.f1 _ W (areAny1_val x)).mono fun e w' ⟨he, hb'⟩ => ⟨he, hb'⟩)
  have h1 : Aside0 ((!(l0.any fun r => !Pu.anyR r)) = l0.all Pu.anyR) := ⟨by rw [List.all_eq_not_any_not]⟩
  clear hr0
  go_enter Tryz.func149, Tryz.ntmps149
  go_wp2_with (go_at_call 167; refine h0.mono ?_; rintro e w' ⟨rfl, hb⟩)
  go_ret
  exact ⟨by rw [← h1.out]; rfl, hb⟩
end Go.Proofs.YtafnamchckehmaaGreatDoor.Pr
namespace Go.Proofs.YtafnamchckehmaaGreatDoor.Pr
set_option maxHeartbeats 40000000
set_option maxRecDepth 100000
open Go.RowKit Go.Proofs.YtafnamchckehmaaGreatDoorW.PrintWords Go.Proofs.YtafnamchckehmaaGreatDoorW.PrintLast Go.Proofs.YtafnamchckehmaaGreatDoorW.PrintMore
attribute [local go_sem] max2_int min2_int max_two min_two max_three min_three max_four min_four
set_option linter.unusedVariables false
set_option linter.unusedSimpArgs false
theorem bnd29_ {α β : Type} {o : Option α} {f : α → Option β} {r : β} (h : o.bind f = some r) : ∃ a, Aside0 (o = some a) ∧ f a = some r := by
 obtain ⟨a, h1, h2⟩ := Option.bind_eq_some_iff.mp h
 exact ⟨a, ⟨h1⟩, h2⟩
theorem q29_1 {P : Prop} (h : P := by repeat (first | (with_reducible first | exact HB.out | apply below_alloc | apply pw_below_drewN | apply below_drew1 | refine below_set ?_ GE314.out) | exact HB.out)) : P := h
mutual
def impl_OneStep.j0 : Nat → List (S48) → Int → Bool → Option (Int)
 | 0, _, _, _ => none
 | k + 1, x0, x1, x15 => if x15 = true then (some x1) else (impl_OneStep.l0 k x1 x1 x0 (x0.length : Int) 0)
def impl_OneStep.l0 : Nat → Int → Int → List (S48) → Int → Int → Option (Int)
 | 0, _, _, _, _, _ => none
 | k + 1, x1, x5, x18, x19, x20 => if x20 < x19 then (if 0 ≤ x20 then (if x20 < (x18.length : Int) then ((impl_inSet.f ((rd_T48 x18 x20).f0) x1).bind fun t315 => (if t315 = true then (impl_OneStep.l0 k x1 (Go.bits .or .i64 x5 ((rd_T48 x18 x20).f1)) x18 x19 (wrap64 (x20 + 1))) else (impl_OneStep.l0 k x1 x5 x18 x19 (wrap64 (x20 + 1))))) else (none)) else (none)) else (some x5)
end
def impl_OneStep.f (k : Nat) (l0 : List (S48)) (a1 : Int) : Option (Int) := (impl_isAnySet.f a1).bind fun t311 => (if t311 = true then ((impl_areAnyRules.f l0).bind fun t312 => (impl_OneStep.j0 k l0 a1 (!t312))) else (impl_OneStep.j0 k l0 a1 true))
theorem impl_OneStep.calls (k : Nat) (A0 : Option Addr) (c0 : Nat) (l0 : List (S48)) (a1 : Int) (r : Int) (w : World) (hr0 : Kd.C k48 w A0 l0.length l0) (hc0 : l0.length ≤ c0) (h : impl_OneStep.f k l0 a1 = some r) :
  Calls Tryz.prog 116 #[.slice A0 l0.length c0, .int .i64 a1] w fun e w' => e = .returned (.int .i64 r) ∧ Below w.heap.size w w' := by
 have hu48 := Tryz.underlying48; have HR0 := Aside0.mk hr0; have HC0 := Aside0.mk hc0; clear hr0 hc0; have HB := Aside0.mk (Below.refl w.heap.size w); have H := h; clear h; unfold impl_OneStep.f at H; have HC3 := Aside0.mk H; clear H
 go_enter Tryz.func116, Tryz.ntmps116
 go_upto_region 1 with (fail)
 go_cut [15] (fun v15 wc => ∃ (kq : Nat) (x15_2 : Bool), v15 = .bool x15_2 ∧ Aside0 (impl_OneStep.j0 kq l0 a1 x15_2 = some r) ∧ Aside0 (kq ≤ k) ∧ Aside0 (Below w.heap.size w wc))
 case first =>
  have H := HC3.out; clear HC3; obtain ⟨t311, A4, H⟩ := bnd29_ H
  by_cases c5 : t311 = true
  ·
   subst c5; rw [if_pos rfl] at H; obtain ⟨t312, A6, H⟩ := bnd29_ H; have H' := Aside0.mk H; clear H
   go_wp2_with (first | ((with_reducible refine gw_ rfl ?_); (refine gL_ 177 9 Tryz.func177 #[.int .i64 a1] ?_; (with_reducible refine (impl_isAnySet.calls a1 true _ A4.out).mono ?_); rintro e w' ⟨rfl, ⟨nd, rfl⟩⟩; refine ⟨_, rfl, ?_⟩)) | (go_at_call 149; (with_reducible refine (impl_areAnyRules.calls _ _ l0 t312 _ ?side1 ?side2 A6.out).mono ?_); (case side1 => repeat (first | exact (Kd.C_below HR0.out s1_) | (with_reducible refine Kd.C_alloc ?_ _) | (with_reducible refine Kd.C_drewN ?_ _) | (with_reducible refine Kd.C_drew ?_))); (case side2 => exact HC0.out); rintro e w7 ⟨rfl, hb⟩; have n_ := Aside0.mk (below_step s1_ hb); clear HB; have HB := n_; clear n_; (try clear hb)))
   go_meet
   case rel => exact ⟨_, (!t312), s3_, H', ⟨(by first | omega | exact Nat.le_refl _)⟩, ⟨s1_⟩⟩
  ·
   replace c5 := Bool.eq_false_iff.mpr c5; subst c5
   rw [if_neg (show ¬ (false = true) by decide)] at H
   have H' := Aside0.mk H; clear H
   go_wp2_with ((with_reducible refine gw_ rfl ?_); (refine gL_ 177 9 Tryz.func177 #[.int .i64 a1] ?_; (with_reducible refine (impl_isAnySet.calls a1 false _ A4.out).mono ?_); rintro e w' ⟨rfl, ⟨nd, rfl⟩⟩; refine ⟨_, rfl, ?_⟩))
   go_meet
   case rel => exact ⟨_, (true), s3_, H', ⟨(by first | omega | exact Nat.le_refl _)⟩, ⟨s1_⟩⟩
 case rest =>
  clear HC3
  try clear c1
  try clear p2
  try clear c5
  obtain ⟨kq, x15_2, rfl, HA, HJ2, HB⟩ := hcut
  cases kq with
  | zero => exact absurd HA.out (by simp [impl_OneStep.j0])
  | succ kj2 =>
   have H := HA.out; clear HA
   simp only [impl_OneStep.j0] at H
   by_cases c8 : x15_2 = true
   ·
    subst c8; rw [if_pos rfl] at H; obtain rfl := Option.some.inj H
    go_wp2
    go_ret
    exact ⟨(by first | rfl | (simp [errW_none, errW_some] <;> rfl) | (simp [*, errW_none, errW_some] <;> rfl)), s1_⟩
   ·
    replace c8 := Bool.eq_false_iff.mpr c8; subst c8
    rw [if_neg (show ¬ (false = true) by decide)] at H
    have H' := Aside0.mk H; clear H
    go_wp2
    go_loopg [5, 20] kj2 (fun kq v5 v20 w' => ∃ (x5_2 : Int) (x20_2 : Int), v5 = .int .i64 x5_2 ∧ v20 = .int .i64 x20_2 ∧ Aside0 (impl_OneStep.l0 kq a1 x5_2 l0 (l0.length : Int) x20_2 = some r) ∧ Aside0 (kq ≤ kj2) ∧ Aside0 (Below w.heap.size w w'))
    case atStart => exact ⟨(a1), (0), s3_, s3_, H', ⟨Nat.le_refl _⟩, ⟨s1_⟩⟩
    case round =>
     clear H'
     try clear c1
     try clear p2
     try clear c5
     try clear c8
     try clear p2
     obtain ⟨x5_2, x20_2, rfl, rfl, HA, HK2, HB⟩ := hrel
     cases gk with
     | zero => exact absurd HA.out (by simp [impl_OneStep.l0])
     | succ k2 =>
      have H := HA.out; clear HA
      simp only [impl_OneStep.l0] at H
      by_cases c9 : x20_2 < (l0.length : Int)
      ·
       rw [if_pos c9] at H; have c9b0 : decide (x20_2 < (l0.length : Int)) = true := decide_eq_true c9; clear c9
       by_cases c10 : 0 ≤ x20_2
       ·
        rw [if_pos c10] at H; have c10b0 : decide (0 ≤ x20_2) = true := decide_eq_true c10; clear c10
        by_cases c11 : x20_2 < (l0.length : Int)
        ·
         rw [if_pos c11] at H; have c11b0 : decide (x20_2 < (l0.length : Int)) = true := decide_eq_true c11; clear c11; obtain ⟨t315, A12, H⟩ := bnd29_ H
         by_cases c13 : t315 = true
         ·
          subst c13; rw [if_pos rfl] at H; have H' := Aside0.mk H; clear H; have p313 : 0 ≤ (x20_2 : Int) := of_decide_eq_true s4_; have q313 : x20_2 < (l0.length : Int) := of_decide_eq_true s4_; obtain ⟨ad313, e313, hx313_0, hx313_1⟩ := at_T48 HR0.out x20_2 p313 q313
          cases e313
          replace hx313_0 := (HB.out.cell (World.block_lt_of_cell? w _ hx313_0)).trans hx313_0; replace hx313_1 := (HB.out.cell (World.block_lt_of_cell? w _ hx313_1)).trans hx313_1; replace p313 := eq_true p313; replace q313 := eq_true q313
          go_wp2_with ((with_reducible refine gw_ rfl ?_); first | (refine be_ 7 #[.int .i64 0, .int .i64 0] 48 ?_; intro gb314 hg w14 hbox hb; have n_ := ac_ (below_step s1_ hb) <| ac_ (hbox) <| ac_ ((gz_ w hg s1_)) <| Aside0.mk ((gz_ w hg s1_)); clear HB; obtain ⟨HB, BK314, GW314, GE314⟩ := n_; clear hb hbox hg; have hcz15_0 : w14.cell? ⟨gb314, 0, none⟩ = some (.int .i64 0) := (blk_cell BK314.out 0).trans rfl; have hcz15_1 : w14.cell? ⟨gb314, 1, none⟩ = some (.int .i64 0) := (blk_cell BK314.out 1).trans rfl; have hfz15_0 := blk_frozen BK314.out 0; have hfz15_1 := blk_frozen BK314.out 1) | (refine gL_ 141 27 Tryz.func141 #[.int .i64 ((rd_T48 l0 x20_2).f0), .int .i64 a1] ?_; (with_reducible refine (impl_inSet.calls ((rd_T48 l0 x20_2).f0) a1 true _ A12.out).mono ?_); rintro e w' ⟨rfl, ⟨nd, rfl⟩⟩; refine ⟨_, rfl, ?_⟩))
          go_roundg k2
          case measure => have := HJ2.out; have := HK2.out; omega
          case rel => exact ⟨(Go.bits .or .i64 x5_2 ((rd_T48 l0 x20_2).f1)), (wrap64 (x20_2 + 1)), s3_, s3_, H', ⟨by have := HJ2.out; have := HK2.out; omega⟩, ⟨q29_1⟩⟩
         ·
          replace c13 := Bool.eq_false_iff.mpr c13; subst c13
          rw [if_neg (show ¬ (false = true) by decide)] at H
          have H' := Aside0.mk H; clear H; have p313 : 0 ≤ (x20_2 : Int) := of_decide_eq_true s4_; have q313 : x20_2 < (l0.length : Int) := of_decide_eq_true s4_; obtain ⟨ad313, e313, hx313_0, hx313_1⟩ := at_T48 HR0.out x20_2 p313 q313
          cases e313
          replace hx313_0 := (HB.out.cell (World.block_lt_of_cell? w _ hx313_0)).trans hx313_0; replace hx313_1 := (HB.out.cell (World.block_lt_of_cell? w _ hx313_1)).trans hx313_1; replace p313 := eq_true p313; replace q313 := eq_true q313
          go_wp2_with ((with_reducible refine gw_ rfl ?_); first | (refine be_ 7 #[.int .i64 0, .int .i64 0] 48 ?_; intro gb314 hg w16 hbox hb; have n_ := ac_ (below_step s1_ hb) <| ac_ (hbox) <| ac_ ((gz_ w hg s1_)) <| Aside0.mk ((gz_ w hg s1_)); clear HB; obtain ⟨HB, BK314, GW314, GE314⟩ := n_; clear hb hbox hg; have hcz17_0 : w16.cell? ⟨gb314, 0, none⟩ = some (.int .i64 0) := (blk_cell BK314.out 0).trans rfl; have hcz17_1 : w16.cell? ⟨gb314, 1, none⟩ = some (.int .i64 0) := (blk_cell BK314.out 1).trans rfl; have hfz17_0 := blk_frozen BK314.out 0; have hfz17_1 := blk_frozen BK314.out 1) | (refine gL_ 141 27 Tryz.func141 #[.int .i64 ((rd_T48 l0 x20_2).f0), .int .i64 a1] ?_; (with_reducible refine (impl_inSet.calls ((rd_T48 l0 x20_2).f0) a1 false _ A12.out).mono ?_); rintro e w' ⟨rfl, ⟨nd, rfl⟩⟩; refine ⟨_, rfl, ?_⟩))
          go_roundg k2
          case measure => have := HJ2.out; have := HK2.out; omega
          case rel => exact ⟨(x5_2), (wrap64 (x20_2 + 1)), s3_, s3_, H', ⟨by have := HJ2.out; have := HK2.out; omega⟩, ⟨q29_1⟩⟩
        ·
         rw [if_neg c11] at H
         exact absurd H (by simp)
       ·
        rw [if_neg c10] at H
        exact absurd H (by simp)
      ·
       rw [if_neg c9] at H; have c9b0 : decide (x20_2 < (l0.length : Int)) = false := decide_eq_false c9; clear c9; obtain rfl := Option.some.inj H
       go_wp2
       go_ret
       exact ⟨(by first | rfl | (simp [errW_none, errW_some] <;> rfl) | (simp [*, errW_none, errW_some] <;> rfl)), s1_⟩
mutual
def impl_ClosedBy.j0 : Nat → List (S48) → Int → Bool → Option (Int)
 | 0, _, _, _ => none
 | k + 1, x0, x1, x13 => if x13 = true then (some x1) else ((impl_OneStep.f k x0 x1).bind fun t318 => (impl_ClosedBy.l0 k x0 x1 t318))
def impl_ClosedBy.l0 : Nat → List (S48) → Int → Int → Option (Int)
 | 0, _, _, _ => none
 | k + 1, x0, x1, x5 => if x5 = x1 then (some x1) else ((impl_OneStep.f k x0 x5).bind fun t319 => (impl_ClosedBy.l0 k x0 x5 t319))
end
def impl_ClosedBy.f (k : Nat) (l0 : List (S48)) (a1 : Int) : Option (Int) := (impl_isAnySet.f a1).bind fun t316 => (if t316 = true then ((impl_areAnyRules.f l0).bind fun t317 => (impl_ClosedBy.j0 k l0 a1 (!t317))) else (impl_ClosedBy.j0 k l0 a1 true))
theorem impl_ClosedBy.calls (k : Nat) (A0 : Option Addr) (c0 : Nat) (l0 : List (S48)) (a1 : Int) (r : Int) (w : World) (hr0 : Kd.C k48 w A0 l0.length l0) (hc0 : l0.length ≤ c0) (h : impl_ClosedBy.f k l0 a1 = some r) :
  Calls Tryz.prog 70 #[.slice A0 l0.length c0, .int .i64 a1] w fun e w' => e = .returned (.int .i64 r) ∧ Below w.heap.size w w' := by
 have HR0 := Aside0.mk hr0; have HC0 := Aside0.mk hc0; clear hr0 hc0; have HB := Aside0.mk (Below.refl w.heap.size w); have H := h; clear h; unfold impl_ClosedBy.f at H; have HC3 := Aside0.mk H; clear H
 go_enter Tryz.func70, Tryz.ntmps70
 go_upto_region 1 with (fail)
 go_cut [13] (fun v13 wc => ∃ (kq : Nat) (x13_2 : Bool), v13 = .bool x13_2 ∧ Aside0 (impl_ClosedBy.j0 kq l0 a1 x13_2 = some r) ∧ Aside0 (kq ≤ k) ∧ Aside0 (Below w.heap.size w wc))
 case first =>
  have H := HC3.out; clear HC3; obtain ⟨t316, A4, H⟩ := bnd29_ H
  by_cases c5 : t316 = true
  ·
   subst c5; rw [if_pos rfl] at H; obtain ⟨t317, A6, H⟩ := bnd29_ H; have H' := Aside0.mk H; clear H
   go_wp2_with (first | ((with_reducible refine gw_ rfl ?_); (refine gL_ 177 7 Tryz.func177 #[.int .i64 a1] ?_; (with_reducible refine (impl_isAnySet.calls a1 true _ A4.out).mono ?_); rintro e w' ⟨rfl, ⟨nd, rfl⟩⟩; refine ⟨_, rfl, ?_⟩)) | (go_at_call 149; (with_reducible refine (impl_areAnyRules.calls _ _ l0 t317 _ ?side1 ?side2 A6.out).mono ?_); (case side1 => repeat (first | exact (Kd.C_below HR0.out s1_) | (with_reducible refine Kd.C_alloc ?_ _) | (with_reducible refine Kd.C_drewN ?_ _) | (with_reducible refine Kd.C_drew ?_))); (case side2 => exact HC0.out); rintro e w7 ⟨rfl, hb⟩; have n_ := Aside0.mk (below_step s1_ hb); clear HB; have HB := n_; clear n_; (try clear hb)))
   go_meet
   case rel => exact ⟨_, (!t317), s3_, H', ⟨(by first | omega | exact Nat.le_refl _)⟩, ⟨s1_⟩⟩
  ·
   replace c5 := Bool.eq_false_iff.mpr c5; subst c5
   rw [if_neg (show ¬ (false = true) by decide)] at H
   have H' := Aside0.mk H; clear H
   go_wp2_with ((with_reducible refine gw_ rfl ?_); (refine gL_ 177 7 Tryz.func177 #[.int .i64 a1] ?_; (with_reducible refine (impl_isAnySet.calls a1 false _ A4.out).mono ?_); rintro e w' ⟨rfl, ⟨nd, rfl⟩⟩; refine ⟨_, rfl, ?_⟩))
   go_meet
   case rel => exact ⟨_, (true), s3_, H', ⟨(by first | omega | exact Nat.le_refl _)⟩, ⟨s1_⟩⟩
 case rest =>
  clear HC3
  try clear c1
  try clear p2
  try clear c5
  try clear c7
  obtain ⟨kq, x13_2, rfl, HA, HJ2, HB⟩ := hcut
  cases kq with
  | zero => exact absurd HA.out (by simp [impl_ClosedBy.j0])
  | succ kj2 =>
   have H := HA.out; clear HA
   simp only [impl_ClosedBy.j0] at H
   by_cases c8 : x13_2 = true
   ·
    subst c8; rw [if_pos rfl] at H; obtain rfl := Option.some.inj H
    go_wp2
    go_ret
    exact ⟨(by first | rfl | (simp [errW_none, errW_some] <;> rfl) | (simp [*, errW_none, errW_some] <;> rfl)), s1_⟩
   ·
    replace c8 := Bool.eq_false_iff.mpr c8; subst c8
    rw [if_neg (show ¬ (false = true) by decide)] at H
    obtain ⟨t318, A9, H⟩ := bnd29_ H; have H' := Aside0.mk H; clear H
    go_wp2_with ((with_reducible refine gw_ rfl ?_); (refine gL_ 116 17 Tryz.func116 #[.slice A0 l0.length c0, .int .i64 a1] ?_; (with_reducible refine (impl_OneStep.calls kj2 _ _ l0 a1 t318 _ ?side1 ?side2 A9.out).mono ?_); (case side1 => exact s12_); (case side2 => exact HC0.out); rintro e w10 ⟨rfl, hb⟩; refine ⟨_, rfl, ?_⟩; have n_ := Aside0.mk (below_step s1_ hb); clear HB; have HB := n_; clear n_; (try clear hb)))
    go_loopg [1, 5] kj2 (fun kq v1 v5 w' => ∃ (x1_2 : Int) (x5_2 : Int), v1 = .int .i64 x1_2 ∧ v5 = .int .i64 x5_2 ∧ Aside0 (impl_ClosedBy.l0 kq l0 x1_2 x5_2 = some r) ∧ Aside0 (kq ≤ kj2) ∧ Aside0 (Below w.heap.size w w'))
    case atStart => exact ⟨(a1), (t318), s3_, s3_, H', ⟨Nat.le_refl _⟩, ⟨s1_⟩⟩
    case round =>
     clear H'
     try clear c1
     try clear p2
     try clear c5
     try clear c7
     try clear c8
     try clear p2
     obtain ⟨x1_2, x5_2, rfl, rfl, HA, HK2, HB⟩ := hrel
     cases gk with
     | zero => exact absurd HA.out (by simp [impl_ClosedBy.l0])
     | succ k2 =>
      have H := HA.out; clear HA
      simp only [impl_ClosedBy.l0] at H
      by_cases c11 : x5_2 = x1_2
      ·
       rw [if_pos c11] at H; have c11b0 : (x5_2 == x1_2) = true := beq_iff_eq.mpr c11; have c11b1 : (x5_2 != x1_2) = false := bne_eq_false_iff_eq.mpr c11; clear c11; obtain rfl := Option.some.inj H
       go_wp2
       go_ret
       exact ⟨(by first | rfl | (simp [errW_none, errW_some] <;> rfl) | (simp [*, errW_none, errW_some] <;> rfl)), s1_⟩
      ·
       rw [if_neg c11] at H; have c11b0 : (x5_2 == x1_2) = false := beq_eq_false_iff_ne.mpr c11; have c11b1 : (x5_2 != x1_2) = true := bne_iff_ne.mpr c11; obtain ⟨t319, A12, H⟩ := bnd29_ H; have H' := Aside0.mk H; clear H
       go_wp2_with ((with_reducible refine gw_ rfl ?_); (refine gL_ 116 23 Tryz.func116 #[.slice A0 l0.length c0, .int .i64 x5_2] ?_; (with_reducible refine (impl_OneStep.calls k2 _ _ l0 x5_2 t319 _ ?side1 ?side2 A12.out).mono ?_); (case side1 => exact s12_); (case side2 => exact HC0.out); rintro e w13 ⟨rfl, hb⟩; refine ⟨_, rfl, ?_⟩; have n_ := Aside0.mk (below_step s1_ hb); clear HB; have HB := n_; clear n_; (try clear hb)))
       go_roundg k2
       case measure => have := HJ2.out; have := HK2.out; omega
       case rel => exact ⟨(x5_2), (t319), s3_, s3_, H', ⟨by have := HJ2.out; have := HK2.out; omega⟩, ⟨s1_⟩⟩
theorem q29_11 {P : Prop} (h : P := by repeat (first | exact (Kd.R_reads' HO324.out).2.2 | (with_reducible refine Kd.C_alloc ?_ _) | (with_reducible refine Kd.C_drewN ?_ _) | (with_reducible refine Kd.C_drew ?_))) : P := h
theorem q29_12 {P : Prop} (h : P := by repeat (first | (with_reducible first | exact HB.out | apply below_alloc | apply pw_below_drewN | apply below_drew1 | refine below_set ?_ GE320.out) | exact HB.out)) : P := h
theorem q29_15 {P : Prop} (h : P := by (with_reducible repeat (first | refine blk_drewN ?_ _ | refine blk_drew ?_ | refine blk_alloc ?_ _)); exact BK320.out) : P := h
theorem q29_16 {P : Prop} (h : P := by (with_reducible repeat (first | apply Kd.R_alloc | apply Kd.R_drewN | apply Kd.R_drew)); exact HO324.out) : P := h
def impl_Follows.f (k : Nat) (l0 : List (S48)) (a1_0 : Int) (a1_1 : Int) : Option (Bool) := (impl_areAnyRules.f l0).bind fun t321 => (if t321 = true then ((impl_areAnyRules.f (([(⟨a1_0, a1_1⟩ : S48)] : List (S48)))).bind fun t325 => (if t325 = true then ((impl_ClosedBy.f k l0 a1_0).bind fun t326 => ((impl_inSet.f a1_1 t326).bind fun t327 => (some t327))) else (some false))) else (some false))
def impl_Follows.T1 : Bool × List (List Nat × List Nat) := (true, [([], []), ([0], [0]), ([1, 1], [1]), ([2], [2]), ([3, 2], [2, 3]), ([4, 2, 2], [2, 4]), ([2, 5], [2, 5]), ([6, 5], [6]), ([7], [7]), ([8, 7], [7, 8]), ([7], [7]), ([7], [7]), ([11, 7], [7, 11]), ([10, 12, 7, 7], [7, 10, 12]), ([9, 13, 13, 7], [7, 9, 13]), ([7, 14], [7, 14]), ([15, 14, 0, 1, 2, 3, 4, 5, 6, 7, 8, 9, 10, 11, 12, 13, 14, 15], [15])])
def impl_Follows.B1 : List Nat := [0, 1, 3, 7, 15, 31, 63, 127, 255, 511, 255, 255, 2303, 7423, 16383, 32767, 65535]
theorem impl_Follows.tab1 : rtab .any (opsOf Tryz.f68 1) = impl_Follows.T1 := by kernel_rfl
theorem impl_Follows.bits1 : waitsOk impl_Follows.T1.2 impl_Follows.B1 = true := by kernel_rfl
theorem impl_Follows.calls (k : Nat) (A0 : Option Addr) (c0 : Nat) (l0 : List (S48)) (a1_0 : Int) (a1_1 : Int) (r : Bool) (w : World) (hr0 : Kd.C k48 w A0 l0.length l0) (hc0 : l0.length ≤ c0) (h : impl_Follows.f k l0 a1_0 a1_1 = some r) :
  Calls Tryz.prog 68 #[.slice A0 l0.length c0, .agg #[.int .i64 a1_0, .int .i64 a1_1]] w fun e w' => e = .returned (.bool r) ∧ Below w.heap.size w w' := by
 have hu48 := Tryz.underlying48; have HR0 := Aside0.mk hr0; have HC0 := Aside0.mk hc0; clear hr0 hc0; have HB := Aside0.mk (Below.refl w.heap.size w); have H := h; clear h; unfold impl_Follows.f at H; obtain ⟨t321, A3, H⟩ := bnd29_ H
 by_cases c4 : t321 = true
 ·
  subst c4; rw [if_pos rfl] at H; obtain ⟨y322, hy_⟩ : ∃ y_ : List (S48), y_ = (([(⟨a1_0, a1_1⟩ : S48)] : List (S48))) := ⟨_, rfl⟩
  replace H : ((impl_areAnyRules.f y322).bind fun t325 => (if t325 = true then ((impl_ClosedBy.f k l0 a1_0).bind fun t326 => ((impl_inSet.f a1_1 t326).bind fun t327 => (some t327))) else (some false))) = some r := rH_
  have Ny322 := Aside0.mk hy_; clear hy_; obtain ⟨t325, A5, H⟩ := bnd29_ H
  by_cases c6 : t325 = true
  ·
   subst c6; rw [if_pos rfl] at H; obtain ⟨t326, A7, H⟩ := bnd29_ H; obtain ⟨t327, A8, H⟩ := bnd29_ H; obtain rfl := Option.some.inj H
   go_enter Tryz.func68, Tryz.ntmps68
   try go_wp2_with (first | ((with_reducible refine gate_dst (N := 3) rfl ?_); (try (refine gate_guard (by rfl) ?_; dsimp only)); refine box_event ?hg (N := 3) ?hd (cs := #[.int .i64 a1_0, .int .i64 a1_1]) (t := 48) ?hr ?_; (case hd => rfl); (case hg => rfl); (case hr => first | (go_simp; done) | (go_simp; rfl)); intro gb320 hg w9 hbox hb; have n_ := ac_ (below_step s1_ hb) <| ac_ (hbox) <| ac_ ((gz_ w hg s1_)) <| Aside0.mk ((gz_ w hg s1_)); clear HB; obtain ⟨HB, BK320, GW320, GE320⟩ := n_; clear hb hbox hg))
   have n0_ := Aside0.mk (blk_drew BK320.out); have n1_ := Aside0.mk (below_drew1 HB.out); clear BK320; clear HB; have BK320 := n0_; have HB := n1_; clear n0_ n1_
   refine start_ (n := 17) (S := fun w' => w'.cell? ⟨gb320, 0, none⟩ = some (.int .i64 a1_0) ∧ w'.cell? ⟨gb320, 1, none⟩ = some (.int .i64 a1_1)) (ds := []) (tb_ 17 0) (by kernel_rfl) rfl rfl ⟨(blk_cell BK320.out 0).trans rfl, (blk_cell BK320.out 1).trans rfl⟩ (fun hHeld => ?_); refine with_tabW impl_Follows.tab1 impl_Follows.bits1 (fun HT_ HW_ => ?_)
   generalize w9.drew = w10 at BK320 HB hHeld ⊢
   refine pl_ 0 5 (tb_ 17 1) ?_
   refine on_ 1 6 (tb_ 17 3) (fun K hK => ?_)
   refine goes_ Tryz.func149 (by kernel_rfl) rfl #[.slice A0 l0.length c0] (by rfl) rfl rfl s0_ ?_
   with_reducible refine (impl_areAnyRules.calls _ _ l0 true _ ?side1 ?side2 A3.out).mono ?_
   (case side1 => exact s12_)
   (case side2 => exact HC0.out)
   rintro e w11 ⟨rfl, hb⟩
   refine ⟨_, rfl, ?_⟩
   have n0_ := Aside0.mk (blk_below (g := gb320) (o := .cells #[.int .i64 a1_0, .int .i64 a1_1] 48 (0, 0)) q29_15 hb); have n1_ := Aside0.mk (below_step q29_12 hb); clear BK320; clear HB; have BK320 := n0_; have HB := n1_; clear n0_ n1_
   (try clear hb)
   (try clear hb2)
   (try clear hk)
   (try clear hi)
   refine hK.out _ _ ⟨(blk_cell BK320.out 0).trans rfl, (blk_cell BK320.out 1).trans rfl⟩ (fun hHeld => ?_)
   clear hK K
   refine norm_ (a' := ?_) ?_ ?_
   rotate_left
   ·
    show Act.put _ (some 6) _ = _
    exact s9_
   refine pl_ 2 7 (tb_ 17 7) ?_; refine tk_ 3 8 (tb_ 17 15) hHeld ?_
   refine on_ 4 9 (tb_ 17 31) (fun K hK => ?_)
   refine Kd.R_lit_step k48 _ 48 ?hg (N := 9) ?hd (xs := ([(⟨a1_0, a1_1⟩ : S48)] : List (S48))) (inner := [.int .i64 a1_0, .int .i64 a1_1]) (ok := fun _ => True) (okp := fun _ => True) ?hr ?hp (fun _ hk => hk) trivial (Below.refl _ _) (Nat.le_refl _) (by simp) ?_; (case hd => rfl); (case hg => rfl); (case hr => first | (go_simp; done) | (go_simp; rfl)); (case hp => exact (Reps.c2 (show Kd.M k48 _ _ _ (⟨a1_0, a1_1⟩ : S48) [.int .i64 a1_0, .int .i64 a1_1] from (k48_mkM _ _ _ (⟨a1_0, a1_1⟩ : S48) )) (Reps.none _ _)))
   intro v323 w12 ho13 hb hg_ hnew_
   clear hg_ hnew_
   (first | rw [← Ny322.out] at ho13 | (simp only [Int.reduceToNat] at ho13; rw [← Ny322.out] at ho13))
   have n0_ := Aside0.mk (Kd.R_lower (Kd.R_newB ho13 (g := gb320) (o := .cells #[.int .i64 a1_0, .int .i64 a1_1] 48 (0, 0)) q29_15) (below_size q29_12)); have n1_ := Aside0.mk (blk_below (g := gb320) (o := .cells #[.int .i64 a1_0, .int .i64 a1_1] 48 (0, 0)) q29_15 hb); have n2_ := Aside0.mk (below_step q29_12 hb); clear BK320; clear HB; have HO324 := n0_; have BK320 := n1_; have HB := n2_; clear n0_ n1_ n2_; clear hb ho13; obtain ⟨Ao14, co14, eo14⟩ := Kd.R_slice HO324.out
   (first | subst eo14 | (injection eo14 with f1_ f2_ f3_; have f4_ := f1_.symm; have f5_ := f3_.symm; clear f1_ f2_ f3_; subst f4_; subst f5_))
   refine hK.out _ _ ⟨(blk_cell BK320.out 0).trans rfl, (blk_cell BK320.out 1).trans rfl⟩ (fun hHeld => ?_)
   clear hK K
   refine norm_ (a' := ?_) ?_ ?_
   rotate_left
   ·
    show Act.put _ (some 9) _ = _
    exact s9_
   refine on_ 5 10 (tb_ 17 63) (fun K hK => ?_)
   refine goes_ Tryz.func149 (by kernel_rfl) rfl #[.slice Ao14 y322.length co14] (by rfl) rfl rfl s0_ ?_
   with_reducible refine (impl_areAnyRules.calls _ _ y322 true _ ?side1 ?side2 A5.out).mono ?_
   (case side1 => exact q29_11)
   (case side2 => exact (Kd.R_reads' HO324.out).2.1)
   rintro e w15 ⟨rfl, hb⟩
   refine ⟨_, rfl, ?_⟩
   have n0_ := Aside0.mk (Kd.R_below q29_16 hb); have n1_ := Aside0.mk (blk_below (g := gb320) (o := .cells #[.int .i64 a1_0, .int .i64 a1_1] 48 (0, 0)) q29_15 hb); have n2_ := Aside0.mk (below_step q29_12 hb); clear HO324; clear BK320; clear HB; have HO324 := n0_; have BK320 := n1_; have HB := n2_; clear n0_ n1_ n2_
   (try clear hb)
   (try clear hb2)
   (try clear hk)
   (try clear hi)
   refine hK.out _ _ ⟨(blk_cell BK320.out 0).trans rfl, (blk_cell BK320.out 1).trans rfl⟩ (fun hHeld => ?_)
   clear hK K
   refine norm_ (a' := ?_) ?_ ?_
   rotate_left
   ·
    show Act.put _ (some 10) _ = _
    exact s9_
   refine pl_ 6 11 (tb_ 17 127) ?_; refine pl_ 7 12 (tb_ 17 255) ?_; refine pl_ 8 13 (tb_ 17 511) ?_; refine pl_ 10 15 (tb_ 17 1535) ?_; refine pl_ 11 16 (tb_ 17 3583) ?_; refine tk_ 9 14 (tb_ 17 4095) hHeld ?_; refine tk_ 12 17 (tb_ 17 8191) hHeld ?_
   refine on_ 13 18 (tb_ 17 16383) (fun K hK => ?_)
   refine goes_ Tryz.func70 (by kernel_rfl) rfl #[.slice A0 l0.length c0, .int .i64 a1_0] (by rfl) rfl rfl s0_ ?_
   with_reducible refine (impl_ClosedBy.calls k _ _ l0 a1_0 t326 _ ?side1 ?side2 A7.out).mono ?_
   (case side1 => exact s12_)
   (case side2 => exact HC0.out)
   rintro e w16 ⟨rfl, hb⟩
   refine ⟨_, rfl, ?_⟩
   have n0_ := Aside0.mk (Kd.R_below q29_16 hb); have n1_ := Aside0.mk (blk_below (g := gb320) (o := .cells #[.int .i64 a1_0, .int .i64 a1_1] 48 (0, 0)) q29_15 hb); have n2_ := Aside0.mk (below_step q29_12 hb); clear HO324; clear BK320; clear HB; have HO324 := n0_; have BK320 := n1_; have HB := n2_; clear n0_ n1_ n2_
   (try clear hb)
   (try clear hb2)
   (try clear hk)
   (try clear hi)
   refine hK.out _ _ ⟨(blk_cell BK320.out 0).trans rfl, (blk_cell BK320.out 1).trans rfl⟩ (fun hHeld => ?_)
   clear hK K
   refine norm_ (a' := ?_) ?_ ?_
   rotate_left
   ·
    show Act.put _ (some 18) _ = _
    exact s9_
   refine on_ 14 19 (tb_ 17 32767) (fun K hK => ?_)
   refine goes_ Tryz.func141 (by kernel_rfl) rfl #[.int .i64 a1_1, .int .i64 t326] (by rfl) rfl rfl s0_ ?_
   with_reducible refine (impl_inSet.calls a1_1 t326 t327 _ A8.out).mono ?_
   rintro e w' ⟨rfl, ⟨nd, rfl⟩⟩
   refine ⟨_, rfl, ?_⟩
   refine hK.out _ _ ⟨(blk_cell BK320.out 0).trans rfl, (blk_cell BK320.out 1).trans rfl⟩ (fun hHeld => ?_)
   clear hK K
   refine norm_ (a' := ?_) ?_ ?_
   rotate_left
   ·
    show Act.put _ (some 19) _ = _
    exact s9_
   refine pl_ 15 20 (tb_ 17 65535) ?_; refine pl_ 16 4 (tb_ 17 131071) ?_
   refine done_ (done_of HT_.out (by kernel_rfl)) ?_
   try go_wp2
   go_ret
   exact ⟨s2_, q29_12⟩
  ·
   replace c6 := Bool.eq_false_iff.mpr c6; subst c6
   rw [if_neg (show ¬ (false = true) by decide)] at H
   obtain rfl := Option.some.inj H
   go_enter Tryz.func68, Tryz.ntmps68
   try go_wp2_with (first | ((with_reducible refine gate_dst (N := 3) rfl ?_); (try (refine gate_guard (by rfl) ?_; dsimp only)); refine box_event ?hg (N := 3) ?hd (cs := #[.int .i64 a1_0, .int .i64 a1_1]) (t := 48) ?hr ?_; (case hd => rfl); (case hg => rfl); (case hr => first | (go_simp; done) | (go_simp; rfl)); intro gb320 hg w17 hbox hb; have n_ := ac_ (below_step s1_ hb) <| ac_ (hbox) <| ac_ ((gz_ w hg s1_)) <| Aside0.mk ((gz_ w hg s1_)); clear HB; obtain ⟨HB, BK320, GW320, GE320⟩ := n_; clear hb hbox hg))
   have n0_ := Aside0.mk (blk_drew BK320.out); have n1_ := Aside0.mk (below_drew1 HB.out); clear BK320; clear HB; have BK320 := n0_; have HB := n1_; clear n0_ n1_
   refine start_ (n := 17) (S := fun w' => w'.cell? ⟨gb320, 0, none⟩ = some (.int .i64 a1_0) ∧ w'.cell? ⟨gb320, 1, none⟩ = some (.int .i64 a1_1)) (ds := []) (tb_ 17 0) (by kernel_rfl) rfl rfl ⟨(blk_cell BK320.out 0).trans rfl, (blk_cell BK320.out 1).trans rfl⟩ (fun hHeld => ?_); refine with_tabW impl_Follows.tab1 impl_Follows.bits1 (fun HT_ HW_ => ?_)
   generalize w17.drew = w18 at BK320 HB hHeld ⊢
   refine pl_ 0 5 (tb_ 17 1) ?_
   refine on_ 1 6 (tb_ 17 3) (fun K hK => ?_)
   refine goes_ Tryz.func149 (by kernel_rfl) rfl #[.slice A0 l0.length c0] (by rfl) rfl rfl s0_ ?_
   with_reducible refine (impl_areAnyRules.calls _ _ l0 true _ ?side1 ?side2 A3.out).mono ?_
   (case side1 => exact s12_)
   (case side2 => exact HC0.out)
   rintro e w19 ⟨rfl, hb⟩
   refine ⟨_, rfl, ?_⟩
   have n0_ := Aside0.mk (blk_below (g := gb320) (o := .cells #[.int .i64 a1_0, .int .i64 a1_1] 48 (0, 0)) q29_15 hb); have n1_ := Aside0.mk (below_step q29_12 hb); clear BK320; clear HB; have BK320 := n0_; have HB := n1_; clear n0_ n1_
   (try clear hb)
   (try clear hb2)
   (try clear hk)
   (try clear hi)
   refine hK.out _ _ ⟨(blk_cell BK320.out 0).trans rfl, (blk_cell BK320.out 1).trans rfl⟩ (fun hHeld => ?_)
   clear hK K
   refine norm_ (a' := ?_) ?_ ?_
   rotate_left
   ·
    show Act.put _ (some 6) _ = _
    exact s9_
   refine pl_ 2 7 (tb_ 17 7) ?_; refine tk_ 3 8 (tb_ 17 15) hHeld ?_
   refine on_ 4 9 (tb_ 17 31) (fun K hK => ?_)
   refine Kd.R_lit_step k48 _ 48 ?hg (N := 9) ?hd (xs := ([(⟨a1_0, a1_1⟩ : S48)] : List (S48))) (inner := [.int .i64 a1_0, .int .i64 a1_1]) (ok := fun _ => True) (okp := fun _ => True) ?hr ?hp (fun _ hk => hk) trivial (Below.refl _ _) (Nat.le_refl _) (by simp) ?_; (case hd => rfl); (case hg => rfl); (case hr => first | (go_simp; done) | (go_simp; rfl)); (case hp => exact (Reps.c2 (show Kd.M k48 _ _ _ (⟨a1_0, a1_1⟩ : S48) [.int .i64 a1_0, .int .i64 a1_1] from (k48_mkM _ _ _ (⟨a1_0, a1_1⟩ : S48) )) (Reps.none _ _)))
   intro v323 w20 ho21 hb hg_ hnew_
   clear hg_ hnew_
   (first | rw [← Ny322.out] at ho21 | (simp only [Int.reduceToNat] at ho21; rw [← Ny322.out] at ho21))
   have n0_ := Aside0.mk (Kd.R_lower (Kd.R_newB ho21 (g := gb320) (o := .cells #[.int .i64 a1_0, .int .i64 a1_1] 48 (0, 0)) q29_15) (below_size q29_12)); have n1_ := Aside0.mk (blk_below (g := gb320) (o := .cells #[.int .i64 a1_0, .int .i64 a1_1] 48 (0, 0)) q29_15 hb); have n2_ := Aside0.mk (below_step q29_12 hb); clear BK320; clear HB; have HO324 := n0_; have BK320 := n1_; have HB := n2_; clear n0_ n1_ n2_; clear hb ho21; obtain ⟨Ao22, co22, eo22⟩ := Kd.R_slice HO324.out
   (first | subst eo22 | (injection eo22 with f1_ f2_ f3_; have f4_ := f1_.symm; have f5_ := f3_.symm; clear f1_ f2_ f3_; subst f4_; subst f5_))
   refine hK.out _ _ ⟨(blk_cell BK320.out 0).trans rfl, (blk_cell BK320.out 1).trans rfl⟩ (fun hHeld => ?_)
   clear hK K
   refine norm_ (a' := ?_) ?_ ?_
   rotate_left
   ·
    show Act.put _ (some 9) _ = _
    exact s9_
   refine on_ 5 10 (tb_ 17 63) (fun K hK => ?_)
   refine goes_ Tryz.func149 (by kernel_rfl) rfl #[.slice Ao22 y322.length co22] (by rfl) rfl rfl s0_ ?_
   with_reducible refine (impl_areAnyRules.calls _ _ y322 false _ ?side1 ?side2 A5.out).mono ?_
   (case side1 => exact q29_11)
   (case side2 => exact (Kd.R_reads' HO324.out).2.1)
   rintro e w23 ⟨rfl, hb⟩
   refine ⟨_, rfl, ?_⟩
   have n0_ := Aside0.mk (Kd.R_below q29_16 hb); have n1_ := Aside0.mk (blk_below (g := gb320) (o := .cells #[.int .i64 a1_0, .int .i64 a1_1] 48 (0, 0)) q29_15 hb); have n2_ := Aside0.mk (below_step q29_12 hb); clear HO324; clear BK320; clear HB; have HO324 := n0_; have BK320 := n1_; have HB := n2_; clear n0_ n1_ n2_
   (try clear hb)
   (try clear hb2)
   (try clear hk)
   (try clear hi)
   refine hK.out _ _ ⟨(blk_cell BK320.out 0).trans rfl, (blk_cell BK320.out 1).trans rfl⟩ (fun hHeld => ?_)
   clear hK K
   refine norm_ (a' := ?_) ?_ ?_
   rotate_left
   ·
    show Act.put _ (some 10) _ = _
    exact s9_
   refine pl_ 6 11 (tb_ 17 127) ?_; refine pl_ 7 12 (tb_ 17 255) ?_; refine pr_ 8 13 (tb_ 17 511) ?_; refine pr_ 9 14 (tb_ 17 1023) ?_; refine pr_ 10 15 (tb_ 17 2047) ?_; refine pr_ 11 16 (tb_ 17 4095) ?_; refine pr_ 12 17 (tb_ 17 8191) ?_; refine pr_ 13 18 (tb_ 17 16383) ?_; refine pr_ 14 19 (tb_ 17 32767) ?_; refine pl_ 15 20 (tb_ 17 65535) ?_; refine pl_ 16 4 (tb_ 17 131071) ?_
   refine done_ (done_of HT_.out (by kernel_rfl)) ?_
   try go_wp2
   go_ret
   exact ⟨s2_, q29_12⟩
 ·
  replace c4 := Bool.eq_false_iff.mpr c4; subst c4
  rw [if_neg (show ¬ (false = true) by decide)] at H
  obtain rfl := Option.some.inj H
  go_enter Tryz.func68, Tryz.ntmps68
  try go_wp2_with (first | ((with_reducible refine gate_dst (N := 3) rfl ?_); (try (refine gate_guard (by rfl) ?_; dsimp only)); refine box_event ?hg (N := 3) ?hd (cs := #[.int .i64 a1_0, .int .i64 a1_1]) (t := 48) ?hr ?_; (case hd => rfl); (case hg => rfl); (case hr => first | (go_simp; done) | (go_simp; rfl)); intro gb320 hg w24 hbox hb; have n_ := ac_ (below_step s1_ hb) <| ac_ (hbox) <| ac_ ((gz_ w hg s1_)) <| Aside0.mk ((gz_ w hg s1_)); clear HB; obtain ⟨HB, BK320, GW320, GE320⟩ := n_; clear hb hbox hg))
  have n0_ := Aside0.mk (blk_drew BK320.out); have n1_ := Aside0.mk (below_drew1 HB.out); clear BK320; clear HB; have BK320 := n0_; have HB := n1_; clear n0_ n1_
  refine start_ (n := 17) (S := fun w' => True) (ds := []) (tb_ 17 0) (by kernel_rfl) rfl rfl trivial (fun hHeld => ?_); refine with_tabW impl_Follows.tab1 impl_Follows.bits1 (fun HT_ HW_ => ?_)
  generalize w24.drew = w25 at BK320 HB hHeld ⊢
  refine pl_ 0 5 (tb_ 17 1) ?_
  refine on_ 1 6 (tb_ 17 3) (fun K hK => ?_)
  refine goes_ Tryz.func149 (by kernel_rfl) rfl #[.slice A0 l0.length c0] (by rfl) rfl rfl s0_ ?_
  with_reducible refine (impl_areAnyRules.calls _ _ l0 false _ ?side1 ?side2 A3.out).mono ?_
  (case side1 => exact s12_)
  (case side2 => exact HC0.out)
  rintro e w26 ⟨rfl, hb⟩
  refine ⟨_, rfl, ?_⟩
  have n0_ := Aside0.mk (blk_below (g := gb320) (o := .cells #[.int .i64 a1_0, .int .i64 a1_1] 48 (0, 0)) q29_15 hb); have n1_ := Aside0.mk (below_step q29_12 hb); clear BK320; clear HB; have BK320 := n0_; have HB := n1_; clear n0_ n1_
  (try clear hb)
  (try clear hb2)
  (try clear hk)
  (try clear hi)
  refine hK.out _ _ trivial (fun hHeld => ?_)
  clear hK K
  refine norm_ (a' := ?_) ?_ ?_
  rotate_left
  ·
   show Act.put _ (some 6) _ = _
   exact s9_
  refine pl_ 2 7 (tb_ 17 7) ?_; refine pr_ 3 8 (tb_ 17 15) ?_; refine pr_ 4 9 (tb_ 17 31) ?_; refine pr_ 5 10 (tb_ 17 63) ?_; refine pl_ 6 11 (tb_ 17 127) ?_; refine pl_ 7 12 (tb_ 17 255) ?_; refine pr_ 8 13 (tb_ 17 511) ?_; refine pr_ 9 14 (tb_ 17 1023) ?_; refine pr_ 10 15 (tb_ 17 2047) ?_; refine pr_ 11 16 (tb_ 17 4095) ?_; refine pr_ 12 17 (tb_ 17 8191) ?_; refine pr_ 13 18 (tb_ 17 16383) ?_; refine pr_ 14 19 (tb_ 17 32767) ?_; refine pl_ 15 20 (tb_ 17 65535) ?_; refine pl_ 16 4 (tb_ 17 131071) ?_
  refine done_ (done_of HT_.out (by kernel_rfl)) ?_
  try go_wp2
  go_ret
  exact ⟨s2_, q29_12⟩
theorem bnd30_ {α β : Type} {o : Option α} {f : α → Option β} {r : β} (h : o.bind f = some r) : ∃ a, Aside0 (o = some a) ∧ f a = some r := by
 obtain ⟨a, h1, h2⟩ := Option.bind_eq_some_iff.mp h
 exact ⟨a, ⟨h1⟩, h2⟩
theorem q30_1 {P : Prop} (h : P := by repeat (first | exact (Kd.R_reads' HO331.out).2.2 | (with_reducible refine Kd.C_alloc ?_ _) | (with_reducible refine Kd.C_drewN ?_ _) | (with_reducible refine Kd.C_drew ?_))) : P := h
theorem q30_2 {P : Prop} (h : P := by repeat (first | (with_reducible first | exact HB.out | apply below_alloc | apply pw_below_drewN | apply below_drew1 | refine below_set ?_ GE328.out) | exact HB.out)) : P := h
theorem q30_5 {P : Prop} (h : P := by (with_reducible repeat (first | refine blk_drewN ?_ _ | refine blk_drew ?_ | refine blk_alloc ?_ _)); exact BK328.out) : P := h
theorem q30_6 {P : Prop} (h : P := by (with_reducible repeat (first | apply Kd.R_alloc | apply Kd.R_drewN | apply Kd.R_drew)); exact HO331.out) : P := h
def impl_Respects.f (a0_0 : Int) (a0_1 : Int) (a1 : Int) : Option (Bool) := (impl_areAnyRules.f (([(⟨a0_0, a0_1⟩ : S48)] : List (S48)))).bind fun t332 => (if t332 = true then ((impl_isAnySet.f a1).bind fun t333 => (if t333 = true then ((impl_inSet.f a0_0 a1).bind fun t334 => (if t334 = true then ((impl_inSet.f a0_1 a1).bind fun t335 => (some t335)) else (some true))) else (some false))) else (some false))
set_option maxHeartbeats 40000000 in
set_option maxRecDepth 100000 in
theorem impl_Respects.calls (a0_0 : Int) (a0_1 : Int) (a1 : Int) (r : Bool) (w : World) (h : impl_Respects.f a0_0 a0_1 a1 = some r) :
  Calls Tryz.prog 79 #[.agg #[.int .i64 a0_0, .int .i64 a0_1], .int .i64 a1] w fun e w' => e = .returned (.bool r) ∧ Below w.heap.size w w' := by
 have hu48 := Tryz.underlying48; have HB := Aside0.mk (Below.refl w.heap.size w); have H := h; clear h; unfold impl_Respects.f at H; obtain ⟨y329, hy_⟩ : ∃ y_ : List (S48), y_ = (([(⟨a0_0, a0_1⟩ : S48)] : List (S48))) := ⟨_, rfl⟩
 replace H : ((impl_areAnyRules.f y329).bind fun t332 => (if t332 = true then ((impl_isAnySet.f a1).bind fun t333 => (if t333 = true then ((impl_inSet.f a0_0 a1).bind fun t334 => (if t334 = true then ((impl_inSet.f a0_1 a1).bind fun t335 => (some t335)) else (some true))) else (some false))) else (some false))) = some r := rH_
 have Ny329 := Aside0.mk hy_; clear hy_; obtain ⟨t332, A3, H⟩ := bnd30_ H
 by_cases c4 : t332 = true
 ·
  subst c4; rw [if_pos rfl] at H; obtain ⟨t333, A5, H⟩ := bnd30_ H
  by_cases c6 : t333 = true
  ·
   subst c6; rw [if_pos rfl] at H; obtain ⟨t334, A7, H⟩ := bnd30_ H
   by_cases c8 : t334 = true
   ·
    subst c8; rw [if_pos rfl] at H; obtain ⟨t335, A9, H⟩ := bnd30_ H; obtain rfl := Option.some.inj H
    go_enter Tryz.func79, Tryz.ntmps79
    go_wp2_with (first | ((with_reducible refine gw_ rfl ?_); first | (refine be_ 2 #[.int .i64 a0_0, .int .i64 a0_1] 48 ?_; intro gb328 hg w10 hbox hb; have n_ := ac_ (below_step s1_ hb) <| ac_ (hbox) <| ac_ ((gz_ w hg s1_)) <| Aside0.mk ((gz_ w hg s1_)); clear HB; obtain ⟨HB, BK328, GW328, GE328⟩ := n_; clear hb hbox hg; have hcz11_0 : w10.cell? ⟨gb328, 0, none⟩ = some (.int .i64 a0_0) := (blk_cell BK328.out 0).trans rfl; have hcz11_1 : w10.cell? ⟨gb328, 1, none⟩ = some (.int .i64 a0_1) := (blk_cell BK328.out 1).trans rfl; have hfz11_0 := blk_frozen BK328.out 0; have hfz11_1 := blk_frozen BK328.out 1) | (refine gL_ 149 7 Tryz.func149 #[.slice Ao14 y329.length co14] ?_; (with_reducible refine (impl_areAnyRules.calls _ _ y329 true _ ?side1 ?side2 A3.out).mono ?_); (case side1 => exact q30_1); (case side2 => exact (Kd.R_reads' HO331.out).2.1); rintro e w15 ⟨rfl, hb⟩; refine ⟨_, rfl, ?_⟩; have n_ := ac_ (Kd.R_below q30_6 hb) <| ac_ (blk_below (g := gb328) (o := .cells #[.int .i64 a0_0, .int .i64 a0_1] 48 (0, 0)) q30_5 hb) <| Aside0.mk (below_step q30_2 hb); clear HO331 BK328 HB; obtain ⟨HO331, BK328, HB⟩ := n_; (try clear hb))) | ((with_reducible refine gate_dst (N := 6) rfl ?_); refine Kd.R_lit k48 _ 48 ?hg (N := 6) ?hd (xs := ([(⟨a0_0, a0_1⟩ : S48)] : List (S48))) (inner := [.int .i64 a0_0, .int .i64 a0_1]) (ok := fun _ => True) (okp := fun _ => True) ?hr ?hp (fun _ hk => hk) trivial (Below.refl _ _) (Nat.le_refl _) (by simp) ?_; (case hd => rfl); (case hg => rfl); (case hr => first | (go_simp; done) | (go_simp; rfl)); (case hp => exact (Reps.c2 (show Kd.M k48 _ _ _ (⟨a0_0, a0_1⟩ : S48) [.int .i64 a0_0, .int .i64 a0_1] from (k48_mkM _ _ _ (⟨a0_0, a0_1⟩ : S48) )) (Reps.none _ _))); intro v330 w12 ho13 hb hg_ hnew_; clear hg_ hnew_; (first | rw [← Ny329.out] at ho13 | (simp only [Int.reduceToNat] at ho13; rw [← Ny329.out] at ho13)); have n_ := ac_ (Kd.R_lower (Kd.R_newB ho13 (g := gb328) (o := .cells #[.int .i64 a0_0, .int .i64 a0_1] 48 (0, 0)) q30_5) (below_size q30_2)) <| ac_ (blk_below (g := gb328) (o := .cells #[.int .i64 a0_0, .int .i64 a0_1] 48 (0, 0)) q30_5 hb) <| Aside0.mk (below_step q30_2 hb); clear BK328 HB; obtain ⟨HO331, BK328, HB⟩ := n_; clear hb ho13; obtain ⟨Ao14, co14, eo14⟩ := Kd.R_slice HO331.out; subst eo14) | (go_at_call 177; (with_reducible refine (impl_isAnySet.calls a1 true _ A5.out).mono ?_); rintro e w' ⟨rfl, ⟨nd, rfl⟩⟩; have hcz16_0 : w15.cell? ⟨gb328, 0, none⟩ = some (.int .i64 a0_0) := (blk_cell BK328.out 0).trans rfl; have hcz16_1 : w15.cell? ⟨gb328, 1, none⟩ = some (.int .i64 a0_1) := (blk_cell BK328.out 1).trans rfl; have hfz16_0 := blk_frozen BK328.out 0; have hfz16_1 := blk_frozen BK328.out 1) | (go_at_call 141; (with_reducible refine (impl_inSet.calls a0_0 a1 true _ A7.out).mono ?_); rintro e w' ⟨rfl, ⟨nd, rfl⟩⟩) | (go_at_call 141; (with_reducible refine (impl_inSet.calls a0_1 a1 t335 _ A9.out).mono ?_); rintro e w' ⟨rfl, ⟨nd, rfl⟩⟩))
    go_ret
    exact ⟨s2_, q30_2⟩
   ·
    replace c8 := Bool.eq_false_iff.mpr c8; subst c8
    rw [if_neg (show ¬ (false = true) by decide)] at H
    obtain rfl := Option.some.inj H
    go_enter Tryz.func79, Tryz.ntmps79
    go_wp2_with (first | ((with_reducible refine gw_ rfl ?_); first | (refine be_ 2 #[.int .i64 a0_0, .int .i64 a0_1] 48 ?_; intro gb328 hg w17 hbox hb; have n_ := ac_ (below_step s1_ hb) <| ac_ (hbox) <| ac_ ((gz_ w hg s1_)) <| Aside0.mk ((gz_ w hg s1_)); clear HB; obtain ⟨HB, BK328, GW328, GE328⟩ := n_; clear hb hbox hg; have hcz18_0 : w17.cell? ⟨gb328, 0, none⟩ = some (.int .i64 a0_0) := (blk_cell BK328.out 0).trans rfl; have hcz18_1 : w17.cell? ⟨gb328, 1, none⟩ = some (.int .i64 a0_1) := (blk_cell BK328.out 1).trans rfl; have hfz18_0 := blk_frozen BK328.out 0; have hfz18_1 := blk_frozen BK328.out 1) | (refine gL_ 149 7 Tryz.func149 #[.slice Ao21 y329.length co21] ?_; (with_reducible refine (impl_areAnyRules.calls _ _ y329 true _ ?side1 ?side2 A3.out).mono ?_); (case side1 => exact q30_1); (case side2 => exact (Kd.R_reads' HO331.out).2.1); rintro e w22 ⟨rfl, hb⟩; refine ⟨_, rfl, ?_⟩; have n_ := ac_ (Kd.R_below q30_6 hb) <| ac_ (blk_below (g := gb328) (o := .cells #[.int .i64 a0_0, .int .i64 a0_1] 48 (0, 0)) q30_5 hb) <| Aside0.mk (below_step q30_2 hb); clear HO331 BK328 HB; obtain ⟨HO331, BK328, HB⟩ := n_; (try clear hb))) | ((with_reducible refine gate_dst (N := 6) rfl ?_); refine Kd.R_lit k48 _ 48 ?hg (N := 6) ?hd (xs := ([(⟨a0_0, a0_1⟩ : S48)] : List (S48))) (inner := [.int .i64 a0_0, .int .i64 a0_1]) (ok := fun _ => True) (okp := fun _ => True) ?hr ?hp (fun _ hk => hk) trivial (Below.refl _ _) (Nat.le_refl _) (by simp) ?_; (case hd => rfl); (case hg => rfl); (case hr => first | (go_simp; done) | (go_simp; rfl)); (case hp => exact (Reps.c2 (show Kd.M k48 _ _ _ (⟨a0_0, a0_1⟩ : S48) [.int .i64 a0_0, .int .i64 a0_1] from (k48_mkM _ _ _ (⟨a0_0, a0_1⟩ : S48) )) (Reps.none _ _))); intro v330 w19 ho20 hb hg_ hnew_; clear hg_ hnew_; (first | rw [← Ny329.out] at ho20 | (simp only [Int.reduceToNat] at ho20; rw [← Ny329.out] at ho20)); have n_ := ac_ (Kd.R_lower (Kd.R_newB ho20 (g := gb328) (o := .cells #[.int .i64 a0_0, .int .i64 a0_1] 48 (0, 0)) q30_5) (below_size q30_2)) <| ac_ (blk_below (g := gb328) (o := .cells #[.int .i64 a0_0, .int .i64 a0_1] 48 (0, 0)) q30_5 hb) <| Aside0.mk (below_step q30_2 hb); clear BK328 HB; obtain ⟨HO331, BK328, HB⟩ := n_; clear hb ho20; obtain ⟨Ao21, co21, eo21⟩ := Kd.R_slice HO331.out; subst eo21) | (go_at_call 177; (with_reducible refine (impl_isAnySet.calls a1 true _ A5.out).mono ?_); rintro e w' ⟨rfl, ⟨nd, rfl⟩⟩; have hcz23_0 : w22.cell? ⟨gb328, 0, none⟩ = some (.int .i64 a0_0) := (blk_cell BK328.out 0).trans rfl; have hcz23_1 : w22.cell? ⟨gb328, 1, none⟩ = some (.int .i64 a0_1) := (blk_cell BK328.out 1).trans rfl; have hfz23_0 := blk_frozen BK328.out 0; have hfz23_1 := blk_frozen BK328.out 1) | (go_at_call 141; (with_reducible refine (impl_inSet.calls a0_0 a1 false _ A7.out).mono ?_); rintro e w' ⟨rfl, ⟨nd, rfl⟩⟩))
    go_ret
    exact ⟨s2_, q30_2⟩
  ·
   replace c6 := Bool.eq_false_iff.mpr c6; subst c6
   rw [if_neg (show ¬ (false = true) by decide)] at H
   obtain rfl := Option.some.inj H
   go_enter Tryz.func79, Tryz.ntmps79
   go_wp2_with (first | ((with_reducible refine gw_ rfl ?_); first | (refine be_ 2 #[.int .i64 a0_0, .int .i64 a0_1] 48 ?_; intro gb328 hg w24 hbox hb; have n_ := ac_ (below_step s1_ hb) <| ac_ (hbox) <| ac_ ((gz_ w hg s1_)) <| Aside0.mk ((gz_ w hg s1_)); clear HB; obtain ⟨HB, BK328, GW328, GE328⟩ := n_; clear hb hbox hg; have hcz25_0 : w24.cell? ⟨gb328, 0, none⟩ = some (.int .i64 a0_0) := (blk_cell BK328.out 0).trans rfl; have hcz25_1 : w24.cell? ⟨gb328, 1, none⟩ = some (.int .i64 a0_1) := (blk_cell BK328.out 1).trans rfl; have hfz25_0 := blk_frozen BK328.out 0; have hfz25_1 := blk_frozen BK328.out 1) | (refine gL_ 149 7 Tryz.func149 #[.slice Ao28 y329.length co28] ?_; (with_reducible refine (impl_areAnyRules.calls _ _ y329 true _ ?side1 ?side2 A3.out).mono ?_); (case side1 => exact q30_1); (case side2 => exact (Kd.R_reads' HO331.out).2.1); rintro e w29 ⟨rfl, hb⟩; refine ⟨_, rfl, ?_⟩; have n_ := ac_ (Kd.R_below q30_6 hb) <| ac_ (blk_below (g := gb328) (o := .cells #[.int .i64 a0_0, .int .i64 a0_1] 48 (0, 0)) q30_5 hb) <| Aside0.mk (below_step q30_2 hb); clear HO331 BK328 HB; obtain ⟨HO331, BK328, HB⟩ := n_; (try clear hb))) | ((with_reducible refine gate_dst (N := 6) rfl ?_); refine Kd.R_lit k48 _ 48 ?hg (N := 6) ?hd (xs := ([(⟨a0_0, a0_1⟩ : S48)] : List (S48))) (inner := [.int .i64 a0_0, .int .i64 a0_1]) (ok := fun _ => True) (okp := fun _ => True) ?hr ?hp (fun _ hk => hk) trivial (Below.refl _ _) (Nat.le_refl _) (by simp) ?_; (case hd => rfl); (case hg => rfl); (case hr => first | (go_simp; done) | (go_simp; rfl)); (case hp => exact (Reps.c2 (show Kd.M k48 _ _ _ (⟨a0_0, a0_1⟩ : S48) [.int .i64 a0_0, .int .i64 a0_1] from (k48_mkM _ _ _ (⟨a0_0, a0_1⟩ : S48) )) (Reps.none _ _))); intro v330 w26 ho27 hb hg_ hnew_; clear hg_ hnew_; (first | rw [← Ny329.out] at ho27 | (simp only [Int.reduceToNat] at ho27; rw [← Ny329.out] at ho27)); have n_ := ac_ (Kd.R_lower (Kd.R_newB ho27 (g := gb328) (o := .cells #[.int .i64 a0_0, .int .i64 a0_1] 48 (0, 0)) q30_5) (below_size q30_2)) <| ac_ (blk_below (g := gb328) (o := .cells #[.int .i64 a0_0, .int .i64 a0_1] 48 (0, 0)) q30_5 hb) <| Aside0.mk (below_step q30_2 hb); clear BK328 HB; obtain ⟨HO331, BK328, HB⟩ := n_; clear hb ho27; obtain ⟨Ao28, co28, eo28⟩ := Kd.R_slice HO331.out; subst eo28) | (go_at_call 177; (with_reducible refine (impl_isAnySet.calls a1 false _ A5.out).mono ?_); rintro e w' ⟨rfl, ⟨nd, rfl⟩⟩))
   go_ret
   exact ⟨s2_, q30_2⟩
 ·
  replace c4 := Bool.eq_false_iff.mpr c4; subst c4
  rw [if_neg (show ¬ (false = true) by decide)] at H
  obtain rfl := Option.some.inj H
  go_enter Tryz.func79, Tryz.ntmps79
  go_wp2_with (first | ((with_reducible refine gw_ rfl ?_); first | (refine be_ 2 #[.int .i64 a0_0, .int .i64 a0_1] 48 ?_; intro gb328 hg w30 hbox hb; have n_ := ac_ (below_step s1_ hb) <| ac_ (hbox) <| ac_ ((gz_ w hg s1_)) <| Aside0.mk ((gz_ w hg s1_)); clear HB; obtain ⟨HB, BK328, GW328, GE328⟩ := n_; clear hb hbox hg; have hcz31_0 : w30.cell? ⟨gb328, 0, none⟩ = some (.int .i64 a0_0) := (blk_cell BK328.out 0).trans rfl; have hcz31_1 : w30.cell? ⟨gb328, 1, none⟩ = some (.int .i64 a0_1) := (blk_cell BK328.out 1).trans rfl; have hfz31_0 := blk_frozen BK328.out 0; have hfz31_1 := blk_frozen BK328.out 1) | (refine gL_ 149 7 Tryz.func149 #[.slice Ao34 y329.length co34] ?_; (with_reducible refine (impl_areAnyRules.calls _ _ y329 false _ ?side1 ?side2 A3.out).mono ?_); (case side1 => exact q30_1); (case side2 => exact (Kd.R_reads' HO331.out).2.1); rintro e w35 ⟨rfl, hb⟩; refine ⟨_, rfl, ?_⟩; have n_ := ac_ (Kd.R_below q30_6 hb) <| ac_ (blk_below (g := gb328) (o := .cells #[.int .i64 a0_0, .int .i64 a0_1] 48 (0, 0)) q30_5 hb) <| Aside0.mk (below_step q30_2 hb); clear HO331 BK328 HB; obtain ⟨HO331, BK328, HB⟩ := n_; (try clear hb))) | ((with_reducible refine gate_dst (N := 6) rfl ?_); refine Kd.R_lit k48 _ 48 ?hg (N := 6) ?hd (xs := ([(⟨a0_0, a0_1⟩ : S48)] : List (S48))) (inner := [.int .i64 a0_0, .int .i64 a0_1]) (ok := fun _ => True) (okp := fun _ => True) ?hr ?hp (fun _ hk => hk) trivial (Below.refl _ _) (Nat.le_refl _) (by simp) ?_; (case hd => rfl); (case hg => rfl); (case hr => first | (go_simp; done) | (go_simp; rfl)); (case hp => exact (Reps.c2 (show Kd.M k48 _ _ _ (⟨a0_0, a0_1⟩ : S48) [.int .i64 a0_0, .int .i64 a0_1] from (k48_mkM _ _ _ (⟨a0_0, a0_1⟩ : S48) )) (Reps.none _ _))); intro v330 w32 ho33 hb hg_ hnew_; clear hg_ hnew_; (first | rw [← Ny329.out] at ho33 | (simp only [Int.reduceToNat] at ho33; rw [← Ny329.out] at ho33)); have n_ := ac_ (Kd.R_lower (Kd.R_newB ho33 (g := gb328) (o := .cells #[.int .i64 a0_0, .int .i64 a0_1] 48 (0, 0)) q30_5) (below_size q30_2)) <| ac_ (blk_below (g := gb328) (o := .cells #[.int .i64 a0_0, .int .i64 a0_1] 48 (0, 0)) q30_5 hb) <| Aside0.mk (below_step q30_2 hb); clear BK328 HB; obtain ⟨HO331, BK328, HB⟩ := n_; clear hb ho33; obtain ⟨Ao34, co34, eo34⟩ := Kd.R_slice HO331.out; subst eo34))
  go_ret
  exact ⟨s2_, q30_2⟩
theorem bnd32_ {α β : Type} {o : Option α} {f : α → Option β} {r : β} (h : o.bind f = some r) : ∃ a, Aside0 (o = some a) ∧ f a = some r := by
 obtain ⟨a, h1, h2⟩ := Option.bind_eq_some_iff.mp h
 exact ⟨a, ⟨h1⟩, h2⟩
theorem q32_1 {P : Prop} (h : P := by repeat (first | exact (Kd.R_reads' HO1051.out).2.2 | (with_reducible refine Kd.C_alloc ?_ _) | (with_reducible refine Kd.C_drewN ?_ _) | (with_reducible refine Kd.C_drew ?_))) : P := h
theorem q32_2 {P : Prop} (h : P := by repeat (first | (with_reducible first | exact HB.out | apply below_alloc | apply pw_below_drewN | apply below_drew1 | refine below_set ?_ GE1048.out) | exact HB.out)) : P := h
theorem q32_5 {P : Prop} (h : P := by (with_reducible repeat (first | refine blk_drewN ?_ _ | refine blk_drew ?_ | refine blk_alloc ?_ _)); exact BK1048.out) : P := h
theorem q32_6 {P : Prop} (h : P := by (with_reducible repeat (first | apply Kd.R_alloc | apply Kd.R_drewN | apply Kd.R_drew)); exact HO1051.out) : P := h
def impl_RuleText.f (k : Nat) (a0_0 : Int) (a0_1 : Int) : Option (ByteArray) := (impl_areAnyRules.f (([(⟨a0_0, a0_1⟩ : S48)] : List (S48)))).bind fun t1052 => (if t1052 = true then ((impl_SetText.f k a0_0).bind fun t1053 => (if t1053.size + 1 ≤ 9223372036854775807 then ((impl_SetText.f k a0_1).bind fun t1054 => (if (t1053 ++ (⟨#[62]⟩ : ByteArray)).size + t1054.size ≤ 9223372036854775807 then (some ((t1053 ++ (⟨#[62]⟩ : ByteArray)) ++ t1054)) else (none))) else (none))) else (some (⟨#[]⟩ : ByteArray)))
def impl_RuleText.T3 : Bool × List (List Nat × List Nat) := (true, [([], []), ([0], [0]), ([1], [1]), ([2], [2]), ([], []), ([4], [4]), ([5, 2], [5]), ([3, 6], [3, 6]), ([7, 6, 0, 1, 2, 3, 4, 5, 6, 7], [7])])
def impl_RuleText.B3 : List Nat := [0, 1, 3, 7, 0, 16, 55, 127, 255]
theorem impl_RuleText.tab3 : rtab .any (opsOf Tryz.f84 3) = impl_RuleText.T3 := by kernel_rfl
theorem impl_RuleText.bits3 : waitsOk impl_RuleText.T3.2 impl_RuleText.B3 = true := by kernel_rfl
set_option maxHeartbeats 40000000 in
set_option maxRecDepth 100000 in
theorem impl_RuleText.calls (k : Nat) (a0_0 : Int) (a0_1 : Int) (r : ByteArray) (w : World) (h : impl_RuleText.f k a0_0 a0_1 = some r) :
  Calls Tryz.prog 84 #[.agg #[.int .i64 a0_0, .int .i64 a0_1]] w fun e w' => e = .returned (.string r) ∧ Below w.heap.size w w' := by
 have hu48 := Tryz.underlying48; have HB := Aside0.mk (Below.refl w.heap.size w); have H := h; clear h; unfold impl_RuleText.f at H; obtain ⟨y1049, hy_⟩ : ∃ y_ : List (S48), y_ = (([(⟨a0_0, a0_1⟩ : S48)] : List (S48))) := ⟨_, rfl⟩
 replace H : ((impl_areAnyRules.f y1049).bind fun t1052 => (if t1052 = true then ((impl_SetText.f k a0_0).bind fun t1053 => (if t1053.size + 1 ≤ 9223372036854775807 then ((impl_SetText.f k a0_1).bind fun t1054 => (if (t1053 ++ (⟨#[62]⟩ : ByteArray)).size + t1054.size ≤ 9223372036854775807 then (some ((t1053 ++ (⟨#[62]⟩ : ByteArray)) ++ t1054)) else (none))) else (none))) else (some (⟨#[]⟩ : ByteArray)))) = some r := rH_
 have Ny1049 := Aside0.mk hy_; clear hy_; obtain ⟨t1052, A2, H⟩ := bnd32_ H
 by_cases c3 : t1052 = true
 ·
  subst c3; rw [if_pos rfl] at H; obtain ⟨t1053, A4, H⟩ := bnd32_ H
  by_cases c5 : t1053.size + 1 ≤ 9223372036854775807
  ·
   rw [if_pos c5] at H; have c5b0 := eq_true c5; have c5b1 : decide (t1053.size + 1 ≤ 9223372036854775807) = true := decide_eq_true c5
   try have c5b2 : (9223372036854775807 < t1053.size + 1) = False := eq_false (Nat.not_lt.2 c5)
   obtain ⟨t1054, A6, H⟩ := bnd32_ H
   by_cases c7 : (t1053 ++ (⟨#[62]⟩ : ByteArray)).size + t1054.size ≤ 9223372036854775807
   ·
    rw [if_pos c7] at H; have c7b0 := eq_true c7; have c7b1 : decide ((t1053 ++ (⟨#[62]⟩ : ByteArray)).size + t1054.size ≤ 9223372036854775807) = true := decide_eq_true c7
    try have c7b2 : (9223372036854775807 < (t1053 ++ (⟨#[62]⟩ : ByteArray)).size + t1054.size) = False := eq_false (Nat.not_lt.2 c7)
    have c7b9 : (9223372036854775807 < t1053.size + 1 + t1054.size) = False := eq_false (Nat.not_lt.2 (by have h_ := c7; rw [ByteArray.size_append] at h_; exact h_))
    obtain rfl := Option.some.inj H
    go_enter Tryz.func84, Tryz.ntmps84
    try go_wp2_with (first | ((with_reducible refine gw_ rfl ?_); first | (refine be_ 1 #[.int .i64 a0_0, .int .i64 a0_1] 48 ?_; intro gb1048 hg w8 hbox hb; have n_ := ac_ (below_step s1_ hb) <| ac_ (hbox) <| ac_ ((gz_ w hg s1_)) <| Aside0.mk ((gz_ w hg s1_)); clear HB; obtain ⟨HB, BK1048, GW1048, GE1048⟩ := n_; clear hb hbox hg; have hcz9_0 : w8.cell? ⟨gb1048, 0, none⟩ = some (.int .i64 a0_0) := (blk_cell BK1048.out 0).trans rfl; have hcz9_1 : w8.cell? ⟨gb1048, 1, none⟩ = some (.int .i64 a0_1) := (blk_cell BK1048.out 1).trans rfl; have hfz9_0 := blk_frozen BK1048.out 0; have hfz9_1 := blk_frozen BK1048.out 1) | (refine gL_ 149 5 Tryz.func149 #[.slice Ao12 y1049.length co12] ?_; (with_reducible refine (impl_areAnyRules.calls _ _ y1049 true _ ?side1 ?side2 A2.out).mono ?_); (case side1 => exact q32_1); (case side2 => exact (Kd.R_reads' HO1051.out).2.1); rintro e w13 ⟨rfl, hb⟩; refine ⟨_, rfl, ?_⟩; have n_ := ac_ (Kd.R_below q32_6 hb) <| ac_ (blk_below (g := gb1048) (o := .cells #[.int .i64 a0_0, .int .i64 a0_1] 48 (0, 0)) q32_5 hb) <| Aside0.mk (below_step q32_2 hb); clear HO1051 BK1048 HB; obtain ⟨HO1051, BK1048, HB⟩ := n_; (try clear hb))) | ((with_reducible refine gate_dst (N := 4) rfl ?_); refine Kd.R_lit k48 _ 48 ?hg (N := 4) ?hd (xs := ([(⟨a0_0, a0_1⟩ : S48)] : List (S48))) (inner := [.int .i64 a0_0, .int .i64 a0_1]) (ok := fun _ => True) (okp := fun _ => True) ?hr ?hp (fun _ hk => hk) trivial (Below.refl _ _) (Nat.le_refl _) (by simp) ?_; (case hd => rfl); (case hg => rfl); (case hr => first | (go_simp; done) | (go_simp; rfl)); (case hp => exact (Reps.c2 (show Kd.M k48 _ _ _ (⟨a0_0, a0_1⟩ : S48) [.int .i64 a0_0, .int .i64 a0_1] from (k48_mkM _ _ _ (⟨a0_0, a0_1⟩ : S48) )) (Reps.none _ _))); intro v1050 w10 ho11 hb hg_ hnew_; clear hg_ hnew_; (first | rw [← Ny1049.out] at ho11 | (simp only [Int.reduceToNat] at ho11; rw [← Ny1049.out] at ho11)); have n_ := ac_ (Kd.R_lower (Kd.R_newB ho11 (g := gb1048) (o := .cells #[.int .i64 a0_0, .int .i64 a0_1] 48 (0, 0)) q32_5) (below_size q32_2)) <| ac_ (blk_below (g := gb1048) (o := .cells #[.int .i64 a0_0, .int .i64 a0_1] 48 (0, 0)) q32_5 hb) <| Aside0.mk (below_step q32_2 hb); clear BK1048 HB; obtain ⟨HO1051, BK1048, HB⟩ := n_; clear hb ho11; obtain ⟨Ao12, co12, eo12⟩ := Kd.R_slice HO1051.out; subst eo12))
    have n0_ := Aside0.mk (Kd.R_drew HO1051.out); have n1_ := Aside0.mk (blk_drew BK1048.out); have n2_ := Aside0.mk (below_drew1 HB.out); clear HO1051; clear BK1048; clear HB; have HO1051 := n0_; have BK1048 := n1_; have HB := n2_; clear n0_ n1_ n2_
    refine start_ (n := 9) (S := fun w' => w'.cell? ⟨gb1048, 0, none⟩ = some (.int .i64 a0_0) ∧ w'.cell? ⟨gb1048, 1, none⟩ = some (.int .i64 a0_1)) (ds := []) (tb_ 9 0) (by kernel_rfl) rfl rfl ⟨(blk_cell BK1048.out 0).trans rfl, (blk_cell BK1048.out 1).trans rfl⟩ (fun hHeld => ?_); refine with_tabW impl_RuleText.tab3 impl_RuleText.bits3 (fun HT_ HW_ => ?_)
    generalize w13.drew = w14 at HO1051 BK1048 HB hHeld ⊢
    refine pl_ 0 7 (tb_ 9 1) ?_; refine pl_ 4 11 (tb_ 9 17) ?_; refine tk_ 1 8 (tb_ 9 19) hHeld ?_; refine tk_ 5 12 (tb_ 9 51) hHeld ?_
    refine on_ 2 9 (tb_ 9 55) (fun K hK => ?_)
    refine goes_ Tryz.func187 (by kernel_rfl) rfl #[.int .i64 a0_0] (by rfl) rfl rfl s0_ ?_
    with_reducible refine (impl_SetText.calls k a0_0 t1053 _ A4.out).mono ?_
    rintro e w15 ⟨rfl, hb⟩
    refine ⟨_, rfl, ?_⟩
    have n0_ := Aside0.mk (Kd.R_below q32_6 hb); have n1_ := Aside0.mk (blk_below (g := gb1048) (o := .cells #[.int .i64 a0_0, .int .i64 a0_1] 48 (0, 0)) q32_5 hb); have n2_ := Aside0.mk (below_step q32_2 hb); clear HO1051; clear BK1048; clear HB; have HO1051 := n0_; have BK1048 := n1_; have HB := n2_; clear n0_ n1_ n2_
    (try clear hb)
    (try clear hb2)
    (try clear hk)
    (try clear hi)
    refine hK.out _ _ ⟨(blk_cell BK1048.out 0).trans rfl, (blk_cell BK1048.out 1).trans rfl⟩ (fun hHeld => ?_)
    clear hK K
    refine norm_ (a' := ?_) ?_ ?_
    rotate_left
    ·
     show Act.put _ (some 9) _ = _
     simp only [Act.put, List.setIfInBounds_toArray, List.set_cons_zero, List.set_cons_succ, i64_w, i32_w]
     rfl
    refine pl_ 3 10 (tb_ 9 63) ?_
    refine on_ 6 13 (tb_ 9 127) (fun K hK => ?_)
    refine goes_ Tryz.func187 (by kernel_rfl) rfl #[.int .i64 a0_1] (by rfl) rfl rfl s0_ ?_
    with_reducible refine (impl_SetText.calls k a0_1 t1054 _ A6.out).mono ?_
    rintro e w16 ⟨rfl, hb⟩
    refine ⟨_, rfl, ?_⟩
    have n0_ := Aside0.mk (Kd.R_below q32_6 hb); have n1_ := Aside0.mk (blk_below (g := gb1048) (o := .cells #[.int .i64 a0_0, .int .i64 a0_1] 48 (0, 0)) q32_5 hb); have n2_ := Aside0.mk (below_step q32_2 hb); clear HO1051; clear BK1048; clear HB; have HO1051 := n0_; have BK1048 := n1_; have HB := n2_; clear n0_ n1_ n2_
    (try clear hb)
    (try clear hb2)
    (try clear hk)
    (try clear hi)
    refine hK.out _ _ ⟨(blk_cell BK1048.out 0).trans rfl, (blk_cell BK1048.out 1).trans rfl⟩ (fun hHeld => ?_)
    clear hK K
    refine norm_ (a' := ?_) ?_ ?_
    rotate_left
    ·
     show Act.put _ (some 13) _ = _
     simp only [Act.put, List.setIfInBounds_toArray, List.set_cons_zero, List.set_cons_succ, i64_w, i32_w]
     rfl
    refine pl_ 7 14 (tb_ 9 255) ?_; refine pl_ 8 2 (tb_ 9 511) ?_
    refine done_ (done_of HT_.out (by kernel_rfl)) ?_
    try go_wp2
    go_ret
    exact ⟨(by first | rfl | (simp [errW_none, errW_some] <;> rfl) | (simp [*, errW_none, errW_some] <;> rfl)), q32_2⟩
   ·
    rw [if_neg c7] at H
    exact absurd H (by simp)
  ·
   rw [if_neg c5] at H
   exact absurd H (by simp)
 ·
  replace c3 := Bool.eq_false_iff.mpr c3; subst c3
  rw [if_neg (show ¬ (false = true) by decide)] at H
  obtain rfl := Option.some.inj H
  go_enter Tryz.func84, Tryz.ntmps84
  go_wp2_with (first | ((with_reducible refine gw_ rfl ?_); first | (refine be_ 1 #[.int .i64 a0_0, .int .i64 a0_1] 48 ?_; intro gb1048 hg w17 hbox hb; have n_ := ac_ (below_step s1_ hb) <| ac_ (hbox) <| ac_ ((gz_ w hg s1_)) <| Aside0.mk ((gz_ w hg s1_)); clear HB; obtain ⟨HB, BK1048, GW1048, GE1048⟩ := n_; clear hb hbox hg; have hcz18_0 : w17.cell? ⟨gb1048, 0, none⟩ = some (.int .i64 a0_0) := (blk_cell BK1048.out 0).trans rfl; have hcz18_1 : w17.cell? ⟨gb1048, 1, none⟩ = some (.int .i64 a0_1) := (blk_cell BK1048.out 1).trans rfl; have hfz18_0 := blk_frozen BK1048.out 0; have hfz18_1 := blk_frozen BK1048.out 1) | (refine gL_ 149 5 Tryz.func149 #[.slice Ao21 y1049.length co21] ?_; (with_reducible refine (impl_areAnyRules.calls _ _ y1049 false _ ?side1 ?side2 A2.out).mono ?_); (case side1 => exact q32_1); (case side2 => exact (Kd.R_reads' HO1051.out).2.1); rintro e w22 ⟨rfl, hb⟩; refine ⟨_, rfl, ?_⟩; have n_ := ac_ (Kd.R_below q32_6 hb) <| ac_ (blk_below (g := gb1048) (o := .cells #[.int .i64 a0_0, .int .i64 a0_1] 48 (0, 0)) q32_5 hb) <| Aside0.mk (below_step q32_2 hb); clear HO1051 BK1048 HB; obtain ⟨HO1051, BK1048, HB⟩ := n_; (try clear hb))) | ((with_reducible refine gate_dst (N := 4) rfl ?_); refine Kd.R_lit k48 _ 48 ?hg (N := 4) ?hd (xs := ([(⟨a0_0, a0_1⟩ : S48)] : List (S48))) (inner := [.int .i64 a0_0, .int .i64 a0_1]) (ok := fun _ => True) (okp := fun _ => True) ?hr ?hp (fun _ hk => hk) trivial (Below.refl _ _) (Nat.le_refl _) (by simp) ?_; (case hd => rfl); (case hg => rfl); (case hr => first | (go_simp; done) | (go_simp; rfl)); (case hp => exact (Reps.c2 (show Kd.M k48 _ _ _ (⟨a0_0, a0_1⟩ : S48) [.int .i64 a0_0, .int .i64 a0_1] from (k48_mkM _ _ _ (⟨a0_0, a0_1⟩ : S48) )) (Reps.none _ _))); intro v1050 w19 ho20 hb hg_ hnew_; clear hg_ hnew_; (first | rw [← Ny1049.out] at ho20 | (simp only [Int.reduceToNat] at ho20; rw [← Ny1049.out] at ho20)); have n_ := ac_ (Kd.R_lower (Kd.R_newB ho20 (g := gb1048) (o := .cells #[.int .i64 a0_0, .int .i64 a0_1] 48 (0, 0)) q32_5) (below_size q32_2)) <| ac_ (blk_below (g := gb1048) (o := .cells #[.int .i64 a0_0, .int .i64 a0_1] 48 (0, 0)) q32_5 hb) <| Aside0.mk (below_step q32_2 hb); clear BK1048 HB; obtain ⟨HO1051, BK1048, HB⟩ := n_; clear hb ho20; obtain ⟨Ao21, co21, eo21⟩ := Kd.R_slice HO1051.out; subst eo21))
  go_ret
  exact ⟨(by first | rfl | (simp [errW_none, errW_some] <;> rfl) | (simp [*, errW_none, errW_some] <;> rfl)), q32_2⟩
end Go.Proofs.YtafnamchckehmaaGreatDoor.Pr
namespace Go.Proofs.YtafnamchckehmaaGreatDoor.Pr
set_option maxHeartbeats 4000000
set_option maxRecDepth 100000
open Go.RowKit Go.Proofs.YtafnamchckehmaaGreatDoorW.PrintWords Go.Proofs.YtafnamchckehmaaGreatDoorW.PrintLast Go.Proofs.YtafnamchckehmaaGreatDoorW.PrintMore
set_option linter.unusedVariables false
def impl_IsContext.f (a0 : Int) (l1 : List Int) : Option Bool := some (decide (0 ≤ a0 ∧ a0 ≤ 6) && decide ((l1.length : Int) ≤ 8) && l1.all (Pu.isSetB a0))
theorem box2_cells {w w1 : World} {a b : Value} {t : TypeId} (h : Below (w.alloc (.cells #[a, b] t)).heap.size (w.alloc (.cells #[a, b] t)) w1) : w1.cell? ⟨w.heap.size, 0, none⟩ = some a ∧ w1.cell? ⟨w.heap.size, 1, none⟩ = some b := by
  have h0 : (w.alloc (.cells #[a, b] t)).cell? ⟨w.heap.size, 0, none⟩ = some a := blk_cell (heap_alloc_new w (.cells #[a, b] t)) 0
  have h1 : (w.alloc (.cells #[a, b] t)).cell? ⟨w.heap.size, 1, none⟩ = some b := blk_cell (heap_alloc_new w (.cells #[a, b] t)) 1
  exact ⟨(h.cell (p := ⟨w.heap.size, 0, none⟩) (by simp)).trans h0, (h.cell (p := ⟨w.heap.size, 1, none⟩) (by simp)).trans h1⟩
theorem IsContext1_calls (n : Int) (b : Nat) (x : Int) (W : World) (hc : W.cell? ⟨b, 0, none⟩ = some (.int .i64 n)) :
    Calls Tryz.prog 228 #[.int .i64 x, .pointer (some ⟨b, 0, none⟩)] W fun e w' => e = .returned (.bool (!Pu.isSetB n x)) ∧ Below W.heap.size W w' := by
  have hu := Tryz.underlying29
  have K1 : Aside0 (impl_IsSet.f n x = some (Pu.isSetB n x)) := ⟨Pu.set_val n x⟩
  go_enter Tryz.func228, Tryz.ntmps228
  go_wp2_with (go_at_call 130; refine (impl_IsSet.calls n x _ _ K1.out).mono ?_; rintro e w' ⟨rfl, ⟨⟨q, rfl⟩⟩⟩)
  go_ret
  exact ⟨rfl, by repeat (first | apply below_alloc | apply pw_below_drewN | apply below_drew1 | exact Below.refl _ _)⟩
theorem IsContext1_fn (n : Int) (b : Nat) (w : World) (hc : w.cell? ⟨b, 0, none⟩ = some (.int .i64 n)) : FnIb 228 #[.pointer (some ⟨b, 0, none⟩)] (fun x => !Pu.isSetB n x) w := by
  intro W x hb
  rw [show (#[.int .i64 x] ++ #[.pointer (some ⟨b, 0, none⟩)] : Array Value) = #[.int .i64 x, .pointer (some ⟨b, 0, none⟩)] from rfl]
  exact IsContext1_calls n b x W ((hb.cell (p := ⟨b, 0, none⟩) (World.block_lt_of_cell? w _ hc)).trans hc)
theorem impl_IsContext.calls (a0_0 : Int) (A0_1 : Option Addr) (c0_1 : Nat) (l0_1 : List Int) (r : Bool) (w : World) (hr0_1 : Kd.C (Kd.int .i64) w A0_1 l0_1.length l0_1) (hc0_1 : l0_1.length ≤ c0_1) (h : impl_IsContext.f a0_0 l0_1 = some r) :
    Calls Tryz.prog 164 #[.agg #[.int .i64 a0_0, .slice A0_1 l0_1.length c0_1]] w fun e w' => e = .returned (.bool r) ∧ Below w.heap.size w w' := by
  have hu := Tryz.underlying29
  have HR := Aside0.mk hr0_1
  have hr := Aside0.mk (Option.some.inj h)
  clear h hr0_1
  have eg : ∀ args w, (callFunc 228 args).run Tryz.prog w = .ok (.enter 228 args) w := enters_of Tryz.func228 (by kernel_rfl) rfl
  cases h1 : decide (0 ≤ a0_0 ∧ a0_0 ≤ 6) with
  | false =>
    have K : Aside0 (impl_within.f a0_0 0 6 = some false) := ⟨by rw [Pu.within_val, h1]⟩
    have H : Aside0 (r = false) := ⟨by rw [← hr.out, h1]; rfl⟩
    clear h1
    go_enter Tryz.func164, Tryz.ntmps164
    go_wp2_with (go_at_call 127; refine (impl_within.calls a0_0 0 6 false _ K.out).mono ?_; rintro e w' ⟨rfl, ⟨⟨q, rfl⟩⟩⟩)
    go_ret
    exact ⟨by rw [H.out]; rfl, by repeat (first | apply below_alloc | apply pw_below_drewN | apply below_drew1 | exact Below.refl _ _)⟩
  | true =>
    have K : Aside0 (impl_within.f a0_0 0 6 = some true) := ⟨by rw [Pu.within_val, h1]⟩
    by_cases h2 : (l0_1.length : Int) ≤ 8
    · have h2b : decide ((l0_1.length : Int) ≤ 8) = true := decide_eq_true h2
      have H : Aside0 (r = !(l0_1.any fun x => !Pu.isSetB a0_0 x)) := ⟨by rw [← hr.out, h1, h2b, ← List.all_eq_not_any_not]; rfl⟩
      clear h1 h2
      go_enter Tryz.func164, Tryz.ntmps164
      go_wp2_with (go_at_call 127; refine (impl_within.calls a0_0 0 6 true _ K.out).mono ?_; rintro e w1 ⟨rfl, hd⟩; have HB1 := Aside0.mk (below_step (below_alloc (Below.refl w.heap.size w) _) hd.below); have HC1 := Aside0.mk (box2_cells (a := .int .i64 a0_0) (b := .slice A0_1 l0_1.length c0_1) hd.below); clear hd; have hcell := HC1.out.2)
      refine (ContainsFunc_int 228 #[.pointer (some ⟨w.heap.size, 0, none⟩)] eg A0_1 c0_1 l0_1 (fun x => !Pu.isSetB a0_0 x) w1 (Kd.C_below HR.out HB1.out) (IsContext1_fn a0_0 w.heap.size w1 HC1.out.1)).mono ?_
      rintro e w' ⟨rfl, hb⟩
      go_wp2
      go_ret
      exact ⟨by rw [H.out]; rfl, below_step HB1.out hb⟩
    · have h2b : decide ((l0_1.length : Int) ≤ 8) = false := decide_eq_false h2
      have H : Aside0 (r = false) := ⟨by rw [← hr.out, h1, h2b]; rfl⟩
      clear h1 h2
      go_enter Tryz.func164, Tryz.ntmps164
      go_wp2_with (go_at_call 127; refine (impl_within.calls a0_0 0 6 true _ K.out).mono ?_; rintro e w1 ⟨rfl, hd⟩; have HB1 := Aside0.mk (below_step (below_alloc (Below.refl w.heap.size w) _) hd.below); have HC1 := Aside0.mk (box2_cells (a := .int .i64 a0_0) (b := .slice A0_1 l0_1.length c0_1) hd.below); clear hd; have hcell := HC1.out.2)
      go_ret
      exact ⟨by rw [H.out]; rfl, HB1.out⟩
end Go.Proofs.YtafnamchckehmaaGreatDoor.Pr
