/- What the law needs of the program's functions as plain functions, of the proofs that their calls answer so, and of plain laws: gathered by a program of this place (pack.py) out of its printed texts. No condition beyond what each statement says. -/
import Derived.Test.YtafnamchckehmaaGreatDoorZFnModels3
import Derived.Test.YtafnamchckehmaaGreatDoorZFnModels9
import Derived.Test.YtafnamchckehmaaGreatDoorZFnModels10
import Derived.Test.YtafnamchckehmaaGreatDoorZFnModels2
import Derived.Test.YtafnamchckehmaaGreatDoorZFnModels8
import Derived.Sort.LotA
import Derived.Test.YtafnamchckehmaaGreatDoorZFnModels6
namespace Go.Proofs.YtafnamchckehmaaGreatDoor.Pr
open Go.RowKit Go.Proofs.YtafnamchckehmaaGreatDoorW.PrintWords Go.Proofs.YtafnamchckehmaaGreatDoorW.PrintLast Go.Proofs.YtafnamchckehmaaGreatDoorW.PrintMore
set_option linter.unusedVariables false
def impl_areAnyRules.f (l0 : List S48) : Option Bool := some (l0.all Pu.anyR)
theorem areAny1_val (r : S48) : impl_areAnyRules_1.f r.f0 r.f1 = some (!Pu.anyR r) := by
  unfold impl_areAnyRules_1.f
  rw [Pu.any_val, Option.bind_some]
  unfold Pu.anyR
  cases Pu.isAny r.f0 with
  | false => rfl
  | true => simp [Pu.any_val]
theorem impl_areAnyRules.calls (A0 : Option Addr) (c0 : Nat) (l0 : List S48) (r : Bool) (w : World) (hr0 : Kd.C k48 w A0 l0.length l0) (hc0 : l0.length ≤ c0) (h : impl_areAnyRules.f l0 = some r) :
    Calls Tryz.prog 149 #[.slice A0 l0.length c0] w fun e w' => e = .returned (.bool r) ∧ Below w.heap.size w w' := by
  obtain rfl := Option.some.inj h
  clear h
  have eg : ∀ args w, (callFunc 218 args).run Tryz.prog w = .ok (.enter 218 args) w := enters_of Tryz.func218 (by kernel_rfl) rfl
  have h0 := ContainsFunc_rule 218 #[] eg A0 c0 l0 (fun r => !Pu.anyR r) w hr0 (fun W x hb => (impl_areAnyRules_1.calls x.f0 x.f1 _ W (areAny1_val x)).mono fun e w' ⟨he, hb'⟩ => ⟨he, hb'⟩)
  have h1 : Aside0 ((!(l0.any fun r => !Pu.anyR r)) = l0.all Pu.anyR) := ⟨by rw [List.all_eq_not_any_not]⟩
  clear hr0
  go_enter Tryz.func149, Tryz.ntmps149
  go_wp2_with (go_at_call 167; refine h0.mono ?_; rintro e w' ⟨rfl, hb⟩)
  go_ret
  exact ⟨by rw [← h1.out]; rfl, hb⟩
end Go.Proofs.YtafnamchckehmaaGreatDoor.Pr
namespace Go.Proofs.YtafnamchckehmaaGreatDoor.Pr
open Go.RowKit Go.Proofs.YtafnamchckehmaaGreatDoorW.PrintWords Go.Proofs.YtafnamchckehmaaGreatDoorW.PrintLast Go.Proofs.YtafnamchckehmaaGreatDoorW.PrintMore
attribute [local go_sem] max2_int min2_int max_two min_two max_three min_three max_four min_four
set_option linter.unusedVariables false
set_option linter.unusedSimpArgs false
theorem bnd35_ {α β : Type} {o : Option α} {f : α → Option β} {r : β} (h : o.bind f = some r) : ∃ a, Aside0 (o = some a) ∧ f a = some r := by
 obtain ⟨a, h1, h2⟩ := Option.bind_eq_some_iff.mp h
 exact ⟨a, ⟨h1⟩, h2⟩
theorem q35_1 {P : Prop} (h : P := by repeat (first | (with_reducible first | exact HB.out | apply below_alloc | apply pw_below_drewN | apply below_drew1 | refine below_set ?_ GE216.out) | exact HB.out)) : P := h
mutual
def impl_OneStep.j0 : Nat → List (S48) → Int → Bool → Option (Int)
 | 0, _, _, _ => none
 | k + 1, x0, x1, x15 => if x15 = true then (some x1) else (impl_OneStep.l0 k x1 x1 x0 (x0.length : Int) 0)
def impl_OneStep.l0 : Nat → Int → Int → List (S48) → Int → Int → Option (Int)
 | 0, _, _, _, _, _ => none
 | k + 1, x1, x5, x18, x19, x20 => if x20 < x19 then (if 0 ≤ x20 then (if x20 < (x18.length : Int) then ((impl_inSet.f ((rd_T48 x18 x20).f0) x1).bind fun t217 => (if t217 = true then (impl_OneStep.l0 k x1 (Go.bits .or .i64 x5 ((rd_T48 x18 x20).f1)) x18 x19 (wrap64 (x20 + 1))) else (impl_OneStep.l0 k x1 x5 x18 x19 (wrap64 (x20 + 1))))) else (none)) else (none)) else (some x5)
end
def impl_OneStep.f (k : Nat) (l0 : List (S48)) (a1 : Int) : Option (Int) := (impl_isAnySet.f a1).bind fun t213 => (if t213 = true then ((impl_areAnyRules.f l0).bind fun t214 => (impl_OneStep.j0 k l0 a1 (!t214))) else (impl_OneStep.j0 k l0 a1 true))
set_option maxHeartbeats 40000000 in
set_option maxRecDepth 100000 in
theorem impl_OneStep.calls (k : Nat) (A0 : Option Addr) (c0 : Nat) (l0 : List (S48)) (a1 : Int) (r : Int) (w : World) (hr0 : Kd.C k48 w A0 l0.length l0) (hc0 : l0.length ≤ c0) (h : impl_OneStep.f k l0 a1 = some r) :
  Calls Tryz.prog 116 #[.slice A0 l0.length c0, .int .i64 a1] w fun e w' => e = .returned (.int .i64 r) ∧ Below w.heap.size w w' := by
 have hu48 := Tryz.underlying48; have HR0 := Aside0.mk hr0; have HC0 := Aside0.mk hc0; clear hr0 hc0; have HB := Aside0.mk (Below.refl w.heap.size w); have H := h; clear h; unfold impl_OneStep.f at H; have HC3 := Aside0.mk H; clear H
 go_enter Tryz.func116, Tryz.ntmps116
 go_upto_region 1 with (fail)
 go_cut [15] (fun v15 wc => ∃ (kq : Nat) (x15_2 : Bool), v15 = .bool x15_2 ∧ Aside0 (impl_OneStep.j0 kq l0 a1 x15_2 = some r) ∧ Aside0 (kq ≤ k) ∧ Aside0 (Below w.heap.size w wc))
 case first =>
  have H := HC3.out; clear HC3; obtain ⟨t213, A4, H⟩ := bnd35_ H
  by_cases c5 : t213 = true
  ·
   subst c5; rw [if_pos rfl] at H; obtain ⟨t214, A6, H⟩ := bnd35_ H; have H' := Aside0.mk H; clear H
   go_wp2_with (first | (refine gL_ 177 9 Tryz.func177 #[.int .i64 a1] ?_; (with_reducible refine (impl_isAnySet.calls a1 true _ A4.out).mono ?_); rintro e w' ⟨rfl, ⟨nd, rfl⟩⟩; refine ⟨_, rfl, ?_⟩) | (go_at_call 149; (with_reducible refine (impl_areAnyRules.calls _ _ l0 t214 _ ?side1 ?side2 A6.out).mono ?_); (case side1 => repeat (first | exact (Kd.C_below HR0.out s1_) | (with_reducible refine Kd.C_alloc ?_ _) | (with_reducible refine Kd.C_drewN ?_ _) | (with_reducible refine Kd.C_drew ?_))); (case side2 => exact HC0.out); rintro e w7 ⟨rfl, hb⟩; have n_ := Aside0.mk (below_step s1_ hb); clear HB; have HB := n_; clear n_; (try clear hb)))
   go_meet
   case rel => exact ⟨_, (!t214), s2_, H', ⟨(by first | omega | exact Nat.le_refl _)⟩, ⟨s1_⟩⟩
  ·
   replace c5 := Bool.eq_false_iff.mpr c5; subst c5
   rw [if_neg (show ¬ (false = true) by decide)] at H
   have H' := Aside0.mk H; clear H
   go_wp2_with (first | (refine gL_ 177 9 Tryz.func177 #[.int .i64 a1] ?_; (with_reducible refine (impl_isAnySet.calls a1 false _ A4.out).mono ?_); rintro e w' ⟨rfl, ⟨nd, rfl⟩⟩; refine ⟨_, rfl, ?_⟩))
   go_meet
   case rel => exact ⟨_, (true), s2_, H', ⟨(by first | omega | exact Nat.le_refl _)⟩, ⟨s1_⟩⟩
 case rest =>
  clear HC3
  try clear c1
  try clear p2
  try clear c5
  obtain ⟨kq, x15_2, rfl, HA, HJ2, HB⟩ := hcut
  cases kq with
  | zero => exact absurd HA.out (by simp [impl_OneStep.j0])
  | succ kj2 =>
   have H := HA.out; clear HA
   simp only [impl_OneStep.j0] at H
   by_cases c8 : x15_2 = true
   ·
    subst c8; rw [if_pos rfl] at H; obtain rfl := Option.some.inj H
    go_wp2
    go_ret
    exact ⟨(by first | rfl | (simp [errW_none, errW_some] <;> rfl) | (simp [*, errW_none, errW_some] <;> rfl)), s1_⟩
   ·
    replace c8 := Bool.eq_false_iff.mpr c8; subst c8
    rw [if_neg (show ¬ (false = true) by decide)] at H
    have H' := Aside0.mk H; clear H
    go_wp2
    go_loopg [5, 20] kj2 (fun kq v5 v20 w' => ∃ (x5_2 : Int) (x20_2 : Int), v5 = .int .i64 x5_2 ∧ v20 = .int .i64 x20_2 ∧ Aside0 (impl_OneStep.l0 kq a1 x5_2 l0 (l0.length : Int) x20_2 = some r) ∧ Aside0 (kq ≤ kj2) ∧ Aside0 (Below w.heap.size w w'))
    case atStart => exact ⟨(a1), (0), s2_, s2_, H', ⟨Nat.le_refl _⟩, ⟨s1_⟩⟩
    case round =>
     clear H'
     try clear c1
     try clear p2
     try clear c5
     try clear c8
     try clear p2
     obtain ⟨x5_2, x20_2, rfl, rfl, HA, HK2, HB⟩ := hrel
     cases gk with
     | zero => exact absurd HA.out (by simp [impl_OneStep.l0])
     | succ k2 =>
      have H := HA.out; clear HA
      simp only [impl_OneStep.l0] at H
      by_cases c9 : x20_2 < (l0.length : Int)
      ·
       rw [if_pos c9] at H; have c9b0 : decide (x20_2 < (l0.length : Int)) = true := decide_eq_true c9; clear c9
       by_cases c10 : 0 ≤ x20_2
       ·
        rw [if_pos c10] at H; have c10b0 : decide (0 ≤ x20_2) = true := decide_eq_true c10; clear c10
        by_cases c11 : x20_2 < (l0.length : Int)
        ·
         rw [if_pos c11] at H; have c11b0 : decide (x20_2 < (l0.length : Int)) = true := decide_eq_true c11; clear c11; obtain ⟨t217, A12, H⟩ := bnd35_ H
         by_cases c13 : t217 = true
         ·
          subst c13; rw [if_pos rfl] at H; have H' := Aside0.mk H; clear H; have p215 : 0 ≤ (x20_2 : Int) := of_decide_eq_true s3_; have q215 : x20_2 < (l0.length : Int) := of_decide_eq_true s3_; obtain ⟨ad215, e215, hx215_0, hx215_1⟩ := at_T48 HR0.out x20_2 p215 q215
          cases e215
          replace hx215_0 := (HB.out.cell (World.block_lt_of_cell? w _ hx215_0)).trans hx215_0; replace hx215_1 := (HB.out.cell (World.block_lt_of_cell? w _ hx215_1)).trans hx215_1; replace p215 := eq_true p215; replace q215 := eq_true q215
          go_wp2_with (first | (refine be_ 7 #[.int .i64 0, .int .i64 0] 48 ?_; intro gb216 hg w14 hbox hb; have n_ := ac_ (below_step s1_ hb) <| ac_ (hbox) <| ac_ ((gz_ w hg s1_)) <| Aside0.mk ((gz_ w hg s1_)); clear HB; obtain ⟨HB, BK216, GW216, GE216⟩ := n_; clear hb hbox hg; have hcz15_0 : w14.cell? ⟨gb216, 0, none⟩ = some (.int .i64 0) := (blk_cell BK216.out 0).trans rfl; have hcz15_1 : w14.cell? ⟨gb216, 1, none⟩ = some (.int .i64 0) := (blk_cell BK216.out 1).trans rfl; have hfz15_0 := blk_frozen BK216.out 0; have hfz15_1 := blk_frozen BK216.out 1) | (refine gL_ 141 27 Tryz.func141 #[.int .i64 ((rd_T48 l0 x20_2).f0), .int .i64 a1] ?_; (with_reducible refine (impl_inSet.calls ((rd_T48 l0 x20_2).f0) a1 true _ A12.out).mono ?_); rintro e w' ⟨rfl, ⟨nd, rfl⟩⟩; refine ⟨_, rfl, ?_⟩))
          go_roundg k2
          case measure => have := HJ2.out; have := HK2.out; omega
          case rel => exact ⟨(Go.bits .or .i64 x5_2 ((rd_T48 l0 x20_2).f1)), (wrap64 (x20_2 + 1)), s2_, s2_, H', ⟨by have := HJ2.out; have := HK2.out; omega⟩, ⟨q35_1⟩⟩
         ·
          replace c13 := Bool.eq_false_iff.mpr c13; subst c13
          rw [if_neg (show ¬ (false = true) by decide)] at H
          have H' := Aside0.mk H; clear H; have p215 : 0 ≤ (x20_2 : Int) := of_decide_eq_true s3_; have q215 : x20_2 < (l0.length : Int) := of_decide_eq_true s3_; obtain ⟨ad215, e215, hx215_0, hx215_1⟩ := at_T48 HR0.out x20_2 p215 q215
          cases e215
          replace hx215_0 := (HB.out.cell (World.block_lt_of_cell? w _ hx215_0)).trans hx215_0; replace hx215_1 := (HB.out.cell (World.block_lt_of_cell? w _ hx215_1)).trans hx215_1; replace p215 := eq_true p215; replace q215 := eq_true q215
          go_wp2_with (first | (refine be_ 7 #[.int .i64 0, .int .i64 0] 48 ?_; intro gb216 hg w16 hbox hb; have n_ := ac_ (below_step s1_ hb) <| ac_ (hbox) <| ac_ ((gz_ w hg s1_)) <| Aside0.mk ((gz_ w hg s1_)); clear HB; obtain ⟨HB, BK216, GW216, GE216⟩ := n_; clear hb hbox hg; have hcz17_0 : w16.cell? ⟨gb216, 0, none⟩ = some (.int .i64 0) := (blk_cell BK216.out 0).trans rfl; have hcz17_1 : w16.cell? ⟨gb216, 1, none⟩ = some (.int .i64 0) := (blk_cell BK216.out 1).trans rfl; have hfz17_0 := blk_frozen BK216.out 0; have hfz17_1 := blk_frozen BK216.out 1) | (refine gL_ 141 27 Tryz.func141 #[.int .i64 ((rd_T48 l0 x20_2).f0), .int .i64 a1] ?_; (with_reducible refine (impl_inSet.calls ((rd_T48 l0 x20_2).f0) a1 false _ A12.out).mono ?_); rintro e w' ⟨rfl, ⟨nd, rfl⟩⟩; refine ⟨_, rfl, ?_⟩))
          go_roundg k2
          case measure => have := HJ2.out; have := HK2.out; omega
          case rel => exact ⟨(x5_2), (wrap64 (x20_2 + 1)), s2_, s2_, H', ⟨by have := HJ2.out; have := HK2.out; omega⟩, ⟨q35_1⟩⟩
        ·
         rw [if_neg c11] at H
         exact absurd H (by simp)
       ·
        rw [if_neg c10] at H
        exact absurd H (by simp)
      ·
       rw [if_neg c9] at H; have c9b0 : decide (x20_2 < (l0.length : Int)) = false := decide_eq_false c9; clear c9; obtain rfl := Option.some.inj H
       go_wp2
       go_ret
       exact ⟨(by first | rfl | (simp [errW_none, errW_some] <;> rfl) | (simp [*, errW_none, errW_some] <;> rfl)), s1_⟩
mutual
def impl_ClosedBy.j0 : Nat → List (S48) → Int → Bool → Option (Int)
 | 0, _, _, _ => none
 | k + 1, x0, x1, x13 => if x13 = true then (some x1) else ((impl_OneStep.f k x0 x1).bind fun t220 => (impl_ClosedBy.l0 k x0 x1 t220))
def impl_ClosedBy.l0 : Nat → List (S48) → Int → Int → Option (Int)
 | 0, _, _, _ => none
 | k + 1, x0, x1, x5 => if x5 = x1 then (some x1) else ((impl_OneStep.f k x0 x5).bind fun t221 => (impl_ClosedBy.l0 k x0 x5 t221))
end
def impl_ClosedBy.f (k : Nat) (l0 : List (S48)) (a1 : Int) : Option (Int) := (impl_isAnySet.f a1).bind fun t218 => (if t218 = true then ((impl_areAnyRules.f l0).bind fun t219 => (impl_ClosedBy.j0 k l0 a1 (!t219))) else (impl_ClosedBy.j0 k l0 a1 true))
set_option maxHeartbeats 40000000 in
set_option maxRecDepth 100000 in
theorem impl_ClosedBy.calls (k : Nat) (A0 : Option Addr) (c0 : Nat) (l0 : List (S48)) (a1 : Int) (r : Int) (w : World) (hr0 : Kd.C k48 w A0 l0.length l0) (hc0 : l0.length ≤ c0) (h : impl_ClosedBy.f k l0 a1 = some r) :
  Calls Tryz.prog 70 #[.slice A0 l0.length c0, .int .i64 a1] w fun e w' => e = .returned (.int .i64 r) ∧ Below w.heap.size w w' := by
 have HR0 := Aside0.mk hr0; have HC0 := Aside0.mk hc0; clear hr0 hc0; have HB := Aside0.mk (Below.refl w.heap.size w); have H := h; clear h; unfold impl_ClosedBy.f at H; have HC3 := Aside0.mk H; clear H
 go_enter Tryz.func70, Tryz.ntmps70
 go_upto_region 1 with (fail)
 go_cut [13] (fun v13 wc => ∃ (kq : Nat) (x13_2 : Bool), v13 = .bool x13_2 ∧ Aside0 (impl_ClosedBy.j0 kq l0 a1 x13_2 = some r) ∧ Aside0 (kq ≤ k) ∧ Aside0 (Below w.heap.size w wc))
 case first =>
  have H := HC3.out; clear HC3; obtain ⟨t218, A4, H⟩ := bnd35_ H
  by_cases c5 : t218 = true
  ·
   subst c5; rw [if_pos rfl] at H; obtain ⟨t219, A6, H⟩ := bnd35_ H; have H' := Aside0.mk H; clear H
   go_wp2_with (first | (refine gL_ 177 7 Tryz.func177 #[.int .i64 a1] ?_; (with_reducible refine (impl_isAnySet.calls a1 true _ A4.out).mono ?_); rintro e w' ⟨rfl, ⟨nd, rfl⟩⟩; refine ⟨_, rfl, ?_⟩) | (go_at_call 149; (with_reducible refine (impl_areAnyRules.calls _ _ l0 t219 _ ?side1 ?side2 A6.out).mono ?_); (case side1 => repeat (first | exact (Kd.C_below HR0.out s1_) | (with_reducible refine Kd.C_alloc ?_ _) | (with_reducible refine Kd.C_drewN ?_ _) | (with_reducible refine Kd.C_drew ?_))); (case side2 => exact HC0.out); rintro e w7 ⟨rfl, hb⟩; have n_ := Aside0.mk (below_step s1_ hb); clear HB; have HB := n_; clear n_; (try clear hb)))
   go_meet
   case rel => exact ⟨_, (!t219), s2_, H', ⟨(by first | omega | exact Nat.le_refl _)⟩, ⟨s1_⟩⟩
  ·
   replace c5 := Bool.eq_false_iff.mpr c5; subst c5
   rw [if_neg (show ¬ (false = true) by decide)] at H
   have H' := Aside0.mk H; clear H
   go_wp2_with (first | (refine gL_ 177 7 Tryz.func177 #[.int .i64 a1] ?_; (with_reducible refine (impl_isAnySet.calls a1 false _ A4.out).mono ?_); rintro e w' ⟨rfl, ⟨nd, rfl⟩⟩; refine ⟨_, rfl, ?_⟩))
   go_meet
   case rel => exact ⟨_, (true), s2_, H', ⟨(by first | omega | exact Nat.le_refl _)⟩, ⟨s1_⟩⟩
 case rest =>
  clear HC3
  try clear c1
  try clear p2
  try clear c5
  try clear c7
  obtain ⟨kq, x13_2, rfl, HA, HJ2, HB⟩ := hcut
  cases kq with
  | zero => exact absurd HA.out (by simp [impl_ClosedBy.j0])
  | succ kj2 =>
   have H := HA.out; clear HA
   simp only [impl_ClosedBy.j0] at H
   by_cases c8 : x13_2 = true
   ·
    subst c8; rw [if_pos rfl] at H; obtain rfl := Option.some.inj H
    go_wp2
    go_ret
    exact ⟨(by first | rfl | (simp [errW_none, errW_some] <;> rfl) | (simp [*, errW_none, errW_some] <;> rfl)), s1_⟩
   ·
    replace c8 := Bool.eq_false_iff.mpr c8; subst c8
    rw [if_neg (show ¬ (false = true) by decide)] at H
    obtain ⟨t220, A9, H⟩ := bnd35_ H; have H' := Aside0.mk H; clear H
    go_wp2_with (first | (refine gL_ 116 17 Tryz.func116 #[.slice A0 l0.length c0, .int .i64 a1] ?_; (with_reducible refine (impl_OneStep.calls kj2 _ _ l0 a1 t220 _ ?side1 ?side2 A9.out).mono ?_); (case side1 => exact s19_); (case side2 => exact HC0.out); rintro e w10 ⟨rfl, hb⟩; refine ⟨_, rfl, ?_⟩; have n_ := Aside0.mk (below_step s1_ hb); clear HB; have HB := n_; clear n_; (try clear hb)))
    go_loopg [1, 5] kj2 (fun kq v1 v5 w' => ∃ (x1_2 : Int) (x5_2 : Int), v1 = .int .i64 x1_2 ∧ v5 = .int .i64 x5_2 ∧ Aside0 (impl_ClosedBy.l0 kq l0 x1_2 x5_2 = some r) ∧ Aside0 (kq ≤ kj2) ∧ Aside0 (Below w.heap.size w w'))
    case atStart => exact ⟨(a1), (t220), s2_, s2_, H', ⟨Nat.le_refl _⟩, ⟨s1_⟩⟩
    case round =>
     clear H'
     try clear c1
     try clear p2
     try clear c5
     try clear c7
     try clear c8
     try clear p2
     obtain ⟨x1_2, x5_2, rfl, rfl, HA, HK2, HB⟩ := hrel
     cases gk with
     | zero => exact absurd HA.out (by simp [impl_ClosedBy.l0])
     | succ k2 =>
      have H := HA.out; clear HA
      simp only [impl_ClosedBy.l0] at H
      by_cases c11 : x5_2 = x1_2
      ·
       rw [if_pos c11] at H; have c11b0 : (x5_2 == x1_2) = true := beq_iff_eq.mpr c11; have c11b1 : (x5_2 != x1_2) = false := bne_eq_false_iff_eq.mpr c11; clear c11; obtain rfl := Option.some.inj H
       go_wp2
       go_ret
       exact ⟨(by first | rfl | (simp [errW_none, errW_some] <;> rfl) | (simp [*, errW_none, errW_some] <;> rfl)), s1_⟩
      ·
       rw [if_neg c11] at H; have c11b0 : (x5_2 == x1_2) = false := beq_eq_false_iff_ne.mpr c11; have c11b1 : (x5_2 != x1_2) = true := bne_iff_ne.mpr c11; obtain ⟨t221, A12, H⟩ := bnd35_ H; have H' := Aside0.mk H; clear H
       go_wp2_with (first | (refine gL_ 116 23 Tryz.func116 #[.slice A0 l0.length c0, .int .i64 x5_2] ?_; (with_reducible refine (impl_OneStep.calls k2 _ _ l0 x5_2 t221 _ ?side1 ?side2 A12.out).mono ?_); (case side1 => exact s19_); (case side2 => exact HC0.out); rintro e w13 ⟨rfl, hb⟩; refine ⟨_, rfl, ?_⟩; have n_ := Aside0.mk (below_step s1_ hb); clear HB; have HB := n_; clear n_; (try clear hb)))
       go_roundg k2
       case measure => have := HJ2.out; have := HK2.out; omega
       case rel => exact ⟨(x5_2), (t221), s2_, s2_, H', ⟨by have := HJ2.out; have := HK2.out; omega⟩, ⟨s1_⟩⟩
end Go.Proofs.YtafnamchckehmaaGreatDoor.Pr
namespace Go.Proofs.YtafnamchckehmaaGreatDoor.Pr
open Go.RowKit Go.Proofs.YtafnamchckehmaaGreatDoorW.PrintWords Go.Proofs.YtafnamchckehmaaGreatDoorW.PrintLast Go.Proofs.YtafnamchckehmaaGreatDoorW.PrintMore
open Go.Sort Go.Shelf
set_option linter.unusedVariables false
set_option linter.unusedSimpArgs false
theorem Reps_one {α : Type} (enc : α → Value) (xs : List α) (cs : List Value) : Reps (fun x c => c = [enc x]) 1 xs cs ↔ cs = xs.map enc := by
  constructor
  · rintro ⟨h1, h2⟩
    rw [Nat.mul_one] at h1
    refine List.ext_getElem? fun j => ?_
    rw [List.getElem?_map]
    rcases Nat.lt_or_ge j xs.length with h | h
    · have h3 := h2 j xs[j] (List.getElem?_eq_getElem h)
      rw [Nat.mul_one] at h3
      have h4 := congrArg (fun l => l[0]?) h3
      simp only [List.getElem?_take_of_succ, List.getElem?_drop, List.getElem?_cons_zero, Nat.add_zero] at h4
      rw [List.getElem?_eq_getElem h]
      exact h4
    · rw [List.getElem?_eq_none h, List.getElem?_eq_none (by omega)]; rfl
  · rintro rfl
    refine ⟨by simp, fun j p hp => ?_⟩
    rw [Nat.mul_one]
    obtain ⟨hj, rfl⟩ := List.getElem?_eq_some_iff.1 hp
    refine List.ext_getElem? fun i => ?_
    cases i with
    | zero => simp [List.getElem?_take, List.getElem?_drop, List.getElem?_eq_getElem hj]
    | succ i => simp [List.getElem?_take]
theorem R_int_out {e base g n c : Nat} {w : World} {xs : List Int} {ok : Nat → Prop} (h : (Kd.int .i64).R e w base ok (.slice (some ⟨g, 0, none⟩) n c) xs) (hx : 0 < xs.length) :
    base ≤ g ∧ n = xs.length ∧ xs.length ≤ c ∧ c ≤ maxLen ∧ ∃ cur : Array Value, w.heap[g]? = some (.cells cur e (0, 0)) ∧ cur.size = c ∧ cur.toList.take xs.length = xs.map (Value.int .i64) := by
  obtain ⟨_, inner, ho, hr⟩ := h
  obtain ⟨h1, h2⟩ := ho
  rcases h2 with ⟨h2, _⟩ | ⟨g', cap, cur, he, hb, hh, hn, hx, hs, ht⟩
  · cases h2
  · injection he with e1 e2 e3
    injection e1 with e1
    injection e1 with e1 _ _
    subst e1 e3
    refine ⟨hb, e2, hn, hx, cur, hh, by rw [hs]; exact Nat.mul_one _, ?_⟩
    have := (Reps_one (Value.int .i64) xs inner).1 hr
    rw [← this, ← ht, show xs.length * (Kd.int .i64).sz = xs.length from Nat.mul_one _]
theorem R_int_in {e base g c : Nat} {w : World} {xs : List Int} {cur : Array Value} (hb : base ≤ g) (hc : xs.length ≤ c) (hm : c ≤ maxLen) (hh : w.heap[g]? = some (.cells cur e (0, 0))) (hs : cur.size = c)
    (ht : cur.toList.take xs.length = xs.map (Value.int .i64)) : (Kd.int .i64).R e w base (fun _ => True) (.slice (some ⟨g, 0, none⟩) xs.length c) xs :=
  ⟨fun _ _ => trivial, xs.map (Value.int .i64), ⟨by rw [List.length_map]; exact (Nat.mul_one _).symm, .inr ⟨g, c, cur, rfl, hb, hh, hc, hm, by rw [hs]; exact (Nat.mul_one _).symm, by rw [show xs.length * (Kd.int .i64).sz = xs.length from Nat.mul_one _]; exact ht⟩⟩, (Reps_one (Value.int .i64) xs _).2 rfl⟩
theorem befV_nat {s t : Nat} (hs : s < 256) (ht : t < 256) : Pu.befV (s : Int) (t : Int) = Pu.bef s t := by
  unfold Pu.befV Pu.isAny
  rw [decide_eq_true (show 0 ≤ (s : Int) ∧ (s : Int) < 256 by omega), decide_eq_true (show 0 ≤ (t : Int) ∧ (t : Int) < 256 by omega), Int.toNat_natCast, Int.toNat_natCast]
  rfl
theorem cast_nodup {R : List Nat} (h : R.Nodup) : (Pu.cast R).Nodup := List.pairwise_map.2 (h.imp fun hne e => hne (by omega))
theorem nodup_cast {R : List Nat} (h : (Pu.cast R).Nodup) : R.Nodup := (List.pairwise_map.1 (show (R.map fun (x : Nat) => (x : Int)).Nodup from h)).imp fun hne e => hne (by rw [e])
theorem lecF_nodup (p : Nat → Bool) : (Pu.lecF p).Nodup := (Pu.lecF_sorted p).imp fun h e => by subst e; omega
def encF (x : Fin 256) : Value := .int .i64 ((x.val : Nat) : Int)
def cfF (x y : Fin 256) : Int := if x = y then 0 else if Pu.bef x.val y.val = true then -1 else 1
theorem lt_cfF (x y : Fin 256) : ltOf cfF x y = Pu.bef x.val y.val := by
  unfold ltOf cfF
  by_cases h : x = y
  · subst h
    rw [if_pos rfl, Pu.bef_irrefl]; rfl
  · rw [if_neg h]
    cases hb : Pu.bef x.val y.val with
    | true => rfl
    | false => rfl
theorem swoF : SWO (ltOf cfF) where
  irrefl := fun x => by rw [lt_cfF]; exact Pu.bef_irrefl _
  trans := fun x y z h1 h2 => by
    rw [lt_cfF] at h1 h2 ⊢
    unfold Pu.bef at h1 h2 ⊢
    rw [decide_eq_true_iff] at h1 h2 ⊢
    omega
  ntrans := fun x y z h1 h2 => by
    rw [lt_cfF] at h1 h2 ⊢
    unfold Pu.bef at h1 h2 ⊢
    rw [decide_eq_false_iff_not] at h1 h2 ⊢
    omega
theorem antiF (x y : Fin 256) (h1 : ltOf cfF x y = false) (h2 : ltOf cfF y x = false) : x = y := by
  rw [lt_cfF] at h1 h2
  unfold Pu.bef at h1 h2
  rw [decide_eq_false_iff_not] at h1 h2
  exact Fin.ext (Pu.rv_inj x.isLt y.isLt (by omega))
def fin8 (x : Nat) : Fin 256 := ⟨x % 256, Nat.mod_lt _ (by decide)⟩
def arrF (R : List Nat) : Array (Fin 256) := (R.map fin8).toArray
theorem arrF_size (R : List Nat) : (arrF R).size = R.length := by unfold arrF; rw [List.size_toArray, List.length_map]
theorem map_fin8 {R : List Nat} (hR : ∀ x ∈ R, x < 256) : (R.map fin8).map (fun x => x.val) = R := by
  rw [List.map_map]
  conv => rhs; rw [← List.map_id R]
  exact List.map_congr_left fun x hx => Nat.mod_eq_of_lt (hR x hx)
theorem map_encF (L : List (Fin 256)) : L.map encF = (Pu.cast (L.map fun x => x.val)).map (Value.int .i64) := by
  unfold Pu.cast
  rw [List.map_map, List.map_map]
  rfl
theorem holdsF {w : World} {g n e c : Nat} {cur : Array Value} {d : Array (Fin 256)} (hh : w.heap[g]? = some (.cells cur e (0, 0))) (hs : d.size ≤ cur.size) (ht : cur.toList.take d.size = d.toList.map encF) : Holds encF w g 0 d := by
  intro j hj
  have h1 : cur[j]? = some (encF d[j]!) := by
    have h2 := congrArg (fun l => l[j]?) ht
    simp only [List.getElem?_take, if_pos hj, List.getElem?_map, Array.getElem?_toList] at h2
    rw [h2, Array.getElem?_eq_getElem hj, getElem!_pos d j hj]; rfl
  refine ⟨?_, ?_⟩
  · rw [Nat.zero_add]
    simp [World.cell?, hh, h1]
  · simp [World.frozen?, hh]
theorem heap_sortWorld {α : Type} [Inhabited α] (enc : α → Value) {w : World} {g e m : Nat} {cur : Array Value} {d : Array α} {os : Array Obj} (hh : w.heap[g]? = some (.cells cur e (0, 0))) : (sortWorld enc w g 0 m d os).heap[g]? = some (.cells (putCells enc 0 d cur) e (0, 0)) := by
  have hlt : g < w.heap.size := (Array.getElem?_eq_some_iff.1 hh).1
  unfold sortWorld grow putRow mapBlock Sort.ahead
  dsimp only
  rw [Array.getElem?_append_left (by rw [Array.size_modify]; exact hlt), Array.getElem?_modify, if_pos rfl, hh]
  rfl
theorem putCells_take {α : Type} [Inhabited α] (enc : α → Value) {cur : Array Value} {d : Array α} (hs : d.size ≤ cur.size) : (putCells enc 0 d cur).toList.take d.size = d.toList.map enc := by
  refine List.ext_getElem? fun j => ?_
  rw [List.getElem?_take, List.getElem?_map]
  by_cases hj : j < d.size
  · rw [if_pos hj, Array.getElem?_toList, Array.getElem?_toList]
    unfold putCells
    rw [Array.getElem?_mapIdx, Array.getElem?_eq_getElem (show j < cur.size by omega), Option.map_some, if_pos ⟨Nat.zero_le _, by omega⟩, Array.getElem?_eq_getElem hj, Nat.sub_zero, getElem!_pos d j hj]
    rfl
  · rw [if_neg hj, Array.getElem?_toList, Array.getElem?_eq_none (by omega)]
    rfl
theorem putCells_size {α : Type} [Inhabited α] (enc : α → Value) (cur : Array Value) (d : Array α) : (putCells enc 0 d cur).size = cur.size := by unfold putCells; rw [Array.size_mapIdx]
theorem below_sortWorld {α : Type} [Inhabited α] (enc : α → Value) {w0 w : World} {base g m : Nat} {d : Array α} {os : Array Obj} (hb : Below base w0 w) (hg : base ≤ g) (hs : base ≤ w.heap.size) : Below base w0 (sortWorld enc w g 0 m d os) := by
  have e : (sortWorld enc w g 0 m d os).heap = w.heap.modify g (onCells (putCells enc 0 d)) ++ os := rfl
  refine ⟨hb.os, hb.tape, hb.output, ?_, fun j hj => ?_⟩
  · rw [e, Array.size_append, Array.size_modify]
    have := hb.size
    omega
  · rw [e, Array.getElem?_append_left (by rw [Array.size_modify]; omega), Array.getElem?_modify, if_neg (by omega)]
    exact hb.block j hj
def lecOf (R : List Nat) : List Nat := Pu.lecF fun s => decide (s ∈ R)
theorem sortedF {R : List Nat} (hR : ∀ x ∈ R, x < 256) (hnd : R.Nodup) {d' : Array (Fin 256)} (h : d'.toList = (arrF R).toList.mergeSort fun x y => !(ltOf cfF) y x) : d'.toList.map (fun x => x.val) = lecOf R := by
  have hperm : d'.toList.Perm (R.map fin8) := by
    rw [h]
    exact List.mergeSort_perm _ _
  have hp2 : (d'.toList.map fun x => x.val).Perm R := by
    have := hperm.map (fun x => x.val)
    rwa [map_fin8 hR] at this
  have hs : d'.toList.Pairwise fun x y => (!(ltOf cfF) y x) = true := by
    rw [h]
    refine List.pairwise_mergeSort (fun a b c h1 h2 => ?_) (fun a b => ?_) _
    · rw [lt_cfF] at h1 h2 ⊢
      unfold Pu.bef at h1 h2 ⊢
      simp only [Bool.not_eq_true', decide_eq_false_iff_not] at h1 h2 ⊢
      omega
    · rw [lt_cfF, lt_cfF]
      unfold Pu.bef
      simp only [Bool.or_eq_true, Bool.not_eq_true', decide_eq_false_iff_not]
      omega
  have hn : (d'.toList.map fun x => x.val).Nodup := hp2.nodup_iff.2 hnd
  have hl : Pu.lecS (d'.toList.map fun x => x.val) := by
    unfold Pu.lecS
    have h1 : (d'.toList.map fun x => x.val).Pairwise fun a b => a < 256 ∧ b < 256 ∧ Pu.rv a ≤ Pu.rv b := by
      rw [List.pairwise_map]
      refine hs.imp fun {a b} hab => ⟨a.isLt, b.isLt, ?_⟩
      rw [lt_cfF] at hab
      unfold Pu.bef at hab
      simp only [Bool.not_eq_true', decide_eq_false_iff_not] at hab
      omega
    refine (h1.and hn).imp fun {a b} hab => ?_
    obtain ⟨⟨ha, hb, hle⟩, hne⟩ := hab
    rcases Nat.lt_or_ge (Pu.rv a) (Pu.rv b) with hlt | hge
    · exact hlt
    · exact absurd (Pu.rv_inj ha hb (by omega)) hne
  have h2 := Pu.lec_unique hl fun x hx => hR x (hp2.mem_iff.1 hx)
  rw [h2]
  unfold lecOf
  refine Pu.lecF_congr fun s _ => ?_
  rw [decide_eq_decide]
  exact hp2.mem_iff
theorem cmp_val (x y : Fin 256) : Ev (fun k => impl_SortLectic_2.f k ((x.val : Nat) : Int) ((y.val : Nat) : Int)) (cfF x y) := by
  unfold impl_SortLectic_2.f cfF
  by_cases h : x = y
  · subst h
    rw [if_pos rfl]
    exact Ev.congr (fun k => by rw [if_pos rfl]) (Ev.now _)
  · have hne : ¬ ((x.val : Nat) : Int) = ((y.val : Nat) : Int) := fun e => h (Fin.ext (by omega))
    rw [if_neg h]
    refine Ev.congr (fun k => by rw [if_neg hne]) ?_
    refine Ev.bind (Pu.befI_val _ _) ?_
    rw [befV_nat x.isLt y.isLt]
    cases Pu.bef x.val y.val with
    | true => exact Ev.now _
    | false => exact Ev.now _
theorem lecOf_length {R : List Nat} (hR : ∀ x ∈ R, x < 256) (hnd : R.Nodup) : (lecOf R).length = R.length := by
  have hd : ((arrF R).toList.mergeSort fun x y => !(ltOf cfF) y x).toArray.toList = (arrF R).toList.mergeSort fun x y => !(ltOf cfF) y x := rfl
  have h := sortedF hR hnd hd
  have h2 := congrArg List.length h
  rw [List.length_map, List.length_mergeSort] at h2
  rw [← h2]
  unfold arrF
  rw [List.length_map]
set_option maxHeartbeats 1000000 in
theorem sort_at (g c : Nat) (R : List Nat) (hpos : 0 < R.length) (hR : ∀ x ∈ R, x < 256) (hnd : R.Nodup) (w0 w : World) (htab : Tab64 w0) (hb : Below w0.heap.size w0 w)
    (ho : (Kd.int .i64).R 3 w w0.heap.size (fun _ => True) (.slice (some ⟨g, 0, none⟩) R.length c) (Pu.cast R)) :
    Calls Tryz.prog 248 #[.slice (some ⟨g, 0, none⟩) R.length c, .func (.func 249) #[] #[]] w fun e w' => e = .returned (.tuple #[]) ∧ (Kd.int .i64).R 3 w' w0.heap.size (fun _ => True) (.slice (some ⟨g, 0, none⟩) R.length c) (Pu.cast (lecOf R)) ∧ Below w0.heap.size w0 w' := by
  have hlenC : (Pu.cast R).length = R.length := Pu.cast_length R
  obtain ⟨hg, _, hc, hm, cur, hh, hs, ht⟩ := R_int_out ho (by omega)
  rw [hlenC] at hc ht
  have hD : (arrF R).size = R.length := arrF_size R
  have ht2 : cur.toList.take (arrF R).size = (arrF R).toList.map encF := by
    rw [hD, ht, map_encF]
    unfold arrF
    rw [map_fin8 hR]
  have hH : Holds encF w g 0 (arrF R) := holdsF (n := 0) (c := 0) hh (by omega) ht2
  have hblk : g < w.heap.size := (Array.getElem?_eq_some_iff.1 hh).1
  have eg : ∀ args w, (callFunc 249 args).run Tryz.prog w = .ok (.enter 249 args) w := enters_of Tryz.func249 (by kernel_rfl) rfl
  have hcmp : CmpLays1 Tryz.prog 249 #[] encF cfF g 0 (arrF R).size w := by
    intro m os dk _ x y
    obtain ⟨k, hk⟩ := Ev.rounds (cmp_val x y)
    refine (impl_SortLectic_2.calls k _ _ _ _ (htab.below (below_sortWorld encF hb hg hb.size)) hk).mono ?_
    rintro e w' ⟨he, q, rfl⟩
    exact ⟨he, q, #[], by rw [grow_empty]⟩
  have hlen : R.length ≤ 256 := Pu.nodup_le 256 R hnd hR
  have h := Tryz.slices_SortFunc encF (fun _ => rfl) cfF swoF 249 #[] g 0 c (arrF R) w eg hcmp hH hblk (by omega)
  rw [hD] at h
  refine h.mono ?_
  rintro e w' ⟨rfl, d', m, os, hp, hso, rfl⟩
  rw [← hD] at hp hso
  have hL := sortedF hR hnd (sorted_unique_holds swoF antiF (arrF R) d' hp hso)
  have hd' : d'.size = R.length := by
    have := congrArg List.length hL
    rw [List.length_map, lecOf_length hR hnd] at this
    simpa using this
  refine ⟨rfl, ?_, below_sortWorld encF hb hg hb.size⟩
  have hlenL : (Pu.cast (lecOf R)).length = R.length := by rw [Pu.cast_length, lecOf_length hR hnd]
  rw [← hlenL]
  refine R_int_in hg (by omega) hm (heap_sortWorld encF hh) (by rw [putCells_size]; exact hs) ?_
  rw [hlenL, ← hd', putCells_take encF (by omega), map_encF, hL]
theorem compact_lec {L : List Int} (hn : L.Nodup) : Lib.compact L = L := by
  unfold Lib.compact
  rw [Lib.compactUpTo_all]
  · refine List.ext_getElem? fun j => ?_
    rw [List.getElem?_map]
    rcases Nat.lt_or_ge j L.length with h | h
    · rw [List.getElem?_range h, Option.map_some, List.getElem?_eq_getElem h, getElem!_pos L.toArray j (by simpa using h)]
      simp
    · rw [List.getElem?_eq_none (by simpa using h), List.getElem?_eq_none h]; rfl
  · intro j hj
    unfold Lib.keeps
    rw [decide_eq_true_iff]
    by_cases h0 : j = 0
    · exact Or.inl h0
    · refine Or.inr fun e => ?_
      rw [getElem!_pos L.toArray j (by simpa using hj), getElem!_pos L.toArray (j - 1) (by simp; omega)] at e
      have e' : L[j] = L[j - 1]'(by omega) := by simpa using e
      exact List.pairwise_iff_getElem.1 hn (j - 1) j (by omega) hj (by omega) e'.symm
theorem compact_at (g c : Nat) (L : List Int) (hpos : 0 < L.length) (hn : L.Nodup) (hl : L.length ≤ 1048576) (w0 w : World) (hb : Below w0.heap.size w0 w)
    (ho : (Kd.int .i64).R 3 w w0.heap.size (fun _ => True) (.slice (some ⟨g, 0, none⟩) L.length c) L) :
    Calls Tryz.prog 250 #[.slice (some ⟨g, 0, none⟩) L.length c] w fun e w' => e = .returned (.slice (some ⟨g, 0, none⟩) L.length c) ∧ (Kd.int .i64).R 3 w' w0.heap.size (fun _ => True) (.slice (some ⟨g, 0, none⟩) L.length c) L ∧ Below w0.heap.size w0 w' := by
  obtain ⟨hg, _, hc, hm, cur, hh, hs, ht⟩ := R_int_out ho hpos
  have hH : Holds (Value.int .i64) w g 0 L.toArray := by
    intro j hj
    have hj' : j < L.length := by simpa using hj
    have h1 : cur[j]? = some (Value.int .i64 L.toArray[j]!) := by
      have h2 := congrArg (fun l => l[j]?) ht
      simp only [List.getElem?_take, if_pos hj', List.getElem?_map, Array.getElem?_toList] at h2
      rw [h2, List.getElem?_eq_getElem hj', getElem!_pos L.toArray j hj]; rfl
    refine ⟨?_, ?_⟩
    · rw [Nat.zero_add]
      simp only [World.cell?, hh, h1]
      simp [h1]
    · simp [World.frozen?, hh]
  refine (Tryz.slices_Compact_int g 0 c L w hH (by omega) hc).mono ?_
  rintro e w' ⟨rfl, q, rfl⟩
  rw [compact_lec hn, Nat.sub_self, List.replicate_zero, List.append_nil, putRow_self _ _ _ _ _ (holds_ahead _ _ _ _ _ _ hH)]
  exact ⟨rfl, Kd.R_drewN ho q, pw_below_drewN hb q⟩
def impl_SortLectic.f (l0 : List Int) : Option (List Int) :=
  if l0.all Pu.isAny = true ∧ l0.Nodup ∧ 0 < l0.length then some (Pu.cast (lecOf (l0.map Int.toNat))) else none
theorem sl1_val (x : Int) : impl_SortLectic_1.f x = some (!Pu.isAny x) := by
  unfold impl_SortLectic_1.f
  rw [Pu.any_val, Option.bind_some]
theorem R_form_int {e base : Nat} {w : World} {ok : Nat → Prop} {v : Value} {xs : List Int} (h : (Kd.int .i64).R e w base ok v xs) (hx : 0 < xs.length) : ∃ g c, v = .slice (some ⟨g, 0, none⟩) xs.length c ∧ xs.length ≤ c := by
  obtain ⟨_, inner, ⟨h1, h2⟩, _⟩ := h
  rcases h2 with ⟨_, h2⟩ | ⟨g, cap, cur, he, _, _, hn, _⟩
  · omega
  · exact ⟨g, cap, he, hn⟩
set_option maxHeartbeats 4000000 in
set_option maxRecDepth 100000 in
theorem impl_SortLectic.calls (A0 : Option Addr) (c0 : Nat) (l0 : List Int) (r : List Int) (w : World) (hr0 : Kd.C (Kd.int .i64) w A0 l0.length l0) (hc0 : l0.length ≤ c0) (htab : Tab64 w) (h : impl_SortLectic.f l0 = some r) :
    Calls Tryz.prog 208 #[.slice A0 l0.length c0] w fun e w' => ∃ v0_ : Value, e = .returned (v0_) ∧ Kd.R (Kd.int .i64) 3 w' w.heap.size (fun _ => True) v0_ r ∧ Below w.heap.size w w' := by
  unfold impl_SortLectic.f at h
  by_cases hq : l0.all Pu.isAny = true ∧ l0.Nodup ∧ 0 < l0.length
  · rw [if_pos hq] at h
    obtain rfl := Option.some.inj h
    obtain ⟨hall, hnd, hpos⟩ := hq
    rw [List.all_eq_true] at hall
    have hcast : l0 = Pu.cast (l0.map Int.toNat) := Pu.cast_of fun x hx => by have := hall x hx; unfold Pu.isAny at this; rw [decide_eq_true_iff] at this; exact this.1
    generalize l0.map Int.toNat = R at hcast ⊢
    subst hcast
    rw [Pu.cast_length] at hr0 hc0 hpos ⊢
    have hR : ∀ x ∈ R, x < 256 := fun x hx => by
      have := hall (x : Int) (List.mem_map.2 ⟨x, hx, rfl⟩)
      unfold Pu.isAny at this
      rw [decide_eq_true_iff] at this
      omega
    have hndR : R.Nodup := nodup_cast hnd
    have hlen : R.length ≤ 256 := Pu.nodup_le 256 R hndR hR
    have eg : ∀ args w, (callFunc 246 args).run Tryz.prog w = .ok (.enter 246 args) w := enters_of Tryz.func246 (by kernel_rfl) rfl
    have hany : (Pu.cast R).any (fun x => !Pu.isAny x) = false := by
      rw [List.any_eq_false]
      intro x hx
      rw [hall x hx]; decide
    have h0 := ContainsFunc_int 246 #[] eg A0 c0 (Pu.cast R) (fun x => !Pu.isAny x) w (by rw [Pu.cast_length]; exact hr0) (fun W x hb => (impl_SortLectic_1.calls x _ W (sl1_val x)).mono fun e w' ⟨he, q, hw⟩ => ⟨he, by rw [hw]; exact pw_below_drewN (Below.refl _ _) q⟩)
    rw [hany, Pu.cast_length] at h0
    have hcl : slices_Clone_int.f (Pu.cast R) = some (Pu.cast R) := by unfold slices_Clone_int.f; rw [if_pos (by rw [Pu.cast_length]; omega)]
    have hclone := fun W hr => slices_Clone_int.calls A0 c0 (Pu.cast R) (Pu.cast R) W (by rw [Pu.cast_length]; exact hr) (by rw [Pu.cast_length]; exact hc0) hcl
    rw [Pu.cast_length] at hclone
    have hlecL : (Pu.cast (lecOf R)).length = R.length := by rw [Pu.cast_length, lecOf_length hR hndR]
    have hndL : (Pu.cast (lecOf R)).Nodup := cast_nodup (lecF_nodup _)
    have hcompact := fun g c W hb ho => compact_at g c (Pu.cast (lecOf R)) (by omega) hndL (by omega) w W hb ho
    rw [hlecL] at hcompact
    have hsort := fun g c W hb ho => sort_at g c R hpos hR hndR w W htab hb ho
    have HR0 := Aside0.mk hr0
    have HS := Aside0.mk hsort
    have HCP := Aside0.mk hcompact
    have HCL := Aside0.mk hclone
    have HPOS : Aside0 (0 < (Pu.cast R).length) := ⟨by rw [Pu.cast_length]; exact hpos⟩
    have HLEN : Aside0 ((Pu.cast R).length = R.length) := ⟨Pu.cast_length R⟩
    clear hr0 hsort hcompact hclone hcl hlecL hndL hlen hR hndR hall hnd hany hpos htab hc0
    go_enter Tryz.func208, Tryz.ntmps208
    go_wp2_with (first | (go_at_call 223; refine h0.mono ?_; rintro e w1 ⟨rfl, hb1⟩; have HB1 := Aside0.mk hb1; clear hb1) | (go_at_call 247; refine (HCL.out _ (Kd.C_below HR0.out HB1.out)).mono ?_; rintro e w2 ⟨v, rfl, hR2, hB2⟩; obtain ⟨g, c, hv, hgc⟩ := R_form_int hR2 HPOS.out; rw [HLEN.out] at hv hgc; subst hv; have HO2 := Aside0.mk (Kd.R_lower hR2 (below_size HB1.out)); have HB2 := Aside0.mk (below_step HB1.out hB2); clear hR2 hB2 hgc) | (go_at_call 248; refine (HS.out _ _ _ HB2.out HO2.out).mono ?_; rintro e w3 ⟨rfl, hR3, hB3⟩; have HO3 := Aside0.mk hR3; have HB3 := Aside0.mk hB3; clear hR3 hB3) | (go_at_call 250; refine (HCP.out _ _ _ HB3.out HO3.out).mono ?_; rintro e w4 ⟨rfl, hR4, hB4⟩; have HO4 := Aside0.mk hR4; have HB4 := Aside0.mk hB4; clear hR4 hB4))
    go_ret
    exact ⟨_, rfl, HO4.out, HB4.out⟩
  · rw [if_neg hq] at h
    cases h
end Go.Proofs.YtafnamchckehmaaGreatDoor.Pr
namespace Go.Proofs.YtafnamchckehmaaGreatDoor.Pr
open Go.RowKit Go.Proofs.YtafnamchckehmaaGreatDoorW.PrintWords Go.Proofs.YtafnamchckehmaaGreatDoorW.PrintLast Go.Proofs.YtafnamchckehmaaGreatDoorW.PrintMore
attribute [local go_sem] max2_int min2_int max_two min_two max_three min_three max_four min_four
set_option linter.unusedVariables false
set_option linter.unusedSimpArgs false
theorem bnd52_ {α β : Type} {o : Option α} {f : α → Option β} {r : β} (h : o.bind f = some r) : ∃ a, Aside0 (o = some a) ∧ f a = some r := by
 obtain ⟨a, h1, h2⟩ := Option.bind_eq_some_iff.mp h
 exact ⟨a, ⟨h1⟩, h2⟩
def impl_allSets.l0 : Nat → List Int → Int → Int → Option (List Int)
 | 0, _, _, _ => none
 | k + 1, x3, x7, x8 => if x8 < x7 then (if x3.length < 17592186044416 then (impl_allSets.l0 k (x3 ++ [x8]) x7 (wrap64 (x8 + 1))) else (none)) else ((impl_SortLectic.f x3).bind fun t237 => (some t237))
def impl_allSets.f (k : Nat) (a0 : Int) : Option (List Int) := if 0 ≤ a0 then (impl_allSets.l0 k (([] : List Int)) (shl .i64 1 a0) 0) else (none)
set_option maxHeartbeats 40000000 in
set_option maxRecDepth 100000 in
theorem impl_allSets.calls (k : Nat) (a0 : Int) (r : List Int) (w : World) (htab : Tab64 w) (h : impl_allSets.f k a0 = some r) :
  Calls Tryz.prog 121 #[.int .i64 a0] w fun e w' => ∃ v0_ : Value, e = .returned (v0_) ∧ Kd.R (Kd.int .i64) 3 w' w.heap.size (fun _ => True) v0_ r ∧ Below w.heap.size w w' := by
 have HTB := Aside0.mk htab; clear htab; have HB := Aside0.mk (Below.refl w.heap.size w); have H := h; clear h; unfold impl_allSets.f at H; obtain ⟨y231, hy231⟩ : ∃ y_ : List Int, y_ = (([] : List Int)) := ⟨_, rfl⟩
 replace H : (if 0 ≤ a0 then (impl_allSets.l0 k y231 (shl .i64 1 a0) 0) else (none)) = some r := by first | (rw [hy231]; with_reducible exact H) | (have H2_ := (Option.bind_some _ _).symm.trans H; rw [hy231]; with_reducible exact H2_) | (have H2_ := (Option.bind_some _ _).symm.trans H; with_reducible exact H2_) | with_reducible exact H | (rw [hy231]; exact H) | exact H
 have Ny231 := Aside0.mk hy231; clear hy231
 by_cases c2 : 0 ≤ a0
 ·
  rw [if_pos c2] at H; have c2b0 := eq_true c2; have c2b1 : decide (0 ≤ a0) = true := decide_eq_true c2; clear c2; obtain ⟨ji3, hji3⟩ : ∃ j_ : Int, (shl .i64 1 a0) = j_ := ⟨_, rfl⟩
  replace H : (impl_allSets.l0 k y231 ji3 0) = some r := by first | (rw [hji3] at H; exact H) | (simp only [hji3] at H ⊢; exact H)
  have hji3_ : (IntKind.i64.wrap (1 * 2 ^ min a0.toNat 64)) = ji3 := hji3; have hji3z : a0 ≤ 64 → (IntKind.i64.wrap (1 * 2 ^ a0.toNat)) = ji3 := shl_small hji3
  have hji3u : (IntKind.i64.wrap (2 ^ min a0.toNat 64)) = ji3 := by have h_ := hji3_; rw [Int.one_mul] at h_; exact h_
  have hji3v : a0 ≤ 64 → (IntKind.i64.wrap (2 ^ a0.toNat)) = ji3 := fun hle_ => by have h_ := hji3z hle_; rw [Int.one_mul] at h_; exact h_
  have hji3y : (wrap64 (1 * 2 ^ min a0.toNat 64)) = ji3 := (i64_w _).symm.trans hji3_
  have hji3x : a0 ≤ 64 → (wrap64 (1 * 2 ^ a0.toNat)) = ji3 := fun h_ => (i64_w _).symm.trans (hji3z h_)
  have H' := Aside0.mk H; clear H
  go_enter Tryz.func121, Tryz.ntmps121
  go_wp2_with (first | ((with_reducible refine gate_dst (N := 5) rfl ?_); refine Kd.R_lit (Kd.int .i64) _ 3 ?hg (N := 5) ?hd (xs := ([] : List Int)) (inner := []) (ok := fun _ => True) (okp := fun _ => True) ?hr ?hp (fun _ hk => hk) trivial (Below.refl _ _) (Nat.le_refl _) (by simp) ?_; (case hd => rfl); (case hg => rfl); (case hr => first | (go_simp; done) | (go_simp; rfl)); (case hp => exact (Reps.none _ _)); intro v232 w4 ho5 hb hg_ hnew_; clear hg_ hnew_; (first | rw [← Ny231.out] at ho5 | (simp only [Int.reduceToNat] at ho5; rw [← Ny231.out] at ho5)); have n_ := ac_ (Kd.R_lower ho5 (below_size s1_)) <| Aside0.mk (below_step s1_ hb); clear HB; obtain ⟨HO233, HB⟩ := n_; clear hb ho5))
  go_loopg [3, 8] k (fun kq v3 v8 w' => ∃ (x3_1 : List Int) (x8_1 : Int), v8 = .int .i64 x8_1 ∧ Aside0 (impl_allSets.l0 kq x3_1 ji3 x8_1 = some r) ∧ Aside0 (kq ≤ k) ∧ Aside0 (Kd.R (Kd.int .i64) 3 w' w.heap.size (fun _ => True) v3 x3_1) ∧ Aside0 (Below w.heap.size w w'))
  case atStart => exact ⟨(y231), (0), (by first | rfl | (simp; done) | (simp [*]; done) | (simp [i64_w, i32_w]; done)), H', ⟨Nat.le_refl _⟩, ⟨(by (with_reducible repeat (first | apply Kd.R_alloc | apply Kd.R_drewN | apply Kd.R_drew)); exact HO233.out)⟩, ⟨s1_⟩⟩
  case round =>
   clear H'
   try clear c1
   try clear c2
   try clear c2b0
   try clear c2b1
   try clear p2
   obtain ⟨x3_1, x8_1, rfl, HA, HK1, HO_3, HB⟩ := hrel
   cases gk with
   | zero => exact absurd HA.out (by simp [impl_allSets.l0])
   | succ k1 =>
    have H := HA.out; clear HA
    simp only [impl_allSets.l0] at H
    by_cases c6 : x8_1 < ji3
    ·
     rw [if_pos c6] at H; have c6b0 : decide (x8_1 < ji3) = true := decide_eq_true c6; clear c6
     by_cases c7 : x3_1.length < 17592186044416
     ·
      rw [if_pos c7] at H; have LMc7 := Aside0.mk c7; clear c7; obtain ⟨y234, hy234⟩ : ∃ y_ : List Int, y_ = (x3_1 ++ [x8_1]) := ⟨_, rfl⟩
      replace H : (impl_allSets.l0 k1 y234 ji3 (wrap64 (x8_1 + 1))) = some r := by first | (rw [hy234]; with_reducible exact H) | (have H2_ := (Option.bind_some _ _).symm.trans H; rw [hy234]; with_reducible exact H2_) | (have H2_ := (Option.bind_some _ _).symm.trans H; with_reducible exact H2_) | with_reducible exact H | (rw [hy234]; exact H) | exact H
      have Ny234 := Aside0.mk hy234; clear hy234; have H' := Aside0.mk H; clear H
      go_wp2_with (first | ((with_reducible refine gate_builtin (b := .append) (xs := #[.tmp 11, .tmp 13]) rfl ?_); at_builtin; refine Kd.R_append (Kd.int .i64) (w0 := w) w.heap.size rfl (.tmp 11) (.tmp 13) 27 3 (.int .i64 0) 8 rfl Tryz.underlying27 info3 rfl (by decide) (by omega) u3 x3_1 x8_1 [.int .i64 x8_1] (fun _ => True) (fun _ => False) rfl rfl ?aP (fun _ hk => hk.elim) ?aF ?aO ?aB ?aS ?aL ?_; (case aP => exact rfl); (case aB => exact s1_); (case aF => exact (fun _ _ => trivial)); (case aO => exact s9_); (case aS => exact (below_size s1_)); (case aL => have := LMc7.out; omega); intro v235 w8 ho hb hg hat; rw [← Ny234.out] at ho; have n_ := ac_ (hb) <| Aside0.mk (ho); clear HB HO_3; obtain ⟨HB, HO236⟩ := n_; clear ho hb hg hat))
      go_roundg k1
      case measure => have := HK1.out; omega
      case rel => exact ⟨(y234), (wrap64 (x8_1 + 1)), (by first | rfl | (simp; done) | (simp [*]; done) | (simp [i64_w, i32_w]; done)), H', ⟨by have := HK1.out; omega⟩, ⟨(by (with_reducible repeat (first | apply Kd.R_alloc | apply Kd.R_drewN | apply Kd.R_drew)); exact HO236.out)⟩, ⟨s1_⟩⟩
     ·
      rw [if_neg c7] at H
      exact absurd H (by simp)
    ·
     rw [if_neg c6] at H; have c6b0 : decide (x8_1 < ji3) = false := decide_eq_false c6; clear c6; obtain ⟨t237, A9, H⟩ := bnd52_ H; obtain rfl := Option.some.inj H; obtain ⟨Ao10, co10, eo10⟩ := Kd.R_slice HO_3.out; subst eo10
     go_wp2_with (first | ((with_reducible refine gate_callee (f := 208) rfl ?_); refine goesL_ (some 17) rfl rfl Tryz.func208 (by kernel_rfl) rfl #[.slice Ao10 x3_1.length co10] rfl (by (try simp only [List.map_toArray, List.map_cons, List.map_nil]); first | done | rfl | (simp only [List.length_drop, List.length_take]; rfl)) ?_; (with_reducible refine (impl_SortLectic.calls _ _ x3_1 t237 _ ?side1 ?side2 ?tab A9.out).mono ?_); (case tab => first | exact HTB.out | (refine Tab64.below HTB.out ?_; repeat (first | (with_reducible first | exact HB.out | apply below_alloc | apply pw_below_drewN | apply below_drew1) | exact HB.out)) | (repeat (first | exact HTB.out | apply Tab64.drewN | apply Tab64.drew | apply Tab64.alloc))); (case side1 => repeat (first | exact (Kd.R_reads' HO_3.out).2.2 | (with_reducible refine Kd.C_alloc ?_ _) | (with_reducible refine Kd.C_drewN ?_ _) | (with_reducible refine Kd.C_drew ?_))); (case side2 => exact (Kd.R_reads' HO_3.out).2.1); rintro e w11 ⟨v238, rfl, ho0, hb⟩; refine ⟨_, rfl, ?_⟩; have n_ := ac_ (Kd.R_elder' s9_ (Kd.R_base ho0) hb) <| ac_ (Kd.R_lower (Kd.R_new' ho0 (Kd.R_lt s9_)) (below_size s1_)) <| Aside0.mk (below_step s1_ hb); clear HO_3 HB; obtain ⟨HO_3, HO239, HB⟩ := n_; (try clear hb ho0)))
     go_ret
     exact ⟨_, (by first | rfl | (simp [errW_none, errW_some] <;> rfl) | (simp only [← hji3]; first | rfl | (simp [errW_none, errW_some] <;> rfl)) | (simp [*, errW_none, errW_some] <;> rfl)), (by (with_reducible repeat (first | apply Kd.R_alloc | apply Kd.R_drewN | apply Kd.R_drew)); exact Kd.R_mono HO239.out (fun _ hk => trivial)), s1_⟩
 ·
  rw [if_neg c2] at H
  exact absurd H (by simp)
end Go.Proofs.YtafnamchckehmaaGreatDoor.Pr
namespace Go.Proofs.YtafnamchckehmaaGreatDoor.Pr
open Go.RowKit Go.Proofs.YtafnamchckehmaaGreatDoorW.PrintWords Go.Proofs.YtafnamchckehmaaGreatDoorW.PrintLast Go.Proofs.YtafnamchckehmaaGreatDoorW.PrintMore
set_option linter.unusedVariables false
def ruleB (n : Int) (r : S48) : Bool := Pu.isSetB n r.f0 && Pu.isSetB n r.f1
def impl_AreRules.f (a0 : Int) (l1 : List S48) : Option Bool := some (decide (0 ≤ a0 ∧ a0 ≤ 6) && decide ((l1.length : Int) ≤ 40) && l1.all (ruleB a0))
set_option maxHeartbeats 4000000 in
set_option maxRecDepth 100000 in
theorem AreRules1_calls (n : Int) (b : Nat) (x : S48) (W : World) (hc : W.cell? ⟨b, 0, none⟩ = some (.int .i64 n)) :
    Calls Tryz.prog 185 #[.agg #[.int .i64 x.f0, .int .i64 x.f1], .pointer (some ⟨b, 0, none⟩)] W fun e w' => e = .returned (.bool (!ruleB n x)) ∧ Below W.heap.size W w' := by
  have hb : b < W.heap.size := World.block_lt_of_cell? W _ hc
  have hu := Tryz.underlying48
  cases h1 : Pu.isSetB n x.f0 with
  | false =>
    have H : Aside0 (ruleB n x = false) := ⟨by unfold ruleB; rw [h1]; rfl⟩
    have K1 : Aside0 (impl_IsSet.f n x.f0 = some false) := ⟨by rw [Pu.set_val, h1]⟩
    clear h1
    go_enter Tryz.func185, Tryz.ntmps185
    go_wp2_with (go_at_call 130; refine (impl_IsSet.calls n x.f0 false _ K1.out).mono ?_; rintro e w' ⟨rfl, ⟨⟨q, rfl⟩⟩⟩)
    go_ret
    exact ⟨by rw [H.out]; rfl, by repeat (first | apply below_alloc | apply pw_below_drewN | apply below_drew1 | exact Below.refl _ _)⟩
  | true =>
    cases h2 : Pu.isSetB n x.f1 with
    | false =>
      have H : Aside0 (ruleB n x = false) := ⟨by unfold ruleB; rw [h1, h2]; rfl⟩
      have K1 : Aside0 (impl_IsSet.f n x.f0 = some true) := ⟨by rw [Pu.set_val, h1]⟩
      have K2 : Aside0 (impl_IsSet.f n x.f1 = some false) := ⟨by rw [Pu.set_val, h2]⟩
      clear h1 h2
      go_enter Tryz.func185, Tryz.ntmps185
      go_wp2_with fail
      refine (impl_IsSet.calls n x.f0 true _ K1.out).mono ?_
      rintro e w' ⟨rfl, ⟨⟨q, rfl⟩⟩⟩
      go_wp2_with fail
      refine (impl_IsSet.calls n x.f1 false _ K2.out).mono ?_
      rintro e w' ⟨rfl, ⟨⟨q2, rfl⟩⟩⟩
      go_wp2
      go_ret
      exact ⟨by rw [H.out]; rfl, by repeat (first | apply below_alloc | apply pw_below_drewN | apply below_drew1 | exact Below.refl _ _)⟩
    | true =>
      have H : Aside0 (ruleB n x = true) := ⟨by unfold ruleB; rw [h1, h2]; rfl⟩
      have K1 : Aside0 (impl_IsSet.f n x.f0 = some true) := ⟨by rw [Pu.set_val, h1]⟩
      have K2 : Aside0 (impl_IsSet.f n x.f1 = some true) := ⟨by rw [Pu.set_val, h2]⟩
      clear h1 h2
      go_enter Tryz.func185, Tryz.ntmps185
      go_wp2_with fail
      refine (impl_IsSet.calls n x.f0 true _ K1.out).mono ?_
      rintro e w' ⟨rfl, ⟨⟨q, rfl⟩⟩⟩
      go_wp2_with fail
      refine (impl_IsSet.calls n x.f1 true _ K2.out).mono ?_
      rintro e w' ⟨rfl, ⟨⟨q2, rfl⟩⟩⟩
      go_wp2
      go_ret
      exact ⟨by rw [H.out]; rfl, by repeat (first | apply below_alloc | apply pw_below_drewN | apply below_drew1 | exact Below.refl _ _)⟩
theorem AreRules1_fn (n : Int) (b : Nat) (w : World) (hc : w.cell? ⟨b, 0, none⟩ = some (.int .i64 n)) : FnRb 185 #[.pointer (some ⟨b, 0, none⟩)] (fun x => !ruleB n x) w := by
  intro W x hb
  rw [show (#[.agg #[.int .i64 x.f0, .int .i64 x.f1]] ++ #[.pointer (some ⟨b, 0, none⟩)] : Array Value) = #[.agg #[.int .i64 x.f0, .int .i64 x.f1], .pointer (some ⟨b, 0, none⟩)] from rfl]
  exact AreRules1_calls n b x W ((hb.cell (p := ⟨b, 0, none⟩) (World.block_lt_of_cell? w _ hc)).trans hc)
theorem box_cell {w w1 : World} {a : Value} {t : TypeId} (h : Below (w.alloc (.cells #[a] t)).heap.size (w.alloc (.cells #[a] t)) w1) : w1.cell? ⟨w.heap.size, 0, none⟩ = some a := by
  have h0 : (w.alloc (.cells #[a] t)).cell? ⟨w.heap.size, 0, none⟩ = some a := blk_cell (heap_alloc_new w (.cells #[a] t)) 0
  exact (h.cell (p := ⟨w.heap.size, 0, none⟩) (by simp)).trans h0
set_option maxHeartbeats 4000000 in
set_option maxRecDepth 100000 in
theorem impl_AreRules.calls (a0 : Int) (A1 : Option Addr) (c1 : Nat) (l1 : List S48) (r : Bool) (w : World) (hr1 : Kd.C k48 w A1 l1.length l1) (hc1 : l1.length ≤ c1) (h : impl_AreRules.f a0 l1 = some r) :
    Calls Tryz.prog 81 #[.int .i64 a0, .slice A1 l1.length c1] w fun e w' => e = .returned (.bool r) ∧ Below w.heap.size w w' := by
  have HR := Aside0.mk hr1
  have hr := Aside0.mk (Option.some.inj h)
  clear h hr1
  have eg : ∀ args w, (callFunc 185 args).run Tryz.prog w = .ok (.enter 185 args) w := enters_of Tryz.func185 (by kernel_rfl) rfl
  cases h1 : decide (0 ≤ a0 ∧ a0 ≤ 6) with
  | false =>
    have K : Aside0 (impl_within.f a0 0 6 = some false) := ⟨by rw [Pu.within_val, h1]⟩
    have H : Aside0 (r = false) := ⟨by rw [← hr.out, h1]; rfl⟩
    clear h1
    go_enter Tryz.func81, Tryz.ntmps81
    go_wp2_with (go_at_call 127; refine (impl_within.calls a0 0 6 false _ K.out).mono ?_; rintro e w' ⟨rfl, ⟨⟨q, rfl⟩⟩⟩)
    go_ret
    exact ⟨by rw [H.out]; rfl, by repeat (first | apply below_alloc | apply pw_below_drewN | apply below_drew1 | exact Below.refl _ _)⟩
  | true =>
    have K : Aside0 (impl_within.f a0 0 6 = some true) := ⟨by rw [Pu.within_val, h1]⟩
    by_cases h2 : (l1.length : Int) ≤ 40
    · have h2b : decide ((l1.length : Int) ≤ 40) = true := decide_eq_true h2
      have H : Aside0 (r = !(l1.any fun x => !ruleB a0 x)) := ⟨by rw [← hr.out, h1, h2b, ← List.all_eq_not_any_not]; rfl⟩
      clear h1 h2
      go_enter Tryz.func81, Tryz.ntmps81
      go_wp2_with (go_at_call 127; refine (impl_within.calls a0 0 6 true _ K.out).mono ?_; rintro e w1 ⟨rfl, hd⟩; have HB1 := Aside0.mk (below_step (below_alloc (Below.refl w.heap.size w) _) hd.below); have HC1 := Aside0.mk (box_cell (a := .int .i64 a0) hd.below); clear hd)
      refine (ContainsFunc_rule 185 #[.pointer (some ⟨w.heap.size, 0, none⟩)] eg A1 c1 l1 (fun x => !ruleB a0 x) w1 (Kd.C_below HR.out HB1.out) (AreRules1_fn a0 w.heap.size w1 HC1.out)).mono ?_
      rintro e w' ⟨rfl, hb⟩
      go_wp2
      go_ret
      exact ⟨by rw [H.out]; rfl, below_step HB1.out hb⟩
    · have h2b : decide ((l1.length : Int) ≤ 40) = false := decide_eq_false h2
      have H : Aside0 (r = false) := ⟨by rw [← hr.out, h1, h2b]; rfl⟩
      clear h1 h2
      go_enter Tryz.func81, Tryz.ntmps81
      go_wp2_with (go_at_call 127; refine (impl_within.calls a0 0 6 true _ K.out).mono ?_; rintro e w' ⟨rfl, ⟨⟨q, rfl⟩⟩⟩)
      go_ret
      exact ⟨by rw [H.out]; rfl, by repeat (first | apply below_alloc | apply pw_below_drewN | apply below_drew1 | exact Below.refl _ _)⟩
end Go.Proofs.YtafnamchckehmaaGreatDoor.Pr
namespace Go.Proofs.YtafnamchckehmaaGreatDoor.Pr
open Go.RowKit Go.Proofs.YtafnamchckehmaaGreatDoorW.PrintWords Go.Proofs.YtafnamchckehmaaGreatDoorW.PrintLast Go.Proofs.YtafnamchckehmaaGreatDoorW.PrintMore
attribute [local go_sem] max2_int min2_int max_two min_two max_three min_three max_four min_four
set_option linter.unusedVariables false
set_option linter.unusedSimpArgs false
theorem bnd55_ {α β : Type} {o : Option α} {f : α → Option β} {r : β} (h : o.bind f = some r) : ∃ a, Aside0 (o = some a) ∧ f a = some r := by
 obtain ⟨a, h1, h2⟩ := Option.bind_eq_some_iff.mp h
 exact ⟨a, ⟨h1⟩, h2⟩
theorem q55_5 {P : Prop} (h : P := by (with_reducible repeat (first | apply Kd.R_alloc | apply Kd.R_drewN | apply Kd.R_drew)); exact HO_15.out) : P := h
def impl_ModelsOf.l0 : Nat → List (S48) → List Int → List Int → Int → Int → Option (List Int × Bool)
 | 0, _, _, _, _, _ => none
 | k + 1, x1, x6, x15, x16, x17 => if x17 < x16 then (if 0 ≤ x17 then (if x17 < (x15.length : Int) then ((impl_ClosedBy.f k x1 (rd x15 x17)).bind fun t248 => (if t248 = (rd x15 x17) then (if x6.length < 17592186044416 then (impl_ModelsOf.l0 k x1 (x6 ++ [rd x15 x17]) x15 x16 (wrap64 (x17 + 1))) else (none)) else (impl_ModelsOf.l0 k x1 x6 x15 x16 (wrap64 (x17 + 1))))) else (none)) else (none)) else (some (x6, true))
def impl_ModelsOf.f (k : Nat) (a0 : Int) (l1 : List (S48)) : Option (List Int × Bool) := (impl_AreRules.f a0 l1).bind fun t240 => (if t240 = true then ((impl_allSets.f k a0).bind fun t244 => (impl_ModelsOf.l0 k l1 (([] : List Int)) t244 (t244.length : Int) 0)) else (some (([] : List Int), false)))
set_option maxHeartbeats 40000000 in
set_option maxRecDepth 100000 in
theorem impl_ModelsOf.calls (k : Nat) (a0 : Int) (A1 : Option Addr) (c1 : Nat) (l1 : List (S48)) (r1 : List Int) (r2 : Bool) (w : World) (hr1 : Kd.C k48 w A1 l1.length l1) (hc1 : l1.length ≤ c1) (htab : Tab64 w) (h : impl_ModelsOf.f k a0 l1 = some (r1, r2)) :
  Calls Tryz.prog 13 #[.int .i64 a0, .slice A1 l1.length c1] w fun e w' => ∃ v0_ : Value, e = .returned (.tuple #[v0_, .bool r2]) ∧ Kd.R (Kd.int .i64) 3 w' w.heap.size (fun _ => True) v0_ r1 ∧ Below w.heap.size w w' := by
 have HTB := Aside0.mk htab; clear htab; have HR1 := Aside0.mk hr1; have HC1 := Aside0.mk hc1; clear hr1 hc1; have HB := Aside0.mk (Below.refl w.heap.size w); have H := h; clear h; unfold impl_ModelsOf.f at H; obtain ⟨t240, A3, H⟩ := bnd55_ H
 by_cases c4 : t240 = true
 ·
  subst c4; rw [if_pos rfl] at H; obtain ⟨y241, hy241⟩ : ∃ y_ : List Int, y_ = (([] : List Int)) := ⟨_, rfl⟩
  replace H : ((impl_allSets.f k a0).bind fun t244 => (impl_ModelsOf.l0 k l1 y241 t244 (t244.length : Int) 0)) = some (r1, r2) := by first | (rw [hy241]; with_reducible exact H) | (have H2_ := (Option.bind_some _ _).symm.trans H; rw [hy241]; with_reducible exact H2_) | (have H2_ := (Option.bind_some _ _).symm.trans H; with_reducible exact H2_) | with_reducible exact H | (rw [hy241]; exact H) | exact H
  have Ny241 := Aside0.mk hy241; clear hy241; obtain ⟨t244, A5, H⟩ := bnd55_ H; have H' := Aside0.mk H; clear H
  go_enter Tryz.func13, Tryz.ntmps13
  go_wp2_with (first | (refine gL_ 81 11 Tryz.func81 #[.int .i64 a0, .slice A1 l1.length c1] ?_; (with_reducible refine (impl_AreRules.calls a0 _ _ l1 true _ ?side1 ?side2 A3.out).mono ?_); (case side1 => exact s11_); (case side2 => exact HC1.out); rintro e w6 ⟨rfl, hb⟩; refine ⟨_, rfl, ?_⟩; have n_ := Aside0.mk (below_step s1_ hb); clear HB; have HB := n_; clear n_; (try clear hb)) | ((with_reducible refine gate_dst (N := 13) rfl ?_); refine Kd.R_lit (Kd.int .i64) _ 3 ?hg (N := 13) ?hd (xs := ([] : List Int)) (inner := []) (ok := fun _ => True) (okp := fun _ => True) ?hr ?hp (fun _ hk => hk) trivial (Below.refl _ _) (Nat.le_refl _) (by simp) ?_; (case hd => rfl); (case hg => rfl); (case hr => first | (go_simp; done) | (go_simp; rfl)); (case hp => exact (Reps.none _ _)); intro v242 w7 ho8 hb hg_ hnew_; clear hg_ hnew_; (first | rw [← Ny241.out] at ho8 | (simp only [Int.reduceToNat] at ho8; rw [← Ny241.out] at ho8)); have n_ := ac_ (Kd.R_lower ho8 (below_size s1_)) <| Aside0.mk (below_step s1_ hb); clear HB; obtain ⟨HO243, HB⟩ := n_; clear hb ho8) | (refine gL_ 121 15 Tryz.func121 #[.int .i64 a0] ?_; (with_reducible refine (impl_allSets.calls k a0 t244 _ ?tab A5.out).mono ?_); (case tab => first | exact HTB.out | (refine Tab64.below HTB.out ?_; repeat (first | (with_reducible first | exact HB.out | apply below_alloc | apply pw_below_drewN | apply below_drew1) | exact HB.out)) | (repeat (first | exact HTB.out | apply Tab64.drewN | apply Tab64.drew | apply Tab64.alloc))); rintro e w9 ⟨v245, rfl, ho0, hb⟩; refine ⟨_, rfl, ?_⟩; have n_ := ac_ (Kd.R_elder' (by (with_reducible repeat (first | apply Kd.R_alloc | apply Kd.R_drewN | apply Kd.R_drew)); exact HO243.out) (Kd.R_base ho0) hb) <| ac_ (Kd.R_lower (Kd.R_new' ho0 (Kd.R_lt (by (with_reducible repeat (first | apply Kd.R_alloc | apply Kd.R_drewN | apply Kd.R_drew)); exact HO243.out))) (below_size s1_)) <| Aside0.mk (below_step s1_ hb); clear HO243 HB; obtain ⟨HO243, HO246, HB⟩ := n_; (try clear hb ho0); obtain ⟨Ao10, co10, eo10⟩ := Kd.R_slice HO246.out; subst eo10))
  go_loopg [6, 17] k (fun kq v6 v17 w' => ∃ (x6_1 : List Int) (x17_1 : Int), v17 = .int .i64 x17_1 ∧ Aside0 (impl_ModelsOf.l0 kq l1 x6_1 t244 (t244.length : Int) x17_1 = some (r1, r2)) ∧ Aside0 (kq ≤ k) ∧ Aside0 (Kd.R (Kd.int .i64) 3 w' w.heap.size (fun k_ => some k_ ≠ ((.slice Ao10 t244.length co10) : Value).ownBlock) v6 x6_1) ∧ Aside0 (Kd.R (Kd.int .i64) 3 w' w.heap.size (fun k_ => some k_ ≠ (v6 : Value).ownBlock) (.slice Ao10 t244.length co10) t244) ∧ Aside0 (Below w.heap.size w w'))
  case atStart => exact ⟨(y241), (0), s2_, H', ⟨Nat.le_refl _⟩, ⟨(by (with_reducible repeat (first | apply Kd.R_alloc | apply Kd.R_drewN | apply Kd.R_drew)); exact Kd.R_mono HO243.out (fun _ hk => hk.2))⟩, ⟨(by (with_reducible repeat (first | apply Kd.R_alloc | apply Kd.R_drewN | apply Kd.R_drew)); exact Kd.R_mono HO246.out (fun _ hk => hk.2))⟩, ⟨s1_⟩⟩
  case round =>
   clear H'
   try clear c1
   try clear p2
   try clear c4
   try clear c8
   obtain ⟨x6_1, x17_1, rfl, HA, HK1, HO_6, HO_15, HB⟩ := hrel
   cases gk with
   | zero => exact absurd HA.out (by simp [impl_ModelsOf.l0])
   | succ k1 =>
    have H := HA.out; clear HA
    simp only [impl_ModelsOf.l0] at H
    by_cases c11 : x17_1 < (t244.length : Int)
    ·
     rw [if_pos c11] at H; have c11b0 : decide (x17_1 < (t244.length : Int)) = true := decide_eq_true c11; clear c11
     by_cases c12 : 0 ≤ x17_1
     ·
      rw [if_pos c12] at H; have c12b0 : decide (0 ≤ x17_1) = true := decide_eq_true c12; clear c12
      by_cases c13 : x17_1 < (t244.length : Int)
      ·
       rw [if_pos c13] at H; have c13b0 : decide (x17_1 < (t244.length : Int)) = true := decide_eq_true c13; clear c13; obtain ⟨t248, A14, H⟩ := bnd55_ H
       by_cases c15 : t248 = (rd t244 x17_1)
       ·
        rw [if_pos c15] at H; have c15b0 : (t248 == (rd t244 x17_1)) = true := beq_iff_eq.mpr c15; have c15b1 : (t248 != (rd t244 x17_1)) = false := bne_eq_false_iff_eq.mpr c15; clear c15
        by_cases c16 : x6_1.length < 17592186044416
        ·
         rw [if_pos c16] at H; have LMc16 := Aside0.mk c16; clear c16; obtain ⟨y249, hy249⟩ : ∃ y_ : List Int, y_ = (x6_1 ++ [rd t244 x17_1]) := ⟨_, rfl⟩
         replace H : (impl_ModelsOf.l0 k1 l1 y249 t244 (t244.length : Int) (wrap64 (x17_1 + 1))) = some (r1, r2) := by first | (rw [hy249]; with_reducible exact H) | (have H2_ := (Option.bind_some _ _).symm.trans H; rw [hy249]; with_reducible exact H2_) | (have H2_ := (Option.bind_some _ _).symm.trans H; with_reducible exact H2_) | with_reducible exact H | (rw [hy249]; exact H) | exact H
         have Ny249 := Aside0.mk hy249; clear hy249; have H' := Aside0.mk H; clear H; have p247 : 0 ≤ (x17_1 : Int) := of_decide_eq_true s3_; have q247 : x17_1 < (t244.length : Int) := of_decide_eq_true s3_; obtain ⟨ad247, e247, hx247_0⟩ := Kd.at_int (Kd.R_reads' HO_15.out).2.2 x17_1 p247 q247
         cases e247
         replace p247 := eq_true p247; replace q247 := eq_true q247
         go_wp2_with (first | (refine gL_ 70 23 Tryz.func70 #[.slice A1 l1.length c1, .int .i64 (rd t244 x17_1)] ?_; (with_reducible refine (impl_ClosedBy.calls k1 _ _ l1 (rd t244 x17_1) t248 _ ?side1 ?side2 A14.out).mono ?_); (case side1 => exact s13_); (case side2 => exact HC1.out); rintro e w17 ⟨rfl, hb⟩; refine ⟨_, rfl, ?_⟩; have n_ := ac_ (Kd.R_below s17_ hb) <| ac_ (Kd.R_below q55_5 hb) <| Aside0.mk (below_step s1_ hb); clear HO_6 HO_15 HB; obtain ⟨HO_6, HO_15, HB⟩ := n_; (try clear hb)) | ((with_reducible refine gate_builtin (b := .append) (xs := #[.tmp 26, .tmp 28]) rfl ?_); at_builtin; refine Kd.R_append (Kd.int .i64) (w0 := w) w.heap.size rfl (.tmp 26) (.tmp 28) 27 3 (.int .i64 0) 8 rfl Tryz.underlying27 info3 rfl (by decide) (by omega) u6 x6_1 (rd t244 x17_1) [.int .i64 (rd t244 x17_1)] (fun k_ => some k_ ≠ (.slice (some ad247) t244.length co10 : Value).ownBlock) (fun _ => False) rfl rfl ?aP (fun _ hk => hk.elim) ?aF ?aO ?aB ?aS ?aL ?_; (case aP => exact rfl); (case aB => exact s1_); (case aF => exact (fun k_ hk => Kd.fresh' (Kd.R_lt q55_5) k_ hk)); (case aO => exact s17_); (case aS => exact (below_size s1_)); (case aL => have := LMc16.out; omega); intro v250 w18 ho hb hg hat; rw [← Ny249.out] at ho; have n_ := ac_ (Kd.R_after (ok := (fun _ => True)) (by (with_reducible repeat (first | apply Kd.R_alloc | apply Kd.R_drewN | apply Kd.R_drew)); exact Kd.R_mono HO_15.out (fun _ hk => ⟨trivial, by first | exact hk | exact own_any hk⟩)) hg hat) <| ac_ (hb) <| Aside0.mk (ho); clear HO_15 HB HO_6; obtain ⟨HO_15, HB, HO251⟩ := n_; clear ho hb hg hat))
         go_roundg k1
         case measure => have := HK1.out; omega
         case rel => exact ⟨(y249), (wrap64 (x17_1 + 1)), s2_, H', ⟨by have := HK1.out; omega⟩, ⟨(by (with_reducible repeat (first | apply Kd.R_alloc | apply Kd.R_drewN | apply Kd.R_drew)); exact HO251.out)⟩, ⟨(by (with_reducible repeat (first | apply Kd.R_alloc | apply Kd.R_drewN | apply Kd.R_drew)); exact Kd.R_mono HO_15.out (fun _ hk => hk.2))⟩, ⟨s1_⟩⟩
        ·
         rw [if_neg c16] at H
         exact absurd H (by simp)
       ·
        rw [if_neg c15] at H; have c15b0 : (t248 == (rd t244 x17_1)) = false := beq_eq_false_iff_ne.mpr c15; have c15b1 : (t248 != (rd t244 x17_1)) = true := bne_iff_ne.mpr c15; have H' := Aside0.mk H; clear H; have p247 : 0 ≤ (x17_1 : Int) := of_decide_eq_true s3_; have q247 : x17_1 < (t244.length : Int) := of_decide_eq_true s3_; obtain ⟨ad247, e247, hx247_0⟩ := Kd.at_int (Kd.R_reads' HO_15.out).2.2 x17_1 p247 q247
        cases e247
        replace p247 := eq_true p247; replace q247 := eq_true q247
        go_wp2_with (first | (refine gL_ 70 23 Tryz.func70 #[.slice A1 l1.length c1, .int .i64 (rd t244 x17_1)] ?_; (with_reducible refine (impl_ClosedBy.calls k1 _ _ l1 (rd t244 x17_1) t248 _ ?side1 ?side2 A14.out).mono ?_); (case side1 => exact s13_); (case side2 => exact HC1.out); rintro e w19 ⟨rfl, hb⟩; refine ⟨_, rfl, ?_⟩; have n_ := ac_ (Kd.R_below s17_ hb) <| ac_ (Kd.R_below q55_5 hb) <| Aside0.mk (below_step s1_ hb); clear HO_6 HO_15 HB; obtain ⟨HO_6, HO_15, HB⟩ := n_; (try clear hb)))
        go_roundg k1
        case measure => have := HK1.out; omega
        case rel => exact ⟨(x6_1), (wrap64 (x17_1 + 1)), s2_, H', ⟨by have := HK1.out; omega⟩, ⟨s17_⟩, ⟨q55_5⟩, ⟨s1_⟩⟩
      ·
       rw [if_neg c13] at H
       exact absurd H (by simp)
     ·
      rw [if_neg c12] at H
      exact absurd H (by simp)
    ·
     rw [if_neg c11] at H; have c11b0 : decide (x17_1 < (t244.length : Int)) = false := decide_eq_false c11; clear c11
     simp only [Option.some.injEq, Prod.mk.injEq] at H
     obtain ⟨rfl, rfl⟩ := H
     go_wp2
     go_ret2
     exact ⟨_, (by first | rfl | (simp [errW_none, errW_some] <;> rfl) | (simp [*, errW_none, errW_some] <;> rfl)), (by (with_reducible repeat (first | apply Kd.R_alloc | apply Kd.R_drewN | apply Kd.R_drew)); exact Kd.R_mono HO_6.out (fun _ hk => trivial)), s1_⟩
 ·
  replace c4 := Bool.eq_false_iff.mpr c4; subst c4
  rw [if_neg (show ¬ (false = true) by decide)] at H
  simp only [Option.some.injEq, Prod.mk.injEq] at H
  obtain ⟨rfl, rfl⟩ := H
  go_enter Tryz.func13, Tryz.ntmps13
  go_wp2_with (first | (refine gL_ 81 11 Tryz.func81 #[.int .i64 a0, .slice A1 l1.length c1] ?_; (with_reducible refine (impl_AreRules.calls a0 _ _ l1 false _ ?side1 ?side2 A3.out).mono ?_); (case side1 => exact s11_); (case side2 => exact HC1.out); rintro e w20 ⟨rfl, hb⟩; refine ⟨_, rfl, ?_⟩; have n_ := Aside0.mk (below_step s1_ hb); clear HB; have HB := n_; clear n_; (try clear hb)))
  go_ret2
  exact ⟨_, (by first | rfl | (simp [errW_none, errW_some] <;> rfl) | (simp [*, errW_none, errW_some] <;> rfl)), (by first | exact Kd.R_nil _ _ _ _ _ | exact Kd.N_nil _ _ _ _ _ | exact Kd.V_nil _ _ _ _ _ | exact Kd.Q_nil _ _ _ _ _ | exact Kd.S_nil _ _ _ _ _), s1_⟩
def impl_IrreducibleModels.f (k : Nat) (a0 : Int) (l1 : List (S48)) : Option (List Int × Bool) := (impl_ModelsOf.f k a0 l1).bind fun bt264 => (if bt264.2 = true then ((impl_irreducible.f k a0 bt264.1).bind fun t268 => (some (t268, true))) else (some (([] : List Int), false)))
set_option maxHeartbeats 40000000 in
set_option maxRecDepth 100000 in
theorem impl_IrreducibleModels.calls (k : Nat) (a0 : Int) (A1 : Option Addr) (c1 : Nat) (l1 : List (S48)) (r1 : List Int) (r2 : Bool) (w : World) (hr1 : Kd.C k48 w A1 l1.length l1) (hc1 : l1.length ≤ c1) (htab : Tab64 w) (h : impl_IrreducibleModels.f k a0 l1 = some (r1, r2)) :
  Calls Tryz.prog 15 #[.int .i64 a0, .slice A1 l1.length c1] w fun e w' => ∃ v0_ : Value, e = .returned (.tuple #[v0_, .bool r2]) ∧ Kd.R (Kd.int .i64) 3 w' w.heap.size (fun _ => True) v0_ r1 ∧ Below w.heap.size w w' := by
 have HTB := Aside0.mk htab; clear htab; have HR1 := Aside0.mk hr1; have HC1 := Aside0.mk hc1; clear hr1 hc1; have HB := Aside0.mk (Below.refl w.heap.size w); have H := h; clear h; unfold impl_IrreducibleModels.f at H; obtain ⟨⟨t264, t265⟩, A3, H⟩ := bnd55_ H; dsimp only at H
 by_cases c4 : t265 = true
 ·
  subst c4; rw [if_pos rfl] at H; obtain ⟨t268, A5, H⟩ := bnd55_ H
  simp only [Option.some.injEq, Prod.mk.injEq] at H
  obtain ⟨rfl, rfl⟩ := H
  go_enter Tryz.func15, Tryz.ntmps15
  go_wp2_with (first | (refine gL_ 13 11 Tryz.func13 #[.int .i64 a0, .slice A1 l1.length c1] ?_; (with_reducible refine (impl_ModelsOf.calls k a0 _ _ l1 t264 true _ ?side1 ?side2 ?tab A3.out).mono ?_); (case tab => first | exact HTB.out | (refine Tab64.below HTB.out ?_; repeat (first | (with_reducible first | exact HB.out | apply below_alloc | apply pw_below_drewN | apply below_drew1) | exact HB.out)) | (repeat (first | exact HTB.out | apply Tab64.drewN | apply Tab64.drew | apply Tab64.alloc))); (case side1 => exact s11_); (case side2 => exact HC1.out); rintro e w6 ⟨v266, rfl, ho0, hb⟩; refine ⟨_, rfl, ?_⟩; have n_ := ac_ (Kd.R_lower ho0 (below_size s1_)) <| Aside0.mk (below_step s1_ hb); clear HB; obtain ⟨HO267, HB⟩ := n_; (try clear hb ho0); obtain ⟨Ao7, co7, eo7⟩ := Kd.R_slice HO267.out; subst eo7) | (refine gL_ 123 18 Tryz.func123 #[.int .i64 a0, .slice Ao7 t264.length co7] ?_; (with_reducible refine (impl_irreducible.calls k a0 _ _ t264 t268 _ ?side1 ?side2 A5.out).mono ?_); (case side1 => repeat (first | exact (Kd.R_reads' HO267.out).2.2 | (with_reducible refine Kd.C_alloc ?_ _) | (with_reducible refine Kd.C_drewN ?_ _) | (with_reducible refine Kd.C_drew ?_))); (case side2 => exact (Kd.R_reads' HO267.out).2.1); rintro e w8 ⟨v269, rfl, ho0, hb⟩; refine ⟨_, rfl, ?_⟩; have n_ := ac_ (Kd.R_elder' (by (with_reducible repeat (first | apply Kd.R_alloc | apply Kd.R_drewN | apply Kd.R_drew)); exact HO267.out) (Kd.R_base ho0) hb) <| ac_ (Kd.R_lower (Kd.R_new' ho0 (Kd.R_lt (by (with_reducible repeat (first | apply Kd.R_alloc | apply Kd.R_drewN | apply Kd.R_drew)); exact HO267.out))) (below_size s1_)) <| Aside0.mk (below_step s1_ hb); clear HO267 HB; obtain ⟨HO267, HO270, HB⟩ := n_; (try clear hb ho0)))
  go_ret2
  exact ⟨_, (by first | rfl | (simp [errW_none, errW_some] <;> rfl) | (simp [*, errW_none, errW_some] <;> rfl)), (by (with_reducible repeat (first | apply Kd.R_alloc | apply Kd.R_drewN | apply Kd.R_drew)); exact Kd.R_mono HO270.out (fun _ hk => trivial)), s1_⟩
 ·
  replace c4 := Bool.eq_false_iff.mpr c4; subst c4
  rw [if_neg (show ¬ (false = true) by decide)] at H
  simp only [Option.some.injEq, Prod.mk.injEq] at H
  obtain ⟨rfl, rfl⟩ := H
  go_enter Tryz.func15, Tryz.ntmps15
  go_wp2_with (first | (refine gL_ 13 11 Tryz.func13 #[.int .i64 a0, .slice A1 l1.length c1] ?_; (with_reducible refine (impl_ModelsOf.calls k a0 _ _ l1 t264 false _ ?side1 ?side2 ?tab A3.out).mono ?_); (case tab => first | exact HTB.out | (refine Tab64.below HTB.out ?_; repeat (first | (with_reducible first | exact HB.out | apply below_alloc | apply pw_below_drewN | apply below_drew1) | exact HB.out)) | (repeat (first | exact HTB.out | apply Tab64.drewN | apply Tab64.drew | apply Tab64.alloc))); (case side1 => exact s11_); (case side2 => exact HC1.out); rintro e w9 ⟨v266, rfl, ho0, hb⟩; refine ⟨_, rfl, ?_⟩; have n_ := ac_ (Kd.R_lower ho0 (below_size s1_)) <| Aside0.mk (below_step s1_ hb); clear HB; obtain ⟨HO267, HB⟩ := n_; (try clear hb ho0)))
  go_ret2
  exact ⟨_, (by first | rfl | (simp [errW_none, errW_some] <;> rfl) | (simp [*, errW_none, errW_some] <;> rfl)), (by first | exact Kd.R_nil _ _ _ _ _ | exact Kd.N_nil _ _ _ _ _ | exact Kd.V_nil _ _ _ _ _ | exact Kd.Q_nil _ _ _ _ _ | exact Kd.S_nil _ _ _ _ _), s1_⟩
theorem q55_12 {P : Prop} (h : P := by repeat (first | (with_reducible first | exact HB.out | apply below_alloc | apply pw_below_drewN | apply below_drew1 | refine below_set ?_ GE272.out) | exact HB.out)) : P := h
theorem q55_15 {P : Prop} (h : P := by (with_reducible repeat (first | refine blk_drewN ?_ _ | refine blk_drew ?_ | refine blk_alloc ?_ _)); exact BK272.out) : P := h
def impl_ContextOfRules.f (k : Nat) (a0 : Int) (l1 : List (S48)) : Option (Int × List Int × Bool) := (impl_IrreducibleModels.f k a0 l1).bind fun bt273 => ((impl_contextOf.f a0 bt273.1 bt273.2).bind fun bt277 => (some (bt277.1, bt277.2.1, bt277.2.2)))
set_option maxHeartbeats 40000000 in
set_option maxRecDepth 100000 in
theorem impl_ContextOfRules.calls (k : Nat) (a0 : Int) (A1 : Option Addr) (c1 : Nat) (l1 : List (S48)) (r1 : Int) (r2 : List Int) (r3 : Bool) (w : World) (hr1 : Kd.C k48 w A1 l1.length l1) (hc1 : l1.length ≤ c1) (htab : Tab64 w) (h : impl_ContextOfRules.f k a0 l1 = some (r1, r2, r3)) :
  Calls Tryz.prog 11 #[.int .i64 a0, .slice A1 l1.length c1] w fun e w' => ∃ v1_ : Value, e = .returned (.tuple #[.agg #[.int .i64 r1, v1_], .bool r3]) ∧ Kd.R (Kd.int .i64) 3 w' w.heap.size (fun _ => True) v1_ r2 ∧ Below w.heap.size w w' := by
 have HTB := Aside0.mk htab; clear htab; have hu29 := Tryz.underlying29; have HR1 := Aside0.mk hr1; have HC1 := Aside0.mk hc1; clear hr1 hc1; have HB := Aside0.mk (Below.refl w.heap.size w); have H := h; clear h; unfold impl_ContextOfRules.f at H; obtain ⟨⟨t273, t274⟩, A3, H⟩ := bnd55_ H; dsimp only at H; obtain ⟨⟨t277, t278, t281⟩, A4, H⟩ := bnd55_ H; dsimp only at H
 simp only [Option.some.injEq, Prod.mk.injEq] at H
 obtain ⟨rfl, rfl, rfl⟩ := H
 go_enter Tryz.func11, Tryz.ntmps11
 go_wp2_with (first | (refine be_ 4 #[.int .i64 0, .slice none 0 0] 29 ?_; intro gb272 hg w5 hbox hb; have n_ := ac_ (below_step s1_ hb) <| ac_ (hbox) <| ac_ ((gz_ w hg s1_)) <| Aside0.mk ((gz_ w hg s1_)); clear HB; obtain ⟨HB, BK272, GW272, GE272⟩ := n_; clear hb hbox hg) | (refine gL_ 15 11 Tryz.func15 #[.int .i64 a0, .slice A1 l1.length c1] ?_; (with_reducible refine (impl_IrreducibleModels.calls k a0 _ _ l1 t273 t274 _ ?side1 ?side2 ?tab A3.out).mono ?_); (case tab => first | exact HTB.out | (refine Tab64.below HTB.out ?_; repeat (first | (with_reducible first | exact HB.out | apply below_alloc | apply pw_below_drewN | apply below_drew1 | refine below_set ?_ GE272.out) | exact HB.out)) | (repeat (first | exact HTB.out | apply Tab64.drewN | apply Tab64.drew | apply Tab64.alloc))); (case side1 => repeat (first | exact (Kd.C_below HR1.out HB.out) | (with_reducible refine Kd.C_alloc ?_ _) | (with_reducible refine Kd.C_drewN ?_ _) | (with_reducible refine Kd.C_drew ?_))); (case side2 => exact HC1.out); rintro e w6 ⟨v275, rfl, ho0, hb⟩; refine ⟨_, rfl, ?_⟩; have n_ := ac_ (Kd.R_lower ho0 (below_size q55_12)) <| ac_ (blk_below (g := gb272) (o := .cells #[.int .i64 0, .slice none 0 0] 29 (0, 0)) q55_15 hb) <| Aside0.mk (below_step q55_12 hb); clear BK272 HB; obtain ⟨HO276, BK272, HB⟩ := n_; (try clear hb ho0); obtain ⟨Ao7, co7, eo7⟩ := Kd.R_slice HO276.out; subst eo7) | (refine gL_ 120 17 Tryz.func120 #[.int .i64 a0, .slice Ao7 t273.length co7, .bool t274] ?_; (with_reducible refine (impl_contextOf.calls a0 (fun k_ => some k_ = (.slice Ao7 t273.length co7 : Value).ownBlock) (.slice Ao7 t273.length co7) t273 t274 t277 t278 t281 w _ ?side1 ?side2 A4.out).mono ?_); (case side1 => exact q55_12); (case side2 => exact Kd.R_tight rfl HO276.out); rintro e w8 ⟨v279, rfl, ho0, hb, hkp⟩; refine ⟨_, rfl, ?_⟩; have n_ := ac_ (blk_kept q55_15 hkp (fun hs_ => (fun e_ => (Kd.R_ne HO276.out BK272.out (by decide)) e_) hs_)) <| ac_ (Kd.R_mono (ok' := fun k_ => True) ho0 (fun k_ hk_ => trivial)) <| Aside0.mk (hb); clear BK272 HB HO276; obtain ⟨BK272, HO280, HB⟩ := n_; (try clear hb hkp ho0); have hcz9_0 : w8.cell? ⟨gb272, 0, none⟩ = some (.int .i64 0) := (blk_cell BK272.out 0).trans rfl; have hcz9_1 : w8.cell? ⟨gb272, 1, none⟩ = some (.slice none 0 0) := (blk_cell BK272.out 1).trans rfl; have hfz9_0 := blk_frozen BK272.out 0; have hfz9_1 := blk_frozen BK272.out 1; obtain ⟨Ao10, co10, eo10⟩ := Kd.R_slice HO280.out; subst eo10))
 refine bodyPost_ret (results_ct rfl _ _ gb272 29 #[.int .i64 t277, .slice Ao10 t278.length co10] (0, 0) _ rfl (by (with_reducible repeat (first | refine blk_drewN ?_ _ | refine blk_drew ?_ | refine blk_alloc ?_ _)); refine blk_put (cs := #[.int .i64 t277, .slice none 0 0]) ?_ 1 _ rfl; (with_reducible repeat (first | refine blk_drewN ?_ _ | refine blk_drew ?_ | refine blk_alloc ?_ _)); refine blk_put (cs := #[.int .i64 0, .slice none 0 0]) ?_ 0 _ rfl; (with_reducible repeat (first | refine blk_drewN ?_ _ | refine blk_drew ?_ | refine blk_alloc ?_ _)); exact BK272.out) Tryz.underlying29 rfl (by kernel_rfl)) rfl ?_
 exact ⟨_, (by first | rfl | (simp [errW_none, errW_some] <;> rfl) | (simp [*, errW_none, errW_some] <;> rfl)), (by (with_reducible repeat (first | apply Kd.R_alloc | apply Kd.R_drewN | apply Kd.R_drew)); exact Kd.R_mono (Kd.R_far (p := ⟨gb272, 1, none⟩) (Kd.R_far (p := ⟨gb272, 0, none⟩) (Kd.R_types HO280.out BK272.out (by decide)) (fun _ hk => hk.2) (.int .i64 t277)) (fun _ hk => hk.2) (.slice Ao10 t278.length co10)) (fun _ hk => trivial)), q55_12⟩
end Go.Proofs.YtafnamchckehmaaGreatDoor.Pr
