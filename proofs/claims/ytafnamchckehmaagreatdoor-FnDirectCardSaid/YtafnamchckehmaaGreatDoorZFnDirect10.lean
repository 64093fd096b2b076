/- What the law needs of the program's functions as plain functions, of the proofs that their calls answer so, and of plain laws: gathered by a program of this place (pack.py) out of its printed texts. No condition beyond what each statement says. -/
import Derived.Test.YtafnamchckehmaaGreatDoorZFnDirect7
import Derived.Test.YtafnamchckehmaaGreatDoorZFnDirect8
import Derived.Test.YtafnamchckehmaaGreatDoorZFnDirect9
import Derived.Test.YtafnamchckehmaaGreatDoorZFnDirect2
import Derived.Test.YtafnamchckehmaaGreatDoorZFnDirect6
namespace Go.Proofs.YtafnamchckehmaaGreatDoor.Pr
open Go.RowKit Go.Proofs.YtafnamchckehmaaGreatDoorW.PrintWords Go.Proofs.YtafnamchckehmaaGreatDoorW.PrintLast Go.Proofs.YtafnamchckehmaaGreatDoorW.PrintMore
set_option linter.unusedVariables false
def impl_areAnyRules.f (l0 : List S48) : Option Bool := some (l0.all Pu.anyR)
theorem areAny1_val (r : S48) : impl_areAnyRules_1.f r.f0 r.f1 = some (!Pu.anyR r) := by
  unfold impl_areAnyRules_1.f
  rw [Pu.any_val, Option.bind_some]
  unfold Pu.anyR
  cases Pu.isAny r.f0 with
  | false => rfl
  | true => simp [Pu.any_val]
theorem impl_areAnyRules.calls (A0 : Option Addr) (c0 : Nat) (l0 : List S48) (r : Bool) (w : World) (hr0 : Kd.C k48 w A0 l0.length l0) (hc0 : l0.length ≤ c0) (h : impl_areAnyRules.f l0 = some r) :
    Calls Tryz.prog 149 #[.slice A0 l0.length c0] w fun e w' => e = .returned (.bool r) ∧ Below w.heap.size w w' := by
  obtain rfl := Option.some.inj h
  clear h
  have eg : ∀ args w, (callFunc 218 args).run Tryz.prog w = .ok (.enter 218 args) w := enters_of Tryz.func218 (by kernel_rfl) rfl
  have h0 := ContainsFunc_rule 218 #[] eg A0 c0 l0 (fun r => !Pu.anyR r) w hr0 (fun W x hb => (impl_areAnyRules_1.calls x.f0 x.f1 _ W (areAny1_val x)).mono fun e w' ⟨he, hb'⟩ => ⟨he, hb'⟩)
  have h1 : Aside0 ((!(l0.any fun r => !Pu.anyR r)) = l0.all Pu.anyR) := ⟨by rw [List.all_eq_not_any_not]⟩
  clear hr0
  go_enter Tryz.func149, Tryz.ntmps149
  go_wp2_with (go_at_call 167; refine h0.mono ?_; rintro e w' ⟨rfl, hb⟩)
  go_ret
  exact ⟨by rw [← h1.out]; rfl, hb⟩
end Go.Proofs.YtafnamchckehmaaGreatDoor.Pr
namespace Go.Proofs.YtafnamchckehmaaGreatDoor.Pr
open Go.RowKit Go.Proofs.YtafnamchckehmaaGreatDoorW.PrintWords Go.Proofs.YtafnamchckehmaaGreatDoorW.PrintLast Go.Proofs.YtafnamchckehmaaGreatDoorW.PrintMore
attribute [local go_sem] max2_int min2_int max_two min_two max_three min_three max_four min_four
set_option linter.unusedVariables false
set_option linter.unusedSimpArgs false
theorem bnd15_ {α β : Type} {o : Option α} {f : α → Option β} {r : β} (h : o.bind f = some r) : ∃ a, Aside0 (o = some a) ∧ f a = some r := by
 obtain ⟨a, h1, h2⟩ := Option.bind_eq_some_iff.mp h
 exact ⟨a, ⟨h1⟩, h2⟩
theorem q15_1 {P : Prop} (h : P := by repeat (first | (with_reducible first | exact HB.out | apply below_alloc | apply pw_below_drewN | apply below_drew1 | refine below_set ?_ GE491.out) | exact HB.out)) : P := h
mutual
def impl_OneStep.j0 : Nat → List (S48) → Int → Bool → Option (Int)
 | 0, _, _, _ => none
 | k + 1, x0, x1, x15 => if x15 = true then (some x1) else (impl_OneStep.l0 k x1 x1 x0 (x0.length : Int) 0)
def impl_OneStep.l0 : Nat → Int → Int → List (S48) → Int → Int → Option (Int)
 | 0, _, _, _, _, _ => none
 | k + 1, x1, x5, x18, x19, x20 => if x20 < x19 then (if 0 ≤ x20 then (if x20 < (x18.length : Int) then ((impl_inSet.f ((rd_T48 x18 x20).f0) x1).bind fun t492 => (if t492 = true then (impl_OneStep.l0 k x1 (Go.bits .or .i64 x5 ((rd_T48 x18 x20).f1)) x18 x19 (wrap64 (x20 + 1))) else (impl_OneStep.l0 k x1 x5 x18 x19 (wrap64 (x20 + 1))))) else (none)) else (none)) else (some x5)
end
def impl_OneStep.f (k : Nat) (l0 : List (S48)) (a1 : Int) : Option (Int) := (impl_isAnySet.f a1).bind fun t488 => (if t488 = true then ((impl_areAnyRules.f l0).bind fun t489 => (impl_OneStep.j0 k l0 a1 (!t489))) else (impl_OneStep.j0 k l0 a1 true))
set_option maxHeartbeats 8000000 in
set_option maxRecDepth 100000 in
theorem impl_OneStep.calls (k : Nat) (A0 : Option Addr) (c0 : Nat) (l0 : List (S48)) (a1 : Int) (r : Int) (w : World) (hr0 : Kd.C k48 w A0 l0.length l0) (hc0 : l0.length ≤ c0) (h : impl_OneStep.f k l0 a1 = some r) :
  Calls Tryz.prog 116 #[.slice A0 l0.length c0, .int .i64 a1] w fun e w' => e = .returned (.int .i64 r) ∧ Below w.heap.size w w' := by
 have hu48 := Tryz.underlying48; have HR0 := Aside0.mk hr0; have HC0 := Aside0.mk hc0; clear hr0 hc0; have HB := Aside0.mk (Below.refl w.heap.size w); have H := h; clear h; unfold impl_OneStep.f at H; have HC3 := Aside0.mk H; clear H
 go_enter Tryz.func116, Tryz.ntmps116
 go_upto_region 1 with (fail)
 go_cut [15] (fun v15 wc => ∃ (kq : Nat) (x15_2 : Bool), v15 = .bool x15_2 ∧ Aside0 (impl_OneStep.j0 kq l0 a1 x15_2 = some r) ∧ Aside0 (kq ≤ k) ∧ Aside0 (Below w.heap.size w wc))
 case first =>
  have H := HC3.out; clear HC3; obtain ⟨t488, A4, H⟩ := bnd15_ H
  by_cases c5 : t488 = true
  ·
   subst c5; rw [if_pos rfl] at H; obtain ⟨t489, A6, H⟩ := bnd15_ H; have H' := Aside0.mk H; clear H
   go_wp2_with (first | (refine gL_ 177 9 Tryz.func177 #[.int .i64 a1] ?_; (with_reducible refine (impl_isAnySet.calls a1 true _ A4.out).mono ?_); rintro e w' ⟨rfl, ⟨nd, rfl⟩⟩; refine ⟨_, rfl, ?_⟩) | (go_at_call 149; (with_reducible refine (impl_areAnyRules.calls _ _ l0 t489 _ ?side1 ?side2 A6.out).mono ?_); (case side1 => repeat (first | exact (Kd.C_below HR0.out s1_) | (with_reducible refine Kd.C_alloc ?_ _) | (with_reducible refine Kd.C_drewN ?_ _) | (with_reducible refine Kd.C_drew ?_))); (case side2 => exact HC0.out); rintro e w7 ⟨rfl, hb⟩; have n_ := Aside0.mk (below_step s1_ hb); clear HB; have HB := n_; clear n_; (try clear hb)))
   go_meet
   case rel => exact ⟨_, (!t489), s2_, H', ⟨(by first | omega | exact Nat.le_refl _)⟩, ⟨s1_⟩⟩
  ·
   replace c5 := Bool.eq_false_iff.mpr c5; subst c5
   rw [if_neg (show ¬ (false = true) by decide)] at H
   have H' := Aside0.mk H; clear H
   go_wp2_with (first | (refine gL_ 177 9 Tryz.func177 #[.int .i64 a1] ?_; (with_reducible refine (impl_isAnySet.calls a1 false _ A4.out).mono ?_); rintro e w' ⟨rfl, ⟨nd, rfl⟩⟩; refine ⟨_, rfl, ?_⟩))
   go_meet
   case rel => exact ⟨_, (true), s2_, H', ⟨(by first | omega | exact Nat.le_refl _)⟩, ⟨s1_⟩⟩
 case rest =>
  clear HC3
  try clear c1
  try clear p2
  try clear c5
  obtain ⟨kq, x15_2, rfl, HA, HJ2, HB⟩ := hcut
  cases kq with
  | zero => exact absurd HA.out (by simp [impl_OneStep.j0])
  | succ kj2 =>
   have H := HA.out; clear HA
   simp only [impl_OneStep.j0] at H
   by_cases c8 : x15_2 = true
   ·
    subst c8; rw [if_pos rfl] at H; obtain rfl := Option.some.inj H
    go_wp2
    go_ret
    exact ⟨(by first | rfl | (simp [errW_none, errW_some] <;> rfl) | (simp [*, errW_none, errW_some] <;> rfl)), s1_⟩
   ·
    replace c8 := Bool.eq_false_iff.mpr c8; subst c8
    rw [if_neg (show ¬ (false = true) by decide)] at H
    have H' := Aside0.mk H; clear H
    go_wp2
    go_loopg [5, 20] kj2 (fun kq v5 v20 w' => ∃ (x5_2 : Int) (x20_2 : Int), v5 = .int .i64 x5_2 ∧ v20 = .int .i64 x20_2 ∧ Aside0 (impl_OneStep.l0 kq a1 x5_2 l0 (l0.length : Int) x20_2 = some r) ∧ Aside0 (kq ≤ kj2) ∧ Aside0 (Below w.heap.size w w'))
    case atStart => exact ⟨(a1), (0), s2_, s2_, H', ⟨Nat.le_refl _⟩, ⟨s1_⟩⟩
    case round =>
     clear H'
     try clear c1
     try clear p2
     try clear c5
     try clear c8
     try clear p2
     obtain ⟨x5_2, x20_2, rfl, rfl, HA, HK2, HB⟩ := hrel
     cases gk with
     | zero => exact absurd HA.out (by simp [impl_OneStep.l0])
     | succ k2 =>
      have H := HA.out; clear HA
      simp only [impl_OneStep.l0] at H
      by_cases c9 : x20_2 < (l0.length : Int)
      ·
       rw [if_pos c9] at H; have c9b0 : decide (x20_2 < (l0.length : Int)) = true := decide_eq_true c9; clear c9
       by_cases c10 : 0 ≤ x20_2
       ·
        rw [if_pos c10] at H; have c10b0 : decide (0 ≤ x20_2) = true := decide_eq_true c10; clear c10
        by_cases c11 : x20_2 < (l0.length : Int)
        ·
         rw [if_pos c11] at H; have c11b0 : decide (x20_2 < (l0.length : Int)) = true := decide_eq_true c11; clear c11; obtain ⟨t492, A12, H⟩ := bnd15_ H
         by_cases c13 : t492 = true
         ·
          subst c13; rw [if_pos rfl] at H; have H' := Aside0.mk H; clear H; have p490 : 0 ≤ (x20_2 : Int) := of_decide_eq_true s3_; have q490 : x20_2 < (l0.length : Int) := of_decide_eq_true s3_; obtain ⟨ad490, e490, hx490_0, hx490_1⟩ := at_T48 HR0.out x20_2 p490 q490
          cases e490
          replace hx490_0 := (HB.out.cell (World.block_lt_of_cell? w _ hx490_0)).trans hx490_0; replace hx490_1 := (HB.out.cell (World.block_lt_of_cell? w _ hx490_1)).trans hx490_1; replace p490 := eq_true p490; replace q490 := eq_true q490
          go_wp2_with (first | ((with_reducible refine gate_dst (N := 7) rfl ?_); refine box_event ?hg (N := 7) ?hd (cs := #[.int .i64 0, .int .i64 0]) (t := 48) ?hr ?_; (case hd => rfl); (case hg => rfl); (case hr => first | (go_simp; done) | (go_simp; rfl)); intro gb491 hg w14 hbox hb; have n_ := ac_ (below_step s1_ hb) <| ac_ (hbox) <| ac_ ((by rw [hg]; exact (below_size s1_) : w.heap.size ≤ gb491)) <| Aside0.mk ((by rw [hg]; exact (below_size s1_) : w.heap.size ≤ gb491)); clear HB; obtain ⟨HB, BK491, GW491, GE491⟩ := n_; clear hb hbox hg; have hcz15_0 : w14.cell? ⟨gb491, 0, none⟩ = some (.int .i64 0) := (blk_cell BK491.out 0).trans rfl; have hcz15_1 : w14.cell? ⟨gb491, 1, none⟩ = some (.int .i64 0) := (blk_cell BK491.out 1).trans rfl; have hfz15_0 := blk_frozen BK491.out 0; have hfz15_1 := blk_frozen BK491.out 1) | (refine gL_ 141 27 Tryz.func141 #[.int .i64 ((rd_T48 l0 x20_2).f0), .int .i64 a1] ?_; (with_reducible refine (impl_inSet.calls ((rd_T48 l0 x20_2).f0) a1 true _ A12.out).mono ?_); rintro e w' ⟨rfl, ⟨nd, rfl⟩⟩; refine ⟨_, rfl, ?_⟩))
          go_roundg k2
          case measure => have := HJ2.out; have := HK2.out; omega
          case rel => exact ⟨(Go.bits .or .i64 x5_2 ((rd_T48 l0 x20_2).f1)), (wrap64 (x20_2 + 1)), s2_, s2_, H', ⟨by have := HJ2.out; have := HK2.out; omega⟩, ⟨q15_1⟩⟩
         ·
          replace c13 := Bool.eq_false_iff.mpr c13; subst c13
          rw [if_neg (show ¬ (false = true) by decide)] at H
          have H' := Aside0.mk H; clear H; have p490 : 0 ≤ (x20_2 : Int) := of_decide_eq_true s3_; have q490 : x20_2 < (l0.length : Int) := of_decide_eq_true s3_; obtain ⟨ad490, e490, hx490_0, hx490_1⟩ := at_T48 HR0.out x20_2 p490 q490
          cases e490
          replace hx490_0 := (HB.out.cell (World.block_lt_of_cell? w _ hx490_0)).trans hx490_0; replace hx490_1 := (HB.out.cell (World.block_lt_of_cell? w _ hx490_1)).trans hx490_1; replace p490 := eq_true p490; replace q490 := eq_true q490
          go_wp2_with (first | ((with_reducible refine gate_dst (N := 7) rfl ?_); refine box_event ?hg (N := 7) ?hd (cs := #[.int .i64 0, .int .i64 0]) (t := 48) ?hr ?_; (case hd => rfl); (case hg => rfl); (case hr => first | (go_simp; done) | (go_simp; rfl)); intro gb491 hg w16 hbox hb; have n_ := ac_ (below_step s1_ hb) <| ac_ (hbox) <| ac_ ((by rw [hg]; exact (below_size s1_) : w.heap.size ≤ gb491)) <| Aside0.mk ((by rw [hg]; exact (below_size s1_) : w.heap.size ≤ gb491)); clear HB; obtain ⟨HB, BK491, GW491, GE491⟩ := n_; clear hb hbox hg; have hcz17_0 : w16.cell? ⟨gb491, 0, none⟩ = some (.int .i64 0) := (blk_cell BK491.out 0).trans rfl; have hcz17_1 : w16.cell? ⟨gb491, 1, none⟩ = some (.int .i64 0) := (blk_cell BK491.out 1).trans rfl; have hfz17_0 := blk_frozen BK491.out 0; have hfz17_1 := blk_frozen BK491.out 1) | (refine gL_ 141 27 Tryz.func141 #[.int .i64 ((rd_T48 l0 x20_2).f0), .int .i64 a1] ?_; (with_reducible refine (impl_inSet.calls ((rd_T48 l0 x20_2).f0) a1 false _ A12.out).mono ?_); rintro e w' ⟨rfl, ⟨nd, rfl⟩⟩; refine ⟨_, rfl, ?_⟩))
          go_roundg k2
          case measure => have := HJ2.out; have := HK2.out; omega
          case rel => exact ⟨(x5_2), (wrap64 (x20_2 + 1)), s2_, s2_, H', ⟨by have := HJ2.out; have := HK2.out; omega⟩, ⟨q15_1⟩⟩
        ·
         rw [if_neg c11] at H
         exact absurd H (by simp)
       ·
        rw [if_neg c10] at H
        exact absurd H (by simp)
      ·
       rw [if_neg c9] at H; have c9b0 : decide (x20_2 < (l0.length : Int)) = false := decide_eq_false c9; clear c9; obtain rfl := Option.some.inj H
       go_wp2
       go_ret
       exact ⟨(by first | rfl | (simp [errW_none, errW_some] <;> rfl) | (simp [*, errW_none, errW_some] <;> rfl)), s1_⟩
mutual
def impl_ClosedBy.j0 : Nat → List (S48) → Int → Bool → Option (Int)
 | 0, _, _, _ => none
 | k + 1, x0, x1, x13 => if x13 = true then (some x1) else ((impl_OneStep.f k x0 x1).bind fun t495 => (impl_ClosedBy.l0 k x0 x1 t495))
def impl_ClosedBy.l0 : Nat → List (S48) → Int → Int → Option (Int)
 | 0, _, _, _ => none
 | k + 1, x0, x1, x5 => if x5 = x1 then (some x1) else ((impl_OneStep.f k x0 x5).bind fun t496 => (impl_ClosedBy.l0 k x0 x5 t496))
end
def impl_ClosedBy.f (k : Nat) (l0 : List (S48)) (a1 : Int) : Option (Int) := (impl_isAnySet.f a1).bind fun t493 => (if t493 = true then ((impl_areAnyRules.f l0).bind fun t494 => (impl_ClosedBy.j0 k l0 a1 (!t494))) else (impl_ClosedBy.j0 k l0 a1 true))
set_option maxHeartbeats 8000000 in
set_option maxRecDepth 100000 in
theorem impl_ClosedBy.calls (k : Nat) (A0 : Option Addr) (c0 : Nat) (l0 : List (S48)) (a1 : Int) (r : Int) (w : World) (hr0 : Kd.C k48 w A0 l0.length l0) (hc0 : l0.length ≤ c0) (h : impl_ClosedBy.f k l0 a1 = some r) :
  Calls Tryz.prog 70 #[.slice A0 l0.length c0, .int .i64 a1] w fun e w' => e = .returned (.int .i64 r) ∧ Below w.heap.size w w' := by
 have HR0 := Aside0.mk hr0; have HC0 := Aside0.mk hc0; clear hr0 hc0; have HB := Aside0.mk (Below.refl w.heap.size w); have H := h; clear h; unfold impl_ClosedBy.f at H; have HC3 := Aside0.mk H; clear H
 go_enter Tryz.func70, Tryz.ntmps70
 go_upto_region 1 with (fail)
 go_cut [13] (fun v13 wc => ∃ (kq : Nat) (x13_2 : Bool), v13 = .bool x13_2 ∧ Aside0 (impl_ClosedBy.j0 kq l0 a1 x13_2 = some r) ∧ Aside0 (kq ≤ k) ∧ Aside0 (Below w.heap.size w wc))
 case first =>
  have H := HC3.out; clear HC3; obtain ⟨t493, A4, H⟩ := bnd15_ H
  by_cases c5 : t493 = true
  ·
   subst c5; rw [if_pos rfl] at H; obtain ⟨t494, A6, H⟩ := bnd15_ H; have H' := Aside0.mk H; clear H
   go_wp2_with (first | (refine gL_ 177 7 Tryz.func177 #[.int .i64 a1] ?_; (with_reducible refine (impl_isAnySet.calls a1 true _ A4.out).mono ?_); rintro e w' ⟨rfl, ⟨nd, rfl⟩⟩; refine ⟨_, rfl, ?_⟩) | (go_at_call 149; (with_reducible refine (impl_areAnyRules.calls _ _ l0 t494 _ ?side1 ?side2 A6.out).mono ?_); (case side1 => repeat (first | exact (Kd.C_below HR0.out s1_) | (with_reducible refine Kd.C_alloc ?_ _) | (with_reducible refine Kd.C_drewN ?_ _) | (with_reducible refine Kd.C_drew ?_))); (case side2 => exact HC0.out); rintro e w7 ⟨rfl, hb⟩; have n_ := Aside0.mk (below_step s1_ hb); clear HB; have HB := n_; clear n_; (try clear hb)))
   go_meet
   case rel => exact ⟨_, (!t494), s2_, H', ⟨(by first | omega | exact Nat.le_refl _)⟩, ⟨s1_⟩⟩
  ·
   replace c5 := Bool.eq_false_iff.mpr c5; subst c5
   rw [if_neg (show ¬ (false = true) by decide)] at H
   have H' := Aside0.mk H; clear H
   go_wp2_with (first | (refine gL_ 177 7 Tryz.func177 #[.int .i64 a1] ?_; (with_reducible refine (impl_isAnySet.calls a1 false _ A4.out).mono ?_); rintro e w' ⟨rfl, ⟨nd, rfl⟩⟩; refine ⟨_, rfl, ?_⟩))
   go_meet
   case rel => exact ⟨_, (true), s2_, H', ⟨(by first | omega | exact Nat.le_refl _)⟩, ⟨s1_⟩⟩
 case rest =>
  clear HC3
  try clear c1
  try clear p2
  try clear c5
  try clear c7
  obtain ⟨kq, x13_2, rfl, HA, HJ2, HB⟩ := hcut
  cases kq with
  | zero => exact absurd HA.out (by simp [impl_ClosedBy.j0])
  | succ kj2 =>
   have H := HA.out; clear HA
   simp only [impl_ClosedBy.j0] at H
   by_cases c8 : x13_2 = true
   ·
    subst c8; rw [if_pos rfl] at H; obtain rfl := Option.some.inj H
    go_wp2
    go_ret
    exact ⟨(by first | rfl | (simp [errW_none, errW_some] <;> rfl) | (simp [*, errW_none, errW_some] <;> rfl)), s1_⟩
   ·
    replace c8 := Bool.eq_false_iff.mpr c8; subst c8
    rw [if_neg (show ¬ (false = true) by decide)] at H
    obtain ⟨t495, A9, H⟩ := bnd15_ H; have H' := Aside0.mk H; clear H
    go_wp2_with (first | (refine gL_ 116 17 Tryz.func116 #[.slice A0 l0.length c0, .int .i64 a1] ?_; (with_reducible refine (impl_OneStep.calls kj2 _ _ l0 a1 t495 _ ?side1 ?side2 A9.out).mono ?_); (case side1 => exact s13_); (case side2 => exact HC0.out); rintro e w10 ⟨rfl, hb⟩; refine ⟨_, rfl, ?_⟩; have n_ := Aside0.mk (below_step s1_ hb); clear HB; have HB := n_; clear n_; (try clear hb)))
    go_loopg [1, 5] kj2 (fun kq v1 v5 w' => ∃ (x1_2 : Int) (x5_2 : Int), v1 = .int .i64 x1_2 ∧ v5 = .int .i64 x5_2 ∧ Aside0 (impl_ClosedBy.l0 kq l0 x1_2 x5_2 = some r) ∧ Aside0 (kq ≤ kj2) ∧ Aside0 (Below w.heap.size w w'))
    case atStart => exact ⟨(a1), (t495), s2_, s2_, H', ⟨Nat.le_refl _⟩, ⟨s1_⟩⟩
    case round =>
     clear H'
     try clear c1
     try clear p2
     try clear c5
     try clear c7
     try clear c8
     try clear p2
     obtain ⟨x1_2, x5_2, rfl, rfl, HA, HK2, HB⟩ := hrel
     cases gk with
     | zero => exact absurd HA.out (by simp [impl_ClosedBy.l0])
     | succ k2 =>
      have H := HA.out; clear HA
      simp only [impl_ClosedBy.l0] at H
      by_cases c11 : x5_2 = x1_2
      ·
       rw [if_pos c11] at H; have c11b0 : (x5_2 == x1_2) = true := beq_iff_eq.mpr c11; have c11b1 : (x5_2 != x1_2) = false := bne_eq_false_iff_eq.mpr c11; clear c11; obtain rfl := Option.some.inj H
       go_wp2
       go_ret
       exact ⟨(by first | rfl | (simp [errW_none, errW_some] <;> rfl) | (simp [*, errW_none, errW_some] <;> rfl)), s1_⟩
      ·
       rw [if_neg c11] at H; have c11b0 : (x5_2 == x1_2) = false := beq_eq_false_iff_ne.mpr c11; have c11b1 : (x5_2 != x1_2) = true := bne_iff_ne.mpr c11; obtain ⟨t496, A12, H⟩ := bnd15_ H; have H' := Aside0.mk H; clear H
       go_wp2_with (first | (refine gL_ 116 23 Tryz.func116 #[.slice A0 l0.length c0, .int .i64 x5_2] ?_; (with_reducible refine (impl_OneStep.calls k2 _ _ l0 x5_2 t496 _ ?side1 ?side2 A12.out).mono ?_); (case side1 => exact s13_); (case side2 => exact HC0.out); rintro e w13 ⟨rfl, hb⟩; refine ⟨_, rfl, ?_⟩; have n_ := Aside0.mk (below_step s1_ hb); clear HB; have HB := n_; clear n_; (try clear hb)))
       go_roundg k2
       case measure => have := HJ2.out; have := HK2.out; omega
       case rel => exact ⟨(x5_2), (t496), s2_, s2_, H', ⟨by have := HJ2.out; have := HK2.out; omega⟩, ⟨s1_⟩⟩
end Go.Proofs.YtafnamchckehmaaGreatDoor.Pr
namespace Go.Proofs.YtafnamchckehmaaGreatDoor.Pr
open Go.RowKit Go.Proofs.YtafnamchckehmaaGreatDoorW.PrintWords Go.Proofs.YtafnamchckehmaaGreatDoorW.PrintLast Go.Proofs.YtafnamchckehmaaGreatDoorW.PrintMore
set_option linter.unusedVariables false
def ruleB (n : Int) (r : S48) : Bool := Pu.isSetB n r.f0 && Pu.isSetB n r.f1
def impl_AreRules.f (a0 : Int) (l1 : List S48) : Option Bool := some (decide (0 ≤ a0 ∧ a0 ≤ 6) && decide ((l1.length : Int) ≤ 40) && l1.all (ruleB a0))
set_option maxHeartbeats 4000000 in
set_option maxRecDepth 100000 in
theorem AreRules1_calls (n : Int) (b : Nat) (x : S48) (W : World) (hc : W.cell? ⟨b, 0, none⟩ = some (.int .i64 n)) :
    Calls Tryz.prog 185 #[.agg #[.int .i64 x.f0, .int .i64 x.f1], .pointer (some ⟨b, 0, none⟩)] W fun e w' => e = .returned (.bool (!ruleB n x)) ∧ Below W.heap.size W w' := by
  have hb : b < W.heap.size := World.block_lt_of_cell? W _ hc
  have hu := Tryz.underlying48
  cases h1 : Pu.isSetB n x.f0 with
  | false =>
    have H : Aside0 (ruleB n x = false) := ⟨by unfold ruleB; rw [h1]; rfl⟩
    have K1 : Aside0 (impl_IsSet.f n x.f0 = some false) := ⟨by rw [Pu.set_val, h1]⟩
    clear h1
    go_enter Tryz.func185, Tryz.ntmps185
    go_wp2_with (go_at_call 130; refine (impl_IsSet.calls n x.f0 false _ K1.out).mono ?_; rintro e w' ⟨rfl, ⟨⟨q, rfl⟩⟩⟩)
    go_ret
    exact ⟨by rw [H.out]; rfl, by repeat (first | apply below_alloc | apply pw_below_drewN | apply below_drew1 | exact Below.refl _ _)⟩
  | true =>
    cases h2 : Pu.isSetB n x.f1 with
    | false =>
      have H : Aside0 (ruleB n x = false) := ⟨by unfold ruleB; rw [h1, h2]; rfl⟩
      have K1 : Aside0 (impl_IsSet.f n x.f0 = some true) := ⟨by rw [Pu.set_val, h1]⟩
      have K2 : Aside0 (impl_IsSet.f n x.f1 = some false) := ⟨by rw [Pu.set_val, h2]⟩
      clear h1 h2
      go_enter Tryz.func185, Tryz.ntmps185
      go_wp2_with fail
      refine (impl_IsSet.calls n x.f0 true _ K1.out).mono ?_
      rintro e w' ⟨rfl, ⟨⟨q, rfl⟩⟩⟩
      go_wp2_with fail
      refine (impl_IsSet.calls n x.f1 false _ K2.out).mono ?_
      rintro e w' ⟨rfl, ⟨⟨q2, rfl⟩⟩⟩
      go_wp2
      go_ret
      exact ⟨by rw [H.out]; rfl, by repeat (first | apply below_alloc | apply pw_below_drewN | apply below_drew1 | exact Below.refl _ _)⟩
    | true =>
      have H : Aside0 (ruleB n x = true) := ⟨by unfold ruleB; rw [h1, h2]; rfl⟩
      have K1 : Aside0 (impl_IsSet.f n x.f0 = some true) := ⟨by rw [Pu.set_val, h1]⟩
      have K2 : Aside0 (impl_IsSet.f n x.f1 = some true) := ⟨by rw [Pu.set_val, h2]⟩
      clear h1 h2
      go_enter Tryz.func185, Tryz.ntmps185
      go_wp2_with fail
      refine (impl_IsSet.calls n x.f0 true _ K1.out).mono ?_
      rintro e w' ⟨rfl, ⟨⟨q, rfl⟩⟩⟩
      go_wp2_with fail
      refine (impl_IsSet.calls n x.f1 true _ K2.out).mono ?_
      rintro e w' ⟨rfl, ⟨⟨q2, rfl⟩⟩⟩
      go_wp2
      go_ret
      exact ⟨by rw [H.out]; rfl, by repeat (first | apply below_alloc | apply pw_below_drewN | apply below_drew1 | exact Below.refl _ _)⟩
theorem AreRules1_fn (n : Int) (b : Nat) (w : World) (hc : w.cell? ⟨b, 0, none⟩ = some (.int .i64 n)) : FnRb 185 #[.pointer (some ⟨b, 0, none⟩)] (fun x => !ruleB n x) w := by
  intro W x hb
  rw [show (#[.agg #[.int .i64 x.f0, .int .i64 x.f1]] ++ #[.pointer (some ⟨b, 0, none⟩)] : Array Value) = #[.agg #[.int .i64 x.f0, .int .i64 x.f1], .pointer (some ⟨b, 0, none⟩)] from rfl]
  exact AreRules1_calls n b x W ((hb.cell (p := ⟨b, 0, none⟩) (World.block_lt_of_cell? w _ hc)).trans hc)
theorem box_cell {w w1 : World} {a : Value} {t : TypeId} (h : Below (w.alloc (.cells #[a] t)).heap.size (w.alloc (.cells #[a] t)) w1) : w1.cell? ⟨w.heap.size, 0, none⟩ = some a := by
  have h0 : (w.alloc (.cells #[a] t)).cell? ⟨w.heap.size, 0, none⟩ = some a := blk_cell (heap_alloc_new w (.cells #[a] t)) 0
  exact (h.cell (p := ⟨w.heap.size, 0, none⟩) (by simp)).trans h0
set_option maxHeartbeats 4000000 in
set_option maxRecDepth 100000 in
theorem impl_AreRules.calls (a0 : Int) (A1 : Option Addr) (c1 : Nat) (l1 : List S48) (r : Bool) (w : World) (hr1 : Kd.C k48 w A1 l1.length l1) (hc1 : l1.length ≤ c1) (h : impl_AreRules.f a0 l1 = some r) :
    Calls Tryz.prog 81 #[.int .i64 a0, .slice A1 l1.length c1] w fun e w' => e = .returned (.bool r) ∧ Below w.heap.size w w' := by
  have HR := Aside0.mk hr1
  have hr := Aside0.mk (Option.some.inj h)
  clear h hr1
  have eg : ∀ args w, (callFunc 185 args).run Tryz.prog w = .ok (.enter 185 args) w := enters_of Tryz.func185 (by kernel_rfl) rfl
  cases h1 : decide (0 ≤ a0 ∧ a0 ≤ 6) with
  | false =>
    have K : Aside0 (impl_within.f a0 0 6 = some false) := ⟨by rw [Pu.within_val, h1]⟩
    have H : Aside0 (r = false) := ⟨by rw [← hr.out, h1]; rfl⟩
    clear h1
    go_enter Tryz.func81, Tryz.ntmps81
    go_wp2_with (go_at_call 127; refine (impl_within.calls a0 0 6 false _ K.out).mono ?_; rintro e w' ⟨rfl, ⟨⟨q, rfl⟩⟩⟩)
    go_ret
    exact ⟨by rw [H.out]; rfl, by repeat (first | apply below_alloc | apply pw_below_drewN | apply below_drew1 | exact Below.refl _ _)⟩
  | true =>
    have K : Aside0 (impl_within.f a0 0 6 = some true) := ⟨by rw [Pu.within_val, h1]⟩
    by_cases h2 : (l1.length : Int) ≤ 40
    · have h2b : decide ((l1.length : Int) ≤ 40) = true := decide_eq_true h2
      have H : Aside0 (r = !(l1.any fun x => !ruleB a0 x)) := ⟨by rw [← hr.out, h1, h2b, ← List.all_eq_not_any_not]; rfl⟩
      clear h1 h2
      go_enter Tryz.func81, Tryz.ntmps81
      go_wp2_with (go_at_call 127; refine (impl_within.calls a0 0 6 true _ K.out).mono ?_; rintro e w1 ⟨rfl, hd⟩; have HB1 := Aside0.mk (below_step (below_alloc (Below.refl w.heap.size w) _) hd.below); have HC1 := Aside0.mk (box_cell (a := .int .i64 a0) hd.below); clear hd)
      refine (ContainsFunc_rule 185 #[.pointer (some ⟨w.heap.size, 0, none⟩)] eg A1 c1 l1 (fun x => !ruleB a0 x) w1 (Kd.C_below HR.out HB1.out) (AreRules1_fn a0 w.heap.size w1 HC1.out)).mono ?_
      rintro e w' ⟨rfl, hb⟩
      go_wp2
      go_ret
      exact ⟨by rw [H.out]; rfl, below_step HB1.out hb⟩
    · have h2b : decide ((l1.length : Int) ≤ 40) = false := decide_eq_false h2
      have H : Aside0 (r = false) := ⟨by rw [← hr.out, h1, h2b]; rfl⟩
      clear h1 h2
      go_enter Tryz.func81, Tryz.ntmps81
      go_wp2_with (go_at_call 127; refine (impl_within.calls a0 0 6 true _ K.out).mono ?_; rintro e w' ⟨rfl, ⟨⟨q, rfl⟩⟩⟩)
      go_ret
      exact ⟨by rw [H.out]; rfl, by repeat (first | apply below_alloc | apply pw_below_drewN | apply below_drew1 | exact Below.refl _ _)⟩
end Go.Proofs.YtafnamchckehmaaGreatDoor.Pr
namespace Go.Proofs.YtafnamchckehmaaGreatDoor.Pr
open Go.RowKit Go.Proofs.YtafnamchckehmaaGreatDoorW.PrintWords Go.Proofs.YtafnamchckehmaaGreatDoorW.PrintLast Go.Proofs.YtafnamchckehmaaGreatDoorW.PrintMore
attribute [local go_sem] max2_int min2_int max_two min_two max_three min_three max_four min_four
set_option linter.unusedVariables false
set_option linter.unusedSimpArgs false
theorem bnd21_ {α β : Type} {o : Option α} {f : α → Option β} {r : β} (h : o.bind f = some r) : ∃ a, Aside0 (o = some a) ∧ f a = some r := by
 obtain ⟨a, h1, h2⟩ := Option.bind_eq_some_iff.mp h
 exact ⟨a, ⟨h1⟩, h2⟩
theorem q21_1 {P : Prop} (h : P := by repeat (first | exact (Kd.C_below HR1.out HB.out) | (with_reducible refine Kd.C_alloc ?_ _) | (with_reducible refine Kd.C_drewN ?_ _) | (with_reducible refine Kd.C_drew ?_))) : P := h
theorem q21_2 {P : Prop} (h : P := by first | rfl | (simp [errW_none, errW_some] <;> rfl) | (simp only [← hji6]; first | rfl | (simp [errW_none, errW_some] <;> rfl)) | (simp [*, errW_none, errW_some] <;> rfl)) : P := h
def impl_IsDirect.l0 : Nat → List (S48) → Int → Int → Option (Bool)
 | 0, _, _, _ => none
 | k + 1, x1, x11, x12 => if x12 < x11 then ((impl_OneStep.f k x1 x12).bind fun t817 => ((impl_ClosedBy.f k x1 x12).bind fun t818 => (if t817 = t818 then (impl_IsDirect.l0 k x1 x11 (wrap64 (x12 + 1))) else (some false)))) else (some true)
def impl_IsDirect.f (k : Nat) (a0 : Int) (l1 : List (S48)) : Option (Bool) := (impl_AreRules.f a0 l1).bind fun t816 => (if t816 = true then (if 0 ≤ a0 then (impl_IsDirect.l0 k l1 (shl .i64 1 a0) 0) else (none)) else (some false))
set_option maxHeartbeats 8000000 in
set_option maxRecDepth 100000 in
theorem impl_IsDirect.calls (k : Nat) (a0 : Int) (A1 : Option Addr) (c1 : Nat) (l1 : List (S48)) (r : Bool) (w : World) (hr1 : Kd.C k48 w A1 l1.length l1) (hc1 : l1.length ≤ c1) (h : impl_IsDirect.f k a0 l1 = some r) :
  Calls Tryz.prog 118 #[.int .i64 a0, .slice A1 l1.length c1] w fun e w' => e = .returned (.bool r) ∧ Below w.heap.size w w' := by
 have HR1 := Aside0.mk hr1; have HC1 := Aside0.mk hc1; clear hr1 hc1; have HB := Aside0.mk (Below.refl w.heap.size w); have H := h; clear h; unfold impl_IsDirect.f at H; obtain ⟨t816, A3, H⟩ := bnd21_ H
 by_cases c4 : t816 = true
 ·
  subst c4; rw [if_pos rfl] at H
  by_cases c5 : 0 ≤ a0
  ·
   rw [if_pos c5] at H; have c5b0 := eq_true c5; have c5b1 : decide (0 ≤ a0) = true := decide_eq_true c5; clear c5; obtain ⟨ji6, hji6⟩ : ∃ j_ : Int, (shl .i64 1 a0) = j_ := ⟨_, rfl⟩
   replace H : (impl_IsDirect.l0 k l1 ji6 0) = some r := by first | (rw [hji6] at H; exact H) | (simp only [hji6] at H ⊢; exact H)
   (try rw [hji6] at A3)
   have hji6_ : (IntKind.i64.wrap (1 * 2 ^ min a0.toNat 64)) = ji6 := hji6; have hji6z : a0 ≤ 64 → (IntKind.i64.wrap (1 * 2 ^ a0.toNat)) = ji6 := shl_small hji6
   have hji6u : (IntKind.i64.wrap (2 ^ min a0.toNat 64)) = ji6 := by have h_ := hji6_; rw [Int.one_mul] at h_; exact h_
   have hji6v : a0 ≤ 64 → (IntKind.i64.wrap (2 ^ a0.toNat)) = ji6 := fun hle_ => by have h_ := hji6z hle_; rw [Int.one_mul] at h_; exact h_
   have hji6y : (wrap64 (1 * 2 ^ min a0.toNat 64)) = ji6 := (i64_w _).symm.trans hji6_
   have hji6x : a0 ≤ 64 → (wrap64 (1 * 2 ^ a0.toNat)) = ji6 := fun h_ => (i64_w _).symm.trans (hji6z h_)
   have H' := Aside0.mk H; clear H
   go_enter Tryz.func118, Tryz.ntmps118
   go_wp2_with (first | (refine gL_ 81 8 Tryz.func81 #[.int .i64 a0, .slice A1 l1.length c1] ?_; (with_reducible refine (impl_AreRules.calls a0 _ _ l1 true _ ?side1 ?side2 A3.out).mono ?_); (case side1 => exact s17_); (case side2 => exact HC1.out); rintro e w7 ⟨rfl, hb⟩; refine ⟨_, rfl, ?_⟩; have n_ := Aside0.mk (below_step s1_ hb); clear HB; have HB := n_; clear n_; (try clear hb)))
   go_loopg [12] k (fun kq v12 w' => ∃ (x12_1 : Int), v12 = .int .i64 x12_1 ∧ Aside0 (impl_IsDirect.l0 kq l1 ji6 x12_1 = some r) ∧ Aside0 (kq ≤ k) ∧ Aside0 (Below w.heap.size w w'))
   case atStart => exact ⟨(0), (by first | rfl | (simp; done) | (simp [*]; done) | (simp [i64_w, i32_w]; done)), H', ⟨Nat.le_refl _⟩, ⟨s1_⟩⟩
   case round =>
    clear H'
    try clear c1
    try clear p2
    try clear c4
    try clear c5
    try clear c5b0
    try clear c5b1
    try clear p6
    obtain ⟨x12_1, rfl, HA, HK1, HB⟩ := hrel
    cases gk with
    | zero => exact absurd HA.out (by simp [impl_IsDirect.l0])
    | succ k1 =>
     have H := HA.out; clear HA
     simp only [impl_IsDirect.l0] at H
     by_cases c8 : x12_1 < ji6
     ·
      rw [if_pos c8] at H; have c8b0 : decide (x12_1 < ji6) = true := decide_eq_true c8; clear c8; obtain ⟨t817, A9, H⟩ := bnd21_ H; obtain ⟨t818, A10, H⟩ := bnd21_ H
      by_cases c11 : t817 = t818
      ·
       rw [if_pos c11] at H; have c11b0 : (t817 == t818) = true := beq_iff_eq.mpr c11; have c11b1 : (t817 != t818) = false := bne_eq_false_iff_eq.mpr c11; clear c11; have H' := Aside0.mk H; clear H
       go_wp2_with (first | (refine gL_ 116 17 Tryz.func116 #[.slice A1 l1.length c1, .int .i64 x12_1] ?_; (with_reducible refine (impl_OneStep.calls k1 _ _ l1 x12_1 t817 _ ?side1 ?side2 A9.out).mono ?_); (case side1 => exact q21_1); (case side2 => exact HC1.out); rintro e w12 ⟨rfl, hb⟩; refine ⟨_, rfl, ?_⟩; have n_ := Aside0.mk (below_step s1_ hb); clear HB; have HB := n_; clear n_; (try clear hb)) | (refine gL_ 70 20 Tryz.func70 #[.slice A1 l1.length c1, .int .i64 x12_1] ?_; (with_reducible refine (impl_ClosedBy.calls k1 _ _ l1 x12_1 t818 _ ?side1 ?side2 A10.out).mono ?_); (case side1 => exact q21_1); (case side2 => exact HC1.out); rintro e w13 ⟨rfl, hb⟩; refine ⟨_, rfl, ?_⟩; have n_ := Aside0.mk (below_step s1_ hb); clear HB; have HB := n_; clear n_; (try clear hb)))
       go_roundg k1
       case measure => have := HK1.out; omega
       case rel => exact ⟨(wrap64 (x12_1 + 1)), (by first | rfl | (simp; done) | (simp [*]; done) | (simp [i64_w, i32_w]; done)), H', ⟨by have := HK1.out; omega⟩, ⟨s1_⟩⟩
      ·
       rw [if_neg c11] at H; have c11b0 : (t817 == t818) = false := beq_eq_false_iff_ne.mpr c11; have c11b1 : (t817 != t818) = true := bne_iff_ne.mpr c11; obtain rfl := Option.some.inj H
       go_wp2_with (first | (refine gL_ 116 17 Tryz.func116 #[.slice A1 l1.length c1, .int .i64 x12_1] ?_; (with_reducible refine (impl_OneStep.calls k1 _ _ l1 x12_1 t817 _ ?side1 ?side2 A9.out).mono ?_); (case side1 => exact q21_1); (case side2 => exact HC1.out); rintro e w14 ⟨rfl, hb⟩; refine ⟨_, rfl, ?_⟩; have n_ := Aside0.mk (below_step s1_ hb); clear HB; have HB := n_; clear n_; (try clear hb)) | (refine gL_ 70 20 Tryz.func70 #[.slice A1 l1.length c1, .int .i64 x12_1] ?_; (with_reducible refine (impl_ClosedBy.calls k1 _ _ l1 x12_1 t818 _ ?side1 ?side2 A10.out).mono ?_); (case side1 => exact q21_1); (case side2 => exact HC1.out); rintro e w15 ⟨rfl, hb⟩; refine ⟨_, rfl, ?_⟩; have n_ := Aside0.mk (below_step s1_ hb); clear HB; have HB := n_; clear n_; (try clear hb)))
       go_ret
       exact ⟨q21_2, s1_⟩
     ·
      rw [if_neg c8] at H; have c8b0 : decide (x12_1 < ji6) = false := decide_eq_false c8; clear c8; obtain rfl := Option.some.inj H
      go_wp2
      go_ret
      exact ⟨q21_2, s1_⟩
  ·
   rw [if_neg c5] at H
   exact absurd H (by simp)
 ·
  replace c4 := Bool.eq_false_iff.mpr c4; subst c4
  rw [if_neg (show ¬ (false = true) by decide)] at H
  obtain rfl := Option.some.inj H
  go_enter Tryz.func118, Tryz.ntmps118
  go_wp2_with (first | (refine gL_ 81 8 Tryz.func81 #[.int .i64 a0, .slice A1 l1.length c1] ?_; (with_reducible refine (impl_AreRules.calls a0 _ _ l1 false _ ?side1 ?side2 A3.out).mono ?_); (case side1 => exact s17_); (case side2 => exact HC1.out); rintro e w16 ⟨rfl, hb⟩; refine ⟨_, rfl, ?_⟩; have n_ := Aside0.mk (below_step s1_ hb); clear HB; have HB := n_; clear n_; (try clear hb)))
  go_ret
  exact ⟨(by first | rfl | (simp [errW_none, errW_some] <;> rfl) | (simp [*, errW_none, errW_some] <;> rfl)), s1_⟩
end Go.Proofs.YtafnamchckehmaaGreatDoor.Pr
namespace Go.Proofs.YtafnamchckehmaaGreatDoor.Pr
open Go.RowKit Go.Proofs.YtafnamchckehmaaGreatDoorW.PrintWords Go.Proofs.YtafnamchckehmaaGreatDoorW.PrintLast Go.Proofs.YtafnamchckehmaaGreatDoorW.PrintMore
set_option linter.unusedVariables false
def impl_IsContext.f (a0 : Int) (l1 : List Int) : Option Bool := some (decide (0 ≤ a0 ∧ a0 ≤ 6) && decide ((l1.length : Int) ≤ 8) && l1.all (Pu.isSetB a0))
theorem box2_cells {w w1 : World} {a b : Value} {t : TypeId} (h : Below (w.alloc (.cells #[a, b] t)).heap.size (w.alloc (.cells #[a, b] t)) w1) : w1.cell? ⟨w.heap.size, 0, none⟩ = some a ∧ w1.cell? ⟨w.heap.size, 1, none⟩ = some b := by
  have h0 : (w.alloc (.cells #[a, b] t)).cell? ⟨w.heap.size, 0, none⟩ = some a := blk_cell (heap_alloc_new w (.cells #[a, b] t)) 0
  have h1 : (w.alloc (.cells #[a, b] t)).cell? ⟨w.heap.size, 1, none⟩ = some b := blk_cell (heap_alloc_new w (.cells #[a, b] t)) 1
  exact ⟨(h.cell (p := ⟨w.heap.size, 0, none⟩) (by simp)).trans h0, (h.cell (p := ⟨w.heap.size, 1, none⟩) (by simp)).trans h1⟩
set_option maxHeartbeats 4000000 in
set_option maxRecDepth 100000 in
theorem IsContext1_calls (n : Int) (b : Nat) (x : Int) (W : World) (hc : W.cell? ⟨b, 0, none⟩ = some (.int .i64 n)) :
    Calls Tryz.prog 228 #[.int .i64 x, .pointer (some ⟨b, 0, none⟩)] W fun e w' => e = .returned (.bool (!Pu.isSetB n x)) ∧ Below W.heap.size W w' := by
  have hu := Tryz.underlying29
  have K1 : Aside0 (impl_IsSet.f n x = some (Pu.isSetB n x)) := ⟨Pu.set_val n x⟩
  go_enter Tryz.func228, Tryz.ntmps228
  go_wp2_with (go_at_call 130; refine (impl_IsSet.calls n x _ _ K1.out).mono ?_; rintro e w' ⟨rfl, ⟨⟨q, rfl⟩⟩⟩)
  go_ret
  exact ⟨rfl, by repeat (first | apply below_alloc | apply pw_below_drewN | apply below_drew1 | exact Below.refl _ _)⟩
theorem IsContext1_fn (n : Int) (b : Nat) (w : World) (hc : w.cell? ⟨b, 0, none⟩ = some (.int .i64 n)) : FnIb 228 #[.pointer (some ⟨b, 0, none⟩)] (fun x => !Pu.isSetB n x) w := by
  intro W x hb
  rw [show (#[.int .i64 x] ++ #[.pointer (some ⟨b, 0, none⟩)] : Array Value) = #[.int .i64 x, .pointer (some ⟨b, 0, none⟩)] from rfl]
  exact IsContext1_calls n b x W ((hb.cell (p := ⟨b, 0, none⟩) (World.block_lt_of_cell? w _ hc)).trans hc)
set_option maxHeartbeats 4000000 in
set_option maxRecDepth 100000 in
theorem impl_IsContext.calls (a0_0 : Int) (A0_1 : Option Addr) (c0_1 : Nat) (l0_1 : List Int) (r : Bool) (w : World) (hr0_1 : Kd.C (Kd.int .i64) w A0_1 l0_1.length l0_1) (hc0_1 : l0_1.length ≤ c0_1) (h : impl_IsContext.f a0_0 l0_1 = some r) :
    Calls Tryz.prog 164 #[.agg #[.int .i64 a0_0, .slice A0_1 l0_1.length c0_1]] w fun e w' => e = .returned (.bool r) ∧ Below w.heap.size w w' := by
  have hu := Tryz.underlying29
  have HR := Aside0.mk hr0_1
  have hr := Aside0.mk (Option.some.inj h)
  clear h hr0_1
  have eg : ∀ args w, (callFunc 228 args).run Tryz.prog w = .ok (.enter 228 args) w := enters_of Tryz.func228 (by kernel_rfl) rfl
  cases h1 : decide (0 ≤ a0_0 ∧ a0_0 ≤ 6) with
  | false =>
    have K : Aside0 (impl_within.f a0_0 0 6 = some false) := ⟨by rw [Pu.within_val, h1]⟩
    have H : Aside0 (r = false) := ⟨by rw [← hr.out, h1]; rfl⟩
    clear h1
    go_enter Tryz.func164, Tryz.ntmps164
    go_wp2_with (go_at_call 127; refine (impl_within.calls a0_0 0 6 false _ K.out).mono ?_; rintro e w' ⟨rfl, ⟨⟨q, rfl⟩⟩⟩)
    go_ret
    exact ⟨by rw [H.out]; rfl, by repeat (first | apply below_alloc | apply pw_below_drewN | apply below_drew1 | exact Below.refl _ _)⟩
  | true =>
    have K : Aside0 (impl_within.f a0_0 0 6 = some true) := ⟨by rw [Pu.within_val, h1]⟩
    by_cases h2 : (l0_1.length : Int) ≤ 8
    · have h2b : decide ((l0_1.length : Int) ≤ 8) = true := decide_eq_true h2
      have H : Aside0 (r = !(l0_1.any fun x => !Pu.isSetB a0_0 x)) := ⟨by rw [← hr.out, h1, h2b, ← List.all_eq_not_any_not]; rfl⟩
      clear h1 h2
      go_enter Tryz.func164, Tryz.ntmps164
      go_wp2_with (go_at_call 127; refine (impl_within.calls a0_0 0 6 true _ K.out).mono ?_; rintro e w1 ⟨rfl, hd⟩; have HB1 := Aside0.mk (below_step (below_alloc (Below.refl w.heap.size w) _) hd.below); have HC1 := Aside0.mk (box2_cells (a := .int .i64 a0_0) (b := .slice A0_1 l0_1.length c0_1) hd.below); clear hd; have hcell := HC1.out.2)
      refine (ContainsFunc_int 228 #[.pointer (some ⟨w.heap.size, 0, none⟩)] eg A0_1 c0_1 l0_1 (fun x => !Pu.isSetB a0_0 x) w1 (Kd.C_below HR.out HB1.out) (IsContext1_fn a0_0 w.heap.size w1 HC1.out.1)).mono ?_
      rintro e w' ⟨rfl, hb⟩
      go_wp2
      go_ret
      exact ⟨by rw [H.out]; rfl, below_step HB1.out hb⟩
    · have h2b : decide ((l0_1.length : Int) ≤ 8) = false := decide_eq_false h2
      have H : Aside0 (r = false) := ⟨by rw [← hr.out, h1, h2b]; rfl⟩
      clear h1 h2
      go_enter Tryz.func164, Tryz.ntmps164
      go_wp2_with (go_at_call 127; refine (impl_within.calls a0_0 0 6 true _ K.out).mono ?_; rintro e w1 ⟨rfl, hd⟩; have HB1 := Aside0.mk (below_step (below_alloc (Below.refl w.heap.size w) _) hd.below); have HC1 := Aside0.mk (box2_cells (a := .int .i64 a0_0) (b := .slice A0_1 l0_1.length c0_1) hd.below); clear hd; have hcell := HC1.out.2)
      go_ret
      exact ⟨by rw [H.out]; rfl, HB1.out⟩
end Go.Proofs.YtafnamchckehmaaGreatDoor.Pr
namespace Go.Proofs.YtafnamchckehmaaGreatDoor.Pr
open Go.RowKit Go.Proofs.YtafnamchckehmaaGreatDoorW.PrintWords Go.Proofs.YtafnamchckehmaaGreatDoorW.PrintLast Go.Proofs.YtafnamchckehmaaGreatDoorW.PrintMore
attribute [local go_sem] max2_int min2_int max_two min_two max_three min_three max_four min_four
set_option linter.unusedVariables false
set_option linter.unusedSimpArgs false
theorem bnd17_ {α β : Type} {o : Option α} {f : α → Option β} {r : β} (h : o.bind f = some r) : ∃ a, Aside0 (o = some a) ∧ f a = some r := by
 obtain ⟨a, h1, h2⟩ := Option.bind_eq_some_iff.mp h
 exact ⟨a, ⟨h1⟩, h2⟩
theorem q17_2 {P : Prop} (h : P := by repeat (first | (with_reducible first | exact HB.out | apply below_alloc | apply pw_below_drewN | apply below_drew1 | refine below_set ?_ GE360.out) | exact HB.out)) : P := h
theorem q17_5 {P : Prop} (h : P := by (with_reducible repeat (first | refine blk_drewN ?_ _ | refine blk_drew ?_ | refine blk_alloc ?_ _)); exact BK360.out) : P := h
def impl_areAttributes.f (a0_0 : Int) (l0_1 : List Int) (a1 : Int) : Option (Bool) := (impl_IsContext.f a0_0 l0_1).bind fun t361 => (if t361 = true then ((impl_IsSet.f a0_0 a1).bind fun t362 => (some t362)) else (some false))
set_option maxHeartbeats 8000000 in
set_option maxRecDepth 100000 in
theorem impl_areAttributes.calls (a0_0 : Int) (A0_1 : Option Addr) (c0_1 : Nat) (l0_1 : List Int) (a1 : Int) (r : Bool) (w : World) (hr0_1 : Kd.C (Kd.int .i64) w A0_1 l0_1.length l0_1) (hc0_1 : l0_1.length ≤ c0_1) (h : impl_areAttributes.f a0_0 l0_1 a1 = some r) :
  Calls Tryz.prog 175 #[.agg #[.int .i64 a0_0, .slice A0_1 l0_1.length c0_1], .int .i64 a1] w fun e w' => e = .returned (.bool r) ∧ Below w.heap.size w w' := by
 have hu29 := Tryz.underlying29; have HR0_1 := Aside0.mk hr0_1; have HC0_1 := Aside0.mk hc0_1; clear hr0_1 hc0_1; have HB := Aside0.mk (Below.refl w.heap.size w); have H := h; clear h; unfold impl_areAttributes.f at H; obtain ⟨t361, A3, H⟩ := bnd17_ H
 by_cases c4 : t361 = true
 ·
  subst c4; rw [if_pos rfl] at H; obtain ⟨t362, A5, H⟩ := bnd17_ H; obtain rfl := Option.some.inj H
  go_enter Tryz.func175, Tryz.ntmps175
  go_wp2_with (first | ((with_reducible refine gate_dst (N := 2) rfl ?_); refine box_event ?hg (N := 2) ?hd (cs := #[.int .i64 a0_0, .slice A0_1 l0_1.length c0_1]) (t := 29) ?hr ?_; (case hd => rfl); (case hg => rfl); (case hr => first | (go_simp; done) | (go_simp; rfl)); intro gb360 hg w6 hbox hb; have n_ := ac_ (below_step s1_ hb) <| ac_ (hbox) <| ac_ ((by rw [hg]; exact (below_size s1_) : w.heap.size ≤ gb360)) <| Aside0.mk ((by rw [hg]; exact (below_size s1_) : w.heap.size ≤ gb360)); clear HB; obtain ⟨HB, BK360, GW360, GE360⟩ := n_; clear hb hbox hg; have hcz7_0 : w6.cell? ⟨gb360, 0, none⟩ = some (.int .i64 a0_0) := (blk_cell BK360.out 0).trans rfl; have hcz7_1 : w6.cell? ⟨gb360, 1, none⟩ = some (.slice A0_1 l0_1.length c0_1) := (blk_cell BK360.out 1).trans rfl; have hfz7_0 := blk_frozen BK360.out 0; have hfz7_1 := blk_frozen BK360.out 1) | (refine gL_ 164 6 Tryz.func164 #[.agg #[.int .i64 a0_0, .slice A0_1 l0_1.length c0_1]] ?_; (with_reducible refine (impl_IsContext.calls a0_0 _ _ l0_1 true _ ?side1 ?side2 A3.out).mono ?_); (case side1 => exact s4_); (case side2 => exact HC0_1.out); rintro e w8 ⟨rfl, hb⟩; refine ⟨_, rfl, ?_⟩; have n_ := ac_ (blk_below (g := gb360) (o := .cells #[.int .i64 a0_0, .slice A0_1 l0_1.length c0_1] 29 (0, 0)) q17_5 hb) <| Aside0.mk (below_step q17_2 hb); clear BK360 HB; obtain ⟨BK360, HB⟩ := n_; (try clear hb); have hcz9_0 : w8.cell? ⟨gb360, 0, none⟩ = some (.int .i64 a0_0) := (blk_cell BK360.out 0).trans rfl; have hcz9_1 : w8.cell? ⟨gb360, 1, none⟩ = some (.slice A0_1 l0_1.length c0_1) := (blk_cell BK360.out 1).trans rfl; have hfz9_0 := blk_frozen BK360.out 0; have hfz9_1 := blk_frozen BK360.out 1) | (go_at_call 130; (with_reducible refine (impl_IsSet.calls a0_0 a1 t362 _ A5.out).mono ?_); rintro e w' ⟨rfl, ⟨nd, rfl⟩⟩))
  go_ret
  exact ⟨(by first | rfl | (simp [errW_none, errW_some] <;> rfl) | (simp [*, errW_none, errW_some] <;> rfl)), q17_2⟩
 ·
  replace c4 := Bool.eq_false_iff.mpr c4; subst c4
  rw [if_neg (show ¬ (false = true) by decide)] at H
  obtain rfl := Option.some.inj H
  go_enter Tryz.func175, Tryz.ntmps175
  go_wp2_with (first | ((with_reducible refine gate_dst (N := 2) rfl ?_); refine box_event ?hg (N := 2) ?hd (cs := #[.int .i64 a0_0, .slice A0_1 l0_1.length c0_1]) (t := 29) ?hr ?_; (case hd => rfl); (case hg => rfl); (case hr => first | (go_simp; done) | (go_simp; rfl)); intro gb360 hg w10 hbox hb; have n_ := ac_ (below_step s1_ hb) <| ac_ (hbox) <| ac_ ((by rw [hg]; exact (below_size s1_) : w.heap.size ≤ gb360)) <| Aside0.mk ((by rw [hg]; exact (below_size s1_) : w.heap.size ≤ gb360)); clear HB; obtain ⟨HB, BK360, GW360, GE360⟩ := n_; clear hb hbox hg; have hcz11_0 : w10.cell? ⟨gb360, 0, none⟩ = some (.int .i64 a0_0) := (blk_cell BK360.out 0).trans rfl; have hcz11_1 : w10.cell? ⟨gb360, 1, none⟩ = some (.slice A0_1 l0_1.length c0_1) := (blk_cell BK360.out 1).trans rfl; have hfz11_0 := blk_frozen BK360.out 0; have hfz11_1 := blk_frozen BK360.out 1) | (refine gL_ 164 6 Tryz.func164 #[.agg #[.int .i64 a0_0, .slice A0_1 l0_1.length c0_1]] ?_; (with_reducible refine (impl_IsContext.calls a0_0 _ _ l0_1 false _ ?side1 ?side2 A3.out).mono ?_); (case side1 => exact s4_); (case side2 => exact HC0_1.out); rintro e w12 ⟨rfl, hb⟩; refine ⟨_, rfl, ?_⟩; have n_ := ac_ (blk_below (g := gb360) (o := .cells #[.int .i64 a0_0, .slice A0_1 l0_1.length c0_1] 29 (0, 0)) q17_5 hb) <| Aside0.mk (below_step q17_2 hb); clear BK360 HB; obtain ⟨BK360, HB⟩ := n_; (try clear hb)))
  go_ret
  exact ⟨(by first | rfl | (simp [errW_none, errW_some] <;> rfl) | (simp [*, errW_none, errW_some] <;> rfl)), q17_2⟩
theorem q17_7 {P : Prop} (h : P := by repeat (first | (with_reducible first | exact HB.out | apply below_alloc | apply pw_below_drewN | apply below_drew1 | refine below_set ?_ GE364.out) | exact HB.out)) : P := h
theorem q17_10 {P : Prop} (h : P := by (with_reducible repeat (first | refine blk_drewN ?_ _ | refine blk_drew ?_ | refine blk_alloc ?_ _)); exact BK364.out) : P := h
def impl_areObjects.f (a0_0 : Int) (l0_1 : List Int) (a1 : Int) : Option (Bool) := (impl_IsContext.f a0_0 l0_1).bind fun t365 => (if t365 = true then ((impl_IsSet.f (l0_1.length : Int) a1).bind fun t366 => (some t366)) else (some false))
set_option maxHeartbeats 8000000 in
set_option maxRecDepth 100000 in
theorem impl_areObjects.calls (a0_0 : Int) (A0_1 : Option Addr) (c0_1 : Nat) (l0_1 : List Int) (a1 : Int) (r : Bool) (w : World) (hr0_1 : Kd.C (Kd.int .i64) w A0_1 l0_1.length l0_1) (hc0_1 : l0_1.length ≤ c0_1) (h : impl_areObjects.f a0_0 l0_1 a1 = some r) :
  Calls Tryz.prog 256 #[.agg #[.int .i64 a0_0, .slice A0_1 l0_1.length c0_1], .int .i64 a1] w fun e w' => e = .returned (.bool r) ∧ Below w.heap.size w w' := by
 have hu29 := Tryz.underlying29; have HR0_1 := Aside0.mk hr0_1; have HC0_1 := Aside0.mk hc0_1; clear hr0_1 hc0_1; have HB := Aside0.mk (Below.refl w.heap.size w); have H := h; clear h; unfold impl_areObjects.f at H; obtain ⟨t365, A3, H⟩ := bnd17_ H
 by_cases c4 : t365 = true
 ·
  subst c4; rw [if_pos rfl] at H; obtain ⟨t366, A5, H⟩ := bnd17_ H; obtain rfl := Option.some.inj H
  go_enter Tryz.func256, Tryz.ntmps256
  go_wp2_with (first | ((with_reducible refine gate_dst (N := 2) rfl ?_); (try (refine gate_guard (by rfl) ?_; dsimp only)); refine box_event ?hg (N := 2) ?hd (cs := #[.int .i64 a0_0, .slice A0_1 l0_1.length c0_1]) (t := 29) ?hr ?_; (case hd => rfl); (case hg => rfl); (case hr => first | (go_simp; done) | (go_simp; rfl)); intro gb364 hg w6 hbox hb; have n_ := ac_ (below_step s1_ hb) <| ac_ (hbox) <| ac_ ((by rw [hg]; exact (below_size s1_) : w.heap.size ≤ gb364)) <| Aside0.mk ((by rw [hg]; exact (below_size s1_) : w.heap.size ≤ gb364)); clear HB; obtain ⟨HB, BK364, GW364, GE364⟩ := n_; clear hb hbox hg; have hcz7_0 : w6.cell? ⟨gb364, 0, none⟩ = some (.int .i64 a0_0) := (blk_cell BK364.out 0).trans rfl; have hcz7_1 : w6.cell? ⟨gb364, 1, none⟩ = some (.slice A0_1 l0_1.length c0_1) := (blk_cell BK364.out 1).trans rfl; have hfz7_0 := blk_frozen BK364.out 0; have hfz7_1 := blk_frozen BK364.out 1) | (refine gL_ 164 6 Tryz.func164 #[.agg #[.int .i64 a0_0, .slice A0_1 l0_1.length c0_1]] ?_; (with_reducible refine (impl_IsContext.calls a0_0 _ _ l0_1 true _ ?side1 ?side2 A3.out).mono ?_); (case side1 => exact s4_); (case side2 => exact HC0_1.out); rintro e w8 ⟨rfl, hb⟩; refine ⟨_, rfl, ?_⟩; have n_ := ac_ (blk_below (g := gb364) (o := .cells #[.int .i64 a0_0, .slice A0_1 l0_1.length c0_1] 29 (0, 0)) q17_10 hb) <| Aside0.mk (below_step q17_7 hb); clear BK364 HB; obtain ⟨BK364, HB⟩ := n_; (try clear hb); have hcz9_0 : w8.cell? ⟨gb364, 0, none⟩ = some (.int .i64 a0_0) := (blk_cell BK364.out 0).trans rfl; have hcz9_1 : w8.cell? ⟨gb364, 1, none⟩ = some (.slice A0_1 l0_1.length c0_1) := (blk_cell BK364.out 1).trans rfl; have hfz9_0 := blk_frozen BK364.out 0; have hfz9_1 := blk_frozen BK364.out 1) | (go_at_call 130; (with_reducible refine (impl_IsSet.calls (l0_1.length : Int) a1 t366 _ A5.out).mono ?_); rintro e w' ⟨rfl, ⟨nd, rfl⟩⟩))
  go_ret
  exact ⟨(by first | rfl | (simp [errW_none, errW_some] <;> rfl) | (simp [*, errW_none, errW_some] <;> rfl)), q17_7⟩
 ·
  replace c4 := Bool.eq_false_iff.mpr c4; subst c4
  rw [if_neg (show ¬ (false = true) by decide)] at H
  obtain rfl := Option.some.inj H
  go_enter Tryz.func256, Tryz.ntmps256
  go_wp2_with (first | ((with_reducible refine gate_dst (N := 2) rfl ?_); (try (refine gate_guard (by rfl) ?_; dsimp only)); refine box_event ?hg (N := 2) ?hd (cs := #[.int .i64 a0_0, .slice A0_1 l0_1.length c0_1]) (t := 29) ?hr ?_; (case hd => rfl); (case hg => rfl); (case hr => first | (go_simp; done) | (go_simp; rfl)); intro gb364 hg w10 hbox hb; have n_ := ac_ (below_step s1_ hb) <| ac_ (hbox) <| ac_ ((by rw [hg]; exact (below_size s1_) : w.heap.size ≤ gb364)) <| Aside0.mk ((by rw [hg]; exact (below_size s1_) : w.heap.size ≤ gb364)); clear HB; obtain ⟨HB, BK364, GW364, GE364⟩ := n_; clear hb hbox hg; have hcz11_0 : w10.cell? ⟨gb364, 0, none⟩ = some (.int .i64 a0_0) := (blk_cell BK364.out 0).trans rfl; have hcz11_1 : w10.cell? ⟨gb364, 1, none⟩ = some (.slice A0_1 l0_1.length c0_1) := (blk_cell BK364.out 1).trans rfl; have hfz11_0 := blk_frozen BK364.out 0; have hfz11_1 := blk_frozen BK364.out 1) | (refine gL_ 164 6 Tryz.func164 #[.agg #[.int .i64 a0_0, .slice A0_1 l0_1.length c0_1]] ?_; (with_reducible refine (impl_IsContext.calls a0_0 _ _ l0_1 false _ ?side1 ?side2 A3.out).mono ?_); (case side1 => exact s4_); (case side2 => exact HC0_1.out); rintro e w12 ⟨rfl, hb⟩; refine ⟨_, rfl, ?_⟩; have n_ := ac_ (blk_below (g := gb364) (o := .cells #[.int .i64 a0_0, .slice A0_1 l0_1.length c0_1] 29 (0, 0)) q17_10 hb) <| Aside0.mk (below_step q17_7 hb); clear BK364 HB; obtain ⟨BK364, HB⟩ := n_; (try clear hb)))
  go_ret
  exact ⟨(by first | rfl | (simp [errW_none, errW_some] <;> rfl) | (simp [*, errW_none, errW_some] <;> rfl)), q17_7⟩
theorem q17_11 {P : Prop} (h : P := by repeat (first | exact (Kd.C_below HR0_1.out (by repeat (first | (with_reducible first | exact HB.out | apply below_alloc | apply pw_below_drewN | apply below_drew1 | refine below_set ?_ GE369.out) | exact HB.out))) | (with_reducible refine Kd.C_alloc ?_ _) | (with_reducible refine Kd.C_drewN ?_ _) | (with_reducible refine Kd.C_drew ?_))) : P := h
theorem q17_13 {P : Prop} (h : P := by repeat (first | (with_reducible first | exact HB.out | apply below_alloc | apply pw_below_drewN | apply below_drew1 | refine below_set ?_ GE369.out) | exact HB.out)) : P := h
theorem q17_15 {P : Prop} (h : P := by (with_reducible repeat (first | refine blk_drewN ?_ _ | refine blk_drew ?_ | refine blk_alloc ?_ _)); exact BK369.out) : P := h
def impl_IntentOf.f (k : Nat) (a0_0 : Int) (l0_1 : List Int) (a1 : Int) : Option (Int) := (impl_areObjects.f a0_0 l0_1 a1).bind fun t370 => (if t370 = true then ((impl_FullSet.f a0_0).bind fun t371 => ((impl_common.f k l0_1 a1 t371).bind fun t372 => (some t372))) else (some 0))
set_option maxHeartbeats 8000000 in
set_option maxRecDepth 100000 in
theorem impl_IntentOf.calls (k : Nat) (a0_0 : Int) (A0_1 : Option Addr) (c0_1 : Nat) (l0_1 : List Int) (a1 : Int) (r : Int) (w : World) (hr0_1 : Kd.C (Kd.int .i64) w A0_1 l0_1.length l0_1) (hc0_1 : l0_1.length ≤ c0_1) (h : impl_IntentOf.f k a0_0 l0_1 a1 = some r) :
  Calls Tryz.prog 226 #[.agg #[.int .i64 a0_0, .slice A0_1 l0_1.length c0_1], .int .i64 a1] w fun e w' => e = .returned (.int .i64 r) ∧ Below w.heap.size w w' := by
 have hu29 := Tryz.underlying29; have HR0_1 := Aside0.mk hr0_1; have HC0_1 := Aside0.mk hc0_1; clear hr0_1 hc0_1; have HB := Aside0.mk (Below.refl w.heap.size w); have H := h; clear h; unfold impl_IntentOf.f at H; obtain ⟨t370, A3, H⟩ := bnd17_ H
 by_cases c4 : t370 = true
 ·
  subst c4; rw [if_pos rfl] at H; obtain ⟨t371, A5, H⟩ := bnd17_ H; obtain ⟨t372, A6, H⟩ := bnd17_ H; obtain rfl := Option.some.inj H
  go_enter Tryz.func226, Tryz.ntmps226
  go_wp2_with (first | ((with_reducible refine gate_dst (N := 2) rfl ?_); refine box_event ?hg (N := 2) ?hd (cs := #[.int .i64 a0_0, .slice A0_1 l0_1.length c0_1]) (t := 29) ?hr ?_; (case hd => rfl); (case hg => rfl); (case hr => first | (go_simp; done) | (go_simp; rfl)); intro gb369 hg w7 hbox hb; have n_ := ac_ (below_step s1_ hb) <| ac_ (hbox) <| ac_ ((by rw [hg]; exact (below_size s1_) : w.heap.size ≤ gb369)) <| Aside0.mk ((by rw [hg]; exact (below_size s1_) : w.heap.size ≤ gb369)); clear HB; obtain ⟨HB, BK369, GW369, GE369⟩ := n_; clear hb hbox hg; have hcz8_0 : w7.cell? ⟨gb369, 0, none⟩ = some (.int .i64 a0_0) := (blk_cell BK369.out 0).trans rfl; have hcz8_1 : w7.cell? ⟨gb369, 1, none⟩ = some (.slice A0_1 l0_1.length c0_1) := (blk_cell BK369.out 1).trans rfl; have hfz8_0 := blk_frozen BK369.out 0; have hfz8_1 := blk_frozen BK369.out 1) | (go_at_call 256; (with_reducible refine (impl_areObjects.calls a0_0 _ _ l0_1 a1 true _ ?side1 ?side2 A3.out).mono ?_); (case side1 => exact s4_); (case side2 => exact HC0_1.out); rintro e w9 ⟨rfl, hb⟩; have n_ := ac_ (blk_below (g := gb369) (o := .cells #[.int .i64 a0_0, .slice A0_1 l0_1.length c0_1] 29 (0, 0)) q17_15 hb) <| Aside0.mk (below_step q17_13 hb); clear BK369 HB; obtain ⟨BK369, HB⟩ := n_; (try clear hb); have hcz10_0 : w9.cell? ⟨gb369, 0, none⟩ = some (.int .i64 a0_0) := (blk_cell BK369.out 0).trans rfl; have hcz10_1 : w9.cell? ⟨gb369, 1, none⟩ = some (.slice A0_1 l0_1.length c0_1) := (blk_cell BK369.out 1).trans rfl; have hfz10_0 := blk_frozen BK369.out 0; have hfz10_1 := blk_frozen BK369.out 1) | (go_at_call 129; (with_reducible refine (impl_FullSet.calls a0_0 t371 _ A5.out).mono ?_); rintro e w' ⟨rfl, ⟨nd, rfl⟩⟩; (try first | exact ⟨rfl, _, World.drewN_drewN _ _ _⟩ | exact ⟨rfl, _, Eq.trans (World.drewN_drewN _ _ _) (congrArg (World.drewN _) (Nat.add_assoc _ _ _))⟩)) | (go_at_call 257; (with_reducible refine (impl_common.calls k _ _ l0_1 a1 t371 t372 _ ?side1 ?side2 A6.out).mono ?_); (case side1 => exact q17_11); (case side2 => exact HC0_1.out); rintro e w' ⟨rfl, ⟨nd, rfl⟩⟩; (try first | exact ⟨rfl, _, World.drewN_drewN _ _ _⟩ | exact ⟨rfl, _, Eq.trans (World.drewN_drewN _ _ _) (congrArg (World.drewN _) (Nat.add_assoc _ _ _))⟩)))
  repeat (go_quiet (first | ((with_reducible refine gate_dst (N := 2) rfl ?_); refine box_event ?hg (N := 2) ?hd (cs := #[.int .i64 a0_0, .slice A0_1 l0_1.length c0_1]) (t := 29) ?hr ?_; (case hd => rfl); (case hg => rfl); (case hr => first | (go_simp; done) | (go_simp; rfl)); intro gb369 hg w7 hbox hb; have n_ := ac_ (below_step s1_ hb) <| ac_ (hbox) <| ac_ ((by rw [hg]; exact (below_size s1_) : w.heap.size ≤ gb369)) <| Aside0.mk ((by rw [hg]; exact (below_size s1_) : w.heap.size ≤ gb369)); clear HB; obtain ⟨HB, BK369, GW369, GE369⟩ := n_; clear hb hbox hg; have hcz8_0 : w7.cell? ⟨gb369, 0, none⟩ = some (.int .i64 a0_0) := (blk_cell BK369.out 0).trans rfl; have hcz8_1 : w7.cell? ⟨gb369, 1, none⟩ = some (.slice A0_1 l0_1.length c0_1) := (blk_cell BK369.out 1).trans rfl; have hfz8_0 := blk_frozen BK369.out 0; have hfz8_1 := blk_frozen BK369.out 1) | (go_at_call 256; (with_reducible refine (impl_areObjects.calls a0_0 _ _ l0_1 a1 true _ ?side1 ?side2 A3.out).mono ?_); (case side1 => exact s4_); (case side2 => exact HC0_1.out); rintro e w9 ⟨rfl, hb⟩; have n_ := ac_ (blk_below (g := gb369) (o := .cells #[.int .i64 a0_0, .slice A0_1 l0_1.length c0_1] 29 (0, 0)) q17_15 hb) <| Aside0.mk (below_step q17_13 hb); clear BK369 HB; obtain ⟨BK369, HB⟩ := n_; (try clear hb); have hcz10_0 : w9.cell? ⟨gb369, 0, none⟩ = some (.int .i64 a0_0) := (blk_cell BK369.out 0).trans rfl; have hcz10_1 : w9.cell? ⟨gb369, 1, none⟩ = some (.slice A0_1 l0_1.length c0_1) := (blk_cell BK369.out 1).trans rfl; have hfz10_0 := blk_frozen BK369.out 0; have hfz10_1 := blk_frozen BK369.out 1) | (go_at_call 129; (with_reducible refine (impl_FullSet.calls a0_0 t371 _ A5.out).mono ?_); rintro e w' ⟨rfl, ⟨nd, rfl⟩⟩; (try first | exact ⟨rfl, _, World.drewN_drewN _ _ _⟩ | exact ⟨rfl, _, Eq.trans (World.drewN_drewN _ _ _) (congrArg (World.drewN _) (Nat.add_assoc _ _ _))⟩)) | (go_at_call 257; (with_reducible refine (impl_common.calls k _ _ l0_1 a1 t371 t372 _ ?side1 ?side2 A6.out).mono ?_); (case side1 => exact q17_11); (case side2 => exact HC0_1.out); rintro e w' ⟨rfl, ⟨nd, rfl⟩⟩; (try first | exact ⟨rfl, _, World.drewN_drewN _ _ _⟩ | exact ⟨rfl, _, Eq.trans (World.drewN_drewN _ _ _) (congrArg (World.drewN _) (Nat.add_assoc _ _ _))⟩))); try go_wp2_with (first | ((with_reducible refine gate_dst (N := 2) rfl ?_); refine box_event ?hg (N := 2) ?hd (cs := #[.int .i64 a0_0, .slice A0_1 l0_1.length c0_1]) (t := 29) ?hr ?_; (case hd => rfl); (case hg => rfl); (case hr => first | (go_simp; done) | (go_simp; rfl)); intro gb369 hg w7 hbox hb; have n_ := ac_ (below_step s1_ hb) <| ac_ (hbox) <| ac_ ((by rw [hg]; exact (below_size s1_) : w.heap.size ≤ gb369)) <| Aside0.mk ((by rw [hg]; exact (below_size s1_) : w.heap.size ≤ gb369)); clear HB; obtain ⟨HB, BK369, GW369, GE369⟩ := n_; clear hb hbox hg; have hcz8_0 : w7.cell? ⟨gb369, 0, none⟩ = some (.int .i64 a0_0) := (blk_cell BK369.out 0).trans rfl; have hcz8_1 : w7.cell? ⟨gb369, 1, none⟩ = some (.slice A0_1 l0_1.length c0_1) := (blk_cell BK369.out 1).trans rfl; have hfz8_0 := blk_frozen BK369.out 0; have hfz8_1 := blk_frozen BK369.out 1) | (go_at_call 256; (with_reducible refine (impl_areObjects.calls a0_0 _ _ l0_1 a1 true _ ?side1 ?side2 A3.out).mono ?_); (case side1 => exact s4_); (case side2 => exact HC0_1.out); rintro e w9 ⟨rfl, hb⟩; have n_ := ac_ (blk_below (g := gb369) (o := .cells #[.int .i64 a0_0, .slice A0_1 l0_1.length c0_1] 29 (0, 0)) q17_15 hb) <| Aside0.mk (below_step q17_13 hb); clear BK369 HB; obtain ⟨BK369, HB⟩ := n_; (try clear hb); have hcz10_0 : w9.cell? ⟨gb369, 0, none⟩ = some (.int .i64 a0_0) := (blk_cell BK369.out 0).trans rfl; have hcz10_1 : w9.cell? ⟨gb369, 1, none⟩ = some (.slice A0_1 l0_1.length c0_1) := (blk_cell BK369.out 1).trans rfl; have hfz10_0 := blk_frozen BK369.out 0; have hfz10_1 := blk_frozen BK369.out 1) | (go_at_call 129; (with_reducible refine (impl_FullSet.calls a0_0 t371 _ A5.out).mono ?_); rintro e w' ⟨rfl, ⟨nd, rfl⟩⟩; (try first | exact ⟨rfl, _, World.drewN_drewN _ _ _⟩ | exact ⟨rfl, _, Eq.trans (World.drewN_drewN _ _ _) (congrArg (World.drewN _) (Nat.add_assoc _ _ _))⟩)) | (go_at_call 257; (with_reducible refine (impl_common.calls k _ _ l0_1 a1 t371 t372 _ ?side1 ?side2 A6.out).mono ?_); (case side1 => exact q17_11); (case side2 => exact HC0_1.out); rintro e w' ⟨rfl, ⟨nd, rfl⟩⟩; (try first | exact ⟨rfl, _, World.drewN_drewN _ _ _⟩ | exact ⟨rfl, _, Eq.trans (World.drewN_drewN _ _ _) (congrArg (World.drewN _) (Nat.add_assoc _ _ _))⟩))))
  go_ret
  exact ⟨(by first | rfl | (simp [errW_none, errW_some] <;> rfl) | (simp [*, errW_none, errW_some] <;> rfl)), q17_13⟩
 ·
  replace c4 := Bool.eq_false_iff.mpr c4; subst c4
  rw [if_neg (show ¬ (false = true) by decide)] at H
  obtain rfl := Option.some.inj H
  go_enter Tryz.func226, Tryz.ntmps226
  go_wp2_with (first | ((with_reducible refine gate_dst (N := 2) rfl ?_); refine box_event ?hg (N := 2) ?hd (cs := #[.int .i64 a0_0, .slice A0_1 l0_1.length c0_1]) (t := 29) ?hr ?_; (case hd => rfl); (case hg => rfl); (case hr => first | (go_simp; done) | (go_simp; rfl)); intro gb369 hg w11 hbox hb; have n_ := ac_ (below_step s1_ hb) <| ac_ (hbox) <| ac_ ((by rw [hg]; exact (below_size s1_) : w.heap.size ≤ gb369)) <| Aside0.mk ((by rw [hg]; exact (below_size s1_) : w.heap.size ≤ gb369)); clear HB; obtain ⟨HB, BK369, GW369, GE369⟩ := n_; clear hb hbox hg; have hcz12_0 : w11.cell? ⟨gb369, 0, none⟩ = some (.int .i64 a0_0) := (blk_cell BK369.out 0).trans rfl; have hcz12_1 : w11.cell? ⟨gb369, 1, none⟩ = some (.slice A0_1 l0_1.length c0_1) := (blk_cell BK369.out 1).trans rfl; have hfz12_0 := blk_frozen BK369.out 0; have hfz12_1 := blk_frozen BK369.out 1) | (go_at_call 256; (with_reducible refine (impl_areObjects.calls a0_0 _ _ l0_1 a1 false _ ?side1 ?side2 A3.out).mono ?_); (case side1 => exact s4_); (case side2 => exact HC0_1.out); rintro e w13 ⟨rfl, hb⟩; have n_ := ac_ (blk_below (g := gb369) (o := .cells #[.int .i64 a0_0, .slice A0_1 l0_1.length c0_1] 29 (0, 0)) q17_15 hb) <| Aside0.mk (below_step q17_13 hb); clear BK369 HB; obtain ⟨BK369, HB⟩ := n_; (try clear hb)))
  repeat (go_quiet (first | ((with_reducible refine gate_dst (N := 2) rfl ?_); refine box_event ?hg (N := 2) ?hd (cs := #[.int .i64 a0_0, .slice A0_1 l0_1.length c0_1]) (t := 29) ?hr ?_; (case hd => rfl); (case hg => rfl); (case hr => first | (go_simp; done) | (go_simp; rfl)); intro gb369 hg w11 hbox hb; have n_ := ac_ (below_step s1_ hb) <| ac_ (hbox) <| ac_ ((by rw [hg]; exact (below_size s1_) : w.heap.size ≤ gb369)) <| Aside0.mk ((by rw [hg]; exact (below_size s1_) : w.heap.size ≤ gb369)); clear HB; obtain ⟨HB, BK369, GW369, GE369⟩ := n_; clear hb hbox hg; have hcz12_0 : w11.cell? ⟨gb369, 0, none⟩ = some (.int .i64 a0_0) := (blk_cell BK369.out 0).trans rfl; have hcz12_1 : w11.cell? ⟨gb369, 1, none⟩ = some (.slice A0_1 l0_1.length c0_1) := (blk_cell BK369.out 1).trans rfl; have hfz12_0 := blk_frozen BK369.out 0; have hfz12_1 := blk_frozen BK369.out 1) | (go_at_call 256; (with_reducible refine (impl_areObjects.calls a0_0 _ _ l0_1 a1 false _ ?side1 ?side2 A3.out).mono ?_); (case side1 => exact s4_); (case side2 => exact HC0_1.out); rintro e w13 ⟨rfl, hb⟩; have n_ := ac_ (blk_below (g := gb369) (o := .cells #[.int .i64 a0_0, .slice A0_1 l0_1.length c0_1] 29 (0, 0)) q17_15 hb) <| Aside0.mk (below_step q17_13 hb); clear BK369 HB; obtain ⟨BK369, HB⟩ := n_; (try clear hb))); try go_wp2_with (first | ((with_reducible refine gate_dst (N := 2) rfl ?_); refine box_event ?hg (N := 2) ?hd (cs := #[.int .i64 a0_0, .slice A0_1 l0_1.length c0_1]) (t := 29) ?hr ?_; (case hd => rfl); (case hg => rfl); (case hr => first | (go_simp; done) | (go_simp; rfl)); intro gb369 hg w11 hbox hb; have n_ := ac_ (below_step s1_ hb) <| ac_ (hbox) <| ac_ ((by rw [hg]; exact (below_size s1_) : w.heap.size ≤ gb369)) <| Aside0.mk ((by rw [hg]; exact (below_size s1_) : w.heap.size ≤ gb369)); clear HB; obtain ⟨HB, BK369, GW369, GE369⟩ := n_; clear hb hbox hg; have hcz12_0 : w11.cell? ⟨gb369, 0, none⟩ = some (.int .i64 a0_0) := (blk_cell BK369.out 0).trans rfl; have hcz12_1 : w11.cell? ⟨gb369, 1, none⟩ = some (.slice A0_1 l0_1.length c0_1) := (blk_cell BK369.out 1).trans rfl; have hfz12_0 := blk_frozen BK369.out 0; have hfz12_1 := blk_frozen BK369.out 1) | (go_at_call 256; (with_reducible refine (impl_areObjects.calls a0_0 _ _ l0_1 a1 false _ ?side1 ?side2 A3.out).mono ?_); (case side1 => exact s4_); (case side2 => exact HC0_1.out); rintro e w13 ⟨rfl, hb⟩; have n_ := ac_ (blk_below (g := gb369) (o := .cells #[.int .i64 a0_0, .slice A0_1 l0_1.length c0_1] 29 (0, 0)) q17_15 hb) <| Aside0.mk (below_step q17_13 hb); clear BK369 HB; obtain ⟨BK369, HB⟩ := n_; (try clear hb))))
  go_ret
  exact ⟨(by first | rfl | (simp [errW_none, errW_some] <;> rfl) | (simp [*, errW_none, errW_some] <;> rfl)), q17_13⟩
theorem q17_17 {P : Prop} (h : P := by repeat (first | (with_reducible first | exact HB.out | apply below_alloc | apply pw_below_drewN | apply below_drew1 | refine below_set ?_ GE373.out) | exact HB.out)) : P := h
theorem q17_20 {P : Prop} (h : P := by (with_reducible repeat (first | refine blk_drewN ?_ _ | refine blk_drew ?_ | refine blk_alloc ?_ _)); exact BK373.out) : P := h
def impl_isAttribute.f (a0_0 : Int) (l0_1 : List Int) (a1 : Int) : Option (Bool) := (impl_IsContext.f a0_0 l0_1).bind fun t374 => (if t374 = true then ((impl_within.f a1 0 (wrap64 (a0_0 - 1))).bind fun t375 => (some t375)) else (some false))
set_option maxHeartbeats 8000000 in
set_option maxRecDepth 100000 in
theorem impl_isAttribute.calls (a0_0 : Int) (A0_1 : Option Addr) (c0_1 : Nat) (l0_1 : List Int) (a1 : Int) (r : Bool) (w : World) (hr0_1 : Kd.C (Kd.int .i64) w A0_1 l0_1.length l0_1) (hc0_1 : l0_1.length ≤ c0_1) (h : impl_isAttribute.f a0_0 l0_1 a1 = some r) :
  Calls Tryz.prog 291 #[.agg #[.int .i64 a0_0, .slice A0_1 l0_1.length c0_1], .int .i64 a1] w fun e w' => e = .returned (.bool r) ∧ Below w.heap.size w w' := by
 have hu29 := Tryz.underlying29; have HR0_1 := Aside0.mk hr0_1; have HC0_1 := Aside0.mk hc0_1; clear hr0_1 hc0_1; have HB := Aside0.mk (Below.refl w.heap.size w); have H := h; clear h; unfold impl_isAttribute.f at H; obtain ⟨t374, A3, H⟩ := bnd17_ H
 by_cases c4 : t374 = true
 ·
  subst c4; rw [if_pos rfl] at H; obtain ⟨t375, A5, H⟩ := bnd17_ H; obtain rfl := Option.some.inj H
  go_enter Tryz.func291, Tryz.ntmps291
  go_wp2_with (first | ((with_reducible refine gate_dst (N := 2) rfl ?_); refine box_event ?hg (N := 2) ?hd (cs := #[.int .i64 a0_0, .slice A0_1 l0_1.length c0_1]) (t := 29) ?hr ?_; (case hd => rfl); (case hg => rfl); (case hr => first | (go_simp; done) | (go_simp; rfl)); intro gb373 hg w6 hbox hb; have n_ := ac_ (below_step s1_ hb) <| ac_ (hbox) <| ac_ ((by rw [hg]; exact (below_size s1_) : w.heap.size ≤ gb373)) <| Aside0.mk ((by rw [hg]; exact (below_size s1_) : w.heap.size ≤ gb373)); clear HB; obtain ⟨HB, BK373, GW373, GE373⟩ := n_; clear hb hbox hg; have hcz7_0 : w6.cell? ⟨gb373, 0, none⟩ = some (.int .i64 a0_0) := (blk_cell BK373.out 0).trans rfl; have hcz7_1 : w6.cell? ⟨gb373, 1, none⟩ = some (.slice A0_1 l0_1.length c0_1) := (blk_cell BK373.out 1).trans rfl; have hfz7_0 := blk_frozen BK373.out 0; have hfz7_1 := blk_frozen BK373.out 1) | (refine gL_ 164 6 Tryz.func164 #[.agg #[.int .i64 a0_0, .slice A0_1 l0_1.length c0_1]] ?_; (with_reducible refine (impl_IsContext.calls a0_0 _ _ l0_1 true _ ?side1 ?side2 A3.out).mono ?_); (case side1 => exact s4_); (case side2 => exact HC0_1.out); rintro e w8 ⟨rfl, hb⟩; refine ⟨_, rfl, ?_⟩; have n_ := ac_ (blk_below (g := gb373) (o := .cells #[.int .i64 a0_0, .slice A0_1 l0_1.length c0_1] 29 (0, 0)) q17_20 hb) <| Aside0.mk (below_step q17_17 hb); clear BK373 HB; obtain ⟨BK373, HB⟩ := n_; (try clear hb); have hcz9_0 : w8.cell? ⟨gb373, 0, none⟩ = some (.int .i64 a0_0) := (blk_cell BK373.out 0).trans rfl; have hcz9_1 : w8.cell? ⟨gb373, 1, none⟩ = some (.slice A0_1 l0_1.length c0_1) := (blk_cell BK373.out 1).trans rfl; have hfz9_0 := blk_frozen BK373.out 0; have hfz9_1 := blk_frozen BK373.out 1) | (go_at_call 127; (with_reducible refine (impl_within.calls a1 0 (wrap64 (a0_0 - 1)) t375 _ A5.out).mono ?_); rintro e w' ⟨rfl, ⟨nd, rfl⟩⟩))
  go_ret
  exact ⟨(by first | rfl | (simp [errW_none, errW_some] <;> rfl) | (simp [*, errW_none, errW_some] <;> rfl)), q17_17⟩
 ·
  replace c4 := Bool.eq_false_iff.mpr c4; subst c4
  rw [if_neg (show ¬ (false = true) by decide)] at H
  obtain rfl := Option.some.inj H
  go_enter Tryz.func291, Tryz.ntmps291
  go_wp2_with (first | ((with_reducible refine gate_dst (N := 2) rfl ?_); refine box_event ?hg (N := 2) ?hd (cs := #[.int .i64 a0_0, .slice A0_1 l0_1.length c0_1]) (t := 29) ?hr ?_; (case hd => rfl); (case hg => rfl); (case hr => first | (go_simp; done) | (go_simp; rfl)); intro gb373 hg w10 hbox hb; have n_ := ac_ (below_step s1_ hb) <| ac_ (hbox) <| ac_ ((by rw [hg]; exact (below_size s1_) : w.heap.size ≤ gb373)) <| Aside0.mk ((by rw [hg]; exact (below_size s1_) : w.heap.size ≤ gb373)); clear HB; obtain ⟨HB, BK373, GW373, GE373⟩ := n_; clear hb hbox hg; have hcz11_0 : w10.cell? ⟨gb373, 0, none⟩ = some (.int .i64 a0_0) := (blk_cell BK373.out 0).trans rfl; have hcz11_1 : w10.cell? ⟨gb373, 1, none⟩ = some (.slice A0_1 l0_1.length c0_1) := (blk_cell BK373.out 1).trans rfl; have hfz11_0 := blk_frozen BK373.out 0; have hfz11_1 := blk_frozen BK373.out 1) | (refine gL_ 164 6 Tryz.func164 #[.agg #[.int .i64 a0_0, .slice A0_1 l0_1.length c0_1]] ?_; (with_reducible refine (impl_IsContext.calls a0_0 _ _ l0_1 false _ ?side1 ?side2 A3.out).mono ?_); (case side1 => exact s4_); (case side2 => exact HC0_1.out); rintro e w12 ⟨rfl, hb⟩; refine ⟨_, rfl, ?_⟩; have n_ := ac_ (blk_below (g := gb373) (o := .cells #[.int .i64 a0_0, .slice A0_1 l0_1.length c0_1] 29 (0, 0)) q17_20 hb) <| Aside0.mk (below_step q17_17 hb); clear BK373 HB; obtain ⟨BK373, HB⟩ := n_; (try clear hb)))
  go_ret
  exact ⟨(by first | rfl | (simp [errW_none, errW_some] <;> rfl) | (simp [*, errW_none, errW_some] <;> rfl)), q17_17⟩
theorem q17_22 {P : Prop} (h : P := by repeat (first | (with_reducible first | exact HB.out | apply below_alloc | apply pw_below_drewN | apply below_drew1 | refine below_set ?_ GE376.out) | exact HB.out)) : P := h
theorem q17_25 {P : Prop} (h : P := by (with_reducible repeat (first | refine blk_drewN ?_ _ | refine blk_drew ?_ | refine blk_alloc ?_ _)); exact BK376.out) : P := h
def impl_ColumnOf.l0 : Nat → Int → Int → List Int → Int → Int → Option (Int)
 | 0, _, _, _, _, _ => none
 | k + 1, x1, x5, x13, x14, x15 => if x15 < x14 then (if 0 ≤ x15 then (if x15 < (x13.length : Int) then (if 0 ≤ x1 then (impl_ColumnOf.l0 k x1 (Go.bits .or .i64 x5 (shl .i64 (Go.bits .and .i64 (shr .i64 (rd x13 x15) x1) 1) x15)) x13 x14 (wrap64 (x15 + 1))) else (none)) else (none)) else (none)) else (some x5)
def impl_ColumnOf.f (k : Nat) (a0_0 : Int) (l0_1 : List Int) (a1 : Int) : Option (Int) := (impl_isAttribute.f a0_0 l0_1 a1).bind fun t377 => (if t377 = true then (impl_ColumnOf.l0 k a1 0 l0_1 (l0_1.length : Int) 0) else (some 0))
set_option maxHeartbeats 8000000 in
set_option maxRecDepth 100000 in
theorem impl_ColumnOf.calls (k : Nat) (a0_0 : Int) (A0_1 : Option Addr) (c0_1 : Nat) (l0_1 : List Int) (a1 : Int) (r : Int) (w : World) (hr0_1 : Kd.C (Kd.int .i64) w A0_1 l0_1.length l0_1) (hc0_1 : l0_1.length ≤ c0_1) (h : impl_ColumnOf.f k a0_0 l0_1 a1 = some r) :
  Calls Tryz.prog 274 #[.agg #[.int .i64 a0_0, .slice A0_1 l0_1.length c0_1], .int .i64 a1] w fun e w' => e = .returned (.int .i64 r) ∧ Below w.heap.size w w' := by
 have hu29 := Tryz.underlying29; have HR0_1 := Aside0.mk hr0_1; have HC0_1 := Aside0.mk hc0_1; clear hr0_1 hc0_1; have HB := Aside0.mk (Below.refl w.heap.size w); have H := h; clear h; unfold impl_ColumnOf.f at H; obtain ⟨t377, A3, H⟩ := bnd17_ H
 by_cases c4 : t377 = true
 ·
  subst c4; rw [if_pos rfl] at H; have H' := Aside0.mk H; clear H
  go_enter Tryz.func274, Tryz.ntmps274
  go_wp2_with (first | ((with_reducible refine gate_dst (N := 2) rfl ?_); refine box_event ?hg (N := 2) ?hd (cs := #[.int .i64 a0_0, .slice A0_1 l0_1.length c0_1]) (t := 29) ?hr ?_; (case hd => rfl); (case hg => rfl); (case hr => first | (go_simp; done) | (go_simp; rfl)); intro gb376 hg w5 hbox hb; have n_ := ac_ (below_step s1_ hb) <| ac_ (hbox) <| ac_ ((by rw [hg]; exact (below_size s1_) : w.heap.size ≤ gb376)) <| Aside0.mk ((by rw [hg]; exact (below_size s1_) : w.heap.size ≤ gb376)); clear HB; obtain ⟨HB, BK376, GW376, GE376⟩ := n_; clear hb hbox hg; have hcz6_0 : w5.cell? ⟨gb376, 0, none⟩ = some (.int .i64 a0_0) := (blk_cell BK376.out 0).trans rfl; have hcz6_1 : w5.cell? ⟨gb376, 1, none⟩ = some (.slice A0_1 l0_1.length c0_1) := (blk_cell BK376.out 1).trans rfl; have hfz6_0 := blk_frozen BK376.out 0; have hfz6_1 := blk_frozen BK376.out 1) | (refine gL_ 291 10 Tryz.func291 #[.agg #[.int .i64 a0_0, .slice A0_1 l0_1.length c0_1], .int .i64 a1] ?_; (with_reducible refine (impl_isAttribute.calls a0_0 _ _ l0_1 a1 true _ ?side1 ?side2 A3.out).mono ?_); (case side1 => exact s4_); (case side2 => exact HC0_1.out); rintro e w7 ⟨rfl, hb⟩; refine ⟨_, rfl, ?_⟩; have n_ := ac_ (blk_below (g := gb376) (o := .cells #[.int .i64 a0_0, .slice A0_1 l0_1.length c0_1] 29 (0, 0)) q17_25 hb) <| Aside0.mk (below_step q17_22 hb); clear BK376 HB; obtain ⟨BK376, HB⟩ := n_; (try clear hb); have hcz8_0 : w7.cell? ⟨gb376, 0, none⟩ = some (.int .i64 a0_0) := (blk_cell BK376.out 0).trans rfl; have hcz8_1 : w7.cell? ⟨gb376, 1, none⟩ = some (.slice A0_1 l0_1.length c0_1) := (blk_cell BK376.out 1).trans rfl; have hfz8_0 := blk_frozen BK376.out 0; have hfz8_1 := blk_frozen BK376.out 1))
  go_loopg [5, 15] k (fun kq v5 v15 w' => ∃ (x5_1 : Int) (x15_1 : Int), v5 = .int .i64 x5_1 ∧ v15 = .int .i64 x15_1 ∧ Aside0 (impl_ColumnOf.l0 kq a1 x5_1 l0_1 (l0_1.length : Int) x15_1 = some r) ∧ Aside0 (kq ≤ k) ∧ Aside0 (w'.heap[gb376]? = some (.cells #[.int .i64 a0_0, (.slice A0_1 l0_1.length c0_1)] 29 (0, 0))) ∧ Aside0 (Below w.heap.size w w'))
  case atStart => exact ⟨(0), (0), s2_, s2_, H', ⟨Nat.le_refl _⟩, ⟨q17_25⟩, ⟨q17_22⟩⟩
  case round =>
   clear H'
   try clear c2
   try clear p2
   try clear c4
   try clear hcz6_0
   try clear hcz6_1
   try clear hcz8_0
   try clear hcz8_1
   try clear hfz6_0
   try clear hfz6_1
   try clear hfz8_0
   try clear hfz8_1
   obtain ⟨x5_1, x15_1, rfl, rfl, HA, HK1, BK376, HB⟩ := hrel
   cases gk with
   | zero => exact absurd HA.out (by simp [impl_ColumnOf.l0])
   | succ k1 =>
    have H := HA.out; clear HA
    simp only [impl_ColumnOf.l0] at H
    by_cases c9 : x15_1 < (l0_1.length : Int)
    ·
     rw [if_pos c9] at H; have c9b0 : decide (x15_1 < (l0_1.length : Int)) = true := decide_eq_true c9; clear c9
     by_cases c10 : 0 ≤ x15_1
     ·
      rw [if_pos c10] at H; have c10b0 : decide (0 ≤ x15_1) = true := decide_eq_true c10; clear c10
      by_cases c11 : x15_1 < (l0_1.length : Int)
      ·
       rw [if_pos c11] at H; have c11b0 : decide (x15_1 < (l0_1.length : Int)) = true := decide_eq_true c11; clear c11
       by_cases c12 : 0 ≤ a1
       ·
        rw [if_pos c12] at H; have c12b0 := eq_true c12; have c12b1 : decide (0 ≤ a1) = true := decide_eq_true c12; clear c12; obtain ⟨ji13, hji13⟩ : ∃ j_ : Int, (shr .i64 (rd l0_1 x15_1) a1) = j_ := ⟨_, rfl⟩
        replace H : (impl_ColumnOf.l0 k1 a1 (Go.bits .or .i64 x5_1 (shl .i64 (Go.bits .and .i64 (ji13) 1) x15_1)) l0_1 (l0_1.length : Int) (wrap64 (x15_1 + 1))) = some r := by first | (rw [hji13] at H; exact H) | (simp only [hji13] at H ⊢; exact H)
        have hji13_ : ((rd l0_1 x15_1) / 2 ^ min a1.toNat 64) = ji13 := hji13; have hji13z : a1 ≤ 64 → ((rd l0_1 x15_1) / 2 ^ a1.toNat) = ji13 := shr_small hji13
        have c14b0 := eq_true (of_decide_eq_true (by first | (with_reducible assumption) | assumption) : 0 ≤ x15_1)
        obtain ⟨ji15, hji15⟩ : ∃ j_ : Int, (shl .i64 (Go.bits .and .i64 (ji13) 1) x15_1) = j_ := ⟨_, rfl⟩
        replace H : (impl_ColumnOf.l0 k1 a1 (Go.bits .or .i64 x5_1 (ji15)) l0_1 (l0_1.length : Int) (wrap64 (x15_1 + 1))) = some r := by first | (rw [hji15] at H; exact H) | (simp only [hji15] at H ⊢; exact H)
        have hji15_ : (IntKind.i64.wrap ((Go.bits .and .i64 (ji13) 1) * 2 ^ min x15_1.toNat 64)) = ji15 := hji15; have hji15z : x15_1 ≤ 64 → (IntKind.i64.wrap ((Go.bits .and .i64 (ji13) 1) * 2 ^ x15_1.toNat)) = ji15 := shl_small hji15; have hji15y : (wrap64 ((Go.bits .and .i64 (ji13) 1) * 2 ^ min x15_1.toNat 64)) = ji15 := (i64_w _).symm.trans hji15_
        have hji15x : x15_1 ≤ 64 → (wrap64 ((Go.bits .and .i64 (ji13) 1) * 2 ^ x15_1.toNat)) = ji15 := fun h_ => (i64_w _).symm.trans (hji15z h_)
        have H' := Aside0.mk H; clear H
        have p378 : 0 ≤ (x15_1 : Int) := of_decide_eq_true (by first | (with_reducible assumption) | assumption)
        have q378 : x15_1 < (l0_1.length : Int) := of_decide_eq_true (by first | (with_reducible assumption) | assumption)
        obtain ⟨ad378, e378, hx378_0⟩ := Kd.at_int HR0_1.out x15_1 p378 q378
        cases e378
        replace hx378_0 := (HB.out.cell (World.block_lt_of_cell? w _ hx378_0)).trans hx378_0; replace p378 := eq_true p378; replace q378 := eq_true q378
        go_wp2
        go_roundg k1
        case measure => have := HK1.out; omega
        case rel => exact ⟨(Go.bits .or .i64 x5_1 (ji15)), (wrap64 (x15_1 + 1)), (by first | rfl | (simp; done) | (simp only [← hji15] <;> (first | rfl | simp)) | (simp [*]; done)), s2_, H', ⟨by have := HK1.out; omega⟩, ⟨q17_25⟩, ⟨q17_22⟩⟩
       ·
        rw [if_neg c12] at H
        exact absurd H (by simp)
      ·
       rw [if_neg c11] at H
       exact absurd H (by simp)
     ·
      rw [if_neg c10] at H
      exact absurd H (by simp)
    ·
     rw [if_neg c9] at H; have c9b0 : decide (x15_1 < (l0_1.length : Int)) = false := decide_eq_false c9; clear c9; obtain rfl := Option.some.inj H
     go_wp2
     go_ret
     exact ⟨(by first | rfl | (simp [errW_none, errW_some] <;> rfl) | (simp [*, errW_none, errW_some] <;> rfl)), q17_22⟩
 ·
  replace c4 := Bool.eq_false_iff.mpr c4; subst c4
  rw [if_neg (show ¬ (false = true) by decide)] at H
  obtain rfl := Option.some.inj H
  go_enter Tryz.func274, Tryz.ntmps274
  go_wp2_with (first | ((with_reducible refine gate_dst (N := 2) rfl ?_); refine box_event ?hg (N := 2) ?hd (cs := #[.int .i64 a0_0, .slice A0_1 l0_1.length c0_1]) (t := 29) ?hr ?_; (case hd => rfl); (case hg => rfl); (case hr => first | (go_simp; done) | (go_simp; rfl)); intro gb376 hg w16 hbox hb; have n_ := ac_ (below_step s1_ hb) <| ac_ (hbox) <| ac_ ((by rw [hg]; exact (below_size s1_) : w.heap.size ≤ gb376)) <| Aside0.mk ((by rw [hg]; exact (below_size s1_) : w.heap.size ≤ gb376)); clear HB; obtain ⟨HB, BK376, GW376, GE376⟩ := n_; clear hb hbox hg; have hcz17_0 : w16.cell? ⟨gb376, 0, none⟩ = some (.int .i64 a0_0) := (blk_cell BK376.out 0).trans rfl; have hcz17_1 : w16.cell? ⟨gb376, 1, none⟩ = some (.slice A0_1 l0_1.length c0_1) := (blk_cell BK376.out 1).trans rfl; have hfz17_0 := blk_frozen BK376.out 0; have hfz17_1 := blk_frozen BK376.out 1) | (refine gL_ 291 10 Tryz.func291 #[.agg #[.int .i64 a0_0, .slice A0_1 l0_1.length c0_1], .int .i64 a1] ?_; (with_reducible refine (impl_isAttribute.calls a0_0 _ _ l0_1 a1 false _ ?side1 ?side2 A3.out).mono ?_); (case side1 => exact s4_); (case side2 => exact HC0_1.out); rintro e w18 ⟨rfl, hb⟩; refine ⟨_, rfl, ?_⟩; have n_ := ac_ (blk_below (g := gb376) (o := .cells #[.int .i64 a0_0, .slice A0_1 l0_1.length c0_1] 29 (0, 0)) q17_25 hb) <| Aside0.mk (below_step q17_22 hb); clear BK376 HB; obtain ⟨BK376, HB⟩ := n_; (try clear hb)))
  go_ret
  exact ⟨(by first | rfl | (simp [errW_none, errW_some] <;> rfl) | (simp [*, errW_none, errW_some] <;> rfl)), q17_22⟩
theorem q17_27 {P : Prop} (h : P := by repeat (first | (with_reducible first | exact HB.out | apply below_alloc | apply pw_below_drewN | apply below_drew1 | refine below_set ?_ GE379.out) | exact HB.out)) : P := h
theorem q17_29 {P : Prop} (h : P := by (with_reducible repeat (first | refine blk_drewN ?_ _ | refine blk_drew ?_ | refine blk_alloc ?_ _)); exact BK379.out) : P := h
def impl_columns.l0 : Nat → List Int → Int → Int → Int → List Int → Option (List Int)
 | 0, _, _, _, _, _ => none
 | k + 1, x3, x7, x8, x380000, x380001 => if x8 < x7 then ((impl_ColumnOf.f k x380000 x380001 x8).bind fun t383 => (if x3.length < 17592186044416 then (impl_columns.l0 k (x3 ++ [t383]) x7 (wrap64 (x8 + 1)) x380000 x380001) else (none))) else (some x3)
def impl_columns.f (k : Nat) (a0_0 : Int) (l0_1 : List Int) : Option (List Int) := impl_columns.l0 k (([] : List Int)) a0_0 0 a0_0 l0_1
set_option maxHeartbeats 8000000 in
set_option maxRecDepth 100000 in
theorem impl_columns.calls (k : Nat) (a0_0 : Int) (A0_1 : Option Addr) (c0_1 : Nat) (l0_1 : List Int) (r : List Int) (w : World) (hr0_1 : Kd.C (Kd.int .i64) w A0_1 l0_1.length l0_1) (hc0_1 : l0_1.length ≤ c0_1) (h : impl_columns.f k a0_0 l0_1 = some r) :
  Calls Tryz.prog 258 #[.agg #[.int .i64 a0_0, .slice A0_1 l0_1.length c0_1]] w fun e w' => ∃ v0_ : Value, e = .returned (v0_) ∧ Kd.R (Kd.int .i64) 3 w' w.heap.size (fun _ => True) v0_ r ∧ Below w.heap.size w w' := by
 have hu29 := Tryz.underlying29; have HR0_1 := Aside0.mk hr0_1; have HC0_1 := Aside0.mk hc0_1; clear hr0_1 hc0_1; have HB := Aside0.mk (Below.refl w.heap.size w); have H := h; clear h; unfold impl_columns.f at H; obtain ⟨y380, hy380⟩ : ∃ y_ : List Int, y_ = (([] : List Int)) := ⟨_, rfl⟩
 replace H : (impl_columns.l0 k y380 a0_0 0 a0_0 l0_1) = some r := by first | (rw [hy380]; with_reducible exact H) | (have H2_ := (Option.bind_some _ _).symm.trans H; rw [hy380]; with_reducible exact H2_) | (have H2_ := (Option.bind_some _ _).symm.trans H; with_reducible exact H2_) | with_reducible exact H | (rw [hy380]; exact H) | exact H
 have Ny380 := Aside0.mk hy380; clear hy380; have H' := Aside0.mk H; clear H
 go_enter Tryz.func258, Tryz.ntmps258
 go_wp2_with (first | ((with_reducible refine gate_dst (N := 1) rfl ?_); refine box_event ?hg (N := 1) ?hd (cs := #[.int .i64 a0_0, .slice A0_1 l0_1.length c0_1]) (t := 29) ?hr ?_; (case hd => rfl); (case hg => rfl); (case hr => first | (go_simp; done) | (go_simp; rfl)); intro gb379 hg w2 hbox hb; have n_ := ac_ (below_step s1_ hb) <| ac_ (hbox) <| ac_ ((by rw [hg]; exact (below_size s1_) : w.heap.size ≤ gb379)) <| Aside0.mk ((by rw [hg]; exact (below_size s1_) : w.heap.size ≤ gb379)); clear HB; obtain ⟨HB, BK379, GW379, GE379⟩ := n_; clear hb hbox hg) | ((with_reducible refine gate_dst (N := 5) rfl ?_); refine Kd.R_lit (Kd.int .i64) _ 3 ?hg (N := 5) ?hd (xs := ([] : List Int)) (inner := []) (ok := fun _ => True) (okp := fun _ => True) ?hr ?hp (fun _ hk => hk) trivial (Below.refl _ _) (Nat.le_refl _) (by simp) ?_; (case hd => rfl); (case hg => rfl); (case hr => first | (go_simp; done) | (go_simp; rfl)); (case hp => exact (Reps.none _ _)); intro v381 w3 ho4 hb hg_ hnew_; clear hg_ hnew_; (first | rw [← Ny380.out] at ho4 | (simp only [Int.reduceToNat] at ho4; rw [← Ny380.out] at ho4)); have n_ := ac_ (Kd.R_lower ho4 (below_size q17_27)) <| ac_ (blk_below (g := gb379) (o := .cells #[.int .i64 a0_0, .slice A0_1 l0_1.length c0_1] 29 (0, 0)) q17_29 hb) <| Aside0.mk (below_step q17_27 hb); clear BK379 HB; obtain ⟨HO382, BK379, HB⟩ := n_; clear hb ho4; have hcz5_0 : w3.cell? ⟨gb379, 0, none⟩ = some (.int .i64 a0_0) := (blk_cell BK379.out 0).trans rfl; have hcz5_1 : w3.cell? ⟨gb379, 1, none⟩ = some (.slice A0_1 l0_1.length c0_1) := (blk_cell BK379.out 1).trans rfl; have hfz5_0 := blk_frozen BK379.out 0; have hfz5_1 := blk_frozen BK379.out 1))
 go_loopg [3, 8] k (fun kq v3 v8 w' => ∃ (x3_1 : List Int) (x8_1 : Int), v8 = .int .i64 x8_1 ∧ Aside0 (impl_columns.l0 kq x3_1 a0_0 x8_1 a0_0 l0_1 = some r) ∧ Aside0 (kq ≤ k) ∧ Aside0 (Kd.R (Kd.int .i64) 3 w' w.heap.size (fun _ => True) v3 x3_1) ∧ Aside0 (w'.heap[gb379]? = some (.cells #[.int .i64 a0_0, (.slice A0_1 l0_1.length c0_1)] 29 (0, 0))) ∧ Aside0 (Below w.heap.size w w'))
 case atStart => exact ⟨(y380), (0), (by first | rfl | (simp; done) | (simp [*]; done) | (simp [i64_w, i32_w]; done)), H', ⟨Nat.le_refl _⟩, ⟨(by (with_reducible repeat (first | apply Kd.R_alloc | apply Kd.R_drewN | apply Kd.R_drew)); exact HO382.out)⟩, ⟨q17_29⟩, ⟨q17_27⟩⟩
 case round =>
  clear H'
  try clear c2
  try clear p2
  try clear hcz5_0
  try clear hcz5_1
  try clear hfz5_0
  try clear hfz5_1
  obtain ⟨x3_1, x8_1, rfl, HA, HK1, HO_3, BK379, HB⟩ := hrel
  cases gk with
  | zero => exact absurd HA.out (by simp [impl_columns.l0])
  | succ k1 =>
   have H := HA.out; clear HA
   simp only [impl_columns.l0] at H
   by_cases c6 : x8_1 < a0_0
   ·
    rw [if_pos c6] at H; have c6b0 : decide (x8_1 < a0_0) = true := decide_eq_true c6; clear c6; obtain ⟨t383, A7, H⟩ := bnd17_ H
    by_cases c8 : x3_1.length < 17592186044416
    ·
     rw [if_pos c8] at H; have LMc8 := Aside0.mk c8; clear c8; obtain ⟨y384, hy384⟩ : ∃ y_ : List Int, y_ = (x3_1 ++ [t383]) := ⟨_, rfl⟩
     replace H : (impl_columns.l0 k1 y384 a0_0 (wrap64 (x8_1 + 1)) a0_0 l0_1) = some r := by first | (rw [hy384]; with_reducible exact H) | (have H2_ := (Option.bind_some _ _).symm.trans H; rw [hy384]; with_reducible exact H2_) | (have H2_ := (Option.bind_some _ _).symm.trans H; with_reducible exact H2_) | with_reducible exact H | (rw [hy384]; exact H) | exact H
     have Ny384 := Aside0.mk hy384; clear hy384; have H' := Aside0.mk H; clear H; have hcz9_0 : wr.cell? ⟨gb379, 0, none⟩ = some (.int .i64 a0_0) := (blk_cell BK379.out 0).trans rfl; have hcz9_1 : wr.cell? ⟨gb379, 1, none⟩ = some (.slice A0_1 l0_1.length c0_1) := (blk_cell BK379.out 1).trans rfl; have hfz9_0 := blk_frozen BK379.out 0; have hfz9_1 := blk_frozen BK379.out 1
     go_wp2_with (first | ((with_reducible refine gate_callee (f := 274) rfl ?_); refine goesL_ (some 14) rfl rfl Tryz.func274 (by kernel_rfl) rfl #[.agg #[.int .i64 a0_0, .slice A0_1 l0_1.length c0_1], .int .i64 x8_1] rfl (by (try simp only [List.map_toArray, List.map_cons, List.map_nil]); first | done | rfl | (simp only [List.length_drop, List.length_take]; rfl)) ?_; (with_reducible refine (impl_ColumnOf.calls k1 a0_0 _ _ l0_1 x8_1 t383 _ ?side1 ?side2 A7.out).mono ?_); (case side1 => repeat (first | exact (Kd.C_below HR0_1.out HB.out) | (with_reducible refine Kd.C_alloc ?_ _) | (with_reducible refine Kd.C_drewN ?_ _) | (with_reducible refine Kd.C_drew ?_))); (case side2 => exact HC0_1.out); rintro e w10 ⟨rfl, hb⟩; refine ⟨_, rfl, ?_⟩; have n_ := ac_ (Kd.R_below s9_ hb) <| ac_ (blk_below (g := gb379) (o := .cells #[.int .i64 a0_0, .slice A0_1 l0_1.length c0_1] 29 (0, 0)) q17_29 hb) <| Aside0.mk (below_step q17_27 hb); clear HO_3 BK379 HB; obtain ⟨HO_3, BK379, HB⟩ := n_; (try clear hb)) | ((with_reducible refine gate_builtin (b := .append) (xs := #[.tmp 11, .tmp 15]) rfl ?_); at_builtin; refine Kd.R_append (Kd.int .i64) (w0 := w) w.heap.size rfl (.tmp 11) (.tmp 15) 27 3 (.int .i64 0) 8 rfl Tryz.underlying27 info3 rfl (by decide) (by omega) u3 x3_1 t383 [.int .i64 t383] (fun _ => True) (fun _ => False) rfl rfl ?aP (fun _ hk => hk.elim) ?aF ?aO ?aB ?aS ?aL ?_; (case aP => exact rfl); (case aB => exact q17_27); (case aF => exact (fun _ _ => trivial)); (case aO => exact s9_); (case aS => exact (below_size q17_27)); (case aL => have := LMc8.out; omega); intro v385 w11 ho hb hg hat; rw [← Ny384.out] at ho; have n_ := ac_ (blk_grown (g := gb379) (o := .cells #[.int .i64 a0_0, .slice A0_1 l0_1.length c0_1] 29 (0, 0)) q17_29 hg (Kd.R_ne HO_3.out BK379.out (by decide))) <| ac_ (hb) <| Aside0.mk (ho); clear BK379 HB HO_3; obtain ⟨BK379, HB, HO386⟩ := n_; clear ho hb hg hat))
     go_roundg k1
     case measure => have := HK1.out; omega
     case rel => exact ⟨(y384), (wrap64 (x8_1 + 1)), (by first | rfl | (simp; done) | (simp [*]; done) | (simp [i64_w, i32_w]; done)), H', ⟨by have := HK1.out; omega⟩, ⟨(by (with_reducible repeat (first | apply Kd.R_alloc | apply Kd.R_drewN | apply Kd.R_drew)); exact HO386.out)⟩, ⟨q17_29⟩, ⟨q17_27⟩⟩
    ·
     rw [if_neg c8] at H
     exact absurd H (by simp)
   ·
    rw [if_neg c6] at H; have c6b0 : decide (x8_1 < a0_0) = false := decide_eq_false c6; clear c6; obtain rfl := Option.some.inj H
    go_wp2
    go_ret
    exact ⟨_, (by first | rfl | (simp [errW_none, errW_some] <;> rfl) | (simp [*, errW_none, errW_some] <;> rfl)), s9_, q17_27⟩
theorem q17_32 {P : Prop} (h : P := by repeat (first | (with_reducible first | exact HB.out | apply below_alloc | apply pw_below_drewN | apply below_drew1 | refine below_set ?_ GE387.out) | exact HB.out)) : P := h
theorem q17_35 {P : Prop} (h : P := by (with_reducible repeat (first | refine blk_drewN ?_ _ | refine blk_drew ?_ | refine blk_alloc ?_ _)); exact BK387.out) : P := h
def impl_ExtentOf.f (k : Nat) (a0_0 : Int) (l0_1 : List Int) (a1 : Int) : Option (Int) := (impl_areAttributes.f a0_0 l0_1 a1).bind fun t388 => (if t388 = true then ((impl_columns.f k a0_0 l0_1).bind fun t389 => ((impl_FullSet.f (l0_1.length : Int)).bind fun t392 => ((impl_common.f k t389 a1 t392).bind fun t393 => (some t393)))) else (some 0))
def impl_ExtentOf.T3 : Bool × List (List Nat × List Nat) := (true, [([], []), ([0], [0]), ([], []), ([], []), ([3], [3]), ([4], [4]), ([5, 1], [5]), ([1, 2, 6, 6], [1, 2, 6]), ([7, 7, 0, 1, 2, 3, 4, 5, 6, 7], [7])])
def impl_ExtentOf.B3 : List Nat := [0, 1, 0, 0, 8, 24, 59, 127, 255]
theorem impl_ExtentOf.tab3 : rtab .any (opsOf Tryz.f227 3) = impl_ExtentOf.T3 := by kernel_rfl
theorem impl_ExtentOf.bits3 : waitsOk impl_ExtentOf.T3.2 impl_ExtentOf.B3 = true := by kernel_rfl
set_option maxHeartbeats 8000000 in
set_option maxRecDepth 100000 in
theorem impl_ExtentOf.calls (k : Nat) (a0_0 : Int) (A0_1 : Option Addr) (c0_1 : Nat) (l0_1 : List Int) (a1 : Int) (r : Int) (w : World) (hr0_1 : Kd.C (Kd.int .i64) w A0_1 l0_1.length l0_1) (hc0_1 : l0_1.length ≤ c0_1) (h : impl_ExtentOf.f k a0_0 l0_1 a1 = some r) :
  Calls Tryz.prog 227 #[.agg #[.int .i64 a0_0, .slice A0_1 l0_1.length c0_1], .int .i64 a1] w fun e w' => e = .returned (.int .i64 r) ∧ Below w.heap.size w w' := by
 have hu29 := Tryz.underlying29; have HR0_1 := Aside0.mk hr0_1; have HC0_1 := Aside0.mk hc0_1; clear hr0_1 hc0_1; have HB := Aside0.mk (Below.refl w.heap.size w); have H := h; clear h; unfold impl_ExtentOf.f at H; obtain ⟨t388, A3, H⟩ := bnd17_ H
 by_cases c4 : t388 = true
 ·
  subst c4; rw [if_pos rfl] at H; obtain ⟨t389, A5, H⟩ := bnd17_ H; obtain ⟨t392, A6, H⟩ := bnd17_ H; obtain ⟨t393, A7, H⟩ := bnd17_ H; obtain rfl := Option.some.inj H
  go_enter Tryz.func227, Tryz.ntmps227
  try go_wp2_with (first | ((with_reducible refine gate_dst (N := 2) rfl ?_); refine box_event ?hg (N := 2) ?hd (cs := #[.int .i64 a0_0, .slice A0_1 l0_1.length c0_1]) (t := 29) ?hr ?_; (case hd => rfl); (case hg => rfl); (case hr => first | (go_simp; done) | (go_simp; rfl)); intro gb387 hg w8 hbox hb; have n_ := ac_ (below_step s1_ hb) <| ac_ (hbox) <| ac_ ((by rw [hg]; exact (below_size s1_) : w.heap.size ≤ gb387)) <| Aside0.mk ((by rw [hg]; exact (below_size s1_) : w.heap.size ≤ gb387)); clear HB; obtain ⟨HB, BK387, GW387, GE387⟩ := n_; clear hb hbox hg; have hcz9_0 : w8.cell? ⟨gb387, 0, none⟩ = some (.int .i64 a0_0) := (blk_cell BK387.out 0).trans rfl; have hcz9_1 : w8.cell? ⟨gb387, 1, none⟩ = some (.slice A0_1 l0_1.length c0_1) := (blk_cell BK387.out 1).trans rfl; have hfz9_0 := blk_frozen BK387.out 0; have hfz9_1 := blk_frozen BK387.out 1) | (refine gL_ 175 7 Tryz.func175 #[.agg #[.int .i64 a0_0, .slice A0_1 l0_1.length c0_1], .int .i64 a1] ?_; (with_reducible refine (impl_areAttributes.calls a0_0 _ _ l0_1 a1 true _ ?side1 ?side2 A3.out).mono ?_); (case side1 => exact s4_); (case side2 => exact HC0_1.out); rintro e w10 ⟨rfl, hb⟩; refine ⟨_, rfl, ?_⟩; have n_ := ac_ (blk_below (g := gb387) (o := .cells #[.int .i64 a0_0, .slice A0_1 l0_1.length c0_1] 29 (0, 0)) q17_35 hb) <| Aside0.mk (below_step q17_32 hb); clear BK387 HB; obtain ⟨BK387, HB⟩ := n_; (try clear hb)))
  have n0_ := Aside0.mk (blk_drew BK387.out); have n1_ := Aside0.mk (below_drew1 HB.out); clear BK387; clear HB; have BK387 := n0_; have HB := n1_; clear n0_ n1_
  refine start_ (n := 9) (S := fun w' => w'.cell? ⟨gb387, 0, none⟩ = some (.int .i64 a0_0) ∧ w'.cell? ⟨gb387, 1, none⟩ = some (.slice A0_1 l0_1.length c0_1)) (ds := []) (tb_ 9 0) (by kernel_rfl) rfl rfl ⟨(blk_cell BK387.out 0).trans rfl, (blk_cell BK387.out 1).trans rfl⟩ (fun hHeld => ?_); refine with_tabW impl_ExtentOf.tab3 impl_ExtentOf.bits3 (fun HT_ HW_ => ?_)
  generalize w10.drew = w11 at BK387 HB hHeld ⊢
  refine pl_ 2 11 (tb_ 9 4) ?_; refine pl_ 3 12 (tb_ 9 12) ?_
  refine take_ (i := 0) (N := some 9) (v := ?_) (a' := ?_) (tb_ 9 13) rfl rfl (take_ofW HT_.out HW_.out (by kernel_rfl)) (fun _ _ _ h => h) (Or.inl ⟨by rfl, ?_⟩) hHeld ?_ ?_
  rotate_left
  ·
   rintro w' ⟨s0, s1⟩
   go_simp; with_reducible rfl
  rotate_left
  ·
   exact s10_
  refine take_ (i := 4) (N := some 13) (v := ?_) (a' := ?_) (tb_ 9 29) rfl rfl (take_ofW HT_.out HW_.out (by kernel_rfl)) (fun _ _ _ h => h) (Or.inl ⟨by rfl, ?_⟩) hHeld ?_ ?_
  rotate_left
  ·
   rintro w' ⟨s0, s1⟩
   go_simp; with_reducible rfl
  rotate_left
  ·
   exact s10_
  refine pl_ 5 14 (tb_ 9 61) ?_
  refine one_ (i := 1) (N := some 10) (tb_ 9 63) rfl rfl (one_of HT_.out (by kernel_rfl)) (by decide) (fun K hK => ?_)
  refine goes_ Tryz.func258 (by kernel_rfl) rfl #[.agg #[.int .i64 a0_0, .slice A0_1 l0_1.length c0_1]] (by rfl) rfl rfl s0_ ?_
  with_reducible refine (impl_columns.calls k a0_0 _ _ l0_1 t389 _ ?side1 ?side2 A5.out).mono ?_
  (case side1 => exact s4_)
  (case side2 => exact HC0_1.out)
  rintro e w12 ⟨v390, rfl, ho0, hb⟩
  refine ⟨_, rfl, ?_⟩
  have n0_ := Aside0.mk (Kd.R_lower ho0 (below_size q17_32)); have n1_ := Aside0.mk (blk_below (g := gb387) (o := .cells #[.int .i64 a0_0, .slice A0_1 l0_1.length c0_1] 29 (0, 0)) q17_35 hb); have n2_ := Aside0.mk (below_step q17_32 hb); clear BK387; clear HB; have HO391 := n0_; have BK387 := n1_; have HB := n2_; clear n0_ n1_ n2_
  (try clear hb)
  (try clear hb2)
  (try clear hk)
  (try clear hi)
  (try clear ho0)
  refine hK.out _ _ ⟨(blk_cell BK387.out 0).trans rfl, (blk_cell BK387.out 1).trans rfl⟩ (fun hHeld => ?_)
  clear hK K
  refine norm_ (a' := ?_) ?_ ?_
  rotate_left
  ·
   show Act.put _ (some 10) _ = _
   exact s10_
  refine one_ (i := 6) (N := some 15) (tb_ 9 127) rfl rfl (one_of HT_.out (by kernel_rfl)) (by decide) (fun K hK => ?_)
  refine goes_ Tryz.func129 (by kernel_rfl) rfl #[.int .i64 (l0_1.length : Int)] (by rfl) rfl rfl s0_ ?_
  with_reducible refine (impl_FullSet.calls (l0_1.length : Int) t392 _ A6.out).mono ?_
  rintro e w' ⟨rfl, ⟨nd, rfl⟩⟩
  refine ⟨_, rfl, ?_⟩
  obtain ⟨Ao13, co13, eo13⟩ := Kd.R_slice HO391.out
  (first | subst eo13 | (injection eo13 with f1_ f2_ f3_; have f4_ := f1_.symm; have f5_ := f3_.symm; clear f1_ f2_ f3_; subst f4_; subst f5_))
  refine hK.out _ _ ⟨(blk_cell BK387.out 0).trans rfl, (blk_cell BK387.out 1).trans rfl⟩ (fun hHeld => ?_)
  clear hK K
  refine norm_ (a' := ?_) ?_ ?_
  rotate_left
  ·
   show Act.put _ (some 15) _ = _
   exact s10_
  refine one_ (i := 7) (N := some 16) (tb_ 9 255) rfl rfl (one_of HT_.out (by kernel_rfl)) (by decide) (fun K hK => ?_)
  refine goes_ Tryz.func257 (by kernel_rfl) rfl #[.slice Ao13 t389.length co13, .int .i64 a1, .int .i64 t392] (by rfl) rfl rfl s0_ ?_
  with_reducible refine (impl_common.calls k _ _ t389 a1 t392 t393 _ ?side1 ?side2 A7.out).mono ?_
  (case side1 => repeat (first | exact (Kd.R_reads' HO391.out).2.2 | (with_reducible refine Kd.C_alloc ?_ _) | (with_reducible refine Kd.C_drewN ?_ _) | (with_reducible refine Kd.C_drew ?_)))
  (case side2 => exact (Kd.R_reads' HO391.out).2.1)
  rintro e w' ⟨rfl, ⟨nd, rfl⟩⟩
  refine ⟨_, rfl, ?_⟩
  refine hK.out _ _ ⟨(blk_cell BK387.out 0).trans rfl, (blk_cell BK387.out 1).trans rfl⟩ (fun hHeld => ?_)
  clear hK K
  refine norm_ (a' := ?_) ?_ ?_
  rotate_left
  ·
   show Act.put _ (some 16) _ = _
   exact s10_
  refine pl_ 8 4 (tb_ 9 511) ?_
  refine done_ (done_of HT_.out (by kernel_rfl)) ?_
  try go_wp2
  go_ret
  exact ⟨(by first | rfl | (simp [errW_none, errW_some] <;> rfl) | (simp [*, errW_none, errW_some] <;> rfl)), q17_32⟩
 ·
  replace c4 := Bool.eq_false_iff.mpr c4; subst c4
  rw [if_neg (show ¬ (false = true) by decide)] at H
  obtain rfl := Option.some.inj H
  go_enter Tryz.func227, Tryz.ntmps227
  go_wp2_with (first | ((with_reducible refine gate_dst (N := 2) rfl ?_); refine box_event ?hg (N := 2) ?hd (cs := #[.int .i64 a0_0, .slice A0_1 l0_1.length c0_1]) (t := 29) ?hr ?_; (case hd => rfl); (case hg => rfl); (case hr => first | (go_simp; done) | (go_simp; rfl)); intro gb387 hg w14 hbox hb; have n_ := ac_ (below_step s1_ hb) <| ac_ (hbox) <| ac_ ((by rw [hg]; exact (below_size s1_) : w.heap.size ≤ gb387)) <| Aside0.mk ((by rw [hg]; exact (below_size s1_) : w.heap.size ≤ gb387)); clear HB; obtain ⟨HB, BK387, GW387, GE387⟩ := n_; clear hb hbox hg; have hcz15_0 : w14.cell? ⟨gb387, 0, none⟩ = some (.int .i64 a0_0) := (blk_cell BK387.out 0).trans rfl; have hcz15_1 : w14.cell? ⟨gb387, 1, none⟩ = some (.slice A0_1 l0_1.length c0_1) := (blk_cell BK387.out 1).trans rfl; have hfz15_0 := blk_frozen BK387.out 0; have hfz15_1 := blk_frozen BK387.out 1) | (refine gL_ 175 7 Tryz.func175 #[.agg #[.int .i64 a0_0, .slice A0_1 l0_1.length c0_1], .int .i64 a1] ?_; (with_reducible refine (impl_areAttributes.calls a0_0 _ _ l0_1 a1 false _ ?side1 ?side2 A3.out).mono ?_); (case side1 => exact s4_); (case side2 => exact HC0_1.out); rintro e w16 ⟨rfl, hb⟩; refine ⟨_, rfl, ?_⟩; have n_ := ac_ (blk_below (g := gb387) (o := .cells #[.int .i64 a0_0, .slice A0_1 l0_1.length c0_1] 29 (0, 0)) q17_35 hb) <| Aside0.mk (below_step q17_32 hb); clear BK387 HB; obtain ⟨BK387, HB⟩ := n_; (try clear hb)))
  go_ret
  exact ⟨(by first | rfl | (simp [errW_none, errW_some] <;> rfl) | (simp [*, errW_none, errW_some] <;> rfl)), q17_32⟩
theorem q17_37 {P : Prop} (h : P := by repeat (first | (with_reducible first | exact HB.out | apply below_alloc | apply pw_below_drewN | apply below_drew1 | refine below_set ?_ GE394.out) | exact HB.out)) : P := h
theorem q17_40 {P : Prop} (h : P := by (with_reducible repeat (first | refine blk_drewN ?_ _ | refine blk_drew ?_ | refine blk_alloc ?_ _)); exact BK394.out) : P := h
def impl_ClosureOf.f (k : Nat) (a0_0 : Int) (l0_1 : List Int) (a1 : Int) : Option (Int) := (impl_areAttributes.f a0_0 l0_1 a1).bind fun t395 => (if t395 = true then ((impl_ExtentOf.f k a0_0 l0_1 a1).bind fun t396 => ((impl_IntentOf.f k a0_0 l0_1 t396).bind fun t397 => (some t397))) else (some 0))
set_option maxHeartbeats 8000000 in
set_option maxRecDepth 100000 in
theorem impl_ClosureOf.calls (k : Nat) (a0_0 : Int) (A0_1 : Option Addr) (c0_1 : Nat) (l0_1 : List Int) (a1 : Int) (r : Int) (w : World) (hr0_1 : Kd.C (Kd.int .i64) w A0_1 l0_1.length l0_1) (hc0_1 : l0_1.length ≤ c0_1) (h : impl_ClosureOf.f k a0_0 l0_1 a1 = some r) :
  Calls Tryz.prog 163 #[.agg #[.int .i64 a0_0, .slice A0_1 l0_1.length c0_1], .int .i64 a1] w fun e w' => e = .returned (.int .i64 r) ∧ Below w.heap.size w w' := by
 have hu29 := Tryz.underlying29; have HR0_1 := Aside0.mk hr0_1; have HC0_1 := Aside0.mk hc0_1; clear hr0_1 hc0_1; have HB := Aside0.mk (Below.refl w.heap.size w); have H := h; clear h; unfold impl_ClosureOf.f at H; obtain ⟨t395, A3, H⟩ := bnd17_ H
 by_cases c4 : t395 = true
 ·
  subst c4; rw [if_pos rfl] at H; obtain ⟨t396, A5, H⟩ := bnd17_ H; obtain ⟨t397, A6, H⟩ := bnd17_ H; obtain rfl := Option.some.inj H
  go_enter Tryz.func163, Tryz.ntmps163
  try go_wp2_with (first | ((with_reducible refine gate_dst (N := 2) rfl ?_); refine box_event ?hg (N := 2) ?hd (cs := #[.int .i64 a0_0, .slice A0_1 l0_1.length c0_1]) (t := 29) ?hr ?_; (case hd => rfl); (case hg => rfl); (case hr => first | (go_simp; done) | (go_simp; rfl)); intro gb394 hg w7 hbox hb; have n_ := ac_ (below_step s1_ hb) <| ac_ (hbox) <| ac_ ((by rw [hg]; exact (below_size s1_) : w.heap.size ≤ gb394)) <| Aside0.mk ((by rw [hg]; exact (below_size s1_) : w.heap.size ≤ gb394)); clear HB; obtain ⟨HB, BK394, GW394, GE394⟩ := n_; clear hb hbox hg; have hcz8_0 : w7.cell? ⟨gb394, 0, none⟩ = some (.int .i64 a0_0) := (blk_cell BK394.out 0).trans rfl; have hcz8_1 : w7.cell? ⟨gb394, 1, none⟩ = some (.slice A0_1 l0_1.length c0_1) := (blk_cell BK394.out 1).trans rfl; have hfz8_0 := blk_frozen BK394.out 0; have hfz8_1 := blk_frozen BK394.out 1) | (refine gL_ 175 7 Tryz.func175 #[.agg #[.int .i64 a0_0, .slice A0_1 l0_1.length c0_1], .int .i64 a1] ?_; (with_reducible refine (impl_areAttributes.calls a0_0 _ _ l0_1 a1 true _ ?side1 ?side2 A3.out).mono ?_); (case side1 => exact s4_); (case side2 => exact HC0_1.out); rintro e w9 ⟨rfl, hb⟩; refine ⟨_, rfl, ?_⟩; have n_ := ac_ (blk_below (g := gb394) (o := .cells #[.int .i64 a0_0, .slice A0_1 l0_1.length c0_1] 29 (0, 0)) q17_40 hb) <| Aside0.mk (below_step q17_37 hb); clear BK394 HB; obtain ⟨BK394, HB⟩ := n_; (try clear hb)))
  have n0_ := Aside0.mk (blk_drew BK394.out); have n1_ := Aside0.mk (below_drew1 HB.out); clear BK394; clear HB; have BK394 := n0_; have HB := n1_; clear n0_ n1_
  refine start_ (n := 6) (S := fun w' => w'.cell? ⟨gb394, 0, none⟩ = some (.int .i64 a0_0) ∧ w'.cell? ⟨gb394, 1, none⟩ = some (.slice A0_1 l0_1.length c0_1)) (ds := []) (tb_ 6 0) (by kernel_rfl) rfl rfl ⟨(blk_cell BK394.out 0).trans rfl, (blk_cell BK394.out 1).trans rfl⟩ (fun hHeld => ?_)
  generalize w9.drew = w10 at BK394 HB hHeld ⊢
  refine pl_ 2 11 (tb_ 6 4) ?_
  refine take_ (i := 0) (N := some 9) (v := ?_) (a' := ?_) (tb_ 6 5) rfl rfl (by kernel_rfl) (fun _ _ _ h => h) (Or.inl ⟨by rfl, ?_⟩) hHeld ?_ ?_
  rotate_left
  ·
   rintro w' ⟨s0, s1⟩
   go_simp; with_reducible rfl
  rotate_left
  ·
   exact s10_
  refine take_ (i := 1) (N := some 10) (v := ?_) (a' := ?_) (tb_ 6 7) rfl rfl (by kernel_rfl) (fun _ _ _ h => h) (Or.inl ⟨by rfl, ?_⟩) hHeld ?_ ?_
  rotate_left
  ·
   rintro w' ⟨s0, s1⟩
   go_simp; with_reducible rfl
  rotate_left
  ·
   exact s10_
  refine one_ (i := 3) (N := some 12) (tb_ 6 15) rfl rfl (by kernel_rfl) (by decide) (fun K hK => ?_)
  refine goes_ Tryz.func227 (by kernel_rfl) rfl #[.agg #[.int .i64 a0_0, .slice A0_1 l0_1.length c0_1], .int .i64 a1] (by rfl) rfl rfl s0_ ?_
  with_reducible refine (impl_ExtentOf.calls k a0_0 _ _ l0_1 a1 t396 _ ?side1 ?side2 A5.out).mono ?_
  (case side1 => exact s4_)
  (case side2 => exact HC0_1.out)
  rintro e w11 ⟨rfl, hb⟩
  refine ⟨_, rfl, ?_⟩
  have n0_ := Aside0.mk (blk_below (g := gb394) (o := .cells #[.int .i64 a0_0, .slice A0_1 l0_1.length c0_1] 29 (0, 0)) q17_40 hb); have n1_ := Aside0.mk (below_step q17_37 hb); clear BK394; clear HB; have BK394 := n0_; have HB := n1_; clear n0_ n1_
  (try clear hb)
  (try clear hb2)
  (try clear hk)
  (try clear hi)
  refine hK.out _ _ ⟨(blk_cell BK394.out 0).trans rfl, (blk_cell BK394.out 1).trans rfl⟩ (fun hHeld => ?_)
  clear hK K
  refine norm_ (a' := ?_) ?_ ?_
  rotate_left
  ·
   show Act.put _ (some 12) _ = _
   exact s10_
  refine one_ (i := 4) (N := some 13) (tb_ 6 31) rfl rfl (by kernel_rfl) (by decide) (fun K hK => ?_)
  refine goes_ Tryz.func226 (by kernel_rfl) rfl #[.agg #[.int .i64 a0_0, .slice A0_1 l0_1.length c0_1], .int .i64 t396] (by rfl) rfl rfl s0_ ?_
  with_reducible refine (impl_IntentOf.calls k a0_0 _ _ l0_1 t396 t397 _ ?side1 ?side2 A6.out).mono ?_
  (case side1 => exact s4_)
  (case side2 => exact HC0_1.out)
  rintro e w12 ⟨rfl, hb⟩
  refine ⟨_, rfl, ?_⟩
  have n0_ := Aside0.mk (blk_below (g := gb394) (o := .cells #[.int .i64 a0_0, .slice A0_1 l0_1.length c0_1] 29 (0, 0)) q17_40 hb); have n1_ := Aside0.mk (below_step q17_37 hb); clear BK394; clear HB; have BK394 := n0_; have HB := n1_; clear n0_ n1_
  (try clear hb)
  (try clear hb2)
  (try clear hk)
  (try clear hi)
  refine hK.out _ _ ⟨(blk_cell BK394.out 0).trans rfl, (blk_cell BK394.out 1).trans rfl⟩ (fun hHeld => ?_)
  clear hK K
  refine norm_ (a' := ?_) ?_ ?_
  rotate_left
  ·
   show Act.put _ (some 13) _ = _
   exact s10_
  refine pl_ 5 4 (tb_ 6 63) ?_
  refine done_ (by kernel_rfl) ?_
  try go_wp2
  go_ret
  exact ⟨(by first | rfl | (simp [errW_none, errW_some] <;> rfl) | (simp [*, errW_none, errW_some] <;> rfl)), q17_37⟩
 ·
  replace c4 := Bool.eq_false_iff.mpr c4; subst c4
  rw [if_neg (show ¬ (false = true) by decide)] at H
  obtain rfl := Option.some.inj H
  go_enter Tryz.func163, Tryz.ntmps163
  go_wp2_with (first | ((with_reducible refine gate_dst (N := 2) rfl ?_); refine box_event ?hg (N := 2) ?hd (cs := #[.int .i64 a0_0, .slice A0_1 l0_1.length c0_1]) (t := 29) ?hr ?_; (case hd => rfl); (case hg => rfl); (case hr => first | (go_simp; done) | (go_simp; rfl)); intro gb394 hg w13 hbox hb; have n_ := ac_ (below_step s1_ hb) <| ac_ (hbox) <| ac_ ((by rw [hg]; exact (below_size s1_) : w.heap.size ≤ gb394)) <| Aside0.mk ((by rw [hg]; exact (below_size s1_) : w.heap.size ≤ gb394)); clear HB; obtain ⟨HB, BK394, GW394, GE394⟩ := n_; clear hb hbox hg; have hcz14_0 : w13.cell? ⟨gb394, 0, none⟩ = some (.int .i64 a0_0) := (blk_cell BK394.out 0).trans rfl; have hcz14_1 : w13.cell? ⟨gb394, 1, none⟩ = some (.slice A0_1 l0_1.length c0_1) := (blk_cell BK394.out 1).trans rfl; have hfz14_0 := blk_frozen BK394.out 0; have hfz14_1 := blk_frozen BK394.out 1) | (refine gL_ 175 7 Tryz.func175 #[.agg #[.int .i64 a0_0, .slice A0_1 l0_1.length c0_1], .int .i64 a1] ?_; (with_reducible refine (impl_areAttributes.calls a0_0 _ _ l0_1 a1 false _ ?side1 ?side2 A3.out).mono ?_); (case side1 => exact s4_); (case side2 => exact HC0_1.out); rintro e w15 ⟨rfl, hb⟩; refine ⟨_, rfl, ?_⟩; have n_ := ac_ (blk_below (g := gb394) (o := .cells #[.int .i64 a0_0, .slice A0_1 l0_1.length c0_1] 29 (0, 0)) q17_40 hb) <| Aside0.mk (below_step q17_37 hb); clear BK394 HB; obtain ⟨BK394, HB⟩ := n_; (try clear hb)))
  go_ret
  exact ⟨(by first | rfl | (simp [errW_none, errW_some] <;> rfl) | (simp [*, errW_none, errW_some] <;> rfl)), q17_37⟩
end Go.Proofs.YtafnamchckehmaaGreatDoor.Pr
namespace Go.Proofs.YtafnamchckehmaaGreatDoor.Pr
open Go.RowKit Go.Proofs.YtafnamchckehmaaGreatDoorW.PrintWords Go.Proofs.YtafnamchckehmaaGreatDoorW.PrintLast Go.Proofs.YtafnamchckehmaaGreatDoorW.PrintMore
attribute [local go_sem] max2_int min2_int max_two min_two max_three min_three max_four min_four
set_option linter.unusedVariables false
set_option linter.unusedSimpArgs false
theorem bnd18_ {α β : Type} {o : Option α} {f : α → Option β} {r : β} (h : o.bind f = some r) : ∃ a, Aside0 (o = some a) ∧ f a = some r := by
 obtain ⟨a, h1, h2⟩ := Option.bind_eq_some_iff.mp h
 exact ⟨a, ⟨h1⟩, h2⟩
theorem q18_2 {P : Prop} (h : P := by repeat (first | (with_reducible first | exact HB.out | apply below_alloc | apply pw_below_drewN | apply below_drew1 | refine below_set ?_ GE673.out) | exact HB.out)) : P := h
theorem q18_5 {P : Prop} (h : P := by (with_reducible repeat (first | refine blk_drewN ?_ _ | refine blk_drew ?_ | refine blk_alloc ?_ _)); exact BK673.out) : P := h
def impl_proper.l0 : Nat → Int → Int → List Int → Int → Int → Int → List Int → Option (Int)
 | 0, _, _, _, _, _, _, _ => none
 | k + 1, x1, x5, x14, x15, x16, x674000, x674001 => if x16 < x15 then (if 0 ≤ x16 then (if x16 < (x14.length : Int) then (if 0 ≤ (rd x14 x16) then ((impl_ClosureOf.f k x674000 x674001 (Go.bits .andNot .i64 x1 (shl .i64 1 (rd x14 x16)))).bind fun t679 => (impl_proper.l0 k x1 (Go.bits .andNot .i64 x5 t679) x14 x15 (wrap64 (x16 + 1)) x674000 x674001)) else (none)) else (none)) else (none)) else (some x5)
def impl_proper.f (k : Nat) (a0_0 : Int) (l0_1 : List Int) (a1 : Int) : Option (Int) := (impl_ClosureOf.f k a0_0 l0_1 a1).bind fun t674 => ((impl_ElementsOf.f k a1).bind fun t675 => (impl_proper.l0 k a1 (Go.bits .andNot .i64 t674 a1) t675 (t675.length : Int) 0 a0_0 l0_1))
def impl_proper.T5 : Bool × List (List Nat × List Nat) := (true, [([], []), ([], []), ([], []), ([], []), ([3], [3]), ([2, 4], [2, 4]), ([1, 5], [1, 5]), ([0, 6], [0, 6]), ([7, 6, 0, 1, 2, 3, 4, 5, 6, 7], [0, 7])])
def impl_proper.B5 : List Nat := [0, 0, 0, 0, 8, 28, 62, 127, 255]
theorem impl_proper.tab5 : rtab .any (opsOf Tryz.f204 5) = impl_proper.T5 := by kernel_rfl
theorem impl_proper.bits5 : waitsOk impl_proper.T5.2 impl_proper.B5 = true := by kernel_rfl
set_option maxHeartbeats 8000000 in
set_option maxRecDepth 100000 in
theorem impl_proper.calls (k : Nat) (a0_0 : Int) (A0_1 : Option Addr) (c0_1 : Nat) (l0_1 : List Int) (a1 : Int) (r : Int) (w : World) (hr0_1 : Kd.C (Kd.int .i64) w A0_1 l0_1.length l0_1) (hc0_1 : l0_1.length ≤ c0_1) (h : impl_proper.f k a0_0 l0_1 a1 = some r) :
  Calls Tryz.prog 204 #[.agg #[.int .i64 a0_0, .slice A0_1 l0_1.length c0_1], .int .i64 a1] w fun e w' => e = .returned (.int .i64 r) ∧ Below w.heap.size w w' := by
 have hu29 := Tryz.underlying29; have HR0_1 := Aside0.mk hr0_1; have HC0_1 := Aside0.mk hc0_1; clear hr0_1 hc0_1; have HB := Aside0.mk (Below.refl w.heap.size w); have H := h; clear h; unfold impl_proper.f at H; obtain ⟨t674, A3, H⟩ := bnd18_ H; obtain ⟨t675, A4, H⟩ := bnd18_ H; have H' := Aside0.mk H; clear H
 go_enter Tryz.func204, Tryz.ntmps204
 go_wp2_with (first | ((with_reducible refine gate_dst (N := 2) rfl ?_); refine box_event ?hg (N := 2) ?hd (cs := #[.int .i64 a0_0, .slice A0_1 l0_1.length c0_1]) (t := 29) ?hr ?_; (case hd => rfl); (case hg => rfl); (case hr => first | (go_simp; done) | (go_simp; rfl)); intro gb673 hg w5 hbox hb; have n_ := ac_ (below_step s1_ hb) <| ac_ (hbox) <| ac_ ((by rw [hg]; exact (below_size s1_) : w.heap.size ≤ gb673)) <| Aside0.mk ((by rw [hg]; exact (below_size s1_) : w.heap.size ≤ gb673)); clear HB; obtain ⟨HB, BK673, GW673, GE673⟩ := n_; clear hb hbox hg; have hcz6_0 : w5.cell? ⟨gb673, 0, none⟩ = some (.int .i64 a0_0) := (blk_cell BK673.out 0).trans rfl; have hcz6_1 : w5.cell? ⟨gb673, 1, none⟩ = some (.slice A0_1 l0_1.length c0_1) := (blk_cell BK673.out 1).trans rfl; have hfz6_0 := blk_frozen BK673.out 0; have hfz6_1 := blk_frozen BK673.out 1) | (refine gL_ 163 10 Tryz.func163 #[.agg #[.int .i64 a0_0, .slice A0_1 l0_1.length c0_1], .int .i64 a1] ?_; (with_reducible refine (impl_ClosureOf.calls k a0_0 _ _ l0_1 a1 t674 _ ?side1 ?side2 A3.out).mono ?_); (case side1 => exact s4_); (case side2 => exact HC0_1.out); rintro e w7 ⟨rfl, hb⟩; refine ⟨_, rfl, ?_⟩; have n_ := ac_ (blk_below (g := gb673) (o := .cells #[.int .i64 a0_0, .slice A0_1 l0_1.length c0_1] 29 (0, 0)) q18_5 hb) <| Aside0.mk (below_step q18_2 hb); clear BK673 HB; obtain ⟨BK673, HB⟩ := n_; (try clear hb)) | (refine gL_ 155 14 Tryz.func155 #[.int .i64 a1] ?_; (with_reducible refine (impl_ElementsOf.calls k a1 t675 _ A4.out).mono ?_); rintro e w8 ⟨v676, rfl, ho0, hb⟩; refine ⟨_, rfl, ?_⟩; have n_ := ac_ (Kd.R_lower ho0 (below_size q18_2)) <| ac_ (blk_below (g := gb673) (o := .cells #[.int .i64 a0_0, .slice A0_1 l0_1.length c0_1] 29 (0, 0)) q18_5 hb) <| Aside0.mk (below_step q18_2 hb); clear BK673 HB; obtain ⟨HO677, BK673, HB⟩ := n_; (try clear hb ho0); obtain ⟨Ao9, co9, eo9⟩ := Kd.R_slice HO677.out; subst eo9))
 go_loopg [5, 16] k (fun kq v5 v16 w' => ∃ (x5_1 : Int) (x16_1 : Int), v5 = .int .i64 x5_1 ∧ v16 = .int .i64 x16_1 ∧ Aside0 (impl_proper.l0 kq a1 x5_1 t675 (t675.length : Int) x16_1 a0_0 l0_1 = some r) ∧ Aside0 (kq ≤ k) ∧ Aside0 (Kd.R (Kd.int .i64) 3 w' w.heap.size (fun _ => True) (.slice Ao9 t675.length co9) t675) ∧ Aside0 (w'.heap[gb673]? = some (.cells #[.int .i64 a0_0, (.slice A0_1 l0_1.length c0_1)] 29 (0, 0))) ∧ Aside0 (Below w.heap.size w w'))
 case atStart => exact ⟨(Go.bits .andNot .i64 t674 a1), (0), s2_, s2_, H', ⟨Nat.le_refl _⟩, ⟨(by (with_reducible repeat (first | apply Kd.R_alloc | apply Kd.R_drewN | apply Kd.R_drew)); exact HO677.out)⟩, ⟨q18_5⟩, ⟨q18_2⟩⟩
 case round =>
  clear H'
  try clear c1
  try clear c2
  try clear p2
  try clear hcz6_0
  try clear hcz6_1
  try clear hfz6_0
  try clear hfz6_1
  obtain ⟨x5_1, x16_1, rfl, rfl, HA, HK1, HO_14, BK673, HB⟩ := hrel
  cases gk with
  | zero => exact absurd HA.out (by simp [impl_proper.l0])
  | succ k1 =>
   have H := HA.out; clear HA
   simp only [impl_proper.l0] at H
   by_cases c10 : x16_1 < (t675.length : Int)
   ·
    rw [if_pos c10] at H; have c10b0 : decide (x16_1 < (t675.length : Int)) = true := decide_eq_true c10; clear c10
    by_cases c11 : 0 ≤ x16_1
    ·
     rw [if_pos c11] at H; have c11b0 : decide (0 ≤ x16_1) = true := decide_eq_true c11; clear c11
     by_cases c12 : x16_1 < (t675.length : Int)
     ·
      rw [if_pos c12] at H; have c12b0 : decide (x16_1 < (t675.length : Int)) = true := decide_eq_true c12; clear c12
      by_cases c13 : 0 ≤ (rd t675 x16_1)
      ·
       rw [if_pos c13] at H; have c13b0 := eq_true c13; have c13b1 : decide (0 ≤ (rd t675 x16_1)) = true := decide_eq_true c13; clear c13; obtain ⟨ji14, hji14⟩ : ∃ j_ : Int, (shl .i64 1 (rd t675 x16_1)) = j_ := ⟨_, rfl⟩
       replace H : ((impl_ClosureOf.f k1 a0_0 l0_1 (Go.bits .andNot .i64 a1 (ji14))).bind fun t679 => (impl_proper.l0 k1 a1 (Go.bits .andNot .i64 x5_1 t679) t675 (t675.length : Int) (wrap64 (x16_1 + 1)) a0_0 l0_1)) = some r := by first | (rw [hji14] at H; exact H) | (simp only [hji14] at H ⊢; exact H)
       have hji14_ : (IntKind.i64.wrap (1 * 2 ^ min (rd t675 x16_1).toNat 64)) = ji14 := hji14; have hji14z : (rd t675 x16_1) ≤ 64 → (IntKind.i64.wrap (1 * 2 ^ (rd t675 x16_1).toNat)) = ji14 := shl_small hji14
       have hji14u : (IntKind.i64.wrap (2 ^ min (rd t675 x16_1).toNat 64)) = ji14 := by have h_ := hji14_; rw [Int.one_mul] at h_; exact h_
       have hji14v : (rd t675 x16_1) ≤ 64 → (IntKind.i64.wrap (2 ^ (rd t675 x16_1).toNat)) = ji14 := fun hle_ => by have h_ := hji14z hle_; rw [Int.one_mul] at h_; exact h_
       have hji14y : (wrap64 (1 * 2 ^ min (rd t675 x16_1).toNat 64)) = ji14 := (i64_w _).symm.trans hji14_
       have hji14x : (rd t675 x16_1) ≤ 64 → (wrap64 (1 * 2 ^ (rd t675 x16_1).toNat)) = ji14 := fun h_ => (i64_w _).symm.trans (hji14z h_)
       obtain ⟨t679, A15, H⟩ := bnd18_ H; have H' := Aside0.mk H; clear H
       have p678 : 0 ≤ (x16_1 : Int) := of_decide_eq_true (by first | (with_reducible assumption) | assumption)
       have q678 : x16_1 < (t675.length : Int) := of_decide_eq_true (by first | (with_reducible assumption) | assumption)
       obtain ⟨ad678, e678, hx678_0⟩ := Kd.at_int (Kd.R_reads' HO_14.out).2.2 x16_1 p678 q678
       cases e678
       replace p678 := eq_true p678; replace q678 := eq_true q678
       try go_wp2
       have n0_ := Aside0.mk (Kd.R_drew HO_14.out); have n1_ := Aside0.mk (blk_drew BK673.out); have n2_ := Aside0.mk (below_drew1 HB.out); clear HO_14; clear BK673; clear HB; have HO_14 := n0_; have BK673 := n1_; have HB := n2_; clear n0_ n1_ n2_
       refine start_ (n := 9) (S := fun w' => w'.cell? ⟨gb673, 0, none⟩ = some (.int .i64 a0_0) ∧ w'.cell? ⟨gb673, 1, none⟩ = some (.slice A0_1 l0_1.length c0_1)) (ds := []) (tb_ 9 0) (by kernel_rfl) rfl rfl ⟨(blk_cell BK673.out 0).trans rfl, (blk_cell BK673.out 1).trans rfl⟩ (fun hHeld => ?_); refine with_tabW impl_proper.tab5 impl_proper.bits5 (fun HT_ HW_ => ?_)
       generalize wr.drew = w16 at HO_14 BK673 HB hHeld ⊢
       refine pl_ 0 20 (tb_ 9 1) ?_; refine pl_ 2 22 (tb_ 9 5) ?_; refine pl_ 3 23 (tb_ 9 13) ?_; refine pl_ 4 24 (tb_ 9 29) ?_; refine pl_ 5 25 (tb_ 9 61) ?_
       refine take_ (i := 1) (N := some 21) (v := ?_) (a' := ?_) (tb_ 9 63) rfl rfl (take_ofW HT_.out HW_.out (by kernel_rfl)) (fun _ _ _ h => h) (Or.inl ⟨by rfl, ?_⟩) hHeld ?_ ?_
       rotate_left
       ·
        rintro w' ⟨s0, s1⟩
        go_simp; with_reducible rfl
       rotate_left
       ·
        simp only [Act.put, List.setIfInBounds_toArray, List.set_cons_zero, List.set_cons_succ, i64_w, i32_w]
        rfl
       refine one_ (i := 6) (N := some 26) (tb_ 9 127) rfl rfl (one_of HT_.out (by kernel_rfl)) (by decide) (fun K hK => ?_)
       refine goes_ Tryz.func163 (by kernel_rfl) rfl #[.agg #[.int .i64 a0_0, .slice _ l0_1.length c0_1], .int .i64 (Go.bits .andNot .i64 a1 (ji14))] (by rfl) rfl rfl (by (try simp only [List.map_toArray, List.map_cons, List.map_nil]); first | done | (simp only [hji14]; rfl) | rfl | (simp only [List.length_drop, List.length_take]; rfl)) ?_
       with_reducible refine (impl_ClosureOf.calls k1 a0_0 _ _ l0_1 (Go.bits .andNot .i64 a1 (ji14)) t679 _ ?side1 ?side2 A15.out).mono ?_
       (case side1 => exact s4_)
       (case side2 => exact HC0_1.out)
       rintro e w17 ⟨rfl, hb⟩
       refine ⟨_, rfl, ?_⟩
       have n0_ := Aside0.mk (Kd.R_below (by (with_reducible repeat (first | apply Kd.R_alloc | apply Kd.R_drewN | apply Kd.R_drew)); exact HO_14.out) hb)
       have n1_ := Aside0.mk (blk_below (g := gb673) (o := .cells #[.int .i64 a0_0, .slice A0_1 l0_1.length c0_1] 29 (0, 0)) q18_5 hb); have n2_ := Aside0.mk (below_step q18_2 hb); clear HO_14; clear BK673; clear HB; have HO_14 := n0_; have BK673 := n1_; have HB := n2_; clear n0_ n1_ n2_
       (try clear hb)
       (try clear hb2)
       (try clear hk)
       (try clear hi)
       refine hK.out _ _ ⟨(blk_cell BK673.out 0).trans rfl, (blk_cell BK673.out 1).trans rfl⟩ (fun hHeld => ?_)
       clear hK K
       refine norm_ (a' := ?_) ?_ ?_
       rotate_left
       ·
        show Act.put _ (some 26) _ = _
        simp only [Act.put, List.setIfInBounds_toArray, List.set_cons_zero, List.set_cons_succ, i64_w, i32_w]
        rfl
       refine pl_ 7 27 (tb_ 9 255) ?_; refine pl_ 8 5 (tb_ 9 511) ?_
       refine done_ (done_of HT_.out (by kernel_rfl)) ?_
       try go_wp2
       go_roundg k1
       case measure => have := HK1.out; omega
       case rel => exact ⟨(Go.bits .andNot .i64 x5_1 t679), (wrap64 (x16_1 + 1)), s2_, s2_, H', ⟨by have := HK1.out; omega⟩, ⟨(by (with_reducible repeat (first | apply Kd.R_alloc | apply Kd.R_drewN | apply Kd.R_drew)); exact HO_14.out)⟩, ⟨q18_5⟩, ⟨q18_2⟩⟩
      ·
       rw [if_neg c13] at H
       exact absurd H (by simp)
     ·
      rw [if_neg c12] at H
      exact absurd H (by simp)
    ·
     rw [if_neg c11] at H
     exact absurd H (by simp)
   ·
    rw [if_neg c10] at H; have c10b0 : decide (x16_1 < (t675.length : Int)) = false := decide_eq_false c10; clear c10; obtain rfl := Option.some.inj H
    go_wp2
    go_ret
    exact ⟨(by first | rfl | (simp [errW_none, errW_some] <;> rfl) | (simp [*, errW_none, errW_some] <;> rfl)), q18_2⟩
end Go.Proofs.YtafnamchckehmaaGreatDoor.Pr
