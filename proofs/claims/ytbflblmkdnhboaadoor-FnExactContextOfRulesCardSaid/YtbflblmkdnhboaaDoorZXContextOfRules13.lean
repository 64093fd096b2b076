/- What the law needs of the program's functions as plain functions, of the proofs that their calls answer so, and of plain laws: gathered by a program of this place (pack.py) out of its printed texts. No condition beyond what each statement says. -/
import Derived.Test.YtbflblmkdnhboaaDoorZXContextOfRules6
import Derived.Test.YtbflblmkdnhboaaDoorZXContextOfRules9
import Derived.Test.YtbflblmkdnhboaaDoorZXContextOfRules11
import Derived.Test.YtbflblmkdnhboaaDoorZXContextOfRules2
import Derived.Test.YtbflblmkdnhboaaDoorZXContextOfRules3
import Derived.Test.YtbflblmkdnhboaaDoorZXContextOfRules10
import Derived.Sort.LotA
namespace Go.Proofs.YtbflblmkdnhboaaDoor.Pr
open Go.RowKit Go.Proofs.YtbflblmkdnhboaaDoorW.PrintWords Go.Proofs.YtbflblmkdnhboaaDoorW.PrintLast Go.Proofs.YtbflblmkdnhboaaDoorW.PrintMore
set_option linter.unusedVariables false
def impl_areAnyRules.f (l0 : List S58) : Option Bool := some (l0.all Pu.anyR)
theorem areAny1_val (r : S58) : impl_areAnyRules_1.f r.f0 r.f1 = some (!Pu.anyR r) := by
  unfold impl_areAnyRules_1.f
  rw [Pu.any_val, Option.bind_some]
  unfold Pu.anyR
  cases Pu.isAny r.f0 with
  | false => rfl
  | true => simp [Pu.any_val]
theorem impl_areAnyRules.calls (A0 : Option Addr) (c0 : Nat) (l0 : List S58) (r : Bool) (w : World) (hr0 : Kd.C k58 w A0 l0.length l0) (hc0 : l0.length ≤ c0) (h : impl_areAnyRules.f l0 = some r) :
    Calls Tryd.prog 89 #[.slice A0 l0.length c0] w fun e w' => e = .returned (.bool r) ∧ Below w.heap.size w w' := by
  obtain rfl := Option.some.inj h
  clear h
  have eg : ∀ args w, (callFunc 115 args).run Tryd.prog w = .ok (.enter 115 args) w := enters_of Tryd.func115 (by kernel_rfl) rfl
  have h0 := ContainsFunc_rule 115 #[] eg A0 c0 l0 (fun r => !Pu.anyR r) w hr0 (fun W x hb => (impl_areAnyRules_1.calls x.f0 x.f1 _ W (areAny1_val x)).mono fun e w' ⟨he, hb'⟩ => ⟨he, hb'⟩)
  have h1 : Aside0 ((!(l0.any fun r => !Pu.anyR r)) = l0.all Pu.anyR) := ⟨by rw [List.all_eq_not_any_not]⟩
  clear hr0
  go_enter Tryd.func89, Tryd.ntmps89
  go_wp2_with (go_at_call 85; refine h0.mono ?_; rintro e w' ⟨rfl, hb⟩)
  go_ret
  exact ⟨by rw [← h1.out]; rfl, hb⟩
end Go.Proofs.YtbflblmkdnhboaaDoor.Pr
namespace Go.Proofs.YtbflblmkdnhboaaDoor.Pr
open Go.RowKit Go.Proofs.YtbflblmkdnhboaaDoorW.PrintWords Go.Proofs.YtbflblmkdnhboaaDoorW.PrintLast Go.Proofs.YtbflblmkdnhboaaDoorW.PrintMore
attribute [local go_sem] max2_int min2_int max_two min_two max_three min_three max_four min_four   -- for this text's walks alone
set_option linter.unusedVariables false
set_option linter.unusedSimpArgs false
theorem q16_1 {P : Prop} (h : P := by (try simp only [List.map_toArray, List.map_cons, List.map_nil]); first | done | rfl | (simp only [List.length_drop, List.length_take]; rfl)) : P := h
theorem q16_2 {P : Prop} (h : P := by repeat (first | (with_reducible first | exact HB.out | apply below_alloc | apply pw_below_drewN | apply below_drew1) | exact HB.out)) : P := h
theorem q16_3 {P : Prop} (h : P := by first | rfl | (simp; done) | (simp [*]; done) | (simp [i64_w, i32_w]; done)) : P := h
theorem q16_4 {P : Prop} (h : P := by rw [if_neg (show ¬ (false = true) by decide)] at H; exact H) : P := h
theorem q16_5 {P : Prop} (h : P := by first | (with_reducible assumption) | assumption) : P := h
mutual
def impl_OneStep.j0 : Nat → List (S58) → Int → Bool → Option (Int)
 | 0, _, _, _ => none
 | k + 1, x0, x1, x15 => if x15 = true then (some x1) else (impl_OneStep.l0 k x1 x1 x0 (x0.length : Int) 0)
def impl_OneStep.l0 : Nat → Int → Int → List (S58) → Int → Int → Option (Int)
 | 0, _, _, _, _, _ => none
 | k + 1, x1, x5, x18, x19, x20 => if x20 < x19 then (if 0 ≤ x20 then (if x20 < (x18.length : Int) then ((impl_inSet.f ((rd_T58 x18 x20).f0) x1).bind fun t339 => (if t339 = true then (impl_OneStep.l0 k x1 (Go.bits .or .i64 x5 ((rd_T58 x18 x20).f1)) x18 x19 (wrap64 (x20 + 1))) else (impl_OneStep.l0 k x1 x5 x18 x19 (wrap64 (x20 + 1))))) else (none)) else (none)) else (some x5)
end
def impl_OneStep.f (k : Nat) (l0 : List (S58)) (a1 : Int) : Option (Int) := (impl_isAnySet.f a1).bind fun t335 => (if t335 = true then ((impl_areAnyRules.f l0).bind fun t336 => (impl_OneStep.j0 k l0 a1 (!t336))) else (impl_OneStep.j0 k l0 a1 true))
set_option maxHeartbeats 8000000 in
set_option maxRecDepth 100000 in
theorem impl_OneStep.calls (k : Nat) (A0 : Option Addr) (c0 : Nat) (l0 : List (S58)) (a1 : Int) (r : Int) (w : World) (hr0 : Kd.C k58 w A0 l0.length l0) (hc0 : l0.length ≤ c0) (h : impl_OneStep.f k l0 a1 = some r) :
  Calls Tryd.prog 90 #[.slice A0 l0.length c0, .int .i64 a1] w fun e w' => e = .returned (.int .i64 r) ∧ Below w.heap.size w w' := by
 have hu58 := Tryd.underlying58
 have HR0 := Aside0.mk hr0
 have HC0 := Aside0.mk hc0
 clear hr0 hc0
 have HB := Aside0.mk (Below.refl w.heap.size w)
 have H : ((impl_isAnySet.f a1).bind fun t335 => (if t335 = true then ((impl_areAnyRules.f l0).bind fun t336 => (impl_OneStep.j0 k l0 a1 (!t336))) else (impl_OneStep.j0 k l0 a1 true))) = some r := h
 clear h
 have HC3 := Aside0.mk H
 clear H
 go_enter Tryd.func90, Tryd.ntmps90
 go_upto_region 1 with (fail)
 go_cut [15] (fun v15 wc => ∃ (kq : Nat) (x15_2 : Bool), v15 = .bool x15_2 ∧ Aside0 (impl_OneStep.j0 kq l0 a1 x15_2 = some r) ∧ Aside0 (kq ≤ k) ∧ Aside0 (Below w.heap.size w wc))
 case first =>
  have H := HC3.out
  clear HC3
  replace H := Option.bind_eq_some_iff.mp H
  obtain ⟨t335, A40, H⟩ := H
  replace H : (if t335 = true then ((impl_areAnyRules.f l0).bind fun t336 => (impl_OneStep.j0 k l0 a1 (!t336))) else (impl_OneStep.j0 k l0 a1 true)) = some r := H
  have A4 := Aside0.mk A40
  clear A40
  by_cases c5 : t335 = true
  ·
   subst c5
   have H1 : ((impl_areAnyRules.f l0).bind fun t336 => (impl_OneStep.j0 k l0 a1 (!t336))) = some r := by rw [if_pos rfl] at H; exact H
   clear H
   have H := H1
   clear H1
   replace H := Option.bind_eq_some_iff.mp H
   obtain ⟨t336, A60, H⟩ := H
   replace H : (impl_OneStep.j0 k l0 a1 (!t336)) = some r := H
   have A6 := Aside0.mk A60
   clear A60
   have H' := Aside0.mk H
   clear H
   go_wp2_with (first | ((with_reducible refine gate_callee (f := 88) rfl ?_); refine goesL_ (some 9) rfl rfl Tryd.func88 (by kernel_rfl) rfl #[.int .i64 a1] rfl q16_1 ?_; (with_reducible refine (impl_isAnySet.calls a1 true _ A4.out).mono ?_); rintro e w' ⟨rfl, ⟨nd, rfl⟩⟩; refine ⟨_, rfl, ?_⟩) | (go_at_call 89; (with_reducible refine (impl_areAnyRules.calls _ _ l0 t336 _ ?side1 ?side2 A6.out).mono ?_); (case side1 => repeat (first | exact (Kd.C_below HR0.out q16_2) | (with_reducible refine Kd.C_alloc ?_ _) | (with_reducible refine Kd.C_drewN ?_ _) | (with_reducible refine Kd.C_drew ?_))); (case side2 => exact HC0.out); rintro e w7 ⟨rfl, hb⟩; have n0_ := Aside0.mk (below_step q16_2 hb); clear HB; have HB := n0_; clear n0_; (try clear hb); (try clear hb2); (try clear hk); (try clear hi)))
   go_meet
   case rel => exact ⟨_, (!t336), q16_3, H', ⟨by first | omega | exact Nat.le_refl _⟩, ⟨by repeat (first | (with_reducible first | exact HB.out | apply below_alloc | apply pw_below_drewN | apply below_drew1) | exact HB.out)⟩⟩
  ·
   replace c5 := Bool.eq_false_iff.mpr c5
   subst c5
   have H1 : (impl_OneStep.j0 k l0 a1 true) = some r := q16_4
   clear H
   have H := H1
   clear H1
   have H' := Aside0.mk H
   clear H
   go_wp2_with (first | ((with_reducible refine gate_callee (f := 88) rfl ?_); refine goesL_ (some 9) rfl rfl Tryd.func88 (by kernel_rfl) rfl #[.int .i64 a1] rfl q16_1 ?_; (with_reducible refine (impl_isAnySet.calls a1 false _ A4.out).mono ?_); rintro e w' ⟨rfl, ⟨nd, rfl⟩⟩; refine ⟨_, rfl, ?_⟩))
   go_meet
   case rel => exact ⟨_, (true), q16_3, H', ⟨by first | omega | exact Nat.le_refl _⟩, ⟨by repeat (first | (with_reducible first | exact HB.out | apply below_alloc | apply pw_below_drewN | apply below_drew1) | exact HB.out)⟩⟩
 case rest =>
  clear HC3
  try clear p2
  try clear c5
  obtain ⟨kq, x15_2, rfl, HA, HJ2, HB⟩ := hcut
  cases kq with
  | zero => exact absurd HA.out (by simp [impl_OneStep.j0])
  | succ kj2 =>
   have H := HA.out
   clear HA
   simp only [impl_OneStep.j0] at H
   by_cases c8 : x15_2 = true
   ·
    subst c8
    have H1 : (some a1) = some r := by rw [if_pos rfl] at H; exact H
    clear H
    have H := H1
    clear H1
    obtain rfl := Option.some.inj H
    go_wp2
    go_ret
    exact ⟨by first | rfl | (simp [errW_none, errW_some] <;> rfl) | (simp [*, errW_none, errW_some] <;> rfl), by repeat (first | (with_reducible first | exact HB.out | apply below_alloc | apply pw_below_drewN | apply below_drew1) | exact HB.out)⟩
   ·
    replace c8 := Bool.eq_false_iff.mpr c8
    subst c8
    have H1 : (impl_OneStep.l0 kj2 a1 a1 l0 (l0.length : Int) 0) = some r := q16_4
    clear H
    have H := H1
    clear H1
    have H' := Aside0.mk H
    clear H
    go_wp2
    go_loopg [5, 20] kj2 (fun kq v5 v20 w' => ∃ (x5_2 : Int) (x20_2 : Int), v5 = .int .i64 x5_2 ∧ v20 = .int .i64 x20_2 ∧ Aside0 (impl_OneStep.l0 kq a1 x5_2 l0 (l0.length : Int) x20_2 = some r) ∧ Aside0 (kq ≤ kj2) ∧ Aside0 (Below w.heap.size w w'))
    case atStart => exact ⟨(a1), (0), q16_3, q16_3, H', ⟨Nat.le_refl _⟩, ⟨by repeat (first | (with_reducible first | exact HB.out | apply below_alloc | apply pw_below_drewN | apply below_drew1) | exact HB.out)⟩⟩
    case round =>
     clear H'
     try clear p2
     try clear c5
     try clear c8
     try clear p2
     obtain ⟨x5_2, x20_2, rfl, rfl, HA, HK2, HB⟩ := hrel
     cases gk with
     | zero => exact absurd HA.out (by simp [impl_OneStep.l0])
     | succ k2 =>
      have H := HA.out
      clear HA
      simp only [impl_OneStep.l0] at H
      by_cases c9 : x20_2 < (l0.length : Int)
      ·
       rw [if_pos c9] at H
       have c9b0 : decide (x20_2 < (l0.length : Int)) = true := decide_eq_true c9
       clear c9
       by_cases c10 : 0 ≤ x20_2
       ·
        rw [if_pos c10] at H
        have c10b0 : decide (0 ≤ x20_2) = true := decide_eq_true c10
        clear c10
        by_cases c11 : x20_2 < (l0.length : Int)
        ·
         rw [if_pos c11] at H
         have c11b0 : decide (x20_2 < (l0.length : Int)) = true := decide_eq_true c11
         clear c11
         replace H := Option.bind_eq_some_iff.mp H
         obtain ⟨t339, A120, H⟩ := H
         replace H : (if t339 = true then (impl_OneStep.l0 k2 a1 (Go.bits .or .i64 x5_2 ((rd_T58 l0 x20_2).f1)) l0 (l0.length : Int) (wrap64 (x20_2 + 1))) else (impl_OneStep.l0 k2 a1 x5_2 l0 (l0.length : Int) (wrap64 (x20_2 + 1)))) = some r := H
         have A12 := Aside0.mk A120
         clear A120
         by_cases c13 : t339 = true
         ·
          subst c13
          have H1 : (impl_OneStep.l0 k2 a1 (Go.bits .or .i64 x5_2 ((rd_T58 l0 x20_2).f1)) l0 (l0.length : Int) (wrap64 (x20_2 + 1))) = some r := by rw [if_pos rfl] at H; exact H
          clear H
          have H := H1
          clear H1
          have H' := Aside0.mk H
          clear H
          have p337 : 0 ≤ (x20_2 : Int) := of_decide_eq_true q16_5
          have q337 : x20_2 < (l0.length : Int) := of_decide_eq_true q16_5
          obtain ⟨ad337, e337, hx337_0, hx337_1⟩ := at_T58 HR0.out x20_2 p337 q337
          cases e337
          replace hx337_0 := (HB.out.cell (World.block_lt_of_cell? w _ hx337_0)).trans hx337_0
          replace hx337_1 := (HB.out.cell (World.block_lt_of_cell? w _ hx337_1)).trans hx337_1
          replace p337 := eq_true p337
          replace q337 := eq_true q337
          go_wp2_with (first | ((with_reducible refine gate_dst (N := 7) rfl ?_); refine box_event ?hg (N := 7) ?hd (cs := #[.int .i64 0, .int .i64 0]) (t := 58) ?hr ?_; (case hd => rfl); (case hg => rfl); (case hr => first | (go_simp; done) | (go_simp; rfl)); intro gb338 hg w14 hbox hb; have n0_ := Aside0.mk (below_step q16_2 hb); have n1_ := Aside0.mk (hbox); have n2_ := Aside0.mk ((by rw [hg]; exact (below_size q16_2) : w.heap.size ≤ gb338)); have n3_ := Aside0.mk ((by rw [hg]; exact (below_size q16_2) : w.heap.size ≤ gb338)); clear HB; have HB := n0_; have BK338 := n1_; have GW338 := n2_; have GE338 := n3_; clear n0_ n1_ n2_ n3_; clear hb hbox hg; have hcz15_0 : w14.cell? ⟨gb338, 0, none⟩ = some (.int .i64 0) := (blk_cell BK338.out 0).trans rfl; have hcz15_1 : w14.cell? ⟨gb338, 1, none⟩ = some (.int .i64 0) := (blk_cell BK338.out 1).trans rfl; have hfz15_0 := blk_frozen BK338.out 0; have hfz15_1 := blk_frozen BK338.out 1) | ((with_reducible refine gate_callee (f := 102) rfl ?_); refine goesL_ (some 27) rfl rfl Tryd.func102 (by kernel_rfl) rfl #[.int .i64 ((rd_T58 l0 x20_2).f0), .int .i64 a1] rfl q16_1 ?_; (with_reducible refine (impl_inSet.calls ((rd_T58 l0 x20_2).f0) a1 true _ A12.out).mono ?_); rintro e w' ⟨rfl, ⟨nd, rfl⟩⟩; refine ⟨_, rfl, ?_⟩))
          go_roundg k2
          case measure => have := HJ2.out; have := HK2.out; omega
          case rel => exact ⟨(Go.bits .or .i64 x5_2 ((rd_T58 l0 x20_2).f1)), (wrap64 (x20_2 + 1)), q16_3, q16_3, H', ⟨by have := HJ2.out; have := HK2.out; omega⟩, ⟨by repeat (first | (with_reducible first | exact HB.out | apply below_alloc | apply pw_below_drewN | apply below_drew1 | refine below_set ?_ GE338.out) | exact HB.out)⟩⟩
         ·
          replace c13 := Bool.eq_false_iff.mpr c13
          subst c13
          have H1 : (impl_OneStep.l0 k2 a1 x5_2 l0 (l0.length : Int) (wrap64 (x20_2 + 1))) = some r := q16_4
          clear H
          have H := H1
          clear H1
          have H' := Aside0.mk H
          clear H
          have p337 : 0 ≤ (x20_2 : Int) := of_decide_eq_true q16_5
          have q337 : x20_2 < (l0.length : Int) := of_decide_eq_true q16_5
          obtain ⟨ad337, e337, hx337_0, hx337_1⟩ := at_T58 HR0.out x20_2 p337 q337
          cases e337
          replace hx337_0 := (HB.out.cell (World.block_lt_of_cell? w _ hx337_0)).trans hx337_0
          replace hx337_1 := (HB.out.cell (World.block_lt_of_cell? w _ hx337_1)).trans hx337_1
          replace p337 := eq_true p337
          replace q337 := eq_true q337
          go_wp2_with (first | ((with_reducible refine gate_dst (N := 7) rfl ?_); refine box_event ?hg (N := 7) ?hd (cs := #[.int .i64 0, .int .i64 0]) (t := 58) ?hr ?_; (case hd => rfl); (case hg => rfl); (case hr => first | (go_simp; done) | (go_simp; rfl)); intro gb338 hg w16 hbox hb; have n0_ := Aside0.mk (below_step q16_2 hb); have n1_ := Aside0.mk (hbox); have n2_ := Aside0.mk ((by rw [hg]; exact (below_size q16_2) : w.heap.size ≤ gb338)); have n3_ := Aside0.mk ((by rw [hg]; exact (below_size q16_2) : w.heap.size ≤ gb338)); clear HB; have HB := n0_; have BK338 := n1_; have GW338 := n2_; have GE338 := n3_; clear n0_ n1_ n2_ n3_; clear hb hbox hg; have hcz17_0 : w16.cell? ⟨gb338, 0, none⟩ = some (.int .i64 0) := (blk_cell BK338.out 0).trans rfl; have hcz17_1 : w16.cell? ⟨gb338, 1, none⟩ = some (.int .i64 0) := (blk_cell BK338.out 1).trans rfl; have hfz17_0 := blk_frozen BK338.out 0; have hfz17_1 := blk_frozen BK338.out 1) | ((with_reducible refine gate_callee (f := 102) rfl ?_); refine goesL_ (some 27) rfl rfl Tryd.func102 (by kernel_rfl) rfl #[.int .i64 ((rd_T58 l0 x20_2).f0), .int .i64 a1] rfl q16_1 ?_; (with_reducible refine (impl_inSet.calls ((rd_T58 l0 x20_2).f0) a1 false _ A12.out).mono ?_); rintro e w' ⟨rfl, ⟨nd, rfl⟩⟩; refine ⟨_, rfl, ?_⟩))
          go_roundg k2
          case measure => have := HJ2.out; have := HK2.out; omega
          case rel => exact ⟨(x5_2), (wrap64 (x20_2 + 1)), q16_3, q16_3, H', ⟨by have := HJ2.out; have := HK2.out; omega⟩, ⟨by repeat (first | (with_reducible first | exact HB.out | apply below_alloc | apply pw_below_drewN | apply below_drew1 | refine below_set ?_ GE338.out) | exact HB.out)⟩⟩
        ·
         rw [if_neg c11] at H
         exact absurd H (by simp)
       ·
        rw [if_neg c10] at H
        exact absurd H (by simp)
      ·
       rw [if_neg c9] at H
       have c9b0 : decide (x20_2 < (l0.length : Int)) = false := decide_eq_false c9
       clear c9
       obtain rfl := Option.some.inj H
       go_wp2
       go_ret
       exact ⟨by first | rfl | (simp [errW_none, errW_some] <;> rfl) | (simp [*, errW_none, errW_some] <;> rfl), by repeat (first | (with_reducible first | exact HB.out | apply below_alloc | apply pw_below_drewN | apply below_drew1) | exact HB.out)⟩
theorem q16_6 {P : Prop} (h : P := by repeat (first | exact (Kd.C_below HR0.out HB.out) | (with_reducible refine Kd.C_alloc ?_ _) | (with_reducible refine Kd.C_drewN ?_ _) | (with_reducible refine Kd.C_drew ?_))) : P := h
theorem q16_7 {P : Prop} (h : P := by (try simp only [List.map_toArray, List.map_cons, List.map_nil]); first | done | rfl | (simp only [List.length_drop, List.length_take]; rfl)) : P := h
theorem q16_8 {P : Prop} (h : P := by repeat (first | (with_reducible first | exact HB.out | apply below_alloc | apply pw_below_drewN | apply below_drew1) | exact HB.out)) : P := h
theorem q16_9 {P : Prop} (h : P := by first | rfl | (simp; done) | (simp [*]; done) | (simp [i64_w, i32_w]; done)) : P := h
mutual
def impl_ClosedBy.j0 : Nat → List (S58) → Int → Bool → Option (Int)
 | 0, _, _, _ => none
 | k + 1, x0, x1, x13 => if x13 = true then (some x1) else ((impl_OneStep.f k x0 x1).bind fun t342 => (impl_ClosedBy.l0 k x0 x1 t342))
def impl_ClosedBy.l0 : Nat → List (S58) → Int → Int → Option (Int)
 | 0, _, _, _ => none
 | k + 1, x0, x1, x5 => if x5 = x1 then (some x1) else ((impl_OneStep.f k x0 x5).bind fun t343 => (impl_ClosedBy.l0 k x0 x5 t343))
end
def impl_ClosedBy.f (k : Nat) (l0 : List (S58)) (a1 : Int) : Option (Int) := (impl_isAnySet.f a1).bind fun t340 => (if t340 = true then ((impl_areAnyRules.f l0).bind fun t341 => (impl_ClosedBy.j0 k l0 a1 (!t341))) else (impl_ClosedBy.j0 k l0 a1 true))
set_option maxHeartbeats 8000000 in
set_option maxRecDepth 100000 in
theorem impl_ClosedBy.calls (k : Nat) (A0 : Option Addr) (c0 : Nat) (l0 : List (S58)) (a1 : Int) (r : Int) (w : World) (hr0 : Kd.C k58 w A0 l0.length l0) (hc0 : l0.length ≤ c0) (h : impl_ClosedBy.f k l0 a1 = some r) :
  Calls Tryd.prog 56 #[.slice A0 l0.length c0, .int .i64 a1] w fun e w' => e = .returned (.int .i64 r) ∧ Below w.heap.size w w' := by
 have HR0 := Aside0.mk hr0
 have HC0 := Aside0.mk hc0
 clear hr0 hc0
 have HB := Aside0.mk (Below.refl w.heap.size w)
 have H : ((impl_isAnySet.f a1).bind fun t340 => (if t340 = true then ((impl_areAnyRules.f l0).bind fun t341 => (impl_ClosedBy.j0 k l0 a1 (!t341))) else (impl_ClosedBy.j0 k l0 a1 true))) = some r := h
 clear h
 have HC3 := Aside0.mk H
 clear H
 go_enter Tryd.func56, Tryd.ntmps56
 go_upto_region 1 with (fail)
 go_cut [13] (fun v13 wc => ∃ (kq : Nat) (x13_2 : Bool), v13 = .bool x13_2 ∧ Aside0 (impl_ClosedBy.j0 kq l0 a1 x13_2 = some r) ∧ Aside0 (kq ≤ k) ∧ Aside0 (Below w.heap.size w wc))
 case first =>
  have H := HC3.out
  clear HC3
  replace H := Option.bind_eq_some_iff.mp H
  obtain ⟨t340, A40, H⟩ := H
  replace H : (if t340 = true then ((impl_areAnyRules.f l0).bind fun t341 => (impl_ClosedBy.j0 k l0 a1 (!t341))) else (impl_ClosedBy.j0 k l0 a1 true)) = some r := H
  have A4 := Aside0.mk A40
  clear A40
  by_cases c5 : t340 = true
  ·
   subst c5
   have H1 : ((impl_areAnyRules.f l0).bind fun t341 => (impl_ClosedBy.j0 k l0 a1 (!t341))) = some r := by rw [if_pos rfl] at H; exact H
   clear H
   have H := H1
   clear H1
   replace H := Option.bind_eq_some_iff.mp H
   obtain ⟨t341, A60, H⟩ := H
   replace H : (impl_ClosedBy.j0 k l0 a1 (!t341)) = some r := H
   have A6 := Aside0.mk A60
   clear A60
   have H' := Aside0.mk H
   clear H
   go_wp2_with (first | ((with_reducible refine gate_callee (f := 88) rfl ?_); refine goesL_ (some 7) rfl rfl Tryd.func88 (by kernel_rfl) rfl #[.int .i64 a1] rfl q16_7 ?_; (with_reducible refine (impl_isAnySet.calls a1 true _ A4.out).mono ?_); rintro e w' ⟨rfl, ⟨nd, rfl⟩⟩; refine ⟨_, rfl, ?_⟩) | (go_at_call 89; (with_reducible refine (impl_areAnyRules.calls _ _ l0 t341 _ ?side1 ?side2 A6.out).mono ?_); (case side1 => repeat (first | exact (Kd.C_below HR0.out q16_8) | (with_reducible refine Kd.C_alloc ?_ _) | (with_reducible refine Kd.C_drewN ?_ _) | (with_reducible refine Kd.C_drew ?_))); (case side2 => exact HC0.out); rintro e w7 ⟨rfl, hb⟩; have n0_ := Aside0.mk (below_step q16_8 hb); clear HB; have HB := n0_; clear n0_; (try clear hb); (try clear hb2); (try clear hk); (try clear hi)))
   go_meet
   case rel => exact ⟨_, (!t341), q16_9, H', ⟨by first | omega | exact Nat.le_refl _⟩, ⟨by repeat (first | (with_reducible first | exact HB.out | apply below_alloc | apply pw_below_drewN | apply below_drew1) | exact HB.out)⟩⟩
  ·
   replace c5 := Bool.eq_false_iff.mpr c5
   subst c5
   have H1 : (impl_ClosedBy.j0 k l0 a1 true) = some r := by rw [if_neg (show ¬ (false = true) by decide)] at H; exact H
   clear H
   have H := H1
   clear H1
   have H' := Aside0.mk H
   clear H
   go_wp2_with (first | ((with_reducible refine gate_callee (f := 88) rfl ?_); refine goesL_ (some 7) rfl rfl Tryd.func88 (by kernel_rfl) rfl #[.int .i64 a1] rfl q16_7 ?_; (with_reducible refine (impl_isAnySet.calls a1 false _ A4.out).mono ?_); rintro e w' ⟨rfl, ⟨nd, rfl⟩⟩; refine ⟨_, rfl, ?_⟩))
   go_meet
   case rel => exact ⟨_, (true), q16_9, H', ⟨by first | omega | exact Nat.le_refl _⟩, ⟨by repeat (first | (with_reducible first | exact HB.out | apply below_alloc | apply pw_below_drewN | apply below_drew1) | exact HB.out)⟩⟩
 case rest =>
  clear HC3
  try clear p2
  try clear c5
  obtain ⟨kq, x13_2, rfl, HA, HJ2, HB⟩ := hcut
  cases kq with
  | zero => exact absurd HA.out (by simp [impl_ClosedBy.j0])
  | succ kj2 =>
   have H := HA.out
   clear HA
   simp only [impl_ClosedBy.j0] at H
   by_cases c8 : x13_2 = true
   ·
    subst c8
    have H1 : (some a1) = some r := by rw [if_pos rfl] at H; exact H
    clear H
    have H := H1
    clear H1
    obtain rfl := Option.some.inj H
    go_wp2
    go_ret
    exact ⟨by first | rfl | (simp [errW_none, errW_some] <;> rfl) | (simp [*, errW_none, errW_some] <;> rfl), by repeat (first | (with_reducible first | exact HB.out | apply below_alloc | apply pw_below_drewN | apply below_drew1) | exact HB.out)⟩
   ·
    replace c8 := Bool.eq_false_iff.mpr c8
    subst c8
    have H1 : ((impl_OneStep.f kj2 l0 a1).bind fun t342 => (impl_ClosedBy.l0 kj2 l0 a1 t342)) = some r := by rw [if_neg (show ¬ (false = true) by decide)] at H; exact H
    clear H
    have H := H1
    clear H1
    replace H := Option.bind_eq_some_iff.mp H
    obtain ⟨t342, A90, H⟩ := H
    replace H : (impl_ClosedBy.l0 kj2 l0 a1 t342) = some r := H
    have A9 := Aside0.mk A90
    clear A90
    have H' := Aside0.mk H
    clear H
    go_wp2_with (first | ((with_reducible refine gate_callee (f := 90) rfl ?_); refine goesL_ (some 17) rfl rfl Tryd.func90 (by kernel_rfl) rfl #[.slice A0 l0.length c0, .int .i64 a1] rfl q16_7 ?_; (with_reducible refine (impl_OneStep.calls kj2 _ _ l0 a1 t342 _ ?side1 ?side2 A9.out).mono ?_); (case side1 => exact q16_6); (case side2 => exact HC0.out); rintro e w10 ⟨rfl, hb⟩; refine ⟨_, rfl, ?_⟩; have n0_ := Aside0.mk (below_step q16_8 hb); clear HB; have HB := n0_; clear n0_; (try clear hb); (try clear hb2); (try clear hk); (try clear hi)))
    go_loopg [1, 5] kj2 (fun kq v1 v5 w' => ∃ (x1_2 : Int) (x5_2 : Int), v1 = .int .i64 x1_2 ∧ v5 = .int .i64 x5_2 ∧ Aside0 (impl_ClosedBy.l0 kq l0 x1_2 x5_2 = some r) ∧ Aside0 (kq ≤ kj2) ∧ Aside0 (Below w.heap.size w w'))
    case atStart => exact ⟨(a1), (t342), q16_9, q16_9, H', ⟨Nat.le_refl _⟩, ⟨by repeat (first | (with_reducible first | exact HB.out | apply below_alloc | apply pw_below_drewN | apply below_drew1) | exact HB.out)⟩⟩
    case round =>
     clear H'
     try clear p2
     try clear c5
     try clear c8
     try clear c9
     try clear p2
     obtain ⟨x1_2, x5_2, rfl, rfl, HA, HK2, HB⟩ := hrel
     cases gk with
     | zero => exact absurd HA.out (by simp [impl_ClosedBy.l0])
     | succ k2 =>
      have H := HA.out
      clear HA
      simp only [impl_ClosedBy.l0] at H
      by_cases c11 : x5_2 = x1_2
      ·
       rw [if_pos c11] at H
       have c11b0 : (x5_2 == x1_2) = true := beq_iff_eq.mpr c11
       have c11b1 : (x5_2 != x1_2) = false := bne_eq_false_iff_eq.mpr c11
       clear c11
       obtain rfl := Option.some.inj H
       go_wp2
       go_ret
       exact ⟨by first | rfl | (simp [errW_none, errW_some] <;> rfl) | (simp [*, errW_none, errW_some] <;> rfl), by repeat (first | (with_reducible first | exact HB.out | apply below_alloc | apply pw_below_drewN | apply below_drew1) | exact HB.out)⟩
      ·
       rw [if_neg c11] at H
       have c11b0 : (x5_2 == x1_2) = false := beq_eq_false_iff_ne.mpr c11
       have c11b1 : (x5_2 != x1_2) = true := bne_iff_ne.mpr c11
       replace H := Option.bind_eq_some_iff.mp H
       obtain ⟨t343, A120, H⟩ := H
       replace H : (impl_ClosedBy.l0 k2 l0 x5_2 t343) = some r := H
       have A12 := Aside0.mk A120
       clear A120
       have H' := Aside0.mk H
       clear H
       go_wp2_with (first | ((with_reducible refine gate_callee (f := 90) rfl ?_); refine goesL_ (some 23) rfl rfl Tryd.func90 (by kernel_rfl) rfl #[.slice A0 l0.length c0, .int .i64 x5_2] rfl q16_7 ?_; (with_reducible refine (impl_OneStep.calls k2 _ _ l0 x5_2 t343 _ ?side1 ?side2 A12.out).mono ?_); (case side1 => exact q16_6); (case side2 => exact HC0.out); rintro e w13 ⟨rfl, hb⟩; refine ⟨_, rfl, ?_⟩; have n0_ := Aside0.mk (below_step q16_8 hb); clear HB; have HB := n0_; clear n0_; (try clear hb); (try clear hb2); (try clear hk); (try clear hi)))
       go_roundg k2
       case measure => have := HJ2.out; have := HK2.out; omega
       case rel => exact ⟨(x5_2), (t343), q16_9, q16_9, H', ⟨by have := HJ2.out; have := HK2.out; omega⟩, ⟨by repeat (first | (with_reducible first | exact HB.out | apply below_alloc | apply pw_below_drewN | apply below_drew1) | exact HB.out)⟩⟩
end Go.Proofs.YtbflblmkdnhboaaDoor.Pr
namespace Go.Proofs.YtbflblmkdnhboaaDoor.Pr
open Go.RowKit Go.Proofs.YtbflblmkdnhboaaDoorW.PrintWords Go.Proofs.YtbflblmkdnhboaaDoorW.PrintLast Go.Proofs.YtbflblmkdnhboaaDoorW.PrintMore
open Go.Sort Go.Shelf
set_option linter.unusedVariables false
set_option linter.unusedSimpArgs false
theorem Reps_one {α : Type} (enc : α → Value) (xs : List α) (cs : List Value) : Reps (fun x c => c = [enc x]) 1 xs cs ↔ cs = xs.map enc := by
  constructor
  · rintro ⟨h1, h2⟩
    rw [Nat.mul_one] at h1
    refine List.ext_getElem? fun j => ?_
    rw [List.getElem?_map]
    rcases Nat.lt_or_ge j xs.length with h | h
    · have h3 := h2 j xs[j] (List.getElem?_eq_getElem h)
      rw [Nat.mul_one] at h3
      have h4 := congrArg (fun l => l[0]?) h3
      simp only [List.getElem?_take_of_succ, List.getElem?_drop, List.getElem?_cons_zero, Nat.add_zero] at h4
      rw [List.getElem?_eq_getElem h]
      exact h4
    · rw [List.getElem?_eq_none h, List.getElem?_eq_none (by omega)]; rfl
  · rintro rfl
    refine ⟨by simp, fun j p hp => ?_⟩
    rw [Nat.mul_one]
    obtain ⟨hj, rfl⟩ := List.getElem?_eq_some_iff.1 hp
    refine List.ext_getElem? fun i => ?_
    cases i with
    | zero => simp [List.getElem?_take, List.getElem?_drop, List.getElem?_eq_getElem hj]
    | succ i => simp [List.getElem?_take]
theorem R_int_out {e base g n c : Nat} {w : World} {xs : List Int} {ok : Nat → Prop} (h : (Kd.int .i64).R e w base ok (.slice (some ⟨g, 0, none⟩) n c) xs) (hx : 0 < xs.length) :
    base ≤ g ∧ n = xs.length ∧ xs.length ≤ c ∧ c ≤ maxLen ∧ ∃ cur : Array Value, w.heap[g]? = some (.cells cur e (0, 0)) ∧ cur.size = c ∧ cur.toList.take xs.length = xs.map (Value.int .i64) := by
  obtain ⟨_, inner, ho, hr⟩ := h
  obtain ⟨h1, h2⟩ := ho
  rcases h2 with ⟨h2, _⟩ | ⟨g', cap, cur, he, hb, hh, hn, hx, hs, ht⟩
  · cases h2
  · injection he with e1 e2 e3
    injection e1 with e1
    injection e1 with e1 _ _
    subst e1 e3
    refine ⟨hb, e2, hn, hx, cur, hh, by rw [hs]; exact Nat.mul_one _, ?_⟩
    have := (Reps_one (Value.int .i64) xs inner).1 hr
    rw [← this, ← ht, show xs.length * (Kd.int .i64).sz = xs.length from Nat.mul_one _]
theorem R_int_in {e base g c : Nat} {w : World} {xs : List Int} {cur : Array Value} (hb : base ≤ g) (hc : xs.length ≤ c) (hm : c ≤ maxLen) (hh : w.heap[g]? = some (.cells cur e (0, 0))) (hs : cur.size = c)
    (ht : cur.toList.take xs.length = xs.map (Value.int .i64)) : (Kd.int .i64).R e w base (fun _ => True) (.slice (some ⟨g, 0, none⟩) xs.length c) xs :=
  ⟨fun _ _ => trivial, xs.map (Value.int .i64), ⟨by rw [List.length_map]; exact (Nat.mul_one _).symm, .inr ⟨g, c, cur, rfl, hb, hh, hc, hm, by rw [hs]; exact (Nat.mul_one _).symm, by rw [show xs.length * (Kd.int .i64).sz = xs.length from Nat.mul_one _]; exact ht⟩⟩, (Reps_one (Value.int .i64) xs _).2 rfl⟩
theorem befV_nat {s t : Nat} (hs : s < 256) (ht : t < 256) : Pu.befV (s : Int) (t : Int) = Pu.bef s t := by
  unfold Pu.befV Pu.isAny
  rw [decide_eq_true (show 0 ≤ (s : Int) ∧ (s : Int) < 256 by omega), decide_eq_true (show 0 ≤ (t : Int) ∧ (t : Int) < 256 by omega), Int.toNat_natCast, Int.toNat_natCast]
  rfl
theorem cast_nodup {R : List Nat} (h : R.Nodup) : (Pu.cast R).Nodup := List.pairwise_map.2 (h.imp fun hne e => hne (by omega))
theorem nodup_cast {R : List Nat} (h : (Pu.cast R).Nodup) : R.Nodup := (List.pairwise_map.1 (show (R.map fun (x : Nat) => (x : Int)).Nodup from h)).imp fun hne e => hne (by rw [e])
theorem lecF_nodup (p : Nat → Bool) : (Pu.lecF p).Nodup := (Pu.lecF_sorted p).imp fun h e => by subst e; omega
def encF (x : Fin 256) : Value := .int .i64 ((x.val : Nat) : Int)
def cfF (x y : Fin 256) : Int := if x = y then 0 else if Pu.bef x.val y.val = true then -1 else 1
theorem lt_cfF (x y : Fin 256) : ltOf cfF x y = Pu.bef x.val y.val := by
  unfold ltOf cfF
  by_cases h : x = y
  · subst h
    rw [if_pos rfl, Pu.bef_irrefl]; rfl
  · rw [if_neg h]
    cases hb : Pu.bef x.val y.val with
    | true => rfl
    | false => rfl
theorem swoF : SWO (ltOf cfF) where
  irrefl := fun x => by rw [lt_cfF]; exact Pu.bef_irrefl _
  trans := fun x y z h1 h2 => by
    rw [lt_cfF] at h1 h2 ⊢
    unfold Pu.bef at h1 h2 ⊢
    rw [decide_eq_true_iff] at h1 h2 ⊢
    omega
  ntrans := fun x y z h1 h2 => by
    rw [lt_cfF] at h1 h2 ⊢
    unfold Pu.bef at h1 h2 ⊢
    rw [decide_eq_false_iff_not] at h1 h2 ⊢
    omega
theorem antiF (x y : Fin 256) (h1 : ltOf cfF x y = false) (h2 : ltOf cfF y x = false) : x = y := by
  rw [lt_cfF] at h1 h2
  unfold Pu.bef at h1 h2
  rw [decide_eq_false_iff_not] at h1 h2
  exact Fin.ext (Pu.rv_inj x.isLt y.isLt (by omega))
def fin8 (x : Nat) : Fin 256 := ⟨x % 256, Nat.mod_lt _ (by decide)⟩
def arrF (R : List Nat) : Array (Fin 256) := (R.map fin8).toArray
theorem arrF_size (R : List Nat) : (arrF R).size = R.length := by unfold arrF; rw [List.size_toArray, List.length_map]
theorem map_fin8 {R : List Nat} (hR : ∀ x ∈ R, x < 256) : (R.map fin8).map (fun x => x.val) = R := by
  rw [List.map_map]
  conv => rhs; rw [← List.map_id R]
  exact List.map_congr_left fun x hx => Nat.mod_eq_of_lt (hR x hx)
theorem map_encF (L : List (Fin 256)) : L.map encF = (Pu.cast (L.map fun x => x.val)).map (Value.int .i64) := by
  unfold Pu.cast
  rw [List.map_map, List.map_map]
  rfl
theorem holdsF {w : World} {g n e c : Nat} {cur : Array Value} {d : Array (Fin 256)} (hh : w.heap[g]? = some (.cells cur e (0, 0))) (hs : d.size ≤ cur.size) (ht : cur.toList.take d.size = d.toList.map encF) : Holds encF w g 0 d := by
  intro j hj
  have h1 : cur[j]? = some (encF d[j]!) := by
    have h2 := congrArg (fun l => l[j]?) ht
    simp only [List.getElem?_take, if_pos hj, List.getElem?_map, Array.getElem?_toList] at h2
    rw [h2, Array.getElem?_eq_getElem hj, getElem!_pos d j hj]; rfl
  refine ⟨?_, ?_⟩
  · rw [Nat.zero_add]
    simp [World.cell?, hh, h1]
  · simp [World.frozen?, hh]
theorem heap_sortWorld {α : Type} [Inhabited α] (enc : α → Value) {w : World} {g e m : Nat} {cur : Array Value} {d : Array α} {os : Array Obj} (hh : w.heap[g]? = some (.cells cur e (0, 0))) : (sortWorld enc w g 0 m d os).heap[g]? = some (.cells (putCells enc 0 d cur) e (0, 0)) := by
  have hlt : g < w.heap.size := (Array.getElem?_eq_some_iff.1 hh).1
  unfold sortWorld grow putRow mapBlock Sort.ahead
  dsimp only
  rw [Array.getElem?_append_left (by rw [Array.size_modify]; exact hlt), Array.getElem?_modify, if_pos rfl, hh]
  rfl
theorem putCells_take {α : Type} [Inhabited α] (enc : α → Value) {cur : Array Value} {d : Array α} (hs : d.size ≤ cur.size) : (putCells enc 0 d cur).toList.take d.size = d.toList.map enc := by
  refine List.ext_getElem? fun j => ?_
  rw [List.getElem?_take, List.getElem?_map]
  by_cases hj : j < d.size
  · rw [if_pos hj, Array.getElem?_toList, Array.getElem?_toList]
    unfold putCells
    rw [Array.getElem?_mapIdx, Array.getElem?_eq_getElem (show j < cur.size by omega), Option.map_some, if_pos ⟨Nat.zero_le _, by omega⟩, Array.getElem?_eq_getElem hj, Nat.sub_zero, getElem!_pos d j hj]
    rfl
  · rw [if_neg hj, Array.getElem?_toList, Array.getElem?_eq_none (by omega)]
    rfl
theorem putCells_size {α : Type} [Inhabited α] (enc : α → Value) (cur : Array Value) (d : Array α) : (putCells enc 0 d cur).size = cur.size := by unfold putCells; rw [Array.size_mapIdx]
theorem below_sortWorld {α : Type} [Inhabited α] (enc : α → Value) {w0 w : World} {base g m : Nat} {d : Array α} {os : Array Obj} (hb : Below base w0 w) (hg : base ≤ g) (hs : base ≤ w.heap.size) : Below base w0 (sortWorld enc w g 0 m d os) := by
  have e : (sortWorld enc w g 0 m d os).heap = w.heap.modify g (onCells (putCells enc 0 d)) ++ os := rfl
  refine ⟨hb.os, hb.tape, hb.output, ?_, fun j hj => ?_⟩
  · rw [e, Array.size_append, Array.size_modify]
    have := hb.size
    omega
  · rw [e, Array.getElem?_append_left (by rw [Array.size_modify]; omega), Array.getElem?_modify, if_neg (by omega)]
    exact hb.block j hj
def lecOf (R : List Nat) : List Nat := Pu.lecF fun s => decide (s ∈ R)
theorem sortedF {R : List Nat} (hR : ∀ x ∈ R, x < 256) (hnd : R.Nodup) {d' : Array (Fin 256)} (h : d'.toList = (arrF R).toList.mergeSort fun x y => !(ltOf cfF) y x) : d'.toList.map (fun x => x.val) = lecOf R := by
  have hperm : d'.toList.Perm (R.map fin8) := by
    rw [h]
    exact List.mergeSort_perm _ _
  have hp2 : (d'.toList.map fun x => x.val).Perm R := by
    have := hperm.map (fun x => x.val)
    rwa [map_fin8 hR] at this
  have hs : d'.toList.Pairwise fun x y => (!(ltOf cfF) y x) = true := by
    rw [h]
    refine List.pairwise_mergeSort (fun a b c h1 h2 => ?_) (fun a b => ?_) _
    · rw [lt_cfF] at h1 h2 ⊢
      unfold Pu.bef at h1 h2 ⊢
      simp only [Bool.not_eq_true', decide_eq_false_iff_not] at h1 h2 ⊢
      omega
    · rw [lt_cfF, lt_cfF]
      unfold Pu.bef
      simp only [Bool.or_eq_true, Bool.not_eq_true', decide_eq_false_iff_not]
      omega
  have hn : (d'.toList.map fun x => x.val).Nodup := hp2.nodup_iff.2 hnd
  have hl : Pu.lecS (d'.toList.map fun x => x.val) := by
    unfold Pu.lecS
    have h1 : (d'.toList.map fun x => x.val).Pairwise fun a b => a < 256 ∧ b < 256 ∧ Pu.rv a ≤ Pu.rv b := by
      rw [List.pairwise_map]
      refine hs.imp fun {a b} hab => ⟨a.isLt, b.isLt, ?_⟩
      rw [lt_cfF] at hab
      unfold Pu.bef at hab
      simp only [Bool.not_eq_true', decide_eq_false_iff_not] at hab
      omega
    refine (h1.and hn).imp fun {a b} hab => ?_
    obtain ⟨⟨ha, hb, hle⟩, hne⟩ := hab
    rcases Nat.lt_or_ge (Pu.rv a) (Pu.rv b) with hlt | hge
    · exact hlt
    · exact absurd (Pu.rv_inj ha hb (by omega)) hne
  have h2 := Pu.lec_unique hl fun x hx => hR x (hp2.mem_iff.1 hx)
  rw [h2]
  unfold lecOf
  refine Pu.lecF_congr fun s _ => ?_
  rw [decide_eq_decide]
  exact hp2.mem_iff
theorem cmp_val (x y : Fin 256) : Ev (fun k => impl_SortLectic_2.f k ((x.val : Nat) : Int) ((y.val : Nat) : Int)) (cfF x y) := by
  unfold impl_SortLectic_2.f cfF
  by_cases h : x = y
  · subst h
    rw [if_pos rfl]
    exact Ev.congr (fun k => by rw [if_pos rfl]) (Ev.now _)
  · have hne : ¬ ((x.val : Nat) : Int) = ((y.val : Nat) : Int) := fun e => h (Fin.ext (by omega))
    rw [if_neg h]
    refine Ev.congr (fun k => by rw [if_neg hne]) ?_
    refine Ev.bind (Pu.befI_val _ _) ?_
    rw [befV_nat x.isLt y.isLt]
    cases Pu.bef x.val y.val with
    | true => exact Ev.now _
    | false => exact Ev.now _
theorem lecOf_length {R : List Nat} (hR : ∀ x ∈ R, x < 256) (hnd : R.Nodup) : (lecOf R).length = R.length := by
  have hd : ((arrF R).toList.mergeSort fun x y => !(ltOf cfF) y x).toArray.toList = (arrF R).toList.mergeSort fun x y => !(ltOf cfF) y x := rfl
  have h := sortedF hR hnd hd
  have h2 := congrArg List.length h
  rw [List.length_map, List.length_mergeSort] at h2
  rw [← h2]
  unfold arrF
  rw [List.length_map]
set_option maxHeartbeats 1000000 in
theorem sort_at (g c : Nat) (R : List Nat) (hpos : 0 < R.length) (hR : ∀ x ∈ R, x < 256) (hnd : R.Nodup) (w0 w : World) (htab : Tab64 w0) (hb : Below w0.heap.size w0 w)
    (ho : (Kd.int .i64).R 3 w w0.heap.size (fun _ => True) (.slice (some ⟨g, 0, none⟩) R.length c) (Pu.cast R)) :
    Calls Tryd.prog 111 #[.slice (some ⟨g, 0, none⟩) R.length c, .func (.func 112) #[] #[]] w fun e w' => e = .returned (.tuple #[]) ∧ (Kd.int .i64).R 3 w' w0.heap.size (fun _ => True) (.slice (some ⟨g, 0, none⟩) R.length c) (Pu.cast (lecOf R)) ∧ Below w0.heap.size w0 w' := by
  have hlenC : (Pu.cast R).length = R.length := Pu.cast_length R
  obtain ⟨hg, _, hc, hm, cur, hh, hs, ht⟩ := R_int_out ho (by omega)
  rw [hlenC] at hc ht
  have hD : (arrF R).size = R.length := arrF_size R
  have ht2 : cur.toList.take (arrF R).size = (arrF R).toList.map encF := by
    rw [hD, ht, map_encF]
    unfold arrF
    rw [map_fin8 hR]
  have hH : Holds encF w g 0 (arrF R) := holdsF (n := 0) (c := 0) hh (by omega) ht2
  have hblk : g < w.heap.size := (Array.getElem?_eq_some_iff.1 hh).1
  have eg : ∀ args w, (callFunc 112 args).run Tryd.prog w = .ok (.enter 112 args) w := enters_of Tryd.func112 (by kernel_rfl) rfl
  have hcmp : CmpLays1 Tryd.prog 112 #[] encF cfF g 0 (arrF R).size w := by
    intro m os dk _ x y
    obtain ⟨k, hk⟩ := Ev.rounds (cmp_val x y)
    refine (impl_SortLectic_2.calls k _ _ _ _ (htab.below (below_sortWorld encF hb hg hb.size)) hk).mono ?_
    rintro e w' ⟨he, q, rfl⟩
    exact ⟨he, q, #[], by rw [grow_empty]⟩
  have hlen : R.length ≤ 256 := Pu.nodup_le 256 R hnd hR
  have h := Tryd.slices_SortFunc encF (fun _ => rfl) cfF swoF 112 #[] g 0 c (arrF R) w eg hcmp hH hblk (by omega)
  rw [hD] at h
  refine h.mono ?_
  rintro e w' ⟨rfl, d', m, os, hp, hso, rfl⟩
  rw [← hD] at hp hso
  have hL := sortedF hR hnd (sorted_unique_holds swoF antiF (arrF R) d' hp hso)
  have hd' : d'.size = R.length := by
    have := congrArg List.length hL
    rw [List.length_map, lecOf_length hR hnd] at this
    simpa using this
  refine ⟨rfl, ?_, below_sortWorld encF hb hg hb.size⟩
  have hlenL : (Pu.cast (lecOf R)).length = R.length := by rw [Pu.cast_length, lecOf_length hR hnd]
  rw [← hlenL]
  refine R_int_in hg (by omega) hm (heap_sortWorld encF hh) (by rw [putCells_size]; exact hs) ?_
  rw [hlenL, ← hd', putCells_take encF (by omega), map_encF, hL]
theorem compact_lec {L : List Int} (hn : L.Nodup) : Lib.compact L = L := by
  unfold Lib.compact
  rw [Lib.compactUpTo_all]
  · refine List.ext_getElem? fun j => ?_
    rw [List.getElem?_map]
    rcases Nat.lt_or_ge j L.length with h | h
    · rw [List.getElem?_range h, Option.map_some, List.getElem?_eq_getElem h, getElem!_pos L.toArray j (by simpa using h)]
      simp
    · rw [List.getElem?_eq_none (by simpa using h), List.getElem?_eq_none h]; rfl
  · intro j hj
    unfold Lib.keeps
    rw [decide_eq_true_iff]
    by_cases h0 : j = 0
    · exact Or.inl h0
    · refine Or.inr fun e => ?_
      rw [getElem!_pos L.toArray j (by simpa using hj), getElem!_pos L.toArray (j - 1) (by simp; omega)] at e
      have e' : L[j] = L[j - 1]'(by omega) := by simpa using e
      exact List.pairwise_iff_getElem.1 hn (j - 1) j (by omega) hj (by omega) e'.symm
theorem compact_at (g c : Nat) (L : List Int) (hpos : 0 < L.length) (hn : L.Nodup) (hl : L.length ≤ 1048576) (w0 w : World) (hb : Below w0.heap.size w0 w)
    (ho : (Kd.int .i64).R 3 w w0.heap.size (fun _ => True) (.slice (some ⟨g, 0, none⟩) L.length c) L) :
    Calls Tryd.prog 114 #[.slice (some ⟨g, 0, none⟩) L.length c] w fun e w' => e = .returned (.slice (some ⟨g, 0, none⟩) L.length c) ∧ (Kd.int .i64).R 3 w' w0.heap.size (fun _ => True) (.slice (some ⟨g, 0, none⟩) L.length c) L ∧ Below w0.heap.size w0 w' := by
  obtain ⟨hg, _, hc, hm, cur, hh, hs, ht⟩ := R_int_out ho hpos
  have hH : Holds (Value.int .i64) w g 0 L.toArray := by
    intro j hj
    have hj' : j < L.length := by simpa using hj
    have h1 : cur[j]? = some (Value.int .i64 L.toArray[j]!) := by
      have h2 := congrArg (fun l => l[j]?) ht
      simp only [List.getElem?_take, if_pos hj', List.getElem?_map, Array.getElem?_toList] at h2
      rw [h2, List.getElem?_eq_getElem hj', getElem!_pos L.toArray j hj]; rfl
    refine ⟨?_, ?_⟩
    · rw [Nat.zero_add]
      simp only [World.cell?, hh, h1]
      simp [h1]
    · simp [World.frozen?, hh]
  refine (Tryd.slices_Compact_int g 0 c L w hH (by omega) hc).mono ?_
  rintro e w' ⟨rfl, q, rfl⟩
  rw [compact_lec hn, Nat.sub_self, List.replicate_zero, List.append_nil, putRow_self _ _ _ _ _ (holds_ahead _ _ _ _ _ _ hH)]
  exact ⟨rfl, Kd.R_drewN ho q, pw_below_drewN hb q⟩
def impl_SortLectic.f (l0 : List Int) : Option (List Int) :=
  if l0.all Pu.isAny = true ∧ l0.Nodup ∧ 0 < l0.length then some (Pu.cast (lecOf (l0.map Int.toNat))) else none
theorem sl1_val (x : Int) : impl_SortLectic_1.f x = some (!Pu.isAny x) := by
  unfold impl_SortLectic_1.f
  rw [Pu.any_val, Option.bind_some]
theorem R_form_int {e base : Nat} {w : World} {ok : Nat → Prop} {v : Value} {xs : List Int} (h : (Kd.int .i64).R e w base ok v xs) (hx : 0 < xs.length) : ∃ g c, v = .slice (some ⟨g, 0, none⟩) xs.length c ∧ xs.length ≤ c := by
  obtain ⟨_, inner, ⟨h1, h2⟩, _⟩ := h
  rcases h2 with ⟨_, h2⟩ | ⟨g, cap, cur, he, _, _, hn, _⟩
  · omega
  · exact ⟨g, cap, he, hn⟩
set_option maxHeartbeats 4000000 in
set_option maxRecDepth 100000 in
theorem impl_SortLectic.calls (A0 : Option Addr) (c0 : Nat) (l0 : List Int) (r : List Int) (w : World) (hr0 : Kd.C (Kd.int .i64) w A0 l0.length l0) (hc0 : l0.length ≤ c0) (htab : Tab64 w) (h : impl_SortLectic.f l0 = some r) :
    Calls Tryd.prog 87 #[.slice A0 l0.length c0] w fun e w' => ∃ v0_ : Value, e = .returned (v0_) ∧ Kd.R (Kd.int .i64) 3 w' w.heap.size (fun _ => True) v0_ r ∧ Below w.heap.size w w' := by
  unfold impl_SortLectic.f at h
  by_cases hq : l0.all Pu.isAny = true ∧ l0.Nodup ∧ 0 < l0.length
  · rw [if_pos hq] at h
    obtain rfl := Option.some.inj h
    obtain ⟨hall, hnd, hpos⟩ := hq
    rw [List.all_eq_true] at hall
    have hcast : l0 = Pu.cast (l0.map Int.toNat) := Pu.cast_of fun x hx => by have := hall x hx; unfold Pu.isAny at this; rw [decide_eq_true_iff] at this; exact this.1
    generalize l0.map Int.toNat = R at hcast ⊢
    subst hcast
    rw [Pu.cast_length] at hr0 hc0 hpos ⊢
    have hR : ∀ x ∈ R, x < 256 := fun x hx => by
      have := hall (x : Int) (List.mem_map.2 ⟨x, hx, rfl⟩)
      unfold Pu.isAny at this
      rw [decide_eq_true_iff] at this
      omega
    have hndR : R.Nodup := nodup_cast hnd
    have hlen : R.length ≤ 256 := Pu.nodup_le 256 R hndR hR
    have eg : ∀ args w, (callFunc 109 args).run Tryd.prog w = .ok (.enter 109 args) w := enters_of Tryd.func109 (by kernel_rfl) rfl
    have hany : (Pu.cast R).any (fun x => !Pu.isAny x) = false := by
      rw [List.any_eq_false]
      intro x hx
      rw [hall x hx]; decide
    have h0 := ContainsFunc_int 109 #[] eg A0 c0 (Pu.cast R) (fun x => !Pu.isAny x) w (by rw [Pu.cast_length]; exact hr0) (fun W x hb => (impl_SortLectic_1.calls x _ W (sl1_val x)).mono fun e w' ⟨he, q, hw⟩ => ⟨he, by rw [hw]; exact pw_below_drewN (Below.refl _ _) q⟩)
    rw [hany, Pu.cast_length] at h0
    have hcl : slices_Clone_int.f (Pu.cast R) = some (Pu.cast R) := by unfold slices_Clone_int.f; rw [if_pos (by rw [Pu.cast_length]; omega)]
    have hclone := fun W hr => slices_Clone_int.calls A0 c0 (Pu.cast R) (Pu.cast R) W (by rw [Pu.cast_length]; exact hr) (by rw [Pu.cast_length]; exact hc0) hcl
    rw [Pu.cast_length] at hclone
    have hlecL : (Pu.cast (lecOf R)).length = R.length := by rw [Pu.cast_length, lecOf_length hR hndR]
    have hndL : (Pu.cast (lecOf R)).Nodup := cast_nodup (lecF_nodup _)
    have hcompact := fun g c W hb ho => compact_at g c (Pu.cast (lecOf R)) (by omega) hndL (by omega) w W hb ho
    rw [hlecL] at hcompact
    have hsort := fun g c W hb ho => sort_at g c R hpos hR hndR w W htab hb ho
    have HR0 := Aside0.mk hr0
    have HS := Aside0.mk hsort
    have HCP := Aside0.mk hcompact
    have HCL := Aside0.mk hclone
    have HPOS : Aside0 (0 < (Pu.cast R).length) := ⟨by rw [Pu.cast_length]; exact hpos⟩
    have HLEN : Aside0 ((Pu.cast R).length = R.length) := ⟨Pu.cast_length R⟩
    clear hr0 hsort hcompact hclone hcl hlecL hndL hlen hR hndR hall hnd hany hpos htab hc0
    go_enter Tryd.func87, Tryd.ntmps87
    go_wp2_with (first | (go_at_call 79; refine h0.mono ?_; rintro e w1 ⟨rfl, hb1⟩; have HB1 := Aside0.mk hb1; clear hb1) | (go_at_call 110; refine (HCL.out _ (Kd.C_below HR0.out HB1.out)).mono ?_; rintro e w2 ⟨v, rfl, hR2, hB2⟩; obtain ⟨g, c, hv, hgc⟩ := R_form_int hR2 HPOS.out; rw [HLEN.out] at hv hgc; subst hv; have HO2 := Aside0.mk (Kd.R_lower hR2 (below_size HB1.out)); have HB2 := Aside0.mk (below_step HB1.out hB2); clear hR2 hB2 hgc) | (go_at_call 111; refine (HS.out _ _ _ HB2.out HO2.out).mono ?_; rintro e w3 ⟨rfl, hR3, hB3⟩; have HO3 := Aside0.mk hR3; have HB3 := Aside0.mk hB3; clear hR3 hB3) | (go_at_call 114; refine (HCP.out _ _ _ HB3.out HO3.out).mono ?_; rintro e w4 ⟨rfl, hR4, hB4⟩; have HO4 := Aside0.mk hR4; have HB4 := Aside0.mk hB4; clear hR4 hB4))
    go_ret
    exact ⟨_, rfl, HO4.out, HB4.out⟩
  · rw [if_neg hq] at h
    cases h
end Go.Proofs.YtbflblmkdnhboaaDoor.Pr
