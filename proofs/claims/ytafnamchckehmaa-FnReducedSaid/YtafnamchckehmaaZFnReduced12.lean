/- What the law needs of the program's functions as plain functions, of the proofs that their calls answer so, and of plain laws: gathered by a program of this place (pack.py) out of its printed texts. No condition beyond what each statement says. -/
import Derived.Test.YtafnamchckehmaaZFnReduced2
import Derived.Test.YtafnamchckehmaaZFnReduced5
import Derived.Test.YtafnamchckehmaaZFnReduced11
import Derived.Test.YtafnamchckehmaaZFnReduced10
namespace Go.Proofs.Ytafnamchckehmaa.Pr
open Go.RowKit Go.Proofs.YtafnamchckehmaaW.PrintWords Go.Proofs.YtafnamchckehmaaW.PrintLast Go.Proofs.YtafnamchckehmaaW.PrintMore
attribute [local go_sem] max2_int min2_int max_two min_two max_three min_three max_four min_four
set_option linter.unusedVariables false
set_option linter.unusedSimpArgs false
theorem bnd14_ {α β : Type} {o : Option α} {f : α → Option β} {r : β} (h : o.bind f = some r) : ∃ a, Aside0 (o = some a) ∧ f a = some r := by
 obtain ⟨a, h1, h2⟩ := Option.bind_eq_some_iff.mp h
 exact ⟨a, ⟨h1⟩, h2⟩
theorem q14_1 {P : Prop} (h : P := by repeat (first | (with_reducible first | exact HB.out | apply below_alloc | apply pw_below_drewN | apply below_drew1 | refine below_set ?_ GE501.out | refine below_set ?_ GE502.out) | exact HB.out)) : P := h
theorem q14_3 {P : Prop} (h : P := by repeat (first | (with_reducible first | exact HB.out | apply below_alloc | apply pw_below_drewN | apply below_drew1 | refine below_set ?_ GE501.out) | exact HB.out)) : P := h
theorem q14_6 {P : Prop} (h : P := by (with_reducible repeat (first | refine blk_drewN ?_ _ | refine blk_drew ?_ | refine blk_alloc ?_ _)); exact BK501.out) : P := h
theorem q14_7 {P : Prop} (h : P := by (with_reducible repeat (first | refine blk_drewN ?_ _ | refine blk_drew ?_ | refine blk_alloc ?_ _)); exact BK502.out) : P := h
def impl_DropAttributes.f (k : Nat) (a0_0 : Int) (l0_1 : List Int) (a1 : Int) : Option (Int × List Int × Bool) := (impl_areAttributes.f a0_0 l0_1 a1).bind fun t503 => (if t503 = true then ((impl_without.f k a0_0 l0_1 0 a1).bind fun bt504 => (some (bt504.1, bt504.2, true))) else (some (0, ([] : List Int), false)))
set_option maxHeartbeats 8000000 in
set_option maxRecDepth 100000 in
theorem impl_DropAttributes.calls (k : Nat) (a0_0 : Int) (A0_1 : Option Addr) (c0_1 : Nat) (l0_1 : List Int) (a1 : Int) (r1 : Int) (r2 : List Int) (r3 : Bool) (w : World) (hr0_1 : Kd.C (Kd.int .i64) w A0_1 l0_1.length l0_1) (hc0_1 : l0_1.length ≤ c0_1) (h : impl_DropAttributes.f k a0_0 l0_1 a1 = some (r1, r2, r3)) :
  Calls Try.prog 32 #[.agg #[.int .i64 a0_0, .slice A0_1 l0_1.length c0_1], .int .i64 a1] w fun e w' => ∃ v1_ : Value, e = .returned (.tuple #[.agg #[.int .i64 r1, v1_], .bool r3]) ∧ Kd.R (Kd.int .i64) 3 w' w.heap.size (fun _ => True) v1_ r2 ∧ Below w.heap.size w w' := by
 have hu26 := Try.underlying26; have HR0_1 := Aside0.mk hr0_1; have HC0_1 := Aside0.mk hc0_1; clear hr0_1 hc0_1; have HB := Aside0.mk (Below.refl w.heap.size w); have H := h; clear h; unfold impl_DropAttributes.f at H; obtain ⟨t503, A3, H⟩ := bnd14_ H
 by_cases c4 : t503 = true
 ·
  subst c4; rw [if_pos rfl] at H; obtain ⟨⟨t504, t505⟩, A5, H⟩ := bnd14_ H; dsimp only at H
  simp only [Option.some.injEq, Prod.mk.injEq] at H
  obtain ⟨rfl, rfl, rfl⟩ := H
  go_enter Try.func32, Try.ntmps32
  go_wp2_with (first | (refine be_ 2 #[.int .i64 a0_0, .slice A0_1 l0_1.length c0_1] 26 ?_; intro gb501 hg w6 hbox hb; have n_ := ac_ (below_step s1_ hb) <| ac_ (hbox) <| ac_ ((gz_ w hg s1_)) <| Aside0.mk ((gz_ w hg s1_)); clear HB; obtain ⟨HB, BK501, GW501, GE501⟩ := n_; clear hb hbox hg) | (refine be_ 4 #[.int .i64 0, .slice none 0 0] 26 ?_; intro gb502 hg w7 hbox hb; have n_ := ac_ (blk_below (g := gb501) (o := .cells #[.int .i64 a0_0, .slice A0_1 l0_1.length c0_1] 26 (0, 0)) q14_6 hb) <| ac_ (below_step q14_3 hb) <| ac_ (hbox) <| ac_ ((gz_ w hg q14_3)) <| ac_ ((gz_ w hg q14_3)) <| ac_ ((nl_ hg (blk_lt (g := gb501) (o := .cells #[.int .i64 a0_0, .slice A0_1 l0_1.length c0_1] 26 (0, 0)) q14_6))) <| Aside0.mk ((ng_ hg (blk_lt (g := gb501) (o := .cells #[.int .i64 a0_0, .slice A0_1 l0_1.length c0_1] 26 (0, 0)) q14_6))); clear BK501 HB; obtain ⟨BK501, HB, BK502, GW502, GE502, NB501_502, NB502_501⟩ := n_; clear hb hbox hg; have hnb8 := NB501_502.out; have hnc8 := NB502_501.out; have hcz9_0 : w7.cell? ⟨gb501, 0, none⟩ = some (.int .i64 a0_0) := (blk_cell BK501.out 0).trans rfl; have hcz9_1 : w7.cell? ⟨gb501, 1, none⟩ = some (.slice A0_1 l0_1.length c0_1) := (blk_cell BK501.out 1).trans rfl; have hfz9_0 := blk_frozen BK501.out 0; have hfz9_1 := blk_frozen BK501.out 1) | (refine gL_ 69 8 Try.func69 #[.agg #[.int .i64 a0_0, .slice A0_1 l0_1.length c0_1], .int .i64 a1] ?_; (with_reducible refine (impl_areAttributes.calls a0_0 _ _ l0_1 a1 true _ ?side1 ?side2 A3.out).mono ?_); (case side1 => exact s3_); (case side2 => exact HC0_1.out); rintro e w10 ⟨rfl, hb⟩; refine ⟨_, rfl, ?_⟩; have n_ := ac_ (blk_below (g := gb501) (o := .cells #[.int .i64 a0_0, .slice A0_1 l0_1.length c0_1] 26 (0, 0)) q14_6 hb) <| ac_ (blk_below (g := gb502) (o := .cells #[.int .i64 0, .slice none 0 0] 26 (0, 0)) q14_7 hb) <| Aside0.mk (below_step q14_1 hb); clear BK501 BK502 HB; obtain ⟨BK501, BK502, HB⟩ := n_; (try clear hb); have hcz11_0 : w10.cell? ⟨gb501, 0, none⟩ = some (.int .i64 a0_0) := (blk_cell BK501.out 0).trans rfl; have hcz11_1 : w10.cell? ⟨gb501, 1, none⟩ = some (.slice A0_1 l0_1.length c0_1) := (blk_cell BK501.out 1).trans rfl; have hfz11_0 := blk_frozen BK501.out 0; have hfz11_1 := blk_frozen BK501.out 1) | (refine gL_ 60 13 Try.func60 #[.agg #[.int .i64 a0_0, .slice A0_1 l0_1.length c0_1], .int .i64 0, .int .i64 a1] ?_; (with_reducible refine (impl_without.calls k a0_0 _ _ l0_1 0 a1 t504 t505 _ ?side1 ?side2 A5.out).mono ?_); (case side1 => exact s3_); (case side2 => exact HC0_1.out); rintro e w12 ⟨v506, rfl, ho0, hb⟩; refine ⟨_, rfl, ?_⟩; have n_ := ac_ (Kd.R_lower ho0 (below_size q14_1)) <| ac_ (blk_below (g := gb501) (o := .cells #[.int .i64 a0_0, .slice A0_1 l0_1.length c0_1] 26 (0, 0)) q14_6 hb) <| ac_ (blk_below (g := gb502) (o := .cells #[.int .i64 0, .slice none 0 0] 26 (0, 0)) q14_7 hb) <| Aside0.mk (below_step q14_1 hb); clear BK501 BK502 HB; obtain ⟨HO507, BK501, BK502, HB⟩ := n_; (try clear hb ho0); have hcz13_0 : w12.cell? ⟨gb502, 0, none⟩ = some (.int .i64 0) := (blk_cell BK502.out 0).trans rfl; have hcz13_1 : w12.cell? ⟨gb502, 1, none⟩ = some (.slice none 0 0) := (blk_cell BK502.out 1).trans rfl; have hfz13_0 := blk_frozen BK502.out 0; have hfz13_1 := blk_frozen BK502.out 1; obtain ⟨Ao14, co14, eo14⟩ := Kd.R_slice HO507.out; subst eo14))
  refine bodyPost_ret (results_ct rfl _ _ gb502 26 #[.int .i64 t504, .slice Ao14 t505.length co14] (0, 0) _ rfl (by (with_reducible repeat (first | refine blk_drewN ?_ _ | refine blk_drew ?_ | refine blk_alloc ?_ _)); refine blk_put (cs := #[.int .i64 t504, .slice none 0 0]) ?_ 1 _ rfl; (with_reducible repeat (first | refine blk_drewN ?_ _ | refine blk_drew ?_ | refine blk_alloc ?_ _)); refine blk_put (cs := #[.int .i64 0, .slice none 0 0]) ?_ 0 _ rfl; (with_reducible repeat (first | refine blk_drewN ?_ _ | refine blk_drew ?_ | refine blk_alloc ?_ _)); exact BK502.out) Try.underlying26 rfl (by kernel_rfl)) rfl ?_
  exact ⟨_, (by first | rfl | (simp [errW_none, errW_some] <;> rfl) | (simp [*, errW_none, errW_some] <;> rfl)), (by (with_reducible repeat (first | apply Kd.R_alloc | apply Kd.R_drewN | apply Kd.R_drew)); exact Kd.R_mono (Kd.R_far (p := ⟨gb502, 1, none⟩) (Kd.R_far (p := ⟨gb502, 0, none⟩) (Kd.R_types HO507.out BK502.out (by decide)) (fun _ hk => hk.2) (.int .i64 t504)) (fun _ hk => hk.2) (.slice Ao14 t505.length co14)) (fun _ hk => trivial)), q14_1⟩
 ·
  replace c4 := Bool.eq_false_iff.mpr c4; subst c4
  rw [if_neg (show ¬ (false = true) by decide)] at H
  simp only [Option.some.injEq, Prod.mk.injEq] at H
  obtain ⟨rfl, rfl, rfl⟩ := H
  go_enter Try.func32, Try.ntmps32
  go_wp2_with (first | (refine be_ 2 #[.int .i64 a0_0, .slice A0_1 l0_1.length c0_1] 26 ?_; intro gb501 hg w15 hbox hb; have n_ := ac_ (below_step s1_ hb) <| ac_ (hbox) <| ac_ ((gz_ w hg s1_)) <| Aside0.mk ((gz_ w hg s1_)); clear HB; obtain ⟨HB, BK501, GW501, GE501⟩ := n_; clear hb hbox hg) | (refine be_ 4 #[.int .i64 0, .slice none 0 0] 26 ?_; intro gb502 hg w16 hbox hb; have n_ := ac_ (blk_below (g := gb501) (o := .cells #[.int .i64 a0_0, .slice A0_1 l0_1.length c0_1] 26 (0, 0)) q14_6 hb) <| ac_ (below_step q14_3 hb) <| ac_ (hbox) <| ac_ ((gz_ w hg q14_3)) <| ac_ ((gz_ w hg q14_3)) <| ac_ ((nl_ hg (blk_lt (g := gb501) (o := .cells #[.int .i64 a0_0, .slice A0_1 l0_1.length c0_1] 26 (0, 0)) q14_6))) <| Aside0.mk ((ng_ hg (blk_lt (g := gb501) (o := .cells #[.int .i64 a0_0, .slice A0_1 l0_1.length c0_1] 26 (0, 0)) q14_6))); clear BK501 HB; obtain ⟨BK501, HB, BK502, GW502, GE502, NB501_502, NB502_501⟩ := n_; clear hb hbox hg; have hnb17 := NB501_502.out; have hnc17 := NB502_501.out; have hcz18_0 : w16.cell? ⟨gb501, 0, none⟩ = some (.int .i64 a0_0) := (blk_cell BK501.out 0).trans rfl; have hcz18_1 : w16.cell? ⟨gb501, 1, none⟩ = some (.slice A0_1 l0_1.length c0_1) := (blk_cell BK501.out 1).trans rfl; have hfz18_0 := blk_frozen BK501.out 0; have hfz18_1 := blk_frozen BK501.out 1) | (refine gL_ 69 8 Try.func69 #[.agg #[.int .i64 a0_0, .slice A0_1 l0_1.length c0_1], .int .i64 a1] ?_; (with_reducible refine (impl_areAttributes.calls a0_0 _ _ l0_1 a1 false _ ?side1 ?side2 A3.out).mono ?_); (case side1 => exact s3_); (case side2 => exact HC0_1.out); rintro e w19 ⟨rfl, hb⟩; refine ⟨_, rfl, ?_⟩; have n_ := ac_ (blk_below (g := gb501) (o := .cells #[.int .i64 a0_0, .slice A0_1 l0_1.length c0_1] 26 (0, 0)) q14_6 hb) <| ac_ (blk_below (g := gb502) (o := .cells #[.int .i64 0, .slice none 0 0] 26 (0, 0)) q14_7 hb) <| Aside0.mk (below_step q14_1 hb); clear BK501 BK502 HB; obtain ⟨BK501, BK502, HB⟩ := n_; (try clear hb); have hcz20_0 : w19.cell? ⟨gb502, 0, none⟩ = some (.int .i64 0) := (blk_cell BK502.out 0).trans rfl; have hcz20_1 : w19.cell? ⟨gb502, 1, none⟩ = some (.slice none 0 0) := (blk_cell BK502.out 1).trans rfl; have hfz20_0 := blk_frozen BK502.out 0; have hfz20_1 := blk_frozen BK502.out 1))
  refine bodyPost_ret (results_ct rfl _ _ gb502 26 #[.int .i64 0, .slice none 0 0] (0, 0) _ rfl (by (with_reducible repeat (first | refine blk_drewN ?_ _ | refine blk_drew ?_ | refine blk_alloc ?_ _)); refine blk_put (cs := #[.int .i64 0, .slice none 0 0]) ?_ 1 _ rfl; (with_reducible repeat (first | refine blk_drewN ?_ _ | refine blk_drew ?_ | refine blk_alloc ?_ _)); refine blk_put (cs := #[.int .i64 0, .slice none 0 0]) ?_ 0 _ rfl; (with_reducible repeat (first | refine blk_drewN ?_ _ | refine blk_drew ?_ | refine blk_alloc ?_ _)); exact BK502.out) Try.underlying26 rfl (by kernel_rfl)) rfl ?_
  exact ⟨_, (by first | rfl | (simp [errW_none, errW_some] <;> rfl) | (simp [*, errW_none, errW_some] <;> rfl)), (by first | exact Kd.R_nil _ _ _ _ _ | exact Kd.N_nil _ _ _ _ _ | exact Kd.V_nil _ _ _ _ _ | exact Kd.Q_nil _ _ _ _ _ | exact Kd.S_nil _ _ _ _ _), q14_1⟩
end Go.Proofs.Ytafnamchckehmaa.Pr
namespace Go.Proofs.Ytafnamchckehmaa.Pr
open Go.RowKit Go.Proofs.YtafnamchckehmaaW.PrintWords Go.Proofs.YtafnamchckehmaaW.PrintLast Go.Proofs.YtafnamchckehmaaW.PrintMore
set_option linter.unusedVariables false
theorem pow_wrap (e : Nat) (he : e ≤ 8) : wrap64 ((2 : Int) ^ e) = ((2 ^ e : Nat) : Int) := by
  have h : e = 0 ∨ e = 1 ∨ e = 2 ∨ e = 3 ∨ e = 4 ∨ e = 5 ∨ e = 6 ∨ e = 7 ∨ e = 8 := by omega
  rcases h with rfl | rfl | rfl | rfl | rfl | rfl | rfl | rfl | rfl <;> decide +kernel
def FnBelow (g : Nat) (lb : Array Value) (n : Nat) (p : Nat → Bool) (w : World) : Prop :=
  ∀ (W : World) (x : Nat), x < n → Below w.heap.size w W → Calls Try.prog g (#[.int .i64 (x : Int)] ++ lb) W fun e w' => e = .returned (.bool (p x)) ∧ Below W.heap.size W w'
set_option maxHeartbeats 4000000 in
set_option maxRecDepth 100000 in
theorem accepted_calls (g : Nat) (lb : Array Value) (eg : ∀ args w, (callFunc g args).run Try.prog w = .ok (.enter g args) w) (n : Nat) (hn : n ≤ 8) (p : Nat → Bool) (w : World) (hp : FnBelow g lb n p w) :
    Calls Try.prog 46 #[.int .i64 (n : Int), .func (.func g) #[] lb] w fun e w' => e = .returned (.int .i64 ((Pu.ofBits p n : Nat) : Int)) ∧ Below w.heap.size w w' := by
  have HP := Aside0.mk hp
  have HN := Aside0.mk hn
  clear hp
  go_enter Try.func46, Try.ntmps46
  go_wp2
  go_loopg [5, 6, 8] (n + 1) (fun kq v5 _ v8 w' => ∃ (x : Nat), v8 = .int .i64 (x : Int) ∧ v5 = .int .i64 ((Pu.ofBits p x : Nat) : Int) ∧ Aside0 (x ≤ n ∧ n - x < kq) ∧ Aside0 (Below w.heap.size w w'))
  case atStart => exact ⟨0, rfl, rfl, ⟨by omega⟩, ⟨Below.refl _ _⟩⟩
  case round =>
    obtain ⟨x, rfl, rfl, HX, HB⟩ := hrel
    by_cases hlt : x < n
    · have c0 : decide ((x : Int) < (n : Int)) = true := decide_eq_true (by omega)
      have c1 : decide (x < n) = true := decide_eq_true hlt
      have c2 : (x < n) = True := eq_true hlt
      have p0 : ((0 : Int) ≤ (x : Int)) = True := eq_true (by omega)
      have hcall := HP.out wr x hlt HB.out
      have HL := Aside0.mk hlt
      have hw : wrap64 ((x : Int) + 1) = ((x + 1 : Nat) : Int) := by have h1 := HX.out; have h2 := HN.out; unfold wrap64; omega
      have HW := Aside0.mk hw
      clear hw hlt
      cases hq : p x with
      | true =>
        rw [hq] at hcall
        have HQ := Aside0.mk hq
        clear hq
        go_wp2_with (go_at_fn g; refine hcall.mono ?_; rintro e w' ⟨rfl, hb⟩)
        go_roundg (gk - 1)
        case measure => have h1 := HX.out; have h2 := HL.out; omega
        case rel =>
          refine ⟨x + 1, by first | rw [HW.out] | rfl, ?_, ⟨by have h1 := HX.out; have h2 := HL.out; omega⟩, ⟨below_step HB.out hb⟩⟩
          have h1 : Pu.ofBits p x < 2 ^ x := Pu.ofBits_lt p x
          have h2 := HL.out
          have h3 := HN.out
          have h4 : Pu.ofBits p x < 256 := Pu.lt_256 (by omega) h1
          have h5 : 2 ^ x ≤ 2 ^ 7 := Nat.pow_le_pow_right (by decide) (by omega)
          rw [show Pu.ofBits p (x + 1) = Pu.ofBits p x ||| 2 ^ x from by rw [Pu.ofBits, if_pos HQ.out], Nat.min_eq_left (show x ≤ 64 by omega), pow_wrap x (by omega), Pu.or_nat (by omega) (by omega)]
      | false =>
        rw [hq] at hcall
        have HQ := Aside0.mk hq
        clear hq
        go_wp2_with (go_at_fn g; refine hcall.mono ?_; rintro e w' ⟨rfl, hb⟩)
        go_roundg (gk - 1)
        case measure => have h1 := HX.out; have h2 := HL.out; omega
        case rel =>
          refine ⟨x + 1, by first | rw [HW.out] | rfl, ?_, ⟨by have h1 := HX.out; have h2 := HL.out; omega⟩, ⟨below_step HB.out hb⟩⟩
          rw [show Pu.ofBits p (x + 1) = Pu.ofBits p x from by rw [Pu.ofBits, HQ.out, if_neg (by decide), Nat.or_zero]]
    · have c0 : decide ((x : Int) < (n : Int)) = false := decide_eq_false (by omega)
      have c1 : decide (x < n) = false := decide_eq_false hlt
      have c2 : (x < n) = False := eq_false hlt
      have HL := Aside0.mk hlt
      clear hlt
      go_wp2
      go_ret
      have h1 := HX.out
      have h2 := HL.out
      obtain rfl : x = n := by omega
      exact ⟨rfl, HB.out⟩
end Go.Proofs.Ytafnamchckehmaa.Pr
