/- What the law needs of the program's functions as plain functions, of the proofs that their calls answer so, and of plain laws: gathered by a program of this place (pack.py) out of its printed texts. No condition beyond what each statement says. -/
import Derived.Test.YtbflblmkdnhboaaGreatDoorZXIsShortest2
namespace Go.Proofs.YtbflblmkdnhboaaGreatDoor.Pr
open Go.RowKit Go.Proofs.YtbflblmkdnhboaaGreatDoorW.PrintWords Go.Proofs.YtbflblmkdnhboaaGreatDoorW.PrintLast Go.Proofs.YtbflblmkdnhboaaGreatDoorW.PrintMore
attribute [local go_sem] max2_int min2_int max_two min_two max_three min_three max_four min_four
set_option linter.unusedVariables false
set_option linter.unusedSimpArgs false
theorem bnd1_ {α β : Type} {o : Option α} {f : α → Option β} {r : β} (h : o.bind f = some r) : ∃ a, Aside0 (o = some a) ∧ f a = some r := by
 obtain ⟨a, h1, h2⟩ := Option.bind_eq_some_iff.mp h
 exact ⟨a, ⟨h1⟩, h2⟩
def laws_szIntS.f (l0 : List Int) (a1 : Int) : Option (Int) := if (wrap64 (a1 - (l0.length : Int))) < 0 then (some (-1)) else (some (wrap64 (a1 - (l0.length : Int))))
set_option maxHeartbeats 8000000 in
set_option maxRecDepth 100000 in
theorem laws_szIntS.calls (A0 : Option Addr) (c0 : Nat) (l0 : List Int) (a1 : Int) (r : Int) (w : World) (hr0 : Kd.C (Kd.int .i64) w A0 l0.length l0) (hc0 : l0.length ≤ c0) (h : laws_szIntS.f l0 a1 = some r) :
  Calls Tryz.prog 15 #[.slice A0 l0.length c0, .int .i64 a1] w fun e w' => e = .returned (.int .i64 r) ∧ Drawn0 w w' := by
 have HR0 := Aside0.mk hr0; have HC0 := Aside0.mk hc0; clear hr0 hc0; have H := h; clear h; unfold laws_szIntS.f at H
 by_cases c3 : (wrap64 (a1 - (l0.length : Int))) < 0
 ·
  rw [if_pos c3] at H; have c3b0 : decide ((wrap64 (a1 - (l0.length : Int))) < 0) = true := decide_eq_true c3; clear c3; obtain rfl := Option.some.inj H
  go_enter Tryz.func15, Tryz.ntmps15
  go_wp2
  go_ret
  exact ⟨(by first | rfl | (simp; done) | (simp [*]; done) | (simp [i64_w, i32_w]; done)), (by repeat (first | exact Drawn0.refl _ | apply Drawn0.step))⟩
 ·
  rw [if_neg c3] at H; have c3b0 : decide ((wrap64 (a1 - (l0.length : Int))) < 0) = false := decide_eq_false c3; clear c3; obtain rfl := Option.some.inj H
  go_enter Tryz.func15, Tryz.ntmps15
  go_wp2
  go_ret
  exact ⟨(by first | rfl | (simp; done) | (simp [*]; done) | (simp [i64_w, i32_w]; done)), (by repeat (first | exact Drawn0.refl _ | apply Drawn0.step))⟩
theorem q1_2 {P : Prop} (h : P := by repeat (first | (with_reducible first | exact HB.out | apply below_alloc | apply pw_below_drewN | apply below_drew1 | refine below_set ?_ GE101.out) | exact HB.out)) : P := h
def laws_szContext.f (a0_0 : Int) (l0_1 : List Int) (a1 : Int) : Option (Int) := (laws_szIntS.f l0_1 a1).bind fun t102 => (if t102 < 0 then (some (-1)) else (some t102))
set_option maxHeartbeats 8000000 in
set_option maxRecDepth 100000 in
theorem laws_szContext.calls (a0_0 : Int) (A0_1 : Option Addr) (c0_1 : Nat) (l0_1 : List Int) (a1 : Int) (r : Int) (w : World) (hr0_1 : Kd.C (Kd.int .i64) w A0_1 l0_1.length l0_1) (hc0_1 : l0_1.length ≤ c0_1) (h : laws_szContext.f a0_0 l0_1 a1 = some r) :
  Calls Tryz.prog 5 #[.agg #[.int .i64 a0_0, .slice A0_1 l0_1.length c0_1], .int .i64 a1] w fun e w' => e = .returned (.int .i64 r) ∧ Below w.heap.size w w' := by
 have hu24 := Tryz.underlying24; have HR0_1 := Aside0.mk hr0_1; have HC0_1 := Aside0.mk hc0_1; clear hr0_1 hc0_1; have HB := Aside0.mk (Below.refl w.heap.size w); have H := h; clear h; unfold laws_szContext.f at H; obtain ⟨t102, A3, H⟩ := bnd1_ H
 by_cases c4 : t102 < 0
 ·
  rw [if_pos c4] at H; have c4b0 : decide (t102 < 0) = true := decide_eq_true c4; clear c4; obtain rfl := Option.some.inj H
  go_enter Tryz.func5, Tryz.ntmps5
  go_wp2_with (first | ((with_reducible refine gate_dst (N := 2) rfl ?_); refine box_event ?hg (N := 2) ?hd (cs := #[.int .i64 a0_0, .slice A0_1 l0_1.length c0_1]) (t := 24) ?hr ?_; (case hd => rfl); (case hg => rfl); (case hr => first | (go_simp; done) | (go_simp; rfl)); intro gb101 hg w5 hbox hb; have n_ := ac_ (below_step s1_ hb) <| ac_ (hbox) <| ac_ ((by rw [hg]; exact (below_size s1_) : w.heap.size ≤ gb101)) <| Aside0.mk ((by rw [hg]; exact (below_size s1_) : w.heap.size ≤ gb101)); clear HB; obtain ⟨HB, BK101, GW101, GE101⟩ := n_; clear hb hbox hg; have hcz6_0 : w5.cell? ⟨gb101, 0, none⟩ = some (.int .i64 a0_0) := (blk_cell BK101.out 0).trans rfl; have hcz6_1 : w5.cell? ⟨gb101, 1, none⟩ = some (.slice A0_1 l0_1.length c0_1) := (blk_cell BK101.out 1).trans rfl; have hfz6_0 := blk_frozen BK101.out 0; have hfz6_1 := blk_frozen BK101.out 1) | (refine gL_ 15 8 Tryz.func15 #[.slice A0_1 l0_1.length c0_1, .int .i64 a1] ?_; (with_reducible refine (laws_szIntS.calls _ _ l0_1 a1 t102 _ ?side1 ?side2 A3.out).mono ?_); (case side1 => exact s2_); (case side2 => exact HC0_1.out); rintro e w' ⟨rfl, ⟨nd, rfl⟩⟩; refine ⟨_, rfl, ?_⟩))
  go_ret
  exact ⟨(by first | rfl | (simp [errW_none, errW_some] <;> rfl) | (simp [*, errW_none, errW_some] <;> rfl)), q1_2⟩
 ·
  rw [if_neg c4] at H; have c4b0 : decide (t102 < 0) = false := decide_eq_false c4; clear c4; obtain rfl := Option.some.inj H
  go_enter Tryz.func5, Tryz.ntmps5
  go_wp2_with (first | ((with_reducible refine gate_dst (N := 2) rfl ?_); refine box_event ?hg (N := 2) ?hd (cs := #[.int .i64 a0_0, .slice A0_1 l0_1.length c0_1]) (t := 24) ?hr ?_; (case hd => rfl); (case hg => rfl); (case hr => first | (go_simp; done) | (go_simp; rfl)); intro gb101 hg w7 hbox hb; have n_ := ac_ (below_step s1_ hb) <| ac_ (hbox) <| ac_ ((by rw [hg]; exact (below_size s1_) : w.heap.size ≤ gb101)) <| Aside0.mk ((by rw [hg]; exact (below_size s1_) : w.heap.size ≤ gb101)); clear HB; obtain ⟨HB, BK101, GW101, GE101⟩ := n_; clear hb hbox hg; have hcz8_0 : w7.cell? ⟨gb101, 0, none⟩ = some (.int .i64 a0_0) := (blk_cell BK101.out 0).trans rfl; have hcz8_1 : w7.cell? ⟨gb101, 1, none⟩ = some (.slice A0_1 l0_1.length c0_1) := (blk_cell BK101.out 1).trans rfl; have hfz8_0 := blk_frozen BK101.out 0; have hfz8_1 := blk_frozen BK101.out 1) | (refine gL_ 15 8 Tryz.func15 #[.slice A0_1 l0_1.length c0_1, .int .i64 a1] ?_; (with_reducible refine (laws_szIntS.calls _ _ l0_1 a1 t102 _ ?side1 ?side2 A3.out).mono ?_); (case side1 => exact s2_); (case side2 => exact HC0_1.out); rintro e w' ⟨rfl, ⟨nd, rfl⟩⟩; refine ⟨_, rfl, ?_⟩))
  go_ret
  exact ⟨(by first | rfl | (simp [errW_none, errW_some] <;> rfl) | (simp [*, errW_none, errW_some] <;> rfl)), q1_2⟩
def laws_szRuleS.f (l0 : List (S45)) (a1 : Int) : Option (Int) := if (wrap64 (a1 - (l0.length : Int))) < 0 then (some (-1)) else (some (wrap64 (a1 - (l0.length : Int))))
set_option maxHeartbeats 8000000 in
set_option maxRecDepth 100000 in
theorem laws_szRuleS.calls (A0 : Option Addr) (c0 : Nat) (l0 : List (S45)) (a1 : Int) (r : Int) (w : World) (hr0 : Kd.C k45 w A0 l0.length l0) (hc0 : l0.length ≤ c0) (h : laws_szRuleS.f l0 a1 = some r) :
  Calls Tryz.prog 6 #[.slice A0 l0.length c0, .int .i64 a1] w fun e w' => e = .returned (.int .i64 r) ∧ Drawn0 w w' := by
 have HR0 := Aside0.mk hr0; have HC0 := Aside0.mk hc0; clear hr0 hc0; have H := h; clear h; unfold laws_szRuleS.f at H
 by_cases c3 : (wrap64 (a1 - (l0.length : Int))) < 0
 ·
  rw [if_pos c3] at H; have c3b0 : decide ((wrap64 (a1 - (l0.length : Int))) < 0) = true := decide_eq_true c3; clear c3; obtain rfl := Option.some.inj H
  go_enter Tryz.func6, Tryz.ntmps6
  go_wp2
  go_ret
  exact ⟨(by first | rfl | (simp; done) | (simp [*]; done) | (simp [i64_w, i32_w]; done)), (by repeat (first | exact Drawn0.refl _ | apply Drawn0.step))⟩
 ·
  rw [if_neg c3] at H; have c3b0 : decide ((wrap64 (a1 - (l0.length : Int))) < 0) = false := decide_eq_false c3; clear c3; obtain rfl := Option.some.inj H
  go_enter Tryz.func6, Tryz.ntmps6
  go_wp2
  go_ret
  exact ⟨(by first | rfl | (simp; done) | (simp [*]; done) | (simp [i64_w, i32_w]; done)), (by repeat (first | exact Drawn0.refl _ | apply Drawn0.step))⟩
def spec_l1In.f (a0 : Int) (a1 : Int) (a2 : Int) : Option (Bool) := if a0 ≥ a1 then (some (decide (a0 ≤ a2))) else (some false)
set_option maxHeartbeats 8000000 in
set_option maxRecDepth 100000 in
theorem spec_l1In.calls (a0 : Int) (a1 : Int) (a2 : Int) (r : Bool) (w : World) (h : spec_l1In.f a0 a1 a2 = some r) :
  Calls Tryz.prog 34 #[.int .i64 a0, .int .i64 a1, .int .i64 a2] w fun e w' => e = .returned (.bool r) ∧ Drawn0 w w' := by
 have H := h; clear h; unfold spec_l1In.f at H
 by_cases c4 : a0 ≥ a1
 ·
  rw [if_pos c4] at H; have c4b0 : decide (a1 ≤ a0) = true := decide_eq_true c4; clear c4; obtain rfl := Option.some.inj H
  go_enter Tryz.func34, Tryz.ntmps34
  go_wp2
  go_ret
  exact ⟨(by first | rfl | (simp; done) | (simp [*]; done) | (simp [i64_w, i32_w]; done)), (by repeat (first | exact Drawn0.refl _ | apply Drawn0.step))⟩
 ·
  rw [if_neg c4] at H; have c4b0 : decide (a1 ≤ a0) = false := decide_eq_false c4; clear c4; obtain rfl := Option.some.inj H
  go_enter Tryz.func34, Tryz.ntmps34
  go_wp2
  go_ret
  exact ⟨(by first | rfl | (simp; done) | (simp [*]; done) | (simp [i64_w, i32_w]; done)), (by repeat (first | exact Drawn0.refl _ | apply Drawn0.step))⟩
def spec_IsSet.f (a0 : Int) (a1 : Int) : Option (Bool) := (spec_l1In.f a0 0 8).bind fun t103 => (if t103 = true then (if 0 ≤ (IntKind.u64.wrap (a0)) then ((spec_l1In.f a1 0 (wrap64 ((shl .i64 1 (IntKind.u64.wrap (a0))) - 1))).bind fun t104 => (some t104)) else (none)) else (some false))
set_option maxHeartbeats 8000000 in
set_option maxRecDepth 100000 in
theorem spec_IsSet.calls (a0 : Int) (a1 : Int) (r : Bool) (w : World) (h : spec_IsSet.f a0 a1 = some r) :
  Calls Tryz.prog 33 #[.int .i64 a0, .int .i64 a1] w fun e w' => e = .returned (.bool r) ∧ Drawn0 w w' := by
 have H := h; clear h; unfold spec_IsSet.f at H; obtain ⟨t103, A3, H⟩ := bnd1_ H
 by_cases c4 : t103 = true
 ·
  subst c4; rw [if_pos rfl] at H; obtain ⟨ji5, hji5⟩ : ∃ j_ : Int, (IntKind.u64.wrap (a0)) = j_ := ⟨_, rfl⟩
  replace H : (if 0 ≤ (ji5) then ((spec_l1In.f a1 0 (wrap64 ((shl .i64 1 (ji5)) - 1))).bind fun t104 => (some t104)) else (none)) = some r := by first | (rw [hji5] at H; exact H) | (simp only [hji5] at H ⊢; exact H)
  (try rw [hji5] at A3)
  by_cases c6 : 0 ≤ (ji5)
  ·
   rw [if_pos c6] at H; have c6b0 := eq_true c6; have c6b1 : decide (0 ≤ (ji5)) = true := decide_eq_true c6; clear c6; obtain ⟨ji7, hji7⟩ : ∃ j_ : Int, (shl .i64 1 (ji5)) = j_ := ⟨_, rfl⟩
   replace H : ((spec_l1In.f a1 0 (wrap64 ((ji7) - 1))).bind fun t104 => (some t104)) = some r := by first | (rw [hji7] at H; exact H) | (simp only [hji7] at H ⊢; exact H)
   (try rw [hji7] at A3)
   have hji7_ : (IntKind.i64.wrap (1 * 2 ^ min (ji5).toNat 64)) = ji7 := hji7; have hji7z : (ji5) ≤ 64 → (IntKind.i64.wrap (1 * 2 ^ (ji5).toNat)) = ji7 := shl_small hji7
   have hji7u : (IntKind.i64.wrap (2 ^ min (ji5).toNat 64)) = ji7 := by have h_ := hji7_; rw [Int.one_mul] at h_; exact h_
   have hji7v : (ji5) ≤ 64 → (IntKind.i64.wrap (2 ^ (ji5).toNat)) = ji7 := fun hle_ => by have h_ := hji7z hle_; rw [Int.one_mul] at h_; exact h_
   have hji7y : (wrap64 (1 * 2 ^ min (ji5).toNat 64)) = ji7 := (i64_w _).symm.trans hji7_
   have hji7x : (ji5) ≤ 64 → (wrap64 (1 * 2 ^ (ji5).toNat)) = ji7 := fun h_ => (i64_w _).symm.trans (hji7z h_)
   obtain ⟨t104, A8, H⟩ := bnd1_ H; obtain rfl := Option.some.inj H
   go_enter Tryz.func33, Tryz.ntmps33
   go_wp2_with (first | (refine gL_ 34 6 Tryz.func34 #[.int .i64 a0, .int .i64 0, .int .i64 8] ?_; (with_reducible refine (spec_l1In.calls a0 0 8 true _ A3.out).mono ?_); rintro e w' ⟨rfl, ⟨nd, rfl⟩⟩; refine ⟨_, rfl, ?_⟩) | (go_at_call 34; (with_reducible refine (spec_l1In.calls a1 0 (wrap64 ((ji7) - 1)) t104 _ A8.out).mono ?_); rintro e w' ⟨rfl, ⟨nd, rfl⟩⟩))
   go_ret
   exact ⟨(by first | rfl | (simp; done) | (simp only [← hji5, ← hji7] <;> (first | rfl | simp)) | (simp [*]; done)), (by repeat (first | exact Drawn0.refl _ | apply Drawn0.step))⟩
  ·
   rw [if_neg c6] at H
   exact absurd H (by simp)
 ·
  replace c4 := Bool.eq_false_iff.mpr c4; subst c4
  rw [if_neg (show ¬ (false = true) by decide)] at H
  obtain rfl := Option.some.inj H
  go_enter Tryz.func33, Tryz.ntmps33
  go_wp2_with (first | (refine gL_ 34 6 Tryz.func34 #[.int .i64 a0, .int .i64 0, .int .i64 8] ?_; (with_reducible refine (spec_l1In.calls a0 0 8 false _ A3.out).mono ?_); rintro e w' ⟨rfl, ⟨nd, rfl⟩⟩; refine ⟨_, rfl, ?_⟩))
  go_ret
  exact ⟨(by first | rfl | (simp; done) | (simp [*]; done) | (simp [i64_w, i32_w]; done)), (by repeat (first | exact Drawn0.refl _ | apply Drawn0.step))⟩
theorem q1_6 {P : Prop} (h : P := by repeat (first | (with_reducible first | exact HB.out | apply below_alloc | apply pw_below_drewN | apply below_drew1 | refine below_set ?_ GE105.out) | exact HB.out)) : P := h
theorem q1_8 {P : Prop} (h : P := by (with_reducible repeat (first | refine blk_drewN ?_ _ | refine blk_drew ?_ | refine blk_alloc ?_ _)); exact BK105.out) : P := h
def spec_IsContext.l0 : Nat → Int → Int → List Int → Option (Bool)
 | 0, _, _, _ => none
 | k + 1, x3, x106000, x106001 => if x3 < (x106001.length : Int) then (if 0 ≤ x3 then ((spec_IsSet.f x106000 (rd x106001 x3)).bind fun t107 => (if t107 = true then (spec_IsContext.l0 k (wrap64 (x3 + 1)) x106000 x106001) else (some false))) else (none)) else ((spec_l1In.f x106000 0 6).bind fun t108 => (if t108 = true then (some (decide ((x106001.length : Int) ≤ 8))) else (some false)))
def spec_IsContext.f (k : Nat) (a0_0 : Int) (l0_1 : List Int) : Option (Bool) := spec_IsContext.l0 k 0 a0_0 l0_1
set_option maxHeartbeats 8000000 in
set_option maxRecDepth 100000 in
theorem spec_IsContext.calls (k : Nat) (a0_0 : Int) (A0_1 : Option Addr) (c0_1 : Nat) (l0_1 : List Int) (r : Bool) (w : World) (hr0_1 : Kd.C (Kd.int .i64) w A0_1 l0_1.length l0_1) (hc0_1 : l0_1.length ≤ c0_1) (h : spec_IsContext.f k a0_0 l0_1 = some r) :
  Calls Tryz.prog 16 #[.agg #[.int .i64 a0_0, .slice A0_1 l0_1.length c0_1]] w fun e w' => e = .returned (.bool r) ∧ Below w.heap.size w w' := by
 have hu29 := Tryz.underlying29; have HR0_1 := Aside0.mk hr0_1; have HC0_1 := Aside0.mk hc0_1; clear hr0_1 hc0_1; have HB := Aside0.mk (Below.refl w.heap.size w); have H := h; clear h; unfold spec_IsContext.f at H; have H' := Aside0.mk H; clear H
 go_enter Tryz.func16, Tryz.ntmps16
 go_wp2_with (first | ((with_reducible refine gate_dst (N := 1) rfl ?_); (try (refine gate_guard (by rfl) ?_; dsimp only)); refine box_event ?hg (N := 1) ?hd (cs := #[.int .i64 a0_0, .slice A0_1 l0_1.length c0_1]) (t := 29) ?hr ?_; (case hd => rfl); (case hg => rfl); (case hr => first | (go_simp; done) | (go_simp; rfl)); intro gb105 hg w2 hbox hb; have n_ := ac_ (below_step s1_ hb) <| ac_ (hbox) <| ac_ ((by rw [hg]; exact (below_size s1_) : w.heap.size ≤ gb105)) <| Aside0.mk ((by rw [hg]; exact (below_size s1_) : w.heap.size ≤ gb105)); clear HB; obtain ⟨HB, BK105, GW105, GE105⟩ := n_; clear hb hbox hg))
 repeat (go_quiet (first | ((with_reducible refine gate_dst (N := 1) rfl ?_); (try (refine gate_guard (by rfl) ?_; dsimp only)); refine box_event ?hg (N := 1) ?hd (cs := #[.int .i64 a0_0, .slice A0_1 l0_1.length c0_1]) (t := 29) ?hr ?_; (case hd => rfl); (case hg => rfl); (case hr => first | (go_simp; done) | (go_simp; rfl)); intro gb105 hg w2 hbox hb; have n_ := ac_ (below_step s1_ hb) <| ac_ (hbox) <| ac_ ((by rw [hg]; exact (below_size s1_) : w.heap.size ≤ gb105)) <| Aside0.mk ((by rw [hg]; exact (below_size s1_) : w.heap.size ≤ gb105)); clear HB; obtain ⟨HB, BK105, GW105, GE105⟩ := n_; clear hb hbox hg)); try go_wp2_with (first | ((with_reducible refine gate_dst (N := 1) rfl ?_); (try (refine gate_guard (by rfl) ?_; dsimp only)); refine box_event ?hg (N := 1) ?hd (cs := #[.int .i64 a0_0, .slice A0_1 l0_1.length c0_1]) (t := 29) ?hr ?_; (case hd => rfl); (case hg => rfl); (case hr => first | (go_simp; done) | (go_simp; rfl)); intro gb105 hg w2 hbox hb; have n_ := ac_ (below_step s1_ hb) <| ac_ (hbox) <| ac_ ((by rw [hg]; exact (below_size s1_) : w.heap.size ≤ gb105)) <| Aside0.mk ((by rw [hg]; exact (below_size s1_) : w.heap.size ≤ gb105)); clear HB; obtain ⟨HB, BK105, GW105, GE105⟩ := n_; clear hb hbox hg)))
 go_loopg [3] k (fun kq v3 w' => ∃ (x3_1 : Int), v3 = .int .i64 x3_1 ∧ Aside0 (spec_IsContext.l0 kq x3_1 a0_0 l0_1 = some r) ∧ Aside0 (kq ≤ k) ∧ Aside0 (w'.heap[gb105]? = some (.cells #[.int .i64 a0_0, (.slice A0_1 l0_1.length c0_1)] 29 (0, 0))) ∧ Aside0 (Below w.heap.size w w'))
 case atStart => exact ⟨(0), (by first | rfl | (simp; done) | (simp [*]; done) | (simp [i64_w, i32_w]; done)), H', ⟨Nat.le_refl _⟩, ⟨q1_8⟩, ⟨q1_6⟩⟩
 case round =>
  clear H'
  try clear c1
  try clear p2
  obtain ⟨x3_1, rfl, HA, HK1, BK105, HB⟩ := hrel
  cases gk with
  | zero => exact absurd HA.out (by simp [spec_IsContext.l0])
  | succ k1 =>
   have H := HA.out; clear HA
   simp only [spec_IsContext.l0] at H
   by_cases c3 : x3_1 < (l0_1.length : Int)
   ·
    rw [if_pos c3] at H; have c3b0 : decide (x3_1 < (l0_1.length : Int)) = true := decide_eq_true c3; clear c3
    by_cases c4 : 0 ≤ x3_1
    ·
     rw [if_pos c4] at H; have c4b0 : decide (0 ≤ x3_1) = true := decide_eq_true c4; clear c4; obtain ⟨t107, A5, H⟩ := bnd1_ H
     by_cases c6 : t107 = true
     ·
      subst c6; rw [if_pos rfl] at H; have H' := Aside0.mk H; clear H; have hcz7_0 : wr.cell? ⟨gb105, 0, none⟩ = some (.int .i64 a0_0) := (blk_cell BK105.out 0).trans rfl; have hcz7_1 : wr.cell? ⟨gb105, 1, none⟩ = some (.slice A0_1 l0_1.length c0_1) := (blk_cell BK105.out 1).trans rfl; have hfz7_0 := blk_frozen BK105.out 0; have hfz7_1 := blk_frozen BK105.out 1; have p106 : 0 ≤ (x3_1 : Int) := of_decide_eq_true s3_; have q106 : x3_1 < (l0_1.length : Int) := of_decide_eq_true s3_; obtain ⟨ad106, e106, hx106_0⟩ := Kd.at_int HR0_1.out x3_1 p106 q106
      cases e106
      replace hx106_0 := (HB.out.cell (World.block_lt_of_cell? w _ hx106_0)).trans hx106_0; replace p106 := eq_true p106; replace q106 := eq_true q106
      go_wp2_with (first | (go_at_call 33; (with_reducible refine (spec_IsSet.calls a0_0 (rd l0_1 x3_1) true _ A5.out).mono ?_); rintro e w' ⟨rfl, ⟨nd, rfl⟩⟩; (try first | exact ⟨rfl, _, World.drewN_drewN _ _ _⟩ | exact ⟨rfl, _, Eq.trans (World.drewN_drewN _ _ _) (congrArg (World.drewN _) (Nat.add_assoc _ _ _))⟩)))
      repeat (go_quiet (first | (go_at_call 33; (with_reducible refine (spec_IsSet.calls a0_0 (rd l0_1 x3_1) true _ A5.out).mono ?_); rintro e w' ⟨rfl, ⟨nd, rfl⟩⟩; (try first | exact ⟨rfl, _, World.drewN_drewN _ _ _⟩ | exact ⟨rfl, _, Eq.trans (World.drewN_drewN _ _ _) (congrArg (World.drewN _) (Nat.add_assoc _ _ _))⟩))); try go_wp2_with (first | (go_at_call 33; (with_reducible refine (spec_IsSet.calls a0_0 (rd l0_1 x3_1) true _ A5.out).mono ?_); rintro e w' ⟨rfl, ⟨nd, rfl⟩⟩; (try first | exact ⟨rfl, _, World.drewN_drewN _ _ _⟩ | exact ⟨rfl, _, Eq.trans (World.drewN_drewN _ _ _) (congrArg (World.drewN _) (Nat.add_assoc _ _ _))⟩))))
      go_roundg k1
      case measure => have := HK1.out; omega
      case rel => exact ⟨(wrap64 (x3_1 + 1)), (by first | rfl | (simp; done) | (simp [*]; done) | (simp [i64_w, i32_w]; done)), H', ⟨by have := HK1.out; omega⟩, ⟨q1_8⟩, ⟨q1_6⟩⟩
     ·
      replace c6 := Bool.eq_false_iff.mpr c6; subst c6
      rw [if_neg (show ¬ (false = true) by decide)] at H
      obtain rfl := Option.some.inj H; have hcz8_0 : wr.cell? ⟨gb105, 0, none⟩ = some (.int .i64 a0_0) := (blk_cell BK105.out 0).trans rfl; have hcz8_1 : wr.cell? ⟨gb105, 1, none⟩ = some (.slice A0_1 l0_1.length c0_1) := (blk_cell BK105.out 1).trans rfl; have hfz8_0 := blk_frozen BK105.out 0; have hfz8_1 := blk_frozen BK105.out 1; have p106 : 0 ≤ (x3_1 : Int) := of_decide_eq_true s3_; have q106 : x3_1 < (l0_1.length : Int) := of_decide_eq_true s3_; obtain ⟨ad106, e106, hx106_0⟩ := Kd.at_int HR0_1.out x3_1 p106 q106
      cases e106
      replace hx106_0 := (HB.out.cell (World.block_lt_of_cell? w _ hx106_0)).trans hx106_0; replace p106 := eq_true p106; replace q106 := eq_true q106
      go_wp2_with (first | (go_at_call 33; (with_reducible refine (spec_IsSet.calls a0_0 (rd l0_1 x3_1) false _ A5.out).mono ?_); rintro e w' ⟨rfl, ⟨nd, rfl⟩⟩; (try first | exact ⟨rfl, _, World.drewN_drewN _ _ _⟩ | exact ⟨rfl, _, Eq.trans (World.drewN_drewN _ _ _) (congrArg (World.drewN _) (Nat.add_assoc _ _ _))⟩)))
      repeat (go_quiet (first | (go_at_call 33; (with_reducible refine (spec_IsSet.calls a0_0 (rd l0_1 x3_1) false _ A5.out).mono ?_); rintro e w' ⟨rfl, ⟨nd, rfl⟩⟩; (try first | exact ⟨rfl, _, World.drewN_drewN _ _ _⟩ | exact ⟨rfl, _, Eq.trans (World.drewN_drewN _ _ _) (congrArg (World.drewN _) (Nat.add_assoc _ _ _))⟩))); try go_wp2_with (first | (go_at_call 33; (with_reducible refine (spec_IsSet.calls a0_0 (rd l0_1 x3_1) false _ A5.out).mono ?_); rintro e w' ⟨rfl, ⟨nd, rfl⟩⟩; (try first | exact ⟨rfl, _, World.drewN_drewN _ _ _⟩ | exact ⟨rfl, _, Eq.trans (World.drewN_drewN _ _ _) (congrArg (World.drewN _) (Nat.add_assoc _ _ _))⟩))))
      go_ret
      exact ⟨s5_, q1_6⟩
    ·
     rw [if_neg c4] at H
     exact absurd H (by simp)
   ·
    rw [if_neg c3] at H; have c3b0 : decide (x3_1 < (l0_1.length : Int)) = false := decide_eq_false c3; clear c3; obtain ⟨t108, A9, H⟩ := bnd1_ H
    by_cases c10 : t108 = true
    ·
     subst c10; rw [if_pos rfl] at H; obtain rfl := Option.some.inj H; have hcz11_0 : wr.cell? ⟨gb105, 0, none⟩ = some (.int .i64 a0_0) := (blk_cell BK105.out 0).trans rfl; have hcz11_1 : wr.cell? ⟨gb105, 1, none⟩ = some (.slice A0_1 l0_1.length c0_1) := (blk_cell BK105.out 1).trans rfl; have hfz11_0 := blk_frozen BK105.out 0; have hfz11_1 := blk_frozen BK105.out 1
     go_wp2_with (first | (go_at_call 34; (with_reducible refine (spec_l1In.calls a0_0 0 6 true _ A9.out).mono ?_); rintro e w' ⟨rfl, ⟨nd, rfl⟩⟩; (try first | exact ⟨rfl, _, World.drewN_drewN _ _ _⟩ | exact ⟨rfl, _, Eq.trans (World.drewN_drewN _ _ _) (congrArg (World.drewN _) (Nat.add_assoc _ _ _))⟩)))
     repeat (go_quiet (first | (go_at_call 34; (with_reducible refine (spec_l1In.calls a0_0 0 6 true _ A9.out).mono ?_); rintro e w' ⟨rfl, ⟨nd, rfl⟩⟩; (try first | exact ⟨rfl, _, World.drewN_drewN _ _ _⟩ | exact ⟨rfl, _, Eq.trans (World.drewN_drewN _ _ _) (congrArg (World.drewN _) (Nat.add_assoc _ _ _))⟩))); try go_wp2_with (first | (go_at_call 34; (with_reducible refine (spec_l1In.calls a0_0 0 6 true _ A9.out).mono ?_); rintro e w' ⟨rfl, ⟨nd, rfl⟩⟩; (try first | exact ⟨rfl, _, World.drewN_drewN _ _ _⟩ | exact ⟨rfl, _, Eq.trans (World.drewN_drewN _ _ _) (congrArg (World.drewN _) (Nat.add_assoc _ _ _))⟩))))
     go_ret
     exact ⟨s5_, q1_6⟩
    ·
     replace c10 := Bool.eq_false_iff.mpr c10; subst c10
     rw [if_neg (show ¬ (false = true) by decide)] at H
     obtain rfl := Option.some.inj H; have hcz12_0 : wr.cell? ⟨gb105, 0, none⟩ = some (.int .i64 a0_0) := (blk_cell BK105.out 0).trans rfl; have hcz12_1 : wr.cell? ⟨gb105, 1, none⟩ = some (.slice A0_1 l0_1.length c0_1) := (blk_cell BK105.out 1).trans rfl; have hfz12_0 := blk_frozen BK105.out 0; have hfz12_1 := blk_frozen BK105.out 1
     go_wp2_with (first | (go_at_call 34; (with_reducible refine (spec_l1In.calls a0_0 0 6 false _ A9.out).mono ?_); rintro e w' ⟨rfl, ⟨nd, rfl⟩⟩; (try first | exact ⟨rfl, _, World.drewN_drewN _ _ _⟩ | exact ⟨rfl, _, Eq.trans (World.drewN_drewN _ _ _) (congrArg (World.drewN _) (Nat.add_assoc _ _ _))⟩)))
     repeat (go_quiet (first | (go_at_call 34; (with_reducible refine (spec_l1In.calls a0_0 0 6 false _ A9.out).mono ?_); rintro e w' ⟨rfl, ⟨nd, rfl⟩⟩; (try first | exact ⟨rfl, _, World.drewN_drewN _ _ _⟩ | exact ⟨rfl, _, Eq.trans (World.drewN_drewN _ _ _) (congrArg (World.drewN _) (Nat.add_assoc _ _ _))⟩))); try go_wp2_with (first | (go_at_call 34; (with_reducible refine (spec_l1In.calls a0_0 0 6 false _ A9.out).mono ?_); rintro e w' ⟨rfl, ⟨nd, rfl⟩⟩; (try first | exact ⟨rfl, _, World.drewN_drewN _ _ _⟩ | exact ⟨rfl, _, Eq.trans (World.drewN_drewN _ _ _) (congrArg (World.drewN _) (Nat.add_assoc _ _ _))⟩))))
     go_ret
     exact ⟨s5_, q1_6⟩
theorem q1_11 {P : Prop} (h : P := by repeat (first | (with_reducible first | exact HB.out | apply below_alloc | apply pw_below_drewN | apply below_drew1 | refine below_set ?_ GE109.out) | exact HB.out)) : P := h
def spec_l9Rule.f (a0 : Int) (a1_0 : Int) (a1_1 : Int) : Option (Bool) := (spec_IsSet.f a0 a1_0).bind fun t110 => (if t110 = true then ((spec_IsSet.f a0 a1_1).bind fun t111 => (some t111)) else (some false))
set_option maxHeartbeats 8000000 in
set_option maxRecDepth 100000 in
theorem spec_l9Rule.calls (a0 : Int) (a1_0 : Int) (a1_1 : Int) (r : Bool) (w : World) (h : spec_l9Rule.f a0 a1_0 a1_1 = some r) :
  Calls Tryz.prog 35 #[.int .i64 a0, .agg #[.int .i64 a1_0, .int .i64 a1_1]] w fun e w' => e = .returned (.bool r) ∧ Below w.heap.size w w' := by
 have hu41 := Tryz.underlying41; have HB := Aside0.mk (Below.refl w.heap.size w); have H := h; clear h; unfold spec_l9Rule.f at H; obtain ⟨t110, A3, H⟩ := bnd1_ H
 by_cases c4 : t110 = true
 ·
  subst c4; rw [if_pos rfl] at H; obtain ⟨t111, A5, H⟩ := bnd1_ H; obtain rfl := Option.some.inj H
  go_enter Tryz.func35, Tryz.ntmps35
  go_wp2_with (first | ((with_reducible refine gate_dst (N := 3) rfl ?_); refine box_event ?hg (N := 3) ?hd (cs := #[.int .i64 a1_0, .int .i64 a1_1]) (t := 41) ?hr ?_; (case hd => rfl); (case hg => rfl); (case hr => first | (go_simp; done) | (go_simp; rfl)); intro gb109 hg w6 hbox hb; have n_ := ac_ (below_step s1_ hb) <| ac_ (hbox) <| ac_ ((by rw [hg]; exact (below_size s1_) : w.heap.size ≤ gb109)) <| Aside0.mk ((by rw [hg]; exact (below_size s1_) : w.heap.size ≤ gb109)); clear HB; obtain ⟨HB, BK109, GW109, GE109⟩ := n_; clear hb hbox hg; have hcz7_0 : w6.cell? ⟨gb109, 0, none⟩ = some (.int .i64 a1_0) := (blk_cell BK109.out 0).trans rfl; have hcz7_1 : w6.cell? ⟨gb109, 1, none⟩ = some (.int .i64 a1_1) := (blk_cell BK109.out 1).trans rfl; have hfz7_0 := blk_frozen BK109.out 0; have hfz7_1 := blk_frozen BK109.out 1) | (refine gL_ 33 8 Tryz.func33 #[.int .i64 a0, .int .i64 a1_0] ?_; (with_reducible refine (spec_IsSet.calls a0 a1_0 true _ A3.out).mono ?_); rintro e w' ⟨rfl, ⟨nd, rfl⟩⟩; refine ⟨_, rfl, ?_⟩) | (go_at_call 33; (with_reducible refine (spec_IsSet.calls a0 a1_1 t111 _ A5.out).mono ?_); rintro e w' ⟨rfl, ⟨nd, rfl⟩⟩))
  go_ret
  exact ⟨(by first | rfl | (simp [errW_none, errW_some] <;> rfl) | (simp [*, errW_none, errW_some] <;> rfl)), q1_11⟩
 ·
  replace c4 := Bool.eq_false_iff.mpr c4; subst c4
  rw [if_neg (show ¬ (false = true) by decide)] at H
  obtain rfl := Option.some.inj H
  go_enter Tryz.func35, Tryz.ntmps35
  go_wp2_with (first | ((with_reducible refine gate_dst (N := 3) rfl ?_); refine box_event ?hg (N := 3) ?hd (cs := #[.int .i64 a1_0, .int .i64 a1_1]) (t := 41) ?hr ?_; (case hd => rfl); (case hg => rfl); (case hr => first | (go_simp; done) | (go_simp; rfl)); intro gb109 hg w8 hbox hb; have n_ := ac_ (below_step s1_ hb) <| ac_ (hbox) <| ac_ ((by rw [hg]; exact (below_size s1_) : w.heap.size ≤ gb109)) <| Aside0.mk ((by rw [hg]; exact (below_size s1_) : w.heap.size ≤ gb109)); clear HB; obtain ⟨HB, BK109, GW109, GE109⟩ := n_; clear hb hbox hg; have hcz9_0 : w8.cell? ⟨gb109, 0, none⟩ = some (.int .i64 a1_0) := (blk_cell BK109.out 0).trans rfl; have hcz9_1 : w8.cell? ⟨gb109, 1, none⟩ = some (.int .i64 a1_1) := (blk_cell BK109.out 1).trans rfl; have hfz9_0 := blk_frozen BK109.out 0; have hfz9_1 := blk_frozen BK109.out 1) | (refine gL_ 33 8 Tryz.func33 #[.int .i64 a0, .int .i64 a1_0] ?_; (with_reducible refine (spec_IsSet.calls a0 a1_0 false _ A3.out).mono ?_); rintro e w' ⟨rfl, ⟨nd, rfl⟩⟩; refine ⟨_, rfl, ?_⟩))
  go_ret
  exact ⟨(by first | rfl | (simp [errW_none, errW_some] <;> rfl) | (simp [*, errW_none, errW_some] <;> rfl)), q1_11⟩
def spec_AreRules.l0 : Nat → Int → List (S41) → Int → Option (Bool)
 | 0, _, _, _ => none
 | k + 1, x0, x1, x5 => if x5 < (x1.length : Int) then (if 0 ≤ x5 then ((spec_l9Rule.f x0 ((rd_T41 x1 x5).f0) ((rd_T41 x1 x5).f1)).bind fun t113 => (if t113 = true then (spec_AreRules.l0 k x0 x1 (wrap64 (x5 + 1))) else (some false))) else (none)) else ((spec_l1In.f x0 0 6).bind fun t114 => (if t114 = true then (some (decide ((x1.length : Int) ≤ 40))) else (some false)))
def spec_AreRules.f (k : Nat) (a0 : Int) (l1 : List (S41)) : Option (Bool) := spec_AreRules.l0 k a0 l1 0
set_option maxHeartbeats 8000000 in
set_option maxRecDepth 100000 in
theorem spec_AreRules.calls (k : Nat) (a0 : Int) (A1 : Option Addr) (c1 : Nat) (l1 : List (S41)) (r : Bool) (w : World) (hr1 : Kd.C k41 w A1 l1.length l1) (hc1 : l1.length ≤ c1) (h : spec_AreRules.f k a0 l1 = some r) :
  Calls Tryz.prog 17 #[.int .i64 a0, .slice A1 l1.length c1] w fun e w' => e = .returned (.bool r) ∧ Below w.heap.size w w' := by
 have hu41 := Tryz.underlying41; have HR1 := Aside0.mk hr1; have HC1 := Aside0.mk hc1; clear hr1 hc1; have HB := Aside0.mk (Below.refl w.heap.size w); have H := h; clear h; unfold spec_AreRules.f at H; have H' := Aside0.mk H; clear H
 go_enter Tryz.func17, Tryz.ntmps17
 go_wp2
 go_loopg [5] k (fun kq v5 w' => ∃ (x5_1 : Int), v5 = .int .i64 x5_1 ∧ Aside0 (spec_AreRules.l0 kq a0 l1 x5_1 = some r) ∧ Aside0 (kq ≤ k) ∧ Aside0 (Below w.heap.size w w'))
 case atStart => exact ⟨(0), (by first | rfl | (simp; done) | (simp [*]; done) | (simp [i64_w, i32_w]; done)), H', ⟨Nat.le_refl _⟩, ⟨s1_⟩⟩
 case round =>
  clear H'
  try clear c1
  try clear p2
  obtain ⟨x5_1, rfl, HA, HK1, HB⟩ := hrel
  cases gk with
  | zero => exact absurd HA.out (by simp [spec_AreRules.l0])
  | succ k1 =>
   have H := HA.out; clear HA
   simp only [spec_AreRules.l0] at H
   by_cases c3 : x5_1 < (l1.length : Int)
   ·
    rw [if_pos c3] at H; have c3b0 : decide (x5_1 < (l1.length : Int)) = true := decide_eq_true c3; clear c3
    by_cases c4 : 0 ≤ x5_1
    ·
     rw [if_pos c4] at H; have c4b0 : decide (0 ≤ x5_1) = true := decide_eq_true c4; clear c4; obtain ⟨t113, A5, H⟩ := bnd1_ H
     by_cases c6 : t113 = true
     ·
      subst c6; rw [if_pos rfl] at H; have H' := Aside0.mk H; clear H; have p112 : 0 ≤ (x5_1 : Int) := of_decide_eq_true s3_; have q112 : x5_1 < (l1.length : Int) := of_decide_eq_true s3_; obtain ⟨ad112, e112, hx112_0, hx112_1⟩ := at_T41 HR1.out x5_1 p112 q112
      cases e112
      replace hx112_0 := (HB.out.cell (World.block_lt_of_cell? w _ hx112_0)).trans hx112_0; replace hx112_1 := (HB.out.cell (World.block_lt_of_cell? w _ hx112_1)).trans hx112_1; replace p112 := eq_true p112; replace q112 := eq_true q112
      go_wp2_with (first | (refine gL_ 35 17 Tryz.func35 #[.int .i64 a0, .agg #[.int .i64 ((rd_T41 l1 x5_1).f0), .int .i64 ((rd_T41 l1 x5_1).f1)]] ?_; (with_reducible refine (spec_l9Rule.calls a0 ((rd_T41 l1 x5_1).f0) ((rd_T41 l1 x5_1).f1) true _ A5.out).mono ?_); rintro e w7 ⟨rfl, hb⟩; refine ⟨_, rfl, ?_⟩; have n_ := Aside0.mk (below_step s1_ hb); clear HB; have HB := n_; clear n_; (try clear hb)))
      go_roundg k1
      case measure => have := HK1.out; omega
      case rel => exact ⟨(wrap64 (x5_1 + 1)), (by first | rfl | (simp; done) | (simp [*]; done) | (simp [i64_w, i32_w]; done)), H', ⟨by have := HK1.out; omega⟩, ⟨s1_⟩⟩
     ·
      replace c6 := Bool.eq_false_iff.mpr c6; subst c6
      rw [if_neg (show ¬ (false = true) by decide)] at H
      obtain rfl := Option.some.inj H; have p112 : 0 ≤ (x5_1 : Int) := of_decide_eq_true s3_; have q112 : x5_1 < (l1.length : Int) := of_decide_eq_true s3_; obtain ⟨ad112, e112, hx112_0, hx112_1⟩ := at_T41 HR1.out x5_1 p112 q112
      cases e112
      replace hx112_0 := (HB.out.cell (World.block_lt_of_cell? w _ hx112_0)).trans hx112_0; replace hx112_1 := (HB.out.cell (World.block_lt_of_cell? w _ hx112_1)).trans hx112_1; replace p112 := eq_true p112; replace q112 := eq_true q112
      go_wp2_with (first | (refine gL_ 35 17 Tryz.func35 #[.int .i64 a0, .agg #[.int .i64 ((rd_T41 l1 x5_1).f0), .int .i64 ((rd_T41 l1 x5_1).f1)]] ?_; (with_reducible refine (spec_l9Rule.calls a0 ((rd_T41 l1 x5_1).f0) ((rd_T41 l1 x5_1).f1) false _ A5.out).mono ?_); rintro e w8 ⟨rfl, hb⟩; refine ⟨_, rfl, ?_⟩; have n_ := Aside0.mk (below_step s1_ hb); clear HB; have HB := n_; clear n_; (try clear hb)))
      go_ret
      exact ⟨s5_, s1_⟩
    ·
     rw [if_neg c4] at H
     exact absurd H (by simp)
   ·
    rw [if_neg c3] at H; have c3b0 : decide (x5_1 < (l1.length : Int)) = false := decide_eq_false c3; clear c3; obtain ⟨t114, A9, H⟩ := bnd1_ H
    by_cases c10 : t114 = true
    ·
     subst c10; rw [if_pos rfl] at H; obtain rfl := Option.some.inj H
     go_wp2_with (first | (refine gL_ 34 20 Tryz.func34 #[.int .i64 a0, .int .i64 0, .int .i64 6] ?_; (with_reducible refine (spec_l1In.calls a0 0 6 true _ A9.out).mono ?_); rintro e w' ⟨rfl, ⟨nd, rfl⟩⟩; refine ⟨_, rfl, ?_⟩))
     go_ret
     exact ⟨s5_, s1_⟩
    ·
     replace c10 := Bool.eq_false_iff.mpr c10; subst c10
     rw [if_neg (show ¬ (false = true) by decide)] at H
     obtain rfl := Option.some.inj H
     go_wp2_with (first | (refine gL_ 34 20 Tryz.func34 #[.int .i64 a0, .int .i64 0, .int .i64 6] ?_; (with_reducible refine (spec_l1In.calls a0 0 6 false _ A9.out).mono ?_); rintro e w' ⟨rfl, ⟨nd, rfl⟩⟩; refine ⟨_, rfl, ?_⟩))
     go_ret
     exact ⟨s5_, s1_⟩
def spec_FullSet.f (a0 : Int) : Option (Int) := (spec_l1In.f a0 0 8).bind fun t115 => (if t115 = true then (if 0 ≤ (IntKind.u64.wrap (a0)) then (some (wrap64 ((shl .i64 1 (IntKind.u64.wrap (a0))) - 1))) else (none)) else (some 0))
set_option maxHeartbeats 8000000 in
set_option maxRecDepth 100000 in
theorem spec_FullSet.calls (a0 : Int) (r : Int) (w : World) (h : spec_FullSet.f a0 = some r) :
  Calls Tryz.prog 52 #[.int .i64 a0] w fun e w' => e = .returned (.int .i64 r) ∧ Drawn0 w w' := by
 have H := h; clear h; unfold spec_FullSet.f at H; obtain ⟨t115, A2, H⟩ := bnd1_ H
 by_cases c3 : t115 = true
 ·
  subst c3; rw [if_pos rfl] at H; obtain ⟨ji4, hji4⟩ : ∃ j_ : Int, (IntKind.u64.wrap (a0)) = j_ := ⟨_, rfl⟩
  replace H : (if 0 ≤ (ji4) then (some (wrap64 ((shl .i64 1 (ji4)) - 1))) else (none)) = some r := by first | (rw [hji4] at H; exact H) | (simp only [hji4] at H ⊢; exact H)
  (try rw [hji4] at A2)
  by_cases c5 : 0 ≤ (ji4)
  ·
   rw [if_pos c5] at H; have c5b0 := eq_true c5; have c5b1 : decide (0 ≤ (ji4)) = true := decide_eq_true c5; clear c5; obtain ⟨ji6, hji6⟩ : ∃ j_ : Int, (shl .i64 1 (ji4)) = j_ := ⟨_, rfl⟩
   replace H : (some (wrap64 ((ji6) - 1))) = some r := by first | (rw [hji6] at H; exact H) | (simp only [hji6] at H ⊢; exact H)
   (try rw [hji6] at A2)
   have hji6_ : (IntKind.i64.wrap (1 * 2 ^ min (ji4).toNat 64)) = ji6 := hji6; have hji6z : (ji4) ≤ 64 → (IntKind.i64.wrap (1 * 2 ^ (ji4).toNat)) = ji6 := shl_small hji6
   have hji6u : (IntKind.i64.wrap (2 ^ min (ji4).toNat 64)) = ji6 := by have h_ := hji6_; rw [Int.one_mul] at h_; exact h_
   have hji6v : (ji4) ≤ 64 → (IntKind.i64.wrap (2 ^ (ji4).toNat)) = ji6 := fun hle_ => by have h_ := hji6z hle_; rw [Int.one_mul] at h_; exact h_
   have hji6y : (wrap64 (1 * 2 ^ min (ji4).toNat 64)) = ji6 := (i64_w _).symm.trans hji6_
   have hji6x : (ji4) ≤ 64 → (wrap64 (1 * 2 ^ (ji4).toNat)) = ji6 := fun h_ => (i64_w _).symm.trans (hji6z h_)
   obtain rfl := Option.some.inj H
   go_enter Tryz.func52, Tryz.ntmps52
   go_wp2_with (first | (refine gL_ 34 4 Tryz.func34 #[.int .i64 a0, .int .i64 0, .int .i64 8] ?_; (with_reducible refine (spec_l1In.calls a0 0 8 true _ A2.out).mono ?_); rintro e w' ⟨rfl, ⟨nd, rfl⟩⟩; refine ⟨_, rfl, ?_⟩))
   go_ret
   exact ⟨(by first | rfl | (simp; done) | (simp only [← hji4, ← hji6] <;> (first | rfl | simp)) | (simp [*]; done)), (by repeat (first | exact Drawn0.refl _ | apply Drawn0.step))⟩
  ·
   rw [if_neg c5] at H
   exact absurd H (by simp)
 ·
  replace c3 := Bool.eq_false_iff.mpr c3; subst c3
  rw [if_neg (show ¬ (false = true) by decide)] at H
  obtain rfl := Option.some.inj H
  go_enter Tryz.func52, Tryz.ntmps52
  go_wp2_with (first | (refine gL_ 34 4 Tryz.func34 #[.int .i64 a0, .int .i64 0, .int .i64 8] ?_; (with_reducible refine (spec_l1In.calls a0 0 8 false _ A2.out).mono ?_); rintro e w' ⟨rfl, ⟨nd, rfl⟩⟩; refine ⟨_, rfl, ?_⟩))
  go_ret
  exact ⟨(by first | rfl | (simp; done) | (simp [*]; done) | (simp [i64_w, i32_w]; done)), (by repeat (first | exact Drawn0.refl _ | apply Drawn0.step))⟩
def spec_l2Has.f (a0 : Int) (a1 : Int) : Option (Bool) := if 0 ≤ (IntKind.u64.wrap (a1)) then (some ((Go.bits .and .i64 (shr .i64 a0 (IntKind.u64.wrap (a1))) 1) == 1)) else (none)
set_option maxHeartbeats 8000000 in
set_option maxRecDepth 100000 in
theorem spec_l2Has.calls (a0 : Int) (a1 : Int) (r : Bool) (w : World) (h : spec_l2Has.f a0 a1 = some r) :
  Calls Tryz.prog 66 #[.int .i64 a0, .int .i64 a1] w fun e w' => e = .returned (.bool r) ∧ Drawn0 w w' := by
 have H := h; clear h; unfold spec_l2Has.f at H; obtain ⟨ji3, hji3⟩ : ∃ j_ : Int, (IntKind.u64.wrap (a1)) = j_ := ⟨_, rfl⟩
 replace H : (if 0 ≤ (ji3) then (some ((Go.bits .and .i64 (shr .i64 a0 (ji3)) 1) == 1)) else (none)) = some r := by first | (rw [hji3] at H; exact H) | (simp only [hji3] at H ⊢; exact H)
 by_cases c4 : 0 ≤ (ji3)
 ·
  rw [if_pos c4] at H; have c4b0 := eq_true c4; have c4b1 : decide (0 ≤ (ji3)) = true := decide_eq_true c4; clear c4; obtain ⟨ji5, hji5⟩ : ∃ j_ : Int, (shr .i64 a0 (ji3)) = j_ := ⟨_, rfl⟩
  replace H : (some ((Go.bits .and .i64 (ji5) 1) == 1)) = some r := by first | (rw [hji5] at H; exact H) | (simp only [hji5] at H ⊢; exact H)
  have hji5_ : (a0 / 2 ^ min (ji3).toNat 64) = ji5 := hji5; have hji5z : (ji3) ≤ 64 → (a0 / 2 ^ (ji3).toNat) = ji5 := shr_small hji5; obtain rfl := Option.some.inj H
  go_enter Tryz.func66, Tryz.ntmps66
  go_wp2
  go_ret
  exact ⟨(by first | rfl | (simp; done) | (simp only [← hji3, ← hji5] <;> (first | rfl | simp)) | (simp [*]; done)), (by repeat (first | exact Drawn0.refl _ | apply Drawn0.step))⟩
 ·
  rw [if_neg c4] at H
  exact absurd H (by simp)
theorem q1_19 {P : Prop} (h : P := by repeat (first | (with_reducible first | exact HB.out | apply below_alloc | apply pw_below_drewN | apply below_drew1 | refine below_set ?_ GE116.out) | exact HB.out)) : P := h
theorem q1_22 {P : Prop} (h : P := by (with_reducible repeat (first | refine blk_drewN ?_ _ | refine blk_drew ?_ | refine blk_alloc ?_ _)); exact BK116.out) : P := h
def spec_l4Intent.l0 : Nat → Int → Int → Int → Int → List Int → Option (Int)
 | 0, _, _, _, _, _ => none
 | k + 1, x1, x5, x6, x117000, x117001 => if x6 < (x117001.length : Int) then ((spec_l2Has.f x1 x6).bind fun t118 => (if t118 = true then (if 0 ≤ x6 then (spec_l4Intent.l0 k x1 (Go.bits .and .i64 x5 (rd x117001 x6)) (wrap64 (x6 + 1)) x117000 x117001) else (none)) else (spec_l4Intent.l0 k x1 x5 (wrap64 (x6 + 1)) x117000 x117001))) else (some x5)
def spec_l4Intent.f (k : Nat) (a0_0 : Int) (l0_1 : List Int) (a1 : Int) : Option (Int) := (spec_FullSet.f a0_0).bind fun t117 => (spec_l4Intent.l0 k a1 t117 0 a0_0 l0_1)
set_option maxHeartbeats 8000000 in
set_option maxRecDepth 100000 in
theorem spec_l4Intent.calls (k : Nat) (a0_0 : Int) (A0_1 : Option Addr) (c0_1 : Nat) (l0_1 : List Int) (a1 : Int) (r : Int) (w : World) (hr0_1 : Kd.C (Kd.int .i64) w A0_1 l0_1.length l0_1) (hc0_1 : l0_1.length ≤ c0_1) (h : spec_l4Intent.f k a0_0 l0_1 a1 = some r) :
  Calls Tryz.prog 54 #[.agg #[.int .i64 a0_0, .slice A0_1 l0_1.length c0_1], .int .i64 a1] w fun e w' => e = .returned (.int .i64 r) ∧ Below w.heap.size w w' := by
 have hu29 := Tryz.underlying29; have HR0_1 := Aside0.mk hr0_1; have HC0_1 := Aside0.mk hc0_1; clear hr0_1 hc0_1; have HB := Aside0.mk (Below.refl w.heap.size w); have H := h; clear h; unfold spec_l4Intent.f at H; obtain ⟨t117, A3, H⟩ := bnd1_ H; have H' := Aside0.mk H; clear H
 go_enter Tryz.func54, Tryz.ntmps54
 go_wp2_with (first | ((with_reducible refine gate_dst (N := 2) rfl ?_); refine box_event ?hg (N := 2) ?hd (cs := #[.int .i64 a0_0, .slice A0_1 l0_1.length c0_1]) (t := 29) ?hr ?_; (case hd => rfl); (case hg => rfl); (case hr => first | (go_simp; done) | (go_simp; rfl)); intro gb116 hg w4 hbox hb; have n_ := ac_ (below_step s1_ hb) <| ac_ (hbox) <| ac_ ((by rw [hg]; exact (below_size s1_) : w.heap.size ≤ gb116)) <| Aside0.mk ((by rw [hg]; exact (below_size s1_) : w.heap.size ≤ gb116)); clear HB; obtain ⟨HB, BK116, GW116, GE116⟩ := n_; clear hb hbox hg; have hcz5_0 : w4.cell? ⟨gb116, 0, none⟩ = some (.int .i64 a0_0) := (blk_cell BK116.out 0).trans rfl; have hcz5_1 : w4.cell? ⟨gb116, 1, none⟩ = some (.slice A0_1 l0_1.length c0_1) := (blk_cell BK116.out 1).trans rfl; have hfz5_0 := blk_frozen BK116.out 0; have hfz5_1 := blk_frozen BK116.out 1) | (refine gL_ 52 9 Tryz.func52 #[.int .i64 a0_0] ?_; (with_reducible refine (spec_FullSet.calls a0_0 t117 _ A3.out).mono ?_); rintro e w' ⟨rfl, ⟨nd, rfl⟩⟩; refine ⟨_, rfl, ?_⟩))
 go_loopg [5, 6] k (fun kq v5 v6 w' => ∃ (x5_1 : Int) (x6_1 : Int), v5 = .int .i64 x5_1 ∧ v6 = .int .i64 x6_1 ∧ Aside0 (spec_l4Intent.l0 kq a1 x5_1 x6_1 a0_0 l0_1 = some r) ∧ Aside0 (kq ≤ k) ∧ Aside0 (w'.heap[gb116]? = some (.cells #[.int .i64 a0_0, (.slice A0_1 l0_1.length c0_1)] 29 (0, 0))) ∧ Aside0 (Below w.heap.size w w'))
 case atStart => exact ⟨(t117), (0), s4_, s4_, H', ⟨Nat.le_refl _⟩, ⟨q1_22⟩, ⟨q1_19⟩⟩
 case round =>
  clear H'
  try clear p2
  try clear c5
  try clear hcz5_0
  try clear hcz5_1
  try clear hfz5_0
  try clear hfz5_1
  obtain ⟨x5_1, x6_1, rfl, rfl, HA, HK1, BK116, HB⟩ := hrel
  cases gk with
  | zero => exact absurd HA.out (by simp [spec_l4Intent.l0])
  | succ k1 =>
   have H := HA.out; clear HA
   simp only [spec_l4Intent.l0] at H
   by_cases c6 : x6_1 < (l0_1.length : Int)
   ·
    rw [if_pos c6] at H; have c6b0 : decide (x6_1 < (l0_1.length : Int)) = true := decide_eq_true c6; clear c6; obtain ⟨t118, A7, H⟩ := bnd1_ H
    by_cases c8 : t118 = true
    ·
     subst c8; rw [if_pos rfl] at H
     by_cases c9 : 0 ≤ x6_1
     ·
      rw [if_pos c9] at H; have c9b0 : decide (0 ≤ x6_1) = true := decide_eq_true c9; clear c9; have H' := Aside0.mk H; clear H; have hcz10_0 : wr.cell? ⟨gb116, 0, none⟩ = some (.int .i64 a0_0) := (blk_cell BK116.out 0).trans rfl; have hcz10_1 : wr.cell? ⟨gb116, 1, none⟩ = some (.slice A0_1 l0_1.length c0_1) := (blk_cell BK116.out 1).trans rfl; have hfz10_0 := blk_frozen BK116.out 0; have hfz10_1 := blk_frozen BK116.out 1
      go_wp2_with (first | (refine gL_ 66 19 Tryz.func66 #[.int .i64 a1, .int .i64 x6_1] ?_; (with_reducible refine (spec_l2Has.calls a1 x6_1 true _ A7.out).mono ?_); rintro e w' ⟨rfl, ⟨nd, rfl⟩⟩; refine ⟨_, rfl, ?_⟩; have p119 : 0 ≤ (x6_1 : Int) := of_decide_eq_true (by first | (with_reducible assumption) | assumption); have q119 : x6_1 < (l0_1.length : Int) := of_decide_eq_true (by first | (with_reducible assumption) | assumption); obtain ⟨ad119, e119, hx119_0⟩ := Kd.at_int HR0_1.out x6_1 p119 q119; cases e119; replace hx119_0 := (HB.out.cell (World.block_lt_of_cell? w _ hx119_0)).trans hx119_0; replace p119 := eq_true p119; replace q119 := eq_true q119))
      go_roundg k1
      case measure => have := HK1.out; omega
      case rel => exact ⟨(Go.bits .and .i64 x5_1 (rd l0_1 x6_1)), (wrap64 (x6_1 + 1)), s4_, s4_, H', ⟨by have := HK1.out; omega⟩, ⟨q1_22⟩, ⟨q1_19⟩⟩
     ·
      rw [if_neg c9] at H
      exact absurd H (by simp)
    ·
     replace c8 := Bool.eq_false_iff.mpr c8; subst c8
     rw [if_neg (show ¬ (false = true) by decide)] at H
     have H' := Aside0.mk H; clear H; have hcz11_0 : wr.cell? ⟨gb116, 0, none⟩ = some (.int .i64 a0_0) := (blk_cell BK116.out 0).trans rfl; have hcz11_1 : wr.cell? ⟨gb116, 1, none⟩ = some (.slice A0_1 l0_1.length c0_1) := (blk_cell BK116.out 1).trans rfl; have hfz11_0 := blk_frozen BK116.out 0; have hfz11_1 := blk_frozen BK116.out 1
     go_wp2_with (first | (refine gL_ 66 19 Tryz.func66 #[.int .i64 a1, .int .i64 x6_1] ?_; (with_reducible refine (spec_l2Has.calls a1 x6_1 false _ A7.out).mono ?_); rintro e w' ⟨rfl, ⟨nd, rfl⟩⟩; refine ⟨_, rfl, ?_⟩))
     go_roundg k1
     case measure => have := HK1.out; omega
     case rel => exact ⟨(x5_1), (wrap64 (x6_1 + 1)), s4_, s4_, H', ⟨by have := HK1.out; omega⟩, ⟨q1_22⟩, ⟨q1_19⟩⟩
   ·
    rw [if_neg c6] at H; have c6b0 : decide (x6_1 < (l0_1.length : Int)) = false := decide_eq_false c6; clear c6; obtain rfl := Option.some.inj H; have hcz12_0 : wr.cell? ⟨gb116, 0, none⟩ = some (.int .i64 a0_0) := (blk_cell BK116.out 0).trans rfl; have hcz12_1 : wr.cell? ⟨gb116, 1, none⟩ = some (.slice A0_1 l0_1.length c0_1) := (blk_cell BK116.out 1).trans rfl; have hfz12_0 := blk_frozen BK116.out 0; have hfz12_1 := blk_frozen BK116.out 1
    go_wp2
    go_ret
    exact ⟨(by first | rfl | (simp [errW_none, errW_some] <;> rfl) | (simp [*, errW_none, errW_some] <;> rfl)), q1_19⟩
theorem q1_24 {P : Prop} (h : P := by repeat (first | (with_reducible first | exact HB.out | apply below_alloc | apply pw_below_drewN | apply below_drew1 | refine below_set ?_ GE120.out) | exact HB.out)) : P := h
theorem q1_26 {P : Prop} (h : P := by (with_reducible repeat (first | refine blk_drewN ?_ _ | refine blk_drew ?_ | refine blk_alloc ?_ _)); exact BK120.out) : P := h
def spec_l4Extent.l0 : Nat → Int → Int → Int → Int → List Int → Option (Int)
 | 0, _, _, _, _, _ => none
 | k + 1, x1, x5, x6, x121000, x121001 => if x6 < (x121001.length : Int) then (if 0 ≤ x6 then (if (Go.bits .and .i64 (rd x121001 x6) x1) = x1 then (if 0 ≤ (IntKind.u64.wrap (x6)) then (spec_l4Extent.l0 k x1 (Go.bits .or .i64 x5 (shl .i64 1 (IntKind.u64.wrap (x6)))) (wrap64 (x6 + 1)) x121000 x121001) else (none)) else (spec_l4Extent.l0 k x1 x5 (wrap64 (x6 + 1)) x121000 x121001)) else (none)) else (some x5)
def spec_l4Extent.f (k : Nat) (a0_0 : Int) (l0_1 : List Int) (a1 : Int) : Option (Int) := spec_l4Extent.l0 k a1 0 0 a0_0 l0_1
set_option maxHeartbeats 8000000 in
set_option maxRecDepth 100000 in
theorem spec_l4Extent.calls (k : Nat) (a0_0 : Int) (A0_1 : Option Addr) (c0_1 : Nat) (l0_1 : List Int) (a1 : Int) (r : Int) (w : World) (hr0_1 : Kd.C (Kd.int .i64) w A0_1 l0_1.length l0_1) (hc0_1 : l0_1.length ≤ c0_1) (h : spec_l4Extent.f k a0_0 l0_1 a1 = some r) :
  Calls Tryz.prog 55 #[.agg #[.int .i64 a0_0, .slice A0_1 l0_1.length c0_1], .int .i64 a1] w fun e w' => e = .returned (.int .i64 r) ∧ Below w.heap.size w w' := by
 have hu29 := Tryz.underlying29; have HR0_1 := Aside0.mk hr0_1; have HC0_1 := Aside0.mk hc0_1; clear hr0_1 hc0_1; have HB := Aside0.mk (Below.refl w.heap.size w); have H := h; clear h; unfold spec_l4Extent.f at H; have H' := Aside0.mk H; clear H
 go_enter Tryz.func55, Tryz.ntmps55
 go_wp2_with (first | ((with_reducible refine gate_dst (N := 2) rfl ?_); refine box_event ?hg (N := 2) ?hd (cs := #[.int .i64 a0_0, .slice A0_1 l0_1.length c0_1]) (t := 29) ?hr ?_; (case hd => rfl); (case hg => rfl); (case hr => first | (go_simp; done) | (go_simp; rfl)); intro gb120 hg w3 hbox hb; have n_ := ac_ (below_step s1_ hb) <| ac_ (hbox) <| ac_ ((by rw [hg]; exact (below_size s1_) : w.heap.size ≤ gb120)) <| Aside0.mk ((by rw [hg]; exact (below_size s1_) : w.heap.size ≤ gb120)); clear HB; obtain ⟨HB, BK120, GW120, GE120⟩ := n_; clear hb hbox hg))
 go_loopg [5, 6] k (fun kq v5 v6 w' => ∃ (x5_1 : Int) (x6_1 : Int), v5 = .int .i64 x5_1 ∧ v6 = .int .i64 x6_1 ∧ Aside0 (spec_l4Extent.l0 kq a1 x5_1 x6_1 a0_0 l0_1 = some r) ∧ Aside0 (kq ≤ k) ∧ Aside0 (w'.heap[gb120]? = some (.cells #[.int .i64 a0_0, (.slice A0_1 l0_1.length c0_1)] 29 (0, 0))) ∧ Aside0 (Below w.heap.size w w'))
 case atStart => exact ⟨(0), (0), s4_, s4_, H', ⟨Nat.le_refl _⟩, ⟨q1_26⟩, ⟨q1_24⟩⟩
 case round =>
  clear H'
  try clear p2
  obtain ⟨x5_1, x6_1, rfl, rfl, HA, HK1, BK120, HB⟩ := hrel
  cases gk with
  | zero => exact absurd HA.out (by simp [spec_l4Extent.l0])
  | succ k1 =>
   have H := HA.out; clear HA
   simp only [spec_l4Extent.l0] at H
   by_cases c4 : x6_1 < (l0_1.length : Int)
   ·
    rw [if_pos c4] at H; have c4b0 : decide (x6_1 < (l0_1.length : Int)) = true := decide_eq_true c4; clear c4
    by_cases c5 : 0 ≤ x6_1
    ·
     rw [if_pos c5] at H; have c5b0 : decide (0 ≤ x6_1) = true := decide_eq_true c5; clear c5
     by_cases c6 : (Go.bits .and .i64 (rd l0_1 x6_1) a1) = a1
     ·
      rw [if_pos c6] at H; have c6b0 : ((Go.bits .and .i64 (rd l0_1 x6_1) a1) == a1) = true := beq_iff_eq.mpr c6; have c6b1 : ((Go.bits .and .i64 (rd l0_1 x6_1) a1) != a1) = false := bne_eq_false_iff_eq.mpr c6; clear c6; obtain ⟨ji7, hji7⟩ : ∃ j_ : Int, (IntKind.u64.wrap (x6_1)) = j_ := ⟨_, rfl⟩
      replace H : (if 0 ≤ (ji7) then (spec_l4Extent.l0 k1 a1 (Go.bits .or .i64 x5_1 (shl .i64 1 (ji7))) (wrap64 (x6_1 + 1)) a0_0 l0_1) else (none)) = some r := by first | (rw [hji7] at H; exact H) | (simp only [hji7] at H ⊢; exact H)
      by_cases c8 : 0 ≤ (ji7)
      ·
       rw [if_pos c8] at H; have c8b0 := eq_true c8; have c8b1 : decide (0 ≤ (ji7)) = true := decide_eq_true c8; clear c8; obtain ⟨ji9, hji9⟩ : ∃ j_ : Int, (shl .i64 1 (ji7)) = j_ := ⟨_, rfl⟩
       replace H : (spec_l4Extent.l0 k1 a1 (Go.bits .or .i64 x5_1 (ji9)) (wrap64 (x6_1 + 1)) a0_0 l0_1) = some r := by first | (rw [hji9] at H; exact H) | (simp only [hji9] at H ⊢; exact H)
       have hji9_ : (IntKind.i64.wrap (1 * 2 ^ min (ji7).toNat 64)) = ji9 := hji9; have hji9z : (ji7) ≤ 64 → (IntKind.i64.wrap (1 * 2 ^ (ji7).toNat)) = ji9 := shl_small hji9
       have hji9u : (IntKind.i64.wrap (2 ^ min (ji7).toNat 64)) = ji9 := by have h_ := hji9_; rw [Int.one_mul] at h_; exact h_
       have hji9v : (ji7) ≤ 64 → (IntKind.i64.wrap (2 ^ (ji7).toNat)) = ji9 := fun hle_ => by have h_ := hji9z hle_; rw [Int.one_mul] at h_; exact h_
       have hji9y : (wrap64 (1 * 2 ^ min (ji7).toNat 64)) = ji9 := (i64_w _).symm.trans hji9_
       have hji9x : (ji7) ≤ 64 → (wrap64 (1 * 2 ^ (ji7).toNat)) = ji9 := fun h_ => (i64_w _).symm.trans (hji9z h_)
       have H' := Aside0.mk H; clear H; have hcz10_0 : wr.cell? ⟨gb120, 0, none⟩ = some (.int .i64 a0_0) := (blk_cell BK120.out 0).trans rfl; have hcz10_1 : wr.cell? ⟨gb120, 1, none⟩ = some (.slice A0_1 l0_1.length c0_1) := (blk_cell BK120.out 1).trans rfl; have hfz10_0 := blk_frozen BK120.out 0; have hfz10_1 := blk_frozen BK120.out 1; have p121 : 0 ≤ (x6_1 : Int) := of_decide_eq_true s3_; have q121 : x6_1 < (l0_1.length : Int) := of_decide_eq_true s3_; obtain ⟨ad121, e121, hx121_0⟩ := Kd.at_int HR0_1.out x6_1 p121 q121
       cases e121
       replace hx121_0 := (HB.out.cell (World.block_lt_of_cell? w _ hx121_0)).trans hx121_0; replace p121 := eq_true p121; replace q121 := eq_true q121
       go_wp2
       go_roundg k1
       case measure => have := HK1.out; omega
       case rel => exact ⟨(Go.bits .or .i64 x5_1 (ji9)), (wrap64 (x6_1 + 1)), (by first | rfl | (simp; done) | (simp only [← hji9] <;> (first | rfl | simp)) | (simp [*]; done)), s4_, H', ⟨by have := HK1.out; omega⟩, ⟨q1_26⟩, ⟨q1_24⟩⟩
      ·
       rw [if_neg c8] at H
       exact absurd H (by simp)
     ·
      rw [if_neg c6] at H; have c6b0 : ((Go.bits .and .i64 (rd l0_1 x6_1) a1) == a1) = false := beq_eq_false_iff_ne.mpr c6; have c6b1 : ((Go.bits .and .i64 (rd l0_1 x6_1) a1) != a1) = true := bne_iff_ne.mpr c6; have H' := Aside0.mk H; clear H; have hcz11_0 : wr.cell? ⟨gb120, 0, none⟩ = some (.int .i64 a0_0) := (blk_cell BK120.out 0).trans rfl; have hcz11_1 : wr.cell? ⟨gb120, 1, none⟩ = some (.slice A0_1 l0_1.length c0_1) := (blk_cell BK120.out 1).trans rfl; have hfz11_0 := blk_frozen BK120.out 0; have hfz11_1 := blk_frozen BK120.out 1; have p121 : 0 ≤ (x6_1 : Int) := of_decide_eq_true s3_; have q121 : x6_1 < (l0_1.length : Int) := of_decide_eq_true s3_; obtain ⟨ad121, e121, hx121_0⟩ := Kd.at_int HR0_1.out x6_1 p121 q121
      cases e121
      replace hx121_0 := (HB.out.cell (World.block_lt_of_cell? w _ hx121_0)).trans hx121_0; replace p121 := eq_true p121; replace q121 := eq_true q121
      go_wp2
      go_roundg k1
      case measure => have := HK1.out; omega
      case rel => exact ⟨(x5_1), (wrap64 (x6_1 + 1)), s4_, s4_, H', ⟨by have := HK1.out; omega⟩, ⟨q1_26⟩, ⟨q1_24⟩⟩
    ·
     rw [if_neg c5] at H
     exact absurd H (by simp)
   ·
    rw [if_neg c4] at H; have c4b0 : decide (x6_1 < (l0_1.length : Int)) = false := decide_eq_false c4; clear c4; obtain rfl := Option.some.inj H; have hcz12_0 : wr.cell? ⟨gb120, 0, none⟩ = some (.int .i64 a0_0) := (blk_cell BK120.out 0).trans rfl; have hcz12_1 : wr.cell? ⟨gb120, 1, none⟩ = some (.slice A0_1 l0_1.length c0_1) := (blk_cell BK120.out 1).trans rfl; have hfz12_0 := blk_frozen BK120.out 0; have hfz12_1 := blk_frozen BK120.out 1
    go_wp2
    go_ret
    exact ⟨(by first | rfl | (simp [errW_none, errW_some] <;> rfl) | (simp [*, errW_none, errW_some] <;> rfl)), q1_24⟩
theorem q1_30 {P : Prop} (h : P := by repeat (first | (with_reducible first | exact HB.out | apply below_alloc | apply pw_below_drewN | apply below_drew1 | refine below_set ?_ GE122.out) | exact HB.out)) : P := h
theorem q1_33 {P : Prop} (h : P := by (with_reducible repeat (first | refine blk_drewN ?_ _ | refine blk_drew ?_ | refine blk_alloc ?_ _)); exact BK122.out) : P := h
def spec_l4Closure.f (k : Nat) (a0_0 : Int) (l0_1 : List Int) (a1 : Int) : Option (Int) := (spec_l4Extent.f k a0_0 l0_1 a1).bind fun t123 => ((spec_l4Intent.f k a0_0 l0_1 t123).bind fun t124 => (some t124))
set_option maxHeartbeats 8000000 in
set_option maxRecDepth 100000 in
theorem spec_l4Closure.calls (k : Nat) (a0_0 : Int) (A0_1 : Option Addr) (c0_1 : Nat) (l0_1 : List Int) (a1 : Int) (r : Int) (w : World) (hr0_1 : Kd.C (Kd.int .i64) w A0_1 l0_1.length l0_1) (hc0_1 : l0_1.length ≤ c0_1) (h : spec_l4Closure.f k a0_0 l0_1 a1 = some r) :
  Calls Tryz.prog 36 #[.agg #[.int .i64 a0_0, .slice A0_1 l0_1.length c0_1], .int .i64 a1] w fun e w' => e = .returned (.int .i64 r) ∧ Below w.heap.size w w' := by
 have hu29 := Tryz.underlying29; have HR0_1 := Aside0.mk hr0_1; have HC0_1 := Aside0.mk hc0_1; clear hr0_1 hc0_1; have HB := Aside0.mk (Below.refl w.heap.size w); have H := h; clear h; unfold spec_l4Closure.f at H; obtain ⟨t123, A3, H⟩ := bnd1_ H; obtain ⟨t124, A4, H⟩ := bnd1_ H; obtain rfl := Option.some.inj H
 go_enter Tryz.func36, Tryz.ntmps36
 try go_wp2_with (first | ((with_reducible refine gate_dst (N := 2) rfl ?_); refine box_event ?hg (N := 2) ?hd (cs := #[.int .i64 a0_0, .slice A0_1 l0_1.length c0_1]) (t := 29) ?hr ?_; (case hd => rfl); (case hg => rfl); (case hr => first | (go_simp; done) | (go_simp; rfl)); intro gb122 hg w5 hbox hb; have n_ := ac_ (below_step s1_ hb) <| ac_ (hbox) <| ac_ ((by rw [hg]; exact (below_size s1_) : w.heap.size ≤ gb122)) <| Aside0.mk ((by rw [hg]; exact (below_size s1_) : w.heap.size ≤ gb122)); clear HB; obtain ⟨HB, BK122, GW122, GE122⟩ := n_; clear hb hbox hg))
 have n0_ := Aside0.mk (blk_drew BK122.out); have n1_ := Aside0.mk (below_drew1 HB.out); clear BK122; clear HB; have BK122 := n0_; have HB := n1_; clear n0_ n1_
 refine start_ (n := 6) (S := fun w' => w'.cell? ⟨gb122, 0, none⟩ = some (.int .i64 a0_0) ∧ w'.cell? ⟨gb122, 1, none⟩ = some (.slice A0_1 l0_1.length c0_1)) (ds := []) (tb_ 6 0) (by kernel_rfl) rfl rfl ⟨(blk_cell BK122.out 0).trans rfl, (blk_cell BK122.out 1).trans rfl⟩ (fun hHeld => ?_)
 generalize w5.drew = w6 at BK122 HB hHeld ⊢
 refine pl_ 2 7 (tb_ 6 4) ?_
 refine take_ (i := 0) (N := some 5) (v := ?_) (a' := ?_) (tb_ 6 5) rfl rfl (by kernel_rfl) (fun _ _ _ h => h) (Or.inl ⟨by rfl, ?_⟩) hHeld ?_ ?_
 rotate_left
 ·
  rintro w' ⟨s0, s1⟩
  go_simp; with_reducible rfl
 rotate_left
 ·
  exact s6_
 refine take_ (i := 1) (N := some 6) (v := ?_) (a' := ?_) (tb_ 6 7) rfl rfl (by kernel_rfl) (fun _ _ _ h => h) (Or.inl ⟨by rfl, ?_⟩) hHeld ?_ ?_
 rotate_left
 ·
  rintro w' ⟨s0, s1⟩
  go_simp; with_reducible rfl
 rotate_left
 ·
  exact s6_
 refine one_ (i := 3) (N := some 8) (tb_ 6 15) rfl rfl (by kernel_rfl) (by decide) (fun K hK => ?_)
 refine goes_ Tryz.func55 (by kernel_rfl) rfl #[.agg #[.int .i64 a0_0, .slice A0_1 l0_1.length c0_1], .int .i64 a1] (by rfl) rfl rfl s0_ ?_
 with_reducible refine (spec_l4Extent.calls k a0_0 _ _ l0_1 a1 t123 _ ?side1 ?side2 A3.out).mono ?_
 (case side1 => exact s2_)
 (case side2 => exact HC0_1.out)
 rintro e w7 ⟨rfl, hb⟩
 refine ⟨_, rfl, ?_⟩
 have n0_ := Aside0.mk (blk_below (g := gb122) (o := .cells #[.int .i64 a0_0, .slice A0_1 l0_1.length c0_1] 29 (0, 0)) q1_33 hb); have n1_ := Aside0.mk (below_step q1_30 hb); clear BK122; clear HB; have BK122 := n0_; have HB := n1_; clear n0_ n1_
 (try clear hb)
 (try clear hb2)
 (try clear hk)
 (try clear hi)
 refine hK.out _ _ ⟨(blk_cell BK122.out 0).trans rfl, (blk_cell BK122.out 1).trans rfl⟩ (fun hHeld => ?_)
 clear hK K
 refine norm_ (a' := ?_) ?_ ?_
 rotate_left
 ·
  show Act.put _ (some 8) _ = _
  exact s6_
 refine one_ (i := 4) (N := some 9) (tb_ 6 31) rfl rfl (by kernel_rfl) (by decide) (fun K hK => ?_)
 refine goes_ Tryz.func54 (by kernel_rfl) rfl #[.agg #[.int .i64 a0_0, .slice A0_1 l0_1.length c0_1], .int .i64 t123] (by rfl) rfl rfl s0_ ?_
 with_reducible refine (spec_l4Intent.calls k a0_0 _ _ l0_1 t123 t124 _ ?side1 ?side2 A4.out).mono ?_
 (case side1 => exact s2_)
 (case side2 => exact HC0_1.out)
 rintro e w8 ⟨rfl, hb⟩
 refine ⟨_, rfl, ?_⟩
 have n0_ := Aside0.mk (blk_below (g := gb122) (o := .cells #[.int .i64 a0_0, .slice A0_1 l0_1.length c0_1] 29 (0, 0)) q1_33 hb); have n1_ := Aside0.mk (below_step q1_30 hb); clear BK122; clear HB; have BK122 := n0_; have HB := n1_; clear n0_ n1_
 (try clear hb)
 (try clear hb2)
 (try clear hk)
 (try clear hi)
 refine hK.out _ _ ⟨(blk_cell BK122.out 0).trans rfl, (blk_cell BK122.out 1).trans rfl⟩ (fun hHeld => ?_)
 clear hK K
 refine norm_ (a' := ?_) ?_ ?_
 rotate_left
 ·
  show Act.put _ (some 9) _ = _
  exact s6_
 refine pl_ 5 4 (tb_ 6 63) ?_
 refine done_ (by kernel_rfl) ?_
 try go_wp2
 go_ret
 exact ⟨(by first | rfl | (simp [errW_none, errW_some] <;> rfl) | (simp [*, errW_none, errW_some] <;> rfl)), q1_30⟩
end Go.Proofs.YtbflblmkdnhboaaGreatDoor.Pr
namespace Go.Proofs.YtbflblmkdnhboaaGreatDoor.Pr
open Go.RowKit Go.Proofs.YtbflblmkdnhboaaGreatDoorW.PrintWords Go.Proofs.YtbflblmkdnhboaaGreatDoorW.PrintLast Go.Proofs.YtbflblmkdnhboaaGreatDoorW.PrintMore
attribute [local go_sem] max2_int min2_int max_two min_two max_three min_three max_four min_four
set_option linter.unusedVariables false
set_option linter.unusedSimpArgs false
theorem bnd2_ {α β : Type} {o : Option α} {f : α → Option β} {r : β} (h : o.bind f = some r) : ∃ a, Aside0 (o = some a) ∧ f a = some r := by
 obtain ⟨a, h1, h2⟩ := Option.bind_eq_some_iff.mp h
 exact ⟨a, ⟨h1⟩, h2⟩
theorem q2_1 {P : Prop} (h : P := by repeat (first | (with_reducible first | exact HB.out | apply below_alloc | apply pw_below_drewN | apply below_drew1 | refine below_set ?_ GE125.out | refine below_set ?_ GE126.out) | exact HB.out)) : P := h
theorem q2_3 {P : Prop} (h : P := by repeat (first | (with_reducible first | exact HB.out | apply below_alloc | apply pw_below_drewN | apply below_drew1 | refine below_set ?_ GE125.out) | exact HB.out)) : P := h
theorem q2_6 {P : Prop} (h : P := by (with_reducible repeat (first | refine blk_drewN ?_ _ | refine blk_drew ?_ | refine blk_alloc ?_ _)); exact BK125.out) : P := h
theorem q2_7 {P : Prop} (h : P := by (with_reducible repeat (first | refine blk_drewN ?_ _ | refine blk_drew ?_ | refine blk_alloc ?_ _)); exact BK126.out) : P := h
def spec_HoldsIn.f (k : Nat) (a0_0 : Int) (l0_1 : List Int) (a1_0 : Int) (a1_1 : Int) : Option (Bool) := (spec_IsContext.f k a0_0 l0_1).bind fun t127 => (if t127 = true then ((spec_l9Rule.f a0_0 a1_0 a1_1).bind fun t128 => (if t128 = true then ((spec_l4Closure.f k a0_0 l0_1 a1_0).bind fun t129 => (some ((Go.bits .and .i64 a1_1 t129) == a1_1))) else (some false))) else (some false))
def spec_HoldsIn.T3 : Bool × List (List Nat × List Nat) := (true, [([], []), ([0], [0]), ([], []), ([], []), ([3], [3]), ([2, 4], [2, 4]), ([1, 5], [1, 5]), ([], []), ([7], [7]), ([6, 8], [6, 8]), ([9, 5, 0, 1, 2, 3, 4, 5, 6, 7, 8, 9], [9])])
def spec_HoldsIn.B3 : List Nat := [0, 1, 0, 0, 8, 28, 63, 0, 128, 511, 1023]
theorem spec_HoldsIn.tab3 : rtab .any (opsOf Tryz.f18 3) = spec_HoldsIn.T3 := by kernel_rfl
theorem spec_HoldsIn.bits3 : waitsOk spec_HoldsIn.T3.2 spec_HoldsIn.B3 = true := by kernel_rfl
set_option maxHeartbeats 8000000 in
set_option maxRecDepth 100000 in
theorem spec_HoldsIn.calls (k : Nat) (a0_0 : Int) (A0_1 : Option Addr) (c0_1 : Nat) (l0_1 : List Int) (a1_0 : Int) (a1_1 : Int) (r : Bool) (w : World) (hr0_1 : Kd.C (Kd.int .i64) w A0_1 l0_1.length l0_1) (hc0_1 : l0_1.length ≤ c0_1) (h : spec_HoldsIn.f k a0_0 l0_1 a1_0 a1_1 = some r) :
  Calls Tryz.prog 18 #[.agg #[.int .i64 a0_0, .slice A0_1 l0_1.length c0_1], .agg #[.int .i64 a1_0, .int .i64 a1_1]] w fun e w' => e = .returned (.bool r) ∧ Below w.heap.size w w' := by
 have hu29 := Tryz.underlying29; have hu41 := Tryz.underlying41; have HR0_1 := Aside0.mk hr0_1; have HC0_1 := Aside0.mk hc0_1; clear hr0_1 hc0_1; have HB := Aside0.mk (Below.refl w.heap.size w); have H := h; clear h; unfold spec_HoldsIn.f at H; obtain ⟨t127, A3, H⟩ := bnd2_ H
 by_cases c4 : t127 = true
 ·
  subst c4; rw [if_pos rfl] at H; obtain ⟨t128, A5, H⟩ := bnd2_ H
  by_cases c6 : t128 = true
  ·
   subst c6; rw [if_pos rfl] at H; obtain ⟨t129, A7, H⟩ := bnd2_ H; obtain rfl := Option.some.inj H
   go_enter Tryz.func18, Tryz.ntmps18
   try go_wp2_with (first | ((with_reducible refine gate_dst (N := 2) rfl ?_); refine box_event ?hg (N := 2) ?hd (cs := #[.int .i64 a0_0, .slice A0_1 l0_1.length c0_1]) (t := 29) ?hr ?_; (case hd => rfl); (case hg => rfl); (case hr => first | (go_simp; done) | (go_simp; rfl)); intro gb125 hg w8 hbox hb; have n_ := ac_ (below_step s1_ hb) <| ac_ (hbox) <| ac_ ((by rw [hg]; exact (below_size s1_) : w.heap.size ≤ gb125)) <| Aside0.mk ((by rw [hg]; exact (below_size s1_) : w.heap.size ≤ gb125)); clear HB; obtain ⟨HB, BK125, GW125, GE125⟩ := n_; clear hb hbox hg) | ((with_reducible refine gate_dst (N := 3) rfl ?_); refine box_event ?hg (N := 3) ?hd (cs := #[.int .i64 a1_0, .int .i64 a1_1]) (t := 41) ?hr ?_; (case hd => rfl); (case hg => rfl); (case hr => first | (go_simp; done) | (go_simp; rfl)); intro gb126 hg w9 hbox hb; have n_ := ac_ (blk_below (g := gb125) (o := .cells #[.int .i64 a0_0, .slice A0_1 l0_1.length c0_1] 29 (0, 0)) q2_6 hb) <| ac_ (below_step q2_3 hb) <| ac_ (hbox) <| ac_ ((by rw [hg]; exact (below_size q2_3) : w.heap.size ≤ gb126)) <| ac_ ((by rw [hg]; exact (below_size q2_3) : w.heap.size ≤ gb126)) <| ac_ ((by rw [hg]; exact Nat.ne_of_lt (blk_lt (g := gb125) (o := .cells #[.int .i64 a0_0, .slice A0_1 l0_1.length c0_1] 29 (0, 0)) q2_6) : gb125 ≠ gb126)) <| Aside0.mk ((by rw [hg]; exact Nat.ne_of_gt (blk_lt (g := gb125) (o := .cells #[.int .i64 a0_0, .slice A0_1 l0_1.length c0_1] 29 (0, 0)) q2_6) : gb126 ≠ gb125)); clear BK125 HB; obtain ⟨BK125, HB, BK126, GW126, GE126, NB125_126, NB126_125⟩ := n_; clear hb hbox hg; have hnb10 := NB125_126.out; have hnc10 := NB126_125.out; have hcz11_0 : w9.cell? ⟨gb125, 0, none⟩ = some (.int .i64 a0_0) := (blk_cell BK125.out 0).trans rfl; have hcz11_1 : w9.cell? ⟨gb125, 1, none⟩ = some (.slice A0_1 l0_1.length c0_1) := (blk_cell BK125.out 1).trans rfl; have hfz11_0 := blk_frozen BK125.out 0; have hfz11_1 := blk_frozen BK125.out 1) | (refine gL_ 16 6 Tryz.func16 #[.agg #[.int .i64 a0_0, .slice A0_1 l0_1.length c0_1]] ?_; (with_reducible refine (spec_IsContext.calls k a0_0 _ _ l0_1 true _ ?side1 ?side2 A3.out).mono ?_); (case side1 => exact s2_); (case side2 => exact HC0_1.out); rintro e w12 ⟨rfl, hb⟩; refine ⟨_, rfl, ?_⟩; have n_ := ac_ (blk_below (g := gb125) (o := .cells #[.int .i64 a0_0, .slice A0_1 l0_1.length c0_1] 29 (0, 0)) q2_6 hb) <| ac_ (blk_below (g := gb126) (o := .cells #[.int .i64 a1_0, .int .i64 a1_1] 41 (0, 0)) q2_7 hb) <| Aside0.mk (below_step q2_1 hb); clear BK125 BK126 HB; obtain ⟨BK125, BK126, HB⟩ := n_; (try clear hb); have hcz13_0 : w12.cell? ⟨gb125, 0, none⟩ = some (.int .i64 a0_0) := (blk_cell BK125.out 0).trans rfl; have hcz13_1 : w12.cell? ⟨gb125, 1, none⟩ = some (.slice A0_1 l0_1.length c0_1) := (blk_cell BK125.out 1).trans rfl; have hfz13_0 := blk_frozen BK125.out 0; have hfz13_1 := blk_frozen BK125.out 1; have hcz14_0 : w12.cell? ⟨gb126, 0, none⟩ = some (.int .i64 a1_0) := (blk_cell BK126.out 0).trans rfl; have hcz14_1 : w12.cell? ⟨gb126, 1, none⟩ = some (.int .i64 a1_1) := (blk_cell BK126.out 1).trans rfl; have hfz14_0 := blk_frozen BK126.out 0; have hfz14_1 := blk_frozen BK126.out 1) | (go_at_call 35; (with_reducible refine (spec_l9Rule.calls a0_0 a1_0 a1_1 true _ A5.out).mono ?_); rintro e w15 ⟨rfl, hb⟩; have n_ := ac_ (blk_below (g := gb125) (o := .cells #[.int .i64 a0_0, .slice A0_1 l0_1.length c0_1] 29 (0, 0)) q2_6 hb) <| ac_ (blk_below (g := gb126) (o := .cells #[.int .i64 a1_0, .int .i64 a1_1] 41 (0, 0)) q2_7 hb) <| Aside0.mk (below_step q2_1 hb); clear BK125 BK126 HB; obtain ⟨BK125, BK126, HB⟩ := n_; (try clear hb)))
   have n0_ := Aside0.mk (blk_drew BK125.out); have n1_ := Aside0.mk (blk_drew BK126.out); have n2_ := Aside0.mk (below_drew1 HB.out); clear BK125; clear BK126; clear HB; have BK125 := n0_; have BK126 := n1_; have HB := n2_; clear n0_ n1_ n2_
   refine start_ (n := 11) (S := fun w' => w'.cell? ⟨gb126, 0, none⟩ = some (.int .i64 a1_0) ∧ w'.cell? ⟨gb126, 1, none⟩ = some (.int .i64 a1_1) ∧ w'.cell? ⟨gb125, 0, none⟩ = some (.int .i64 a0_0) ∧ w'.cell? ⟨gb125, 1, none⟩ = some (.slice A0_1 l0_1.length c0_1)) (ds := []) (tb_ 11 0) (by kernel_rfl) rfl rfl ⟨(blk_cell BK126.out 0).trans rfl, (blk_cell BK126.out 1).trans rfl, (blk_cell BK125.out 0).trans rfl, (blk_cell BK125.out 1).trans rfl⟩ (fun hHeld => ?_); refine with_tabW spec_HoldsIn.tab3 spec_HoldsIn.bits3 (fun HT_ HW_ => ?_)
   generalize w15.drew = w16 at BK125 BK126 HB hHeld ⊢
   refine pl_ 0 15 (tb_ 11 1) ?_; refine pl_ 3 18 (tb_ 11 9) ?_; refine pl_ 7 22 (tb_ 11 137) ?_
   refine take_ (i := 1) (N := some 16) (v := ?_) (a' := ?_) (tb_ 11 139) rfl rfl (take_ofW HT_.out HW_.out (by kernel_rfl)) (fun _ _ _ h => h) (Or.inl ⟨by rfl, ?_⟩) hHeld ?_ ?_
   rotate_left
   ·
    rintro w' ⟨s0, s1, s2, s3⟩
    go_simp; with_reducible rfl
   rotate_left
   ·
    exact s6_
   refine take_ (i := 2) (N := some 17) (v := ?_) (a' := ?_) (tb_ 11 143) rfl rfl (take_ofW HT_.out HW_.out (by kernel_rfl)) (fun _ _ _ h => h) (Or.inl ⟨by rfl, ?_⟩) hHeld ?_ ?_
   rotate_left
   ·
    rintro w' ⟨s0, s1, s2, s3⟩
    go_simp; with_reducible rfl
   rotate_left
   ·
    exact s6_
   refine take_ (i := 4) (N := some 19) (v := ?_) (a' := ?_) (tb_ 11 159) rfl rfl (take_ofW HT_.out HW_.out (by kernel_rfl)) (fun _ _ _ h => h) (Or.inl ⟨by rfl, ?_⟩) hHeld ?_ ?_
   rotate_left
   ·
    rintro w' ⟨s0, s1, s2, s3⟩
    go_simp; with_reducible rfl
   rotate_left
   ·
    exact s6_
   refine take_ (i := 8) (N := some 23) (v := ?_) (a' := ?_) (tb_ 11 415) rfl rfl (take_ofW HT_.out HW_.out (by kernel_rfl)) (fun _ _ _ h => h) (Or.inl ⟨by rfl, ?_⟩) hHeld ?_ ?_
   rotate_left
   ·
    rintro w' ⟨s0, s1, s2, s3⟩
    go_simp; with_reducible rfl
   rotate_left
   ·
    exact s6_
   refine one_ (i := 5) (N := some 20) (tb_ 11 447) rfl rfl (one_of HT_.out (by kernel_rfl)) (by decide) (fun K hK => ?_)
   refine goes_ Tryz.func36 (by kernel_rfl) rfl #[.agg #[.int .i64 a0_0, .slice A0_1 l0_1.length c0_1], .int .i64 a1_0] (by rfl) rfl rfl s0_ ?_
   with_reducible refine (spec_l4Closure.calls k a0_0 _ _ l0_1 a1_0 t129 _ ?side1 ?side2 A7.out).mono ?_
   (case side1 => exact s2_)
   (case side2 => exact HC0_1.out)
   rintro e w17 ⟨rfl, hb⟩
   refine ⟨_, rfl, ?_⟩
   have n0_ := Aside0.mk (blk_below (g := gb125) (o := .cells #[.int .i64 a0_0, .slice A0_1 l0_1.length c0_1] 29 (0, 0)) q2_6 hb); have n1_ := Aside0.mk (blk_below (g := gb126) (o := .cells #[.int .i64 a1_0, .int .i64 a1_1] 41 (0, 0)) q2_7 hb); have n2_ := Aside0.mk (below_step q2_1 hb); clear BK125; clear BK126; clear HB; have BK125 := n0_; have BK126 := n1_; have HB := n2_; clear n0_ n1_ n2_
   (try clear hb)
   (try clear hb2)
   (try clear hk)
   (try clear hi)
   refine hK.out _ _ ⟨(blk_cell BK126.out 0).trans rfl, (blk_cell BK126.out 1).trans rfl, (blk_cell BK125.out 0).trans rfl, (blk_cell BK125.out 1).trans rfl⟩ (fun hHeld => ?_)
   clear hK K
   refine norm_ (a' := ?_) ?_ ?_
   rotate_left
   ·
    show Act.put _ (some 20) _ = _
    exact s6_
   refine pl_ 6 21 (tb_ 11 511) ?_; refine pl_ 9 24 (tb_ 11 1023) ?_; refine pl_ 10 4 (tb_ 11 2047) ?_
   refine done_ (done_of HT_.out (by kernel_rfl)) ?_
   try go_wp2
   go_ret
   exact ⟨s5_, q2_1⟩
  ·
   replace c6 := Bool.eq_false_iff.mpr c6; subst c6
   rw [if_neg (show ¬ (false = true) by decide)] at H
   obtain rfl := Option.some.inj H
   go_enter Tryz.func18, Tryz.ntmps18
   go_wp2_with (first | ((with_reducible refine gate_dst (N := 2) rfl ?_); refine box_event ?hg (N := 2) ?hd (cs := #[.int .i64 a0_0, .slice A0_1 l0_1.length c0_1]) (t := 29) ?hr ?_; (case hd => rfl); (case hg => rfl); (case hr => first | (go_simp; done) | (go_simp; rfl)); intro gb125 hg w18 hbox hb; have n_ := ac_ (below_step s1_ hb) <| ac_ (hbox) <| ac_ ((by rw [hg]; exact (below_size s1_) : w.heap.size ≤ gb125)) <| Aside0.mk ((by rw [hg]; exact (below_size s1_) : w.heap.size ≤ gb125)); clear HB; obtain ⟨HB, BK125, GW125, GE125⟩ := n_; clear hb hbox hg) | ((with_reducible refine gate_dst (N := 3) rfl ?_); refine box_event ?hg (N := 3) ?hd (cs := #[.int .i64 a1_0, .int .i64 a1_1]) (t := 41) ?hr ?_; (case hd => rfl); (case hg => rfl); (case hr => first | (go_simp; done) | (go_simp; rfl)); intro gb126 hg w19 hbox hb; have n_ := ac_ (blk_below (g := gb125) (o := .cells #[.int .i64 a0_0, .slice A0_1 l0_1.length c0_1] 29 (0, 0)) q2_6 hb) <| ac_ (below_step q2_3 hb) <| ac_ (hbox) <| ac_ ((by rw [hg]; exact (below_size q2_3) : w.heap.size ≤ gb126)) <| ac_ ((by rw [hg]; exact (below_size q2_3) : w.heap.size ≤ gb126)) <| ac_ ((by rw [hg]; exact Nat.ne_of_lt (blk_lt (g := gb125) (o := .cells #[.int .i64 a0_0, .slice A0_1 l0_1.length c0_1] 29 (0, 0)) q2_6) : gb125 ≠ gb126)) <| Aside0.mk ((by rw [hg]; exact Nat.ne_of_gt (blk_lt (g := gb125) (o := .cells #[.int .i64 a0_0, .slice A0_1 l0_1.length c0_1] 29 (0, 0)) q2_6) : gb126 ≠ gb125)); clear BK125 HB; obtain ⟨BK125, HB, BK126, GW126, GE126, NB125_126, NB126_125⟩ := n_; clear hb hbox hg; have hnb20 := NB125_126.out; have hnc20 := NB126_125.out; have hcz21_0 : w19.cell? ⟨gb125, 0, none⟩ = some (.int .i64 a0_0) := (blk_cell BK125.out 0).trans rfl; have hcz21_1 : w19.cell? ⟨gb125, 1, none⟩ = some (.slice A0_1 l0_1.length c0_1) := (blk_cell BK125.out 1).trans rfl; have hfz21_0 := blk_frozen BK125.out 0; have hfz21_1 := blk_frozen BK125.out 1) | (refine gL_ 16 6 Tryz.func16 #[.agg #[.int .i64 a0_0, .slice A0_1 l0_1.length c0_1]] ?_; (with_reducible refine (spec_IsContext.calls k a0_0 _ _ l0_1 true _ ?side1 ?side2 A3.out).mono ?_); (case side1 => exact s2_); (case side2 => exact HC0_1.out); rintro e w22 ⟨rfl, hb⟩; refine ⟨_, rfl, ?_⟩; have n_ := ac_ (blk_below (g := gb125) (o := .cells #[.int .i64 a0_0, .slice A0_1 l0_1.length c0_1] 29 (0, 0)) q2_6 hb) <| ac_ (blk_below (g := gb126) (o := .cells #[.int .i64 a1_0, .int .i64 a1_1] 41 (0, 0)) q2_7 hb) <| Aside0.mk (below_step q2_1 hb); clear BK125 BK126 HB; obtain ⟨BK125, BK126, HB⟩ := n_; (try clear hb); have hcz23_0 : w22.cell? ⟨gb125, 0, none⟩ = some (.int .i64 a0_0) := (blk_cell BK125.out 0).trans rfl; have hcz23_1 : w22.cell? ⟨gb125, 1, none⟩ = some (.slice A0_1 l0_1.length c0_1) := (blk_cell BK125.out 1).trans rfl; have hfz23_0 := blk_frozen BK125.out 0; have hfz23_1 := blk_frozen BK125.out 1; have hcz24_0 : w22.cell? ⟨gb126, 0, none⟩ = some (.int .i64 a1_0) := (blk_cell BK126.out 0).trans rfl; have hcz24_1 : w22.cell? ⟨gb126, 1, none⟩ = some (.int .i64 a1_1) := (blk_cell BK126.out 1).trans rfl; have hfz24_0 := blk_frozen BK126.out 0; have hfz24_1 := blk_frozen BK126.out 1) | (go_at_call 35; (with_reducible refine (spec_l9Rule.calls a0_0 a1_0 a1_1 false _ A5.out).mono ?_); rintro e w25 ⟨rfl, hb⟩; have n_ := ac_ (blk_below (g := gb125) (o := .cells #[.int .i64 a0_0, .slice A0_1 l0_1.length c0_1] 29 (0, 0)) q2_6 hb) <| ac_ (blk_below (g := gb126) (o := .cells #[.int .i64 a1_0, .int .i64 a1_1] 41 (0, 0)) q2_7 hb) <| Aside0.mk (below_step q2_1 hb); clear BK125 BK126 HB; obtain ⟨BK125, BK126, HB⟩ := n_; (try clear hb)))
   go_ret
   exact ⟨s5_, q2_1⟩
 ·
  replace c4 := Bool.eq_false_iff.mpr c4; subst c4
  rw [if_neg (show ¬ (false = true) by decide)] at H
  obtain rfl := Option.some.inj H
  go_enter Tryz.func18, Tryz.ntmps18
  go_wp2_with (first | ((with_reducible refine gate_dst (N := 2) rfl ?_); refine box_event ?hg (N := 2) ?hd (cs := #[.int .i64 a0_0, .slice A0_1 l0_1.length c0_1]) (t := 29) ?hr ?_; (case hd => rfl); (case hg => rfl); (case hr => first | (go_simp; done) | (go_simp; rfl)); intro gb125 hg w26 hbox hb; have n_ := ac_ (below_step s1_ hb) <| ac_ (hbox) <| ac_ ((by rw [hg]; exact (below_size s1_) : w.heap.size ≤ gb125)) <| Aside0.mk ((by rw [hg]; exact (below_size s1_) : w.heap.size ≤ gb125)); clear HB; obtain ⟨HB, BK125, GW125, GE125⟩ := n_; clear hb hbox hg) | ((with_reducible refine gate_dst (N := 3) rfl ?_); refine box_event ?hg (N := 3) ?hd (cs := #[.int .i64 a1_0, .int .i64 a1_1]) (t := 41) ?hr ?_; (case hd => rfl); (case hg => rfl); (case hr => first | (go_simp; done) | (go_simp; rfl)); intro gb126 hg w27 hbox hb; have n_ := ac_ (blk_below (g := gb125) (o := .cells #[.int .i64 a0_0, .slice A0_1 l0_1.length c0_1] 29 (0, 0)) q2_6 hb) <| ac_ (below_step q2_3 hb) <| ac_ (hbox) <| ac_ ((by rw [hg]; exact (below_size q2_3) : w.heap.size ≤ gb126)) <| ac_ ((by rw [hg]; exact (below_size q2_3) : w.heap.size ≤ gb126)) <| ac_ ((by rw [hg]; exact Nat.ne_of_lt (blk_lt (g := gb125) (o := .cells #[.int .i64 a0_0, .slice A0_1 l0_1.length c0_1] 29 (0, 0)) q2_6) : gb125 ≠ gb126)) <| Aside0.mk ((by rw [hg]; exact Nat.ne_of_gt (blk_lt (g := gb125) (o := .cells #[.int .i64 a0_0, .slice A0_1 l0_1.length c0_1] 29 (0, 0)) q2_6) : gb126 ≠ gb125)); clear BK125 HB; obtain ⟨BK125, HB, BK126, GW126, GE126, NB125_126, NB126_125⟩ := n_; clear hb hbox hg; have hnb28 := NB125_126.out; have hnc28 := NB126_125.out; have hcz29_0 : w27.cell? ⟨gb125, 0, none⟩ = some (.int .i64 a0_0) := (blk_cell BK125.out 0).trans rfl; have hcz29_1 : w27.cell? ⟨gb125, 1, none⟩ = some (.slice A0_1 l0_1.length c0_1) := (blk_cell BK125.out 1).trans rfl; have hfz29_0 := blk_frozen BK125.out 0; have hfz29_1 := blk_frozen BK125.out 1) | (refine gL_ 16 6 Tryz.func16 #[.agg #[.int .i64 a0_0, .slice A0_1 l0_1.length c0_1]] ?_; (with_reducible refine (spec_IsContext.calls k a0_0 _ _ l0_1 false _ ?side1 ?side2 A3.out).mono ?_); (case side1 => exact s2_); (case side2 => exact HC0_1.out); rintro e w30 ⟨rfl, hb⟩; refine ⟨_, rfl, ?_⟩; have n_ := ac_ (blk_below (g := gb125) (o := .cells #[.int .i64 a0_0, .slice A0_1 l0_1.length c0_1] 29 (0, 0)) q2_6 hb) <| ac_ (blk_below (g := gb126) (o := .cells #[.int .i64 a1_0, .int .i64 a1_1] 41 (0, 0)) q2_7 hb) <| Aside0.mk (below_step q2_1 hb); clear BK125 BK126 HB; obtain ⟨BK125, BK126, HB⟩ := n_; (try clear hb)))
  go_ret
  exact ⟨s5_, q2_1⟩
mutual
def spec_l9Closed.l0 : Nat → List (S41) → Int → Bool → Option (Int)
 | 0, _, _, _ => none
 | k + 1, x0, x1, x5 => if x5 = true then (spec_l9Closed.l1 k x0 x1 false 0) else (some x1)
def spec_l9Closed.l1 : Nat → List (S41) → Int → Bool → Int → Option (Int)
 | 0, _, _, _, _ => none
 | k + 1, x0, x1, x5, x6 => if x6 < (x0.length : Int) then (if 0 ≤ x6 then (if (Go.bits .and .i64 ((rd_T41 x0 x6).f0) x1) = ((rd_T41 x0 x6).f0) then (if (Go.bits .and .i64 ((rd_T41 x0 x6).f1) x1) = ((rd_T41 x0 x6).f1) then (spec_l9Closed.l1 k x0 x1 x5 (wrap64 (x6 + 1))) else (spec_l9Closed.l1 k x0 (Go.bits .or .i64 x1 ((rd_T41 x0 x6).f1)) true (wrap64 (x6 + 1)))) else (spec_l9Closed.l1 k x0 x1 x5 (wrap64 (x6 + 1)))) else (none)) else (spec_l9Closed.l0 k x0 x1 x5)
end
def spec_l9Closed.f (k : Nat) (l0 : List (S41)) (a1 : Int) : Option (Int) := spec_l9Closed.l0 k l0 a1 true
set_option maxHeartbeats 8000000 in
set_option maxRecDepth 100000 in
theorem spec_l9Closed.calls (k : Nat) (A0 : Option Addr) (c0 : Nat) (l0 : List (S41)) (a1 : Int) (r : Int) (w : World) (hr0 : Kd.C k41 w A0 l0.length l0) (hc0 : l0.length ≤ c0) (h : spec_l9Closed.f k l0 a1 = some r) :
  Calls Tryz.prog 37 #[.slice A0 l0.length c0, .int .i64 a1] w fun e w' => e = .returned (.int .i64 r) ∧ Drawn0 w w' := by
 have HR0 := Aside0.mk hr0; have HC0 := Aside0.mk hc0; clear hr0 hc0; have H := h; clear h; unfold spec_l9Closed.f at H; have H' := Aside0.mk H; clear H
 go_enter Tryz.func37, Tryz.ntmps37
 go_wp2
 repeat (go_quiet (fail); try go_wp2)
 go_loopg [1, 5] k (fun kq v1 v5 w' => ∃ (x1_1 : Int) (x5_1 : Bool), v1 = .int .i64 x1_1 ∧ v5 = .bool x5_1 ∧ Aside0 (spec_l9Closed.l0 kq l0 x1_1 x5_1 = some r) ∧ Aside0 (kq ≤ k) ∧ Drawn0 w w')
 case atStart => exact ⟨(a1), (true), s4_, s4_, H', ⟨Nat.le_refl _⟩, s7_⟩
 case round =>
  clear H'
  try clear p2
  obtain ⟨x1_1, x5_1, rfl, rfl, HA, HK1, ⟨m1, rfl⟩⟩ := hrel
  cases gk with
  | zero => exact absurd HA.out (by simp [spec_l9Closed.l0])
  | succ k1 =>
   have H := HA.out; clear HA
   simp only [spec_l9Closed.l0] at H
   by_cases c3 : x5_1 = true
   ·
    subst c3; rw [if_pos rfl] at H; have H' := Aside0.mk H; clear H
    go_wp2
    repeat (go_quiet (fail); try go_wp2)
    go_loopg [1, 5, 6] k1 (fun kq v1 v5 v6 w' => ∃ (x1_2 : Int) (x5_2 : Bool) (x6_2 : Int), v1 = .int .i64 x1_2 ∧ v5 = .bool x5_2 ∧ v6 = .int .i64 x6_2 ∧ Aside0 (spec_l9Closed.l1 kq l0 x1_2 x5_2 x6_2 = some r) ∧ Aside0 (kq ≤ k1) ∧ Drawn0 w w')
    case atStart => exact ⟨(x1_1), (false), (0), s4_, s4_, s4_, H', ⟨Nat.le_refl _⟩, s7_⟩
    case round =>
     clear H'
     try clear p2
     try clear c3
     try clear p2
     obtain ⟨x1_2, x5_2, x6_2, rfl, rfl, rfl, HA, HK2, ⟨m2, rfl⟩⟩ := hrel
     cases gk with
     | zero => exact absurd HA.out (by simp [spec_l9Closed.l1])
     | succ k2 =>
      have H := HA.out; clear HA
      simp only [spec_l9Closed.l1] at H
      by_cases c4 : x6_2 < (l0.length : Int)
      ·
       rw [if_pos c4] at H; have c4b0 : decide (x6_2 < (l0.length : Int)) = true := decide_eq_true c4; clear c4
       by_cases c5 : 0 ≤ x6_2
       ·
        rw [if_pos c5] at H; have c5b0 : decide (0 ≤ x6_2) = true := decide_eq_true c5; clear c5
        by_cases c6 : (Go.bits .and .i64 ((rd_T41 l0 x6_2).f0) x1_2) = ((rd_T41 l0 x6_2).f0)
        ·
         rw [if_pos c6] at H; have c6b0 : ((Go.bits .and .i64 ((rd_T41 l0 x6_2).f0) x1_2) == ((rd_T41 l0 x6_2).f0)) = true := beq_iff_eq.mpr c6; have c6b1 : ((Go.bits .and .i64 ((rd_T41 l0 x6_2).f0) x1_2) != ((rd_T41 l0 x6_2).f0)) = false := bne_eq_false_iff_eq.mpr c6; clear c6
         by_cases c7 : (Go.bits .and .i64 ((rd_T41 l0 x6_2).f1) x1_2) = ((rd_T41 l0 x6_2).f1)
         ·
          rw [if_pos c7] at H; have c7b0 : ((Go.bits .and .i64 ((rd_T41 l0 x6_2).f1) x1_2) == ((rd_T41 l0 x6_2).f1)) = true := beq_iff_eq.mpr c7; have c7b1 : ((Go.bits .and .i64 ((rd_T41 l0 x6_2).f1) x1_2) != ((rd_T41 l0 x6_2).f1)) = false := bne_eq_false_iff_eq.mpr c7; clear c7; have H' := Aside0.mk H; clear H; have p130 : 0 ≤ (x6_2 : Int) := of_decide_eq_true s3_; have q130 : x6_2 < (l0.length : Int) := of_decide_eq_true s3_; obtain ⟨ad130, e130, hx130_0, hx130_1⟩ := at_T41 HR0.out x6_2 p130 q130
          cases e130
          replace p130 := eq_true p130; replace q130 := eq_true q130; have p131 : 0 ≤ (x6_2 : Int) := of_decide_eq_true s3_; have q131 : x6_2 < (l0.length : Int) := of_decide_eq_true s3_; obtain ⟨ad131, e131, hx131_0, hx131_1⟩ := at_T41 HR0.out x6_2 p131 q131
          obtain rfl : ad130 = ad131 := (by injection e131)
          replace p131 := eq_true p131; replace q131 := eq_true q131; have p132 : 0 ≤ (x6_2 : Int) := of_decide_eq_true s3_; have q132 : x6_2 < (l0.length : Int) := of_decide_eq_true s3_; obtain ⟨ad132, e132, hx132_0, hx132_1⟩ := at_T41 HR0.out x6_2 p132 q132
          obtain rfl : ad130 = ad132 := (by injection e132)
          replace p132 := eq_true p132; replace q132 := eq_true q132; have p133 : 0 ≤ (x6_2 : Int) := of_decide_eq_true s3_; have q133 : x6_2 < (l0.length : Int) := of_decide_eq_true s3_; obtain ⟨ad133, e133, hx133_0, hx133_1⟩ := at_T41 HR0.out x6_2 p133 q133
          obtain rfl : ad130 = ad133 := (by injection e133)
          replace p133 := eq_true p133; replace q133 := eq_true q133
          go_wp2
          repeat (go_quiet (fail); try go_wp2)
          go_roundg k2
          case measure => have := HK1.out; have := HK2.out; omega
          case rel => exact ⟨(x1_2), (x5_2), (wrap64 (x6_2 + 1)), s4_, s4_, s4_, H', ⟨by have := HK1.out; have := HK2.out; omega⟩, s7_⟩
         ·
          rw [if_neg c7] at H; have c7b0 : ((Go.bits .and .i64 ((rd_T41 l0 x6_2).f1) x1_2) == ((rd_T41 l0 x6_2).f1)) = false := beq_eq_false_iff_ne.mpr c7; have c7b1 : ((Go.bits .and .i64 ((rd_T41 l0 x6_2).f1) x1_2) != ((rd_T41 l0 x6_2).f1)) = true := bne_iff_ne.mpr c7; have H' := Aside0.mk H; clear H; have p130 : 0 ≤ (x6_2 : Int) := of_decide_eq_true s3_; have q130 : x6_2 < (l0.length : Int) := of_decide_eq_true s3_; obtain ⟨ad130, e130, hx130_0, hx130_1⟩ := at_T41 HR0.out x6_2 p130 q130
          cases e130
          replace p130 := eq_true p130; replace q130 := eq_true q130; have p131 : 0 ≤ (x6_2 : Int) := of_decide_eq_true s3_; have q131 : x6_2 < (l0.length : Int) := of_decide_eq_true s3_; obtain ⟨ad131, e131, hx131_0, hx131_1⟩ := at_T41 HR0.out x6_2 p131 q131
          obtain rfl : ad130 = ad131 := (by injection e131)
          replace p131 := eq_true p131; replace q131 := eq_true q131; have p132 : 0 ≤ (x6_2 : Int) := of_decide_eq_true s3_; have q132 : x6_2 < (l0.length : Int) := of_decide_eq_true s3_; obtain ⟨ad132, e132, hx132_0, hx132_1⟩ := at_T41 HR0.out x6_2 p132 q132
          obtain rfl : ad130 = ad132 := (by injection e132)
          replace p132 := eq_true p132; replace q132 := eq_true q132; have p133 : 0 ≤ (x6_2 : Int) := of_decide_eq_true s3_; have q133 : x6_2 < (l0.length : Int) := of_decide_eq_true s3_; obtain ⟨ad133, e133, hx133_0, hx133_1⟩ := at_T41 HR0.out x6_2 p133 q133
          obtain rfl : ad130 = ad133 := (by injection e133)
          replace p133 := eq_true p133; replace q133 := eq_true q133; have p134 : 0 ≤ (x6_2 : Int) := of_decide_eq_true s3_; have q134 : x6_2 < (l0.length : Int) := of_decide_eq_true s3_; obtain ⟨ad134, e134, hx134_0, hx134_1⟩ := at_T41 HR0.out x6_2 p134 q134
          obtain rfl : ad130 = ad134 := (by injection e134)
          replace p134 := eq_true p134; replace q134 := eq_true q134
          go_wp2
          repeat (go_quiet (fail); try go_wp2)
          go_roundg k2
          case measure => have := HK1.out; have := HK2.out; omega
          case rel => exact ⟨(Go.bits .or .i64 x1_2 ((rd_T41 l0 x6_2).f1)), (true), (wrap64 (x6_2 + 1)), s4_, s4_, s4_, H', ⟨by have := HK1.out; have := HK2.out; omega⟩, s7_⟩
        ·
         rw [if_neg c6] at H; have c6b0 : ((Go.bits .and .i64 ((rd_T41 l0 x6_2).f0) x1_2) == ((rd_T41 l0 x6_2).f0)) = false := beq_eq_false_iff_ne.mpr c6; have c6b1 : ((Go.bits .and .i64 ((rd_T41 l0 x6_2).f0) x1_2) != ((rd_T41 l0 x6_2).f0)) = true := bne_iff_ne.mpr c6; have H' := Aside0.mk H; clear H; have p130 : 0 ≤ (x6_2 : Int) := of_decide_eq_true s3_; have q130 : x6_2 < (l0.length : Int) := of_decide_eq_true s3_; obtain ⟨ad130, e130, hx130_0, hx130_1⟩ := at_T41 HR0.out x6_2 p130 q130
         cases e130
         replace p130 := eq_true p130; replace q130 := eq_true q130; have p131 : 0 ≤ (x6_2 : Int) := of_decide_eq_true s3_; have q131 : x6_2 < (l0.length : Int) := of_decide_eq_true s3_; obtain ⟨ad131, e131, hx131_0, hx131_1⟩ := at_T41 HR0.out x6_2 p131 q131
         obtain rfl : ad130 = ad131 := (by injection e131)
         replace p131 := eq_true p131; replace q131 := eq_true q131
         go_wp2
         repeat (go_quiet (fail); try go_wp2)
         go_roundg k2
         case measure => have := HK1.out; have := HK2.out; omega
         case rel => exact ⟨(x1_2), (x5_2), (wrap64 (x6_2 + 1)), s4_, s4_, s4_, H', ⟨by have := HK1.out; have := HK2.out; omega⟩, s7_⟩
       ·
        rw [if_neg c5] at H
        exact absurd H (by simp)
      ·
       rw [if_neg c4] at H; have c4b0 : decide (x6_2 < (l0.length : Int)) = false := decide_eq_false c4; clear c4; have H' := Aside0.mk H; clear H
       go_wp2
       repeat (go_quiet (fail); try go_wp2)
       go_roundg k2
       case measure => have := HK1.out; have := HK2.out; omega
       case rel => exact ⟨(x1_2), (x5_2), s4_, s4_, H', ⟨by have := HK1.out; have := HK2.out; omega⟩, s7_⟩
   ·
    replace c3 := Bool.eq_false_iff.mpr c3; subst c3
    rw [if_neg (show ¬ (false = true) by decide)] at H
    obtain rfl := Option.some.inj H
    go_wp2
    repeat (go_quiet (fail); try go_wp2)
    go_ret
    exact ⟨s4_, s7_⟩
theorem q2_12 {P : Prop} (h : P := by repeat (first | exact HR1.out | (with_reducible refine Kd.C_alloc ?_ _) | (with_reducible refine Kd.C_drewN ?_ _) | (with_reducible refine Kd.C_drew ?_))) : P := h
def spec_l10All.l0 : Nat → List (S41) → List (S41) → Int → Option (Bool)
 | 0, _, _, _ => none
 | k + 1, x0, x1, x5 => if x5 < (x0.length : Int) then (if 0 ≤ x5 then ((spec_l9Closed.f k x1 ((rd_T41 x0 x5).f0)).bind fun t136 => (if (Go.bits .and .i64 t136 ((rd_T41 x0 x5).f1)) = ((rd_T41 x0 x5).f1) then (spec_l10All.l0 k x0 x1 (wrap64 (x5 + 1))) else (some false))) else (none)) else (some true)
def spec_l10All.f (k : Nat) (l0 : List (S41)) (l1 : List (S41)) : Option (Bool) := spec_l10All.l0 k l0 l1 0
set_option maxHeartbeats 8000000 in
set_option maxRecDepth 100000 in
theorem spec_l10All.calls (k : Nat) (A0 : Option Addr) (c0 : Nat) (l0 : List (S41)) (A1 : Option Addr) (c1 : Nat) (l1 : List (S41)) (r : Bool) (w : World) (hr0 : Kd.C k41 w A0 l0.length l0) (hc0 : l0.length ≤ c0) (hr1 : Kd.C k41 w A1 l1.length l1) (hc1 : l1.length ≤ c1) (h : spec_l10All.f k l0 l1 = some r) :
  Calls Tryz.prog 19 #[.slice A0 l0.length c0, .slice A1 l1.length c1] w fun e w' => e = .returned (.bool r) ∧ Drawn0 w w' := by
 have HR0 := Aside0.mk hr0; have HC0 := Aside0.mk hc0; clear hr0 hc0; have HR1 := Aside0.mk hr1; have HC1 := Aside0.mk hc1; clear hr1 hc1; have H := h; clear h; unfold spec_l10All.f at H; have H' := Aside0.mk H; clear H
 go_enter Tryz.func19, Tryz.ntmps19
 go_wp2
 repeat (go_quiet (fail); try go_wp2)
 go_loopg [5] k (fun kq v5 w' => ∃ (x5_1 : Int), v5 = .int .i64 x5_1 ∧ Aside0 (spec_l10All.l0 kq l0 l1 x5_1 = some r) ∧ Aside0 (kq ≤ k) ∧ Drawn0 w w')
 case atStart => exact ⟨(0), s4_, H', ⟨Nat.le_refl _⟩, s7_⟩
 case round =>
  clear H'
  try clear c1
  try clear p2
  obtain ⟨x5_1, rfl, HA, HK1, ⟨m1, rfl⟩⟩ := hrel
  cases gk with
  | zero => exact absurd HA.out (by simp [spec_l10All.l0])
  | succ k1 =>
   have H := HA.out; clear HA
   simp only [spec_l10All.l0] at H
   by_cases c3 : x5_1 < (l0.length : Int)
   ·
    rw [if_pos c3] at H; have c3b0 : decide (x5_1 < (l0.length : Int)) = true := decide_eq_true c3; clear c3
    by_cases c4 : 0 ≤ x5_1
    ·
     rw [if_pos c4] at H; have c4b0 : decide (0 ≤ x5_1) = true := decide_eq_true c4; clear c4; obtain ⟨t136, A5, H⟩ := bnd2_ H
     by_cases c6 : (Go.bits .and .i64 t136 ((rd_T41 l0 x5_1).f1)) = ((rd_T41 l0 x5_1).f1)
     ·
      rw [if_pos c6] at H; have c6b0 : ((Go.bits .and .i64 t136 ((rd_T41 l0 x5_1).f1)) == ((rd_T41 l0 x5_1).f1)) = true := beq_iff_eq.mpr c6; have c6b1 : ((Go.bits .and .i64 t136 ((rd_T41 l0 x5_1).f1)) != ((rd_T41 l0 x5_1).f1)) = false := bne_eq_false_iff_eq.mpr c6; clear c6; have H' := Aside0.mk H; clear H; have p135 : 0 ≤ (x5_1 : Int) := of_decide_eq_true s3_; have q135 : x5_1 < (l0.length : Int) := of_decide_eq_true s3_; obtain ⟨ad135, e135, hx135_0, hx135_1⟩ := at_T41 HR0.out x5_1 p135 q135
      cases e135
      replace p135 := eq_true p135; replace q135 := eq_true q135
      go_wp2_with (first | (go_at_call 37; (with_reducible refine (spec_l9Closed.calls k1 _ _ l1 ((rd_T41 l0 x5_1).f0) t136 _ ?side1 ?side2 A5.out).mono ?_); (case side1 => exact q2_12); (case side2 => exact HC1.out); rintro e w' ⟨rfl, ⟨nd, rfl⟩⟩; (try first | exact ⟨rfl, _, World.drewN_drewN _ _ _⟩ | exact ⟨rfl, _, Eq.trans (World.drewN_drewN _ _ _) (congrArg (World.drewN _) (Nat.add_assoc _ _ _))⟩); have p137 : 0 ≤ (x5_1 : Int) := of_decide_eq_true s3_; have q137 : x5_1 < (l0.length : Int) := of_decide_eq_true s3_; obtain ⟨ad137, e137, hx137_0, hx137_1⟩ := at_T41 HR0.out x5_1 p137 q137; obtain rfl : ad135 = ad137 := (by injection e137); replace p137 := eq_true p137; replace q137 := eq_true q137; have p138 : 0 ≤ (x5_1 : Int) := of_decide_eq_true s3_; have q138 : x5_1 < (l0.length : Int) := of_decide_eq_true s3_; obtain ⟨ad138, e138, hx138_0, hx138_1⟩ := at_T41 HR0.out x5_1 p138 q138; obtain rfl : ad135 = ad138 := (by injection e138); replace p138 := eq_true p138; replace q138 := eq_true q138))
      repeat (go_quiet (first | (go_at_call 37; (with_reducible refine (spec_l9Closed.calls k1 _ _ l1 ((rd_T41 l0 x5_1).f0) t136 _ ?side1 ?side2 A5.out).mono ?_); (case side1 => exact q2_12); (case side2 => exact HC1.out); rintro e w' ⟨rfl, ⟨nd, rfl⟩⟩; (try first | exact ⟨rfl, _, World.drewN_drewN _ _ _⟩ | exact ⟨rfl, _, Eq.trans (World.drewN_drewN _ _ _) (congrArg (World.drewN _) (Nat.add_assoc _ _ _))⟩); have p137 : 0 ≤ (x5_1 : Int) := of_decide_eq_true s3_; have q137 : x5_1 < (l0.length : Int) := of_decide_eq_true s3_; obtain ⟨ad137, e137, hx137_0, hx137_1⟩ := at_T41 HR0.out x5_1 p137 q137; obtain rfl : ad135 = ad137 := (by injection e137); replace p137 := eq_true p137; replace q137 := eq_true q137; have p138 : 0 ≤ (x5_1 : Int) := of_decide_eq_true s3_; have q138 : x5_1 < (l0.length : Int) := of_decide_eq_true s3_; obtain ⟨ad138, e138, hx138_0, hx138_1⟩ := at_T41 HR0.out x5_1 p138 q138; obtain rfl : ad135 = ad138 := (by injection e138); replace p138 := eq_true p138; replace q138 := eq_true q138)); try go_wp2_with (first | (go_at_call 37; (with_reducible refine (spec_l9Closed.calls k1 _ _ l1 ((rd_T41 l0 x5_1).f0) t136 _ ?side1 ?side2 A5.out).mono ?_); (case side1 => exact q2_12); (case side2 => exact HC1.out); rintro e w' ⟨rfl, ⟨nd, rfl⟩⟩; (try first | exact ⟨rfl, _, World.drewN_drewN _ _ _⟩ | exact ⟨rfl, _, Eq.trans (World.drewN_drewN _ _ _) (congrArg (World.drewN _) (Nat.add_assoc _ _ _))⟩); have p137 : 0 ≤ (x5_1 : Int) := of_decide_eq_true s3_; have q137 : x5_1 < (l0.length : Int) := of_decide_eq_true s3_; obtain ⟨ad137, e137, hx137_0, hx137_1⟩ := at_T41 HR0.out x5_1 p137 q137; obtain rfl : ad135 = ad137 := (by injection e137); replace p137 := eq_true p137; replace q137 := eq_true q137; have p138 : 0 ≤ (x5_1 : Int) := of_decide_eq_true s3_; have q138 : x5_1 < (l0.length : Int) := of_decide_eq_true s3_; obtain ⟨ad138, e138, hx138_0, hx138_1⟩ := at_T41 HR0.out x5_1 p138 q138; obtain rfl : ad135 = ad138 := (by injection e138); replace p138 := eq_true p138; replace q138 := eq_true q138)))
      go_roundg k1
      case measure => have := HK1.out; omega
      case rel => exact ⟨(wrap64 (x5_1 + 1)), s4_, H', ⟨by have := HK1.out; omega⟩, s7_⟩
     ·
      rw [if_neg c6] at H; have c6b0 : ((Go.bits .and .i64 t136 ((rd_T41 l0 x5_1).f1)) == ((rd_T41 l0 x5_1).f1)) = false := beq_eq_false_iff_ne.mpr c6; have c6b1 : ((Go.bits .and .i64 t136 ((rd_T41 l0 x5_1).f1)) != ((rd_T41 l0 x5_1).f1)) = true := bne_iff_ne.mpr c6; obtain rfl := Option.some.inj H; have p135 : 0 ≤ (x5_1 : Int) := of_decide_eq_true s3_; have q135 : x5_1 < (l0.length : Int) := of_decide_eq_true s3_; obtain ⟨ad135, e135, hx135_0, hx135_1⟩ := at_T41 HR0.out x5_1 p135 q135
      cases e135
      replace p135 := eq_true p135; replace q135 := eq_true q135
      go_wp2_with (first | (go_at_call 37; (with_reducible refine (spec_l9Closed.calls k1 _ _ l1 ((rd_T41 l0 x5_1).f0) t136 _ ?side1 ?side2 A5.out).mono ?_); (case side1 => exact q2_12); (case side2 => exact HC1.out); rintro e w' ⟨rfl, ⟨nd, rfl⟩⟩; (try first | exact ⟨rfl, _, World.drewN_drewN _ _ _⟩ | exact ⟨rfl, _, Eq.trans (World.drewN_drewN _ _ _) (congrArg (World.drewN _) (Nat.add_assoc _ _ _))⟩); have p137 : 0 ≤ (x5_1 : Int) := of_decide_eq_true s3_; have q137 : x5_1 < (l0.length : Int) := of_decide_eq_true s3_; obtain ⟨ad137, e137, hx137_0, hx137_1⟩ := at_T41 HR0.out x5_1 p137 q137; obtain rfl : ad135 = ad137 := (by injection e137); replace p137 := eq_true p137; replace q137 := eq_true q137; have p138 : 0 ≤ (x5_1 : Int) := of_decide_eq_true s3_; have q138 : x5_1 < (l0.length : Int) := of_decide_eq_true s3_; obtain ⟨ad138, e138, hx138_0, hx138_1⟩ := at_T41 HR0.out x5_1 p138 q138; obtain rfl : ad135 = ad138 := (by injection e138); replace p138 := eq_true p138; replace q138 := eq_true q138))
      repeat (go_quiet (first | (go_at_call 37; (with_reducible refine (spec_l9Closed.calls k1 _ _ l1 ((rd_T41 l0 x5_1).f0) t136 _ ?side1 ?side2 A5.out).mono ?_); (case side1 => exact q2_12); (case side2 => exact HC1.out); rintro e w' ⟨rfl, ⟨nd, rfl⟩⟩; (try first | exact ⟨rfl, _, World.drewN_drewN _ _ _⟩ | exact ⟨rfl, _, Eq.trans (World.drewN_drewN _ _ _) (congrArg (World.drewN _) (Nat.add_assoc _ _ _))⟩); have p137 : 0 ≤ (x5_1 : Int) := of_decide_eq_true s3_; have q137 : x5_1 < (l0.length : Int) := of_decide_eq_true s3_; obtain ⟨ad137, e137, hx137_0, hx137_1⟩ := at_T41 HR0.out x5_1 p137 q137; obtain rfl : ad135 = ad137 := (by injection e137); replace p137 := eq_true p137; replace q137 := eq_true q137; have p138 : 0 ≤ (x5_1 : Int) := of_decide_eq_true s3_; have q138 : x5_1 < (l0.length : Int) := of_decide_eq_true s3_; obtain ⟨ad138, e138, hx138_0, hx138_1⟩ := at_T41 HR0.out x5_1 p138 q138; obtain rfl : ad135 = ad138 := (by injection e138); replace p138 := eq_true p138; replace q138 := eq_true q138)); try go_wp2_with (first | (go_at_call 37; (with_reducible refine (spec_l9Closed.calls k1 _ _ l1 ((rd_T41 l0 x5_1).f0) t136 _ ?side1 ?side2 A5.out).mono ?_); (case side1 => exact q2_12); (case side2 => exact HC1.out); rintro e w' ⟨rfl, ⟨nd, rfl⟩⟩; (try first | exact ⟨rfl, _, World.drewN_drewN _ _ _⟩ | exact ⟨rfl, _, Eq.trans (World.drewN_drewN _ _ _) (congrArg (World.drewN _) (Nat.add_assoc _ _ _))⟩); have p137 : 0 ≤ (x5_1 : Int) := of_decide_eq_true s3_; have q137 : x5_1 < (l0.length : Int) := of_decide_eq_true s3_; obtain ⟨ad137, e137, hx137_0, hx137_1⟩ := at_T41 HR0.out x5_1 p137 q137; obtain rfl : ad135 = ad137 := (by injection e137); replace p137 := eq_true p137; replace q137 := eq_true q137; have p138 : 0 ≤ (x5_1 : Int) := of_decide_eq_true s3_; have q138 : x5_1 < (l0.length : Int) := of_decide_eq_true s3_; obtain ⟨ad138, e138, hx138_0, hx138_1⟩ := at_T41 HR0.out x5_1 p138 q138; obtain rfl : ad135 = ad138 := (by injection e138); replace p138 := eq_true p138; replace q138 := eq_true q138)))
      go_ret
      exact ⟨s4_, s7_⟩
    ·
     rw [if_neg c4] at H
     exact absurd H (by simp)
   ·
    rw [if_neg c3] at H; have c3b0 : decide (x5_1 < (l0.length : Int)) = false := decide_eq_false c3; clear c3; obtain rfl := Option.some.inj H
    go_wp2
    repeat (go_quiet (fail); try go_wp2)
    go_ret
    exact ⟨s4_, s7_⟩
def spec_l2Sets.l0 : Nat → List Int → Int → Option (Bool)
 | 0, _, _ => none
 | k + 1, x0, x3 => if x3 < (x0.length : Int) then (if 0 ≤ x3 then ((spec_IsSet.f 8 (rd x0 x3)).bind fun t140 => (if t140 = true then (spec_l2Sets.l0 k x0 (wrap64 (x3 + 1))) else (some false))) else (none)) else (some true)
def spec_l2Sets.f (k : Nat) (l0 : List Int) : Option (Bool) := spec_l2Sets.l0 k l0 0
set_option maxHeartbeats 8000000 in
set_option maxRecDepth 100000 in
theorem spec_l2Sets.calls (k : Nat) (A0 : Option Addr) (c0 : Nat) (l0 : List Int) (r : Bool) (w : World) (hr0 : Kd.C (Kd.int .i64) w A0 l0.length l0) (hc0 : l0.length ≤ c0) (h : spec_l2Sets.f k l0 = some r) :
  Calls Tryz.prog 63 #[.slice A0 l0.length c0] w fun e w' => e = .returned (.bool r) ∧ Drawn0 w w' := by
 have HR0 := Aside0.mk hr0; have HC0 := Aside0.mk hc0; clear hr0 hc0; have H := h; clear h; unfold spec_l2Sets.f at H; have H' := Aside0.mk H; clear H
 go_enter Tryz.func63, Tryz.ntmps63
 go_wp2
 go_loopg [3] k (fun kq v3 w' => ∃ (x3_1 : Int), v3 = .int .i64 x3_1 ∧ Aside0 (spec_l2Sets.l0 kq l0 x3_1 = some r) ∧ Aside0 (kq ≤ k) ∧ Drawn0 w w')
 case atStart => exact ⟨(0), s4_, H', ⟨Nat.le_refl _⟩, s7_⟩
 case round =>
  clear H'; obtain ⟨x3_1, rfl, HA, HK1, ⟨m1, rfl⟩⟩ := hrel
  cases gk with
  | zero => exact absurd HA.out (by simp [spec_l2Sets.l0])
  | succ k1 =>
   have H := HA.out; clear HA
   simp only [spec_l2Sets.l0] at H
   by_cases c2 : x3_1 < (l0.length : Int)
   ·
    rw [if_pos c2] at H; have c2b0 : decide (x3_1 < (l0.length : Int)) = true := decide_eq_true c2; clear c2
    by_cases c3 : 0 ≤ x3_1
    ·
     rw [if_pos c3] at H; have c3b0 : decide (0 ≤ x3_1) = true := decide_eq_true c3; clear c3; obtain ⟨t140, A4, H⟩ := bnd2_ H
     by_cases c5 : t140 = true
     ·
      subst c5; rw [if_pos rfl] at H; have H' := Aside0.mk H; clear H; have p139 : 0 ≤ (x3_1 : Int) := of_decide_eq_true s3_; have q139 : x3_1 < (l0.length : Int) := of_decide_eq_true s3_; obtain ⟨ad139, e139, hx139_0⟩ := Kd.at_int HR0.out x3_1 p139 q139
      cases e139
      replace p139 := eq_true p139; replace q139 := eq_true q139
      go_wp2_with (first | (refine gL_ 33 14 Tryz.func33 #[.int .i64 8, .int .i64 (rd l0 x3_1)] ?_; (with_reducible refine (spec_IsSet.calls 8 (rd l0 x3_1) true _ A4.out).mono ?_); rintro e w' ⟨rfl, ⟨nd, rfl⟩⟩; refine ⟨_, rfl, ?_⟩))
      go_roundg k1
      case measure => have := HK1.out; omega
      case rel => exact ⟨(wrap64 (x3_1 + 1)), s4_, H', ⟨by have := HK1.out; omega⟩, s7_⟩
     ·
      replace c5 := Bool.eq_false_iff.mpr c5; subst c5
      rw [if_neg (show ¬ (false = true) by decide)] at H
      obtain rfl := Option.some.inj H; have p139 : 0 ≤ (x3_1 : Int) := of_decide_eq_true s3_; have q139 : x3_1 < (l0.length : Int) := of_decide_eq_true s3_; obtain ⟨ad139, e139, hx139_0⟩ := Kd.at_int HR0.out x3_1 p139 q139
      cases e139
      replace p139 := eq_true p139; replace q139 := eq_true q139
      go_wp2_with (first | (refine gL_ 33 14 Tryz.func33 #[.int .i64 8, .int .i64 (rd l0 x3_1)] ?_; (with_reducible refine (spec_IsSet.calls 8 (rd l0 x3_1) false _ A4.out).mono ?_); rintro e w' ⟨rfl, ⟨nd, rfl⟩⟩; refine ⟨_, rfl, ?_⟩))
      go_ret
      exact ⟨s4_, s7_⟩
    ·
     rw [if_neg c3] at H
     exact absurd H (by simp)
   ·
    rw [if_neg c2] at H; have c2b0 : decide (x3_1 < (l0.length : Int)) = false := decide_eq_false c2; clear c2; obtain rfl := Option.some.inj H
    go_wp2
    go_ret
    exact ⟨s4_, s7_⟩
def spec_l2In.l0 : Nat → List Int → Int → Int → Option (Bool)
 | 0, _, _, _ => none
 | k + 1, x0, x1, x5 => if x5 < (x0.length : Int) then (if 0 ≤ x5 then (if (rd x0 x5) = x1 then (some true) else (spec_l2In.l0 k x0 x1 (wrap64 (x5 + 1)))) else (none)) else (some false)
def spec_l2In.f (k : Nat) (l0 : List Int) (a1 : Int) : Option (Bool) := spec_l2In.l0 k l0 a1 0
set_option maxHeartbeats 8000000 in
set_option maxRecDepth 100000 in
theorem spec_l2In.calls (k : Nat) (A0 : Option Addr) (c0 : Nat) (l0 : List Int) (a1 : Int) (r : Bool) (w : World) (hr0 : Kd.C (Kd.int .i64) w A0 l0.length l0) (hc0 : l0.length ≤ c0) (h : spec_l2In.f k l0 a1 = some r) :
  Calls Tryz.prog 64 #[.slice A0 l0.length c0, .int .i64 a1] w fun e w' => e = .returned (.bool r) ∧ Drawn0 w w' := by
 have HR0 := Aside0.mk hr0; have HC0 := Aside0.mk hc0; clear hr0 hc0; have H := h; clear h; unfold spec_l2In.f at H; have H' := Aside0.mk H; clear H
 go_enter Tryz.func64, Tryz.ntmps64
 go_wp2
 go_loopg [5] k (fun kq v5 w' => ∃ (x5_1 : Int), v5 = .int .i64 x5_1 ∧ Aside0 (spec_l2In.l0 kq l0 a1 x5_1 = some r) ∧ Aside0 (kq ≤ k) ∧ Drawn0 w w')
 case atStart => exact ⟨(0), s4_, H', ⟨Nat.le_refl _⟩, s7_⟩
 case round =>
  clear H'
  try clear p2
  obtain ⟨x5_1, rfl, HA, HK1, ⟨m1, rfl⟩⟩ := hrel
  cases gk with
  | zero => exact absurd HA.out (by simp [spec_l2In.l0])
  | succ k1 =>
   have H := HA.out; clear HA
   simp only [spec_l2In.l0] at H
   by_cases c3 : x5_1 < (l0.length : Int)
   ·
    rw [if_pos c3] at H; have c3b0 : decide (x5_1 < (l0.length : Int)) = true := decide_eq_true c3; clear c3
    by_cases c4 : 0 ≤ x5_1
    ·
     rw [if_pos c4] at H; have c4b0 : decide (0 ≤ x5_1) = true := decide_eq_true c4; clear c4
     by_cases c5 : (rd l0 x5_1) = a1
     ·
      rw [if_pos c5] at H; have c5b0 : ((rd l0 x5_1) == a1) = true := beq_iff_eq.mpr c5; have c5b1 : ((rd l0 x5_1) != a1) = false := bne_eq_false_iff_eq.mpr c5; clear c5; obtain rfl := Option.some.inj H; have p141 : 0 ≤ (x5_1 : Int) := of_decide_eq_true s3_; have q141 : x5_1 < (l0.length : Int) := of_decide_eq_true s3_; obtain ⟨ad141, e141, hx141_0⟩ := Kd.at_int HR0.out x5_1 p141 q141
      cases e141
      replace p141 := eq_true p141; replace q141 := eq_true q141
      go_wp2
      go_ret
      exact ⟨s4_, s7_⟩
     ·
      rw [if_neg c5] at H; have c5b0 : ((rd l0 x5_1) == a1) = false := beq_eq_false_iff_ne.mpr c5; have c5b1 : ((rd l0 x5_1) != a1) = true := bne_iff_ne.mpr c5; have H' := Aside0.mk H; clear H; have p141 : 0 ≤ (x5_1 : Int) := of_decide_eq_true s3_; have q141 : x5_1 < (l0.length : Int) := of_decide_eq_true s3_; obtain ⟨ad141, e141, hx141_0⟩ := Kd.at_int HR0.out x5_1 p141 q141
      cases e141
      replace p141 := eq_true p141; replace q141 := eq_true q141
      go_wp2
      go_roundg k1
      case measure => have := HK1.out; omega
      case rel => exact ⟨(wrap64 (x5_1 + 1)), s4_, H', ⟨by have := HK1.out; omega⟩, s7_⟩
    ·
     rw [if_neg c4] at H
     exact absurd H (by simp)
   ·
    rw [if_neg c3] at H; have c3b0 : decide (x5_1 < (l0.length : Int)) = false := decide_eq_false c3; clear c3; obtain rfl := Option.some.inj H
    go_wp2
    go_ret
    exact ⟨s4_, s7_⟩
def spec_BeforeSet.f (a0 : Int) (a1 : Int) : Option (Bool) := (spec_IsSet.f 8 a0).bind fun t142 => (if t142 = true then ((spec_IsSet.f 8 a1).bind fun t143 => (if t143 = true then (if a0 = a1 then (some false) else (some ((Go.bits .and .i64 a1 (Go.bits .and .i64 (Go.bits .xor .i64 a0 a1) (wrap64 (-(Go.bits .xor .i64 a0 a1))))) != 0))) else (some false))) else (some false))
set_option maxHeartbeats 8000000 in
set_option maxRecDepth 100000 in
theorem spec_BeforeSet.calls (a0 : Int) (a1 : Int) (r : Bool) (w : World) (h : spec_BeforeSet.f a0 a1 = some r) :
  Calls Tryz.prog 65 #[.int .i64 a0, .int .i64 a1] w fun e w' => e = .returned (.bool r) ∧ Drawn0 w w' := by
 have H := h; clear h; unfold spec_BeforeSet.f at H; obtain ⟨t142, A3, H⟩ := bnd2_ H
 by_cases c4 : t142 = true
 ·
  subst c4; rw [if_pos rfl] at H; obtain ⟨t143, A5, H⟩ := bnd2_ H
  by_cases c6 : t143 = true
  ·
   subst c6; rw [if_pos rfl] at H
   by_cases c7 : a0 = a1
   ·
    rw [if_pos c7] at H; have c7b0 : (a0 == a1) = true := beq_iff_eq.mpr c7; have c7b1 : (a0 != a1) = false := bne_eq_false_iff_eq.mpr c7; clear c7; obtain rfl := Option.some.inj H
    go_enter Tryz.func65, Tryz.ntmps65
    go_wp2_with (first | (refine gL_ 33 7 Tryz.func33 #[.int .i64 8, .int .i64 a0] ?_; (with_reducible refine (spec_IsSet.calls 8 a0 true _ A3.out).mono ?_); rintro e w' ⟨rfl, ⟨nd, rfl⟩⟩; refine ⟨_, rfl, ?_⟩) | (go_at_call 33; (with_reducible refine (spec_IsSet.calls 8 a1 true _ A5.out).mono ?_); rintro e w' ⟨rfl, ⟨nd, rfl⟩⟩))
    go_ret
    exact ⟨s4_, s7_⟩
   ·
    rw [if_neg c7] at H; have c7b0 : (a0 == a1) = false := beq_eq_false_iff_ne.mpr c7; have c7b1 : (a0 != a1) = true := bne_iff_ne.mpr c7; obtain rfl := Option.some.inj H
    go_enter Tryz.func65, Tryz.ntmps65
    go_wp2_with (first | (refine gL_ 33 7 Tryz.func33 #[.int .i64 8, .int .i64 a0] ?_; (with_reducible refine (spec_IsSet.calls 8 a0 true _ A3.out).mono ?_); rintro e w' ⟨rfl, ⟨nd, rfl⟩⟩; refine ⟨_, rfl, ?_⟩) | (go_at_call 33; (with_reducible refine (spec_IsSet.calls 8 a1 true _ A5.out).mono ?_); rintro e w' ⟨rfl, ⟨nd, rfl⟩⟩))
    go_ret
    exact ⟨s4_, s7_⟩
  ·
   replace c6 := Bool.eq_false_iff.mpr c6; subst c6
   rw [if_neg (show ¬ (false = true) by decide)] at H
   obtain rfl := Option.some.inj H
   go_enter Tryz.func65, Tryz.ntmps65
   go_wp2_with (first | (refine gL_ 33 7 Tryz.func33 #[.int .i64 8, .int .i64 a0] ?_; (with_reducible refine (spec_IsSet.calls 8 a0 true _ A3.out).mono ?_); rintro e w' ⟨rfl, ⟨nd, rfl⟩⟩; refine ⟨_, rfl, ?_⟩) | (go_at_call 33; (with_reducible refine (spec_IsSet.calls 8 a1 false _ A5.out).mono ?_); rintro e w' ⟨rfl, ⟨nd, rfl⟩⟩))
   go_ret
   exact ⟨s4_, s7_⟩
 ·
  replace c4 := Bool.eq_false_iff.mpr c4; subst c4
  rw [if_neg (show ¬ (false = true) by decide)] at H
  obtain rfl := Option.some.inj H
  go_enter Tryz.func65, Tryz.ntmps65
  go_wp2_with (first | (refine gL_ 33 7 Tryz.func33 #[.int .i64 8, .int .i64 a0] ?_; (with_reducible refine (spec_IsSet.calls 8 a0 false _ A3.out).mono ?_); rintro e w' ⟨rfl, ⟨nd, rfl⟩⟩; refine ⟨_, rfl, ?_⟩))
  go_ret
  exact ⟨s4_, s7_⟩
end Go.Proofs.YtbflblmkdnhboaaGreatDoor.Pr
