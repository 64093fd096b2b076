/- Functions of the program as plain functions, proofs that their calls answer so, and plain laws: what the law needs. No condition beyond what each statement says. -/
import Derived.Test.YtafnamchckehmaaGreatDoorZFnInference2
namespace Go.Proofs.YtafnamchckehmaaGreatDoor.Pr
open Go.RowKit Go.Proofs.YtafnamchckehmaaGreatDoorW.PrintWords Go.Proofs.YtafnamchckehmaaGreatDoorW.PrintLast Go.Proofs.YtafnamchckehmaaGreatDoorW.PrintMore
attribute [local go_sem] max2_int min2_int max_two min_two max_three min_three max_four min_four
set_option linter.unusedVariables false
set_option linter.unusedSimpArgs false
theorem eqA48 (d : Nat) (w : World) (x0 y0 : Int) (x1 y1 : Int) :
    (Op.equalIn (d + 2) 48 (.agg #[.int .i64 x0, .int .i64 x1]) (.agg #[.int .i64 y0, .int .i64 y1])).run Tryz.prog w = .ok (x0 == y0 && (x1 == y1)) w := by
  refine eqA_of Tryz.underlying48 (by kernel_rfl) ?_
  refine eqf_cons (by rfl) (by go_simp; rfl) (by go_simp; rfl) (by go_simp) ?_
  exact eqf_last (by rfl) (by go_simp; rfl) (by go_simp; rfl) (by go_simp)
end Go.Proofs.YtafnamchckehmaaGreatDoor.Pr
namespace Go.Proofs.YtafnamchckehmaaGreatDoor.Pr
set_option maxHeartbeats 40000000
set_option maxRecDepth 100000
open Go.RowKit Go.Proofs.YtafnamchckehmaaGreatDoorW.PrintWords Go.Proofs.YtafnamchckehmaaGreatDoorW.PrintLast Go.Proofs.YtafnamchckehmaaGreatDoorW.PrintMore
attribute [local go_sem] max2_int min2_int max_two min_two max_three min_three max_four min_four
set_option linter.unusedVariables false
set_option linter.unusedSimpArgs false
attribute [local go_sem high] eqA48
theorem bnd3_ {α β : Type} {o : Option α} {f : α → Option β} {r : β} (h : o.bind f = some r) : ∃ a, Aside0 (o = some a) ∧ f a = some r := by
 obtain ⟨a, h1, h2⟩ := Option.bind_eq_some_iff.mp h
 exact ⟨a, ⟨h1⟩, h2⟩
def laws_big.f (l0 : List Int) : Option (Bool) := some (decide ((l0.length : Int) > 1048576))
theorem laws_big.calls (A0 : Option Addr) (c0 : Nat) (l0 : List Int) (r : Bool) (w : World) (hr0 : Kd.C (Kd.int .u8) w A0 l0.length l0) (hc0 : l0.length ≤ c0) (h : laws_big.f l0 = some r) :
  Calls Tryz.prog 9 #[.slice A0 l0.length c0] w fun e w' => e = .returned (.bool r) ∧ Drawn0 w w' := by
 have HR0 := Aside0.mk hr0; have HC0 := Aside0.mk hc0; clear hr0 hc0; have H := h; clear h; unfold laws_big.f at H; obtain rfl := Option.some.inj H
 go_enter Tryz.func9, Tryz.ntmps9
 go_wp2
 go_ret
 exact ⟨rf_, (by repeat (first | exact Drawn0.refl _ | apply Drawn0.step))⟩
def spec_l1In.f (a0 : Int) (a1 : Int) (a2 : Int) : Option (Bool) := if a0 ≥ a1 then (some (decide (a0 ≤ a2))) else (some false)
theorem spec_l1In.calls (a0 : Int) (a1 : Int) (a2 : Int) (r : Bool) (w : World) (h : spec_l1In.f a0 a1 a2 = some r) :
  Calls Tryz.prog 132 #[.int .i64 a0, .int .i64 a1, .int .i64 a2] w fun e w' => e = .returned (.bool r) ∧ Drawn0 w w' := by
 have H := h; clear h; unfold spec_l1In.f at H
 by_cases c4 : a0 ≥ a1
 ·
  rw [if_pos c4] at H; have c4b0 : decide (a1 ≤ a0) = true := decide_eq_true c4; clear c4; obtain rfl := Option.some.inj H
  go_enter Tryz.func132, Tryz.ntmps132
  go_wp2
  go_ret
  exact ⟨rf_, (by repeat (first | exact Drawn0.refl _ | apply Drawn0.step))⟩
 ·
  rw [if_neg c4] at H; have c4b0 : decide (a1 ≤ a0) = false := decide_eq_false c4; clear c4; obtain rfl := Option.some.inj H
  go_enter Tryz.func132, Tryz.ntmps132
  go_wp2
  go_ret
  exact ⟨rf_, (by repeat (first | exact Drawn0.refl _ | apply Drawn0.step))⟩
def spec_FullSet.f (a0 : Int) : Option (Int) := (spec_l1In.f a0 0 8).bind fun t101 => (if t101 = true then (if 0 ≤ (IntKind.u64.wrap (a0)) then (some (wrap64 ((shl .i64 1 (IntKind.u64.wrap (a0))) - 1))) else (none)) else (some 0))
theorem spec_FullSet.calls (a0 : Int) (r : Int) (w : World) (h : spec_FullSet.f a0 = some r) :
  Calls Tryz.prog 62 #[.int .i64 a0] w fun e w' => e = .returned (.int .i64 r) ∧ Drawn0 w w' := by
 have H := h; clear h; unfold spec_FullSet.f at H; obtain ⟨t101, A2, H⟩ := bnd3_ H
 by_cases c3 : t101 = true
 ·
  subst c3; rw [if_pos rfl] at H; obtain ⟨ji4, hji4⟩ : ∃ j_ : Int, (IntKind.u64.wrap (a0)) = j_ := ⟨_, rfl⟩
  replace H : (if 0 ≤ (ji4) then (some (wrap64 ((shl .i64 1 (ji4)) - 1))) else (none)) = some r := by first | (rw [hji4] at H; exact H) | (simp only [hji4] at H ⊢; exact H)
  (try rw [hji4] at A2)
  by_cases c5 : 0 ≤ (ji4)
  ·
   rw [if_pos c5] at H; have c5b0 := eq_true c5; have c5b1 : decide (0 ≤ (ji4)) = true := decide_eq_true c5; clear c5; obtain ⟨ji6, hji6⟩ : ∃ j_ : Int, (shl .i64 1 (ji4)) = j_ := ⟨_, rfl⟩
   replace H : (some (wrap64 ((ji6) - 1))) = some r := by first | (rw [hji6] at H; exact H) | (simp only [hji6] at H ⊢; exact H)
   (try rw [hji6] at A2)
   have hji6_ : (IntKind.i64.wrap (1 * 2 ^ min (ji4).toNat 64)) = ji6 := hji6; have hji6z : (ji4) ≤ 64 → (IntKind.i64.wrap (1 * 2 ^ (ji4).toNat)) = ji6 := shl_small hji6
   have hji6u : (IntKind.i64.wrap (2 ^ min (ji4).toNat 64)) = ji6 := by have h_ := hji6_; rw [Int.one_mul] at h_; exact h_
   have hji6v : (ji4) ≤ 64 → (IntKind.i64.wrap (2 ^ (ji4).toNat)) = ji6 := fun hle_ => by have h_ := hji6z hle_; rw [Int.one_mul] at h_; exact h_
   have hji6y : (wrap64 (1 * 2 ^ min (ji4).toNat 64)) = ji6 := (i64_w _).symm.trans hji6_
   have hji6x : (ji4) ≤ 64 → (wrap64 (1 * 2 ^ (ji4).toNat)) = ji6 := fun h_ => (i64_w _).symm.trans (hji6z h_)
   obtain rfl := Option.some.inj H
   go_enter Tryz.func62, Tryz.ntmps62
   go_wp2_with ((with_reducible refine gw_ rfl ?_); (refine gL_ 132 4 Tryz.func132 #[.int .i64 a0, .int .i64 0, .int .i64 8] ?_; (with_reducible refine (spec_l1In.calls a0 0 8 true _ A2.out).mono ?_); rintro e w' ⟨rfl, ⟨nd, rfl⟩⟩; refine ⟨_, rfl, ?_⟩))
   go_ret
   exact ⟨(by first | rfl | (simp; done) | (simp only [← hji4, ← hji6] <;> (first | rfl | simp)) | (simp [*]; done)), (by repeat (first | exact Drawn0.refl _ | apply Drawn0.step))⟩
  ·
   rw [if_neg c5] at H
   exact absurd H (by simp)
 ·
  replace c3 := Bool.eq_false_iff.mpr c3; subst c3
  rw [if_neg (show ¬ (false = true) by decide)] at H
  obtain rfl := Option.some.inj H
  go_enter Tryz.func62, Tryz.ntmps62
  go_wp2_with ((with_reducible refine gw_ rfl ?_); (refine gL_ 132 4 Tryz.func132 #[.int .i64 a0, .int .i64 0, .int .i64 8] ?_; (with_reducible refine (spec_l1In.calls a0 0 8 false _ A2.out).mono ?_); rintro e w' ⟨rfl, ⟨nd, rfl⟩⟩; refine ⟨_, rfl, ?_⟩))
  go_ret
  exact ⟨rf_, (by repeat (first | exact Drawn0.refl _ | apply Drawn0.step))⟩
def spec_IsSet.f (a0 : Int) (a1 : Int) : Option (Bool) := (spec_l1In.f a0 0 8).bind fun t102 => (if t102 = true then (if 0 ≤ (IntKind.u64.wrap (a0)) then ((spec_l1In.f a1 0 (wrap64 ((shl .i64 1 (IntKind.u64.wrap (a0))) - 1))).bind fun t103 => (some t103)) else (none)) else (some false))
theorem spec_IsSet.calls (a0 : Int) (a1 : Int) (r : Bool) (w : World) (h : spec_IsSet.f a0 a1 = some r) :
  Calls Tryz.prog 86 #[.int .i64 a0, .int .i64 a1] w fun e w' => e = .returned (.bool r) ∧ Drawn0 w w' := by
 have H := h; clear h; unfold spec_IsSet.f at H; obtain ⟨t102, A3, H⟩ := bnd3_ H
 by_cases c4 : t102 = true
 ·
  subst c4; rw [if_pos rfl] at H; obtain ⟨ji5, hji5⟩ : ∃ j_ : Int, (IntKind.u64.wrap (a0)) = j_ := ⟨_, rfl⟩
  replace H : (if 0 ≤ (ji5) then ((spec_l1In.f a1 0 (wrap64 ((shl .i64 1 (ji5)) - 1))).bind fun t103 => (some t103)) else (none)) = some r := by first | (rw [hji5] at H; exact H) | (simp only [hji5] at H ⊢; exact H)
  (try rw [hji5] at A3)
  by_cases c6 : 0 ≤ (ji5)
  ·
   rw [if_pos c6] at H; have c6b0 := eq_true c6; have c6b1 : decide (0 ≤ (ji5)) = true := decide_eq_true c6; clear c6; obtain ⟨ji7, hji7⟩ : ∃ j_ : Int, (shl .i64 1 (ji5)) = j_ := ⟨_, rfl⟩
   replace H : ((spec_l1In.f a1 0 (wrap64 ((ji7) - 1))).bind fun t103 => (some t103)) = some r := by first | (rw [hji7] at H; exact H) | (simp only [hji7] at H ⊢; exact H)
   (try rw [hji7] at A3)
   have hji7_ : (IntKind.i64.wrap (1 * 2 ^ min (ji5).toNat 64)) = ji7 := hji7; have hji7z : (ji5) ≤ 64 → (IntKind.i64.wrap (1 * 2 ^ (ji5).toNat)) = ji7 := shl_small hji7
   have hji7u : (IntKind.i64.wrap (2 ^ min (ji5).toNat 64)) = ji7 := by have h_ := hji7_; rw [Int.one_mul] at h_; exact h_
   have hji7v : (ji5) ≤ 64 → (IntKind.i64.wrap (2 ^ (ji5).toNat)) = ji7 := fun hle_ => by have h_ := hji7z hle_; rw [Int.one_mul] at h_; exact h_
   have hji7y : (wrap64 (1 * 2 ^ min (ji5).toNat 64)) = ji7 := (i64_w _).symm.trans hji7_
   have hji7x : (ji5) ≤ 64 → (wrap64 (1 * 2 ^ (ji5).toNat)) = ji7 := fun h_ => (i64_w _).symm.trans (hji7z h_)
   obtain ⟨t103, A8, H⟩ := bnd3_ H; obtain rfl := Option.some.inj H
   go_enter Tryz.func86, Tryz.ntmps86
   go_wp2_with (first | ((with_reducible refine gw_ rfl ?_); (refine gL_ 132 6 Tryz.func132 #[.int .i64 a0, .int .i64 0, .int .i64 8] ?_; (with_reducible refine (spec_l1In.calls a0 0 8 true _ A3.out).mono ?_); rintro e w' ⟨rfl, ⟨nd, rfl⟩⟩; refine ⟨_, rfl, ?_⟩)) | (go_at_call 132; (with_reducible refine (spec_l1In.calls a1 0 (wrap64 ((ji7) - 1)) t103 _ A8.out).mono ?_); rintro e w' ⟨rfl, ⟨nd, rfl⟩⟩))
   go_ret
   exact ⟨(by first | rfl | (simp; done) | (simp only [← hji5, ← hji7] <;> (first | rfl | simp)) | (simp [*]; done)), (by repeat (first | exact Drawn0.refl _ | apply Drawn0.step))⟩
  ·
   rw [if_neg c6] at H
   exact absurd H (by simp)
 ·
  replace c4 := Bool.eq_false_iff.mpr c4; subst c4
  rw [if_neg (show ¬ (false = true) by decide)] at H
  obtain rfl := Option.some.inj H
  go_enter Tryz.func86, Tryz.ntmps86
  go_wp2_with ((with_reducible refine gw_ rfl ?_); (refine gL_ 132 6 Tryz.func132 #[.int .i64 a0, .int .i64 0, .int .i64 8] ?_; (with_reducible refine (spec_l1In.calls a0 0 8 false _ A3.out).mono ?_); rintro e w' ⟨rfl, ⟨nd, rfl⟩⟩; refine ⟨_, rfl, ?_⟩))
  go_ret
  exact ⟨rf_, (by repeat (first | exact Drawn0.refl _ | apply Drawn0.step))⟩
theorem q3_3 {P : Prop} (h : P := by repeat (first | (with_reducible first | exact HB.out | apply below_alloc | apply pw_below_drewN | apply below_drew1 | refine below_set ?_ GE104.out) | exact HB.out)) : P := h
def spec_l9Rule.f (a0 : Int) (a1_0 : Int) (a1_1 : Int) : Option (Bool) := (spec_IsSet.f a0 a1_0).bind fun t105 => (if t105 = true then ((spec_IsSet.f a0 a1_1).bind fun t106 => (some t106)) else (some false))
theorem spec_l9Rule.calls (a0 : Int) (a1_0 : Int) (a1_1 : Int) (r : Bool) (w : World) (h : spec_l9Rule.f a0 a1_0 a1_1 = some r) :
  Calls Tryz.prog 157 #[.int .i64 a0, .agg #[.int .i64 a1_0, .int .i64 a1_1]] w fun e w' => e = .returned (.bool r) ∧ Below w.heap.size w w' := by
 have hu48 := Tryz.underlying48; have HB := Aside0.mk (Below.refl w.heap.size w); have H := h; clear h; unfold spec_l9Rule.f at H; obtain ⟨t105, A3, H⟩ := bnd3_ H
 by_cases c4 : t105 = true
 ·
  subst c4; rw [if_pos rfl] at H; obtain ⟨t106, A5, H⟩ := bnd3_ H; obtain rfl := Option.some.inj H
  go_enter Tryz.func157, Tryz.ntmps157
  go_wp2_with (first | ((with_reducible refine gw_ rfl ?_); first | (refine be_ 3 #[.int .i64 a1_0, .int .i64 a1_1] 48 ?_; intro gb104 hg w6 hbox hb; have n_ := ac_ (below_step s1_ hb) <| ac_ (hbox) <| ac_ ((gz_ w hg s1_)) <| Aside0.mk ((gz_ w hg s1_)); clear HB; obtain ⟨HB, BK104, GW104, GE104⟩ := n_; clear hb hbox hg; have hcz7_0 : w6.cell? ⟨gb104, 0, none⟩ = some (.int .i64 a1_0) := (blk_cell BK104.out 0).trans rfl; have hcz7_1 : w6.cell? ⟨gb104, 1, none⟩ = some (.int .i64 a1_1) := (blk_cell BK104.out 1).trans rfl; have hfz7_0 := blk_frozen BK104.out 0; have hfz7_1 := blk_frozen BK104.out 1) | (refine gL_ 86 8 Tryz.func86 #[.int .i64 a0, .int .i64 a1_0] ?_; (with_reducible refine (spec_IsSet.calls a0 a1_0 true _ A3.out).mono ?_); rintro e w' ⟨rfl, ⟨nd, rfl⟩⟩; refine ⟨_, rfl, ?_⟩)) | (go_at_call 86; (with_reducible refine (spec_IsSet.calls a0 a1_1 t106 _ A5.out).mono ?_); rintro e w' ⟨rfl, ⟨nd, rfl⟩⟩))
  go_ret
  exact ⟨(by first | rfl | (simp [errW_none, errW_some] <;> rfl) | (simp [*, errW_none, errW_some] <;> rfl)), q3_3⟩
 ·
  replace c4 := Bool.eq_false_iff.mpr c4; subst c4
  rw [if_neg (show ¬ (false = true) by decide)] at H
  obtain rfl := Option.some.inj H
  go_enter Tryz.func157, Tryz.ntmps157
  go_wp2_with ((with_reducible refine gw_ rfl ?_); first | (refine be_ 3 #[.int .i64 a1_0, .int .i64 a1_1] 48 ?_; intro gb104 hg w8 hbox hb; have n_ := ac_ (below_step s1_ hb) <| ac_ (hbox) <| ac_ ((gz_ w hg s1_)) <| Aside0.mk ((gz_ w hg s1_)); clear HB; obtain ⟨HB, BK104, GW104, GE104⟩ := n_; clear hb hbox hg; have hcz9_0 : w8.cell? ⟨gb104, 0, none⟩ = some (.int .i64 a1_0) := (blk_cell BK104.out 0).trans rfl; have hcz9_1 : w8.cell? ⟨gb104, 1, none⟩ = some (.int .i64 a1_1) := (blk_cell BK104.out 1).trans rfl; have hfz9_0 := blk_frozen BK104.out 0; have hfz9_1 := blk_frozen BK104.out 1) | (refine gL_ 86 8 Tryz.func86 #[.int .i64 a0, .int .i64 a1_0] ?_; (with_reducible refine (spec_IsSet.calls a0 a1_0 false _ A3.out).mono ?_); rintro e w' ⟨rfl, ⟨nd, rfl⟩⟩; refine ⟨_, rfl, ?_⟩))
  go_ret
  exact ⟨(by first | rfl | (simp [errW_none, errW_some] <;> rfl) | (simp [*, errW_none, errW_some] <;> rfl)), q3_3⟩
def spec_AreRules.l0 : Nat → Int → List (S48) → Int → Option (Bool)
 | 0, _, _, _ => none
 | k + 1, x0, x1, x5 => if x5 < (x1.length : Int) then (if 0 ≤ x5 then ((spec_l9Rule.f x0 ((rd_T48 x1 x5).f0) ((rd_T48 x1 x5).f1)).bind fun t108 => (if t108 = true then (spec_AreRules.l0 k x0 x1 (wrap64 (x5 + 1))) else (some false))) else (none)) else ((spec_l1In.f x0 0 6).bind fun t109 => (if t109 = true then (some (decide ((x1.length : Int) ≤ 40))) else (some false)))
def spec_AreRules.f (k : Nat) (a0 : Int) (l1 : List (S48)) : Option (Bool) := spec_AreRules.l0 k a0 l1 0
theorem spec_AreRules.calls (k : Nat) (a0 : Int) (A1 : Option Addr) (c1 : Nat) (l1 : List (S48)) (r : Bool) (w : World) (hr1 : Kd.C k48 w A1 l1.length l1) (hc1 : l1.length ≤ c1) (h : spec_AreRules.f k a0 l1 = some r) :
  Calls Tryz.prog 82 #[.int .i64 a0, .slice A1 l1.length c1] w fun e w' => e = .returned (.bool r) ∧ Below w.heap.size w w' := by
 have hu48 := Tryz.underlying48; have HR1 := Aside0.mk hr1; have HC1 := Aside0.mk hc1; clear hr1 hc1; have HB := Aside0.mk (Below.refl w.heap.size w); have H := h; clear h; unfold spec_AreRules.f at H; have H' := Aside0.mk H; clear H
 go_enter Tryz.func82, Tryz.ntmps82
 go_wp2
 go_loopg [5] k (fun kq v5 w' => ∃ (x5_1 : Int), v5 = .int .i64 x5_1 ∧ Aside0 (spec_AreRules.l0 kq a0 l1 x5_1 = some r) ∧ Aside0 (kq ≤ k) ∧ Aside0 (Below w.heap.size w w'))
 case atStart => exact ⟨(0), rf_, H', ⟨Nat.le_refl _⟩, ⟨s1_⟩⟩
 case round =>
  clear H'
  try clear c1
  try clear p2
  obtain ⟨x5_1, rfl, HA, HK1, HB⟩ := hrel
  cases gk with
  | zero => exact absurd HA.out (by simp [spec_AreRules.l0])
  | succ k1 =>
   have H := HA.out; clear HA
   simp only [spec_AreRules.l0] at H
   by_cases c3 : x5_1 < (l1.length : Int)
   ·
    rw [if_pos c3] at H; have c3b0 : decide (x5_1 < (l1.length : Int)) = true := decide_eq_true c3; clear c3
    by_cases c4 : 0 ≤ x5_1
    ·
     rw [if_pos c4] at H; have c4b0 : decide (0 ≤ x5_1) = true := decide_eq_true c4; clear c4; obtain ⟨t108, A5, H⟩ := bnd3_ H
     by_cases c6 : t108 = true
     ·
      subst c6; rw [if_pos rfl] at H; have H' := Aside0.mk H; clear H; have p107 : 0 ≤ (x5_1 : Int) := of_decide_eq_true s3_; have q107 : x5_1 < (l1.length : Int) := of_decide_eq_true s3_; obtain ⟨ad107, e107, hx107_0, hx107_1⟩ := at_T48 HR1.out x5_1 p107 q107
      cases e107
      replace hx107_0 := (HB.out.cell (World.block_lt_of_cell? w _ hx107_0)).trans hx107_0; replace hx107_1 := (HB.out.cell (World.block_lt_of_cell? w _ hx107_1)).trans hx107_1; replace p107 := eq_true p107; replace q107 := eq_true q107
      go_wp2_with ((with_reducible refine gw_ rfl ?_); (refine gL_ 157 17 Tryz.func157 #[.int .i64 a0, .agg #[.int .i64 ((rd_T48 l1 x5_1).f0), .int .i64 ((rd_T48 l1 x5_1).f1)]] ?_; (with_reducible refine (spec_l9Rule.calls a0 ((rd_T48 l1 x5_1).f0) ((rd_T48 l1 x5_1).f1) true _ A5.out).mono ?_); rintro e w7 ⟨rfl, hb⟩; refine ⟨_, rfl, ?_⟩; have n_ := Aside0.mk (below_step s1_ hb); clear HB; have HB := n_; clear n_; (try clear hb)))
      go_roundg k1
      case measure => have := HK1.out; omega
      case rel => exact ⟨(wrap64 (x5_1 + 1)), rf_, H', ⟨by have := HK1.out; omega⟩, ⟨s1_⟩⟩
     ·
      replace c6 := Bool.eq_false_iff.mpr c6; subst c6
      rw [if_neg (show ¬ (false = true) by decide)] at H
      obtain rfl := Option.some.inj H; have p107 : 0 ≤ (x5_1 : Int) := of_decide_eq_true s3_; have q107 : x5_1 < (l1.length : Int) := of_decide_eq_true s3_; obtain ⟨ad107, e107, hx107_0, hx107_1⟩ := at_T48 HR1.out x5_1 p107 q107
      cases e107
      replace hx107_0 := (HB.out.cell (World.block_lt_of_cell? w _ hx107_0)).trans hx107_0; replace hx107_1 := (HB.out.cell (World.block_lt_of_cell? w _ hx107_1)).trans hx107_1; replace p107 := eq_true p107; replace q107 := eq_true q107
      go_wp2_with ((with_reducible refine gw_ rfl ?_); (refine gL_ 157 17 Tryz.func157 #[.int .i64 a0, .agg #[.int .i64 ((rd_T48 l1 x5_1).f0), .int .i64 ((rd_T48 l1 x5_1).f1)]] ?_; (with_reducible refine (spec_l9Rule.calls a0 ((rd_T48 l1 x5_1).f0) ((rd_T48 l1 x5_1).f1) false _ A5.out).mono ?_); rintro e w8 ⟨rfl, hb⟩; refine ⟨_, rfl, ?_⟩; have n_ := Aside0.mk (below_step s1_ hb); clear HB; have HB := n_; clear n_; (try clear hb)))
      go_ret
      exact ⟨s4_, s1_⟩
    ·
     rw [if_neg c4] at H
     exact absurd H (by simp)
   ·
    rw [if_neg c3] at H; have c3b0 : decide (x5_1 < (l1.length : Int)) = false := decide_eq_false c3; clear c3; obtain ⟨t109, A9, H⟩ := bnd3_ H
    by_cases c10 : t109 = true
    ·
     subst c10; rw [if_pos rfl] at H; obtain rfl := Option.some.inj H
     go_wp2_with ((with_reducible refine gw_ rfl ?_); (refine gL_ 132 20 Tryz.func132 #[.int .i64 a0, .int .i64 0, .int .i64 6] ?_; (with_reducible refine (spec_l1In.calls a0 0 6 true _ A9.out).mono ?_); rintro e w' ⟨rfl, ⟨nd, rfl⟩⟩; refine ⟨_, rfl, ?_⟩))
     go_ret
     exact ⟨s4_, s1_⟩
    ·
     replace c10 := Bool.eq_false_iff.mpr c10; subst c10
     rw [if_neg (show ¬ (false = true) by decide)] at H
     obtain rfl := Option.some.inj H
     go_wp2_with ((with_reducible refine gw_ rfl ?_); (refine gL_ 132 20 Tryz.func132 #[.int .i64 a0, .int .i64 0, .int .i64 6] ?_; (with_reducible refine (spec_l1In.calls a0 0 6 false _ A9.out).mono ?_); rintro e w' ⟨rfl, ⟨nd, rfl⟩⟩; refine ⟨_, rfl, ?_⟩))
     go_ret
     exact ⟨s4_, s1_⟩
mutual
def spec_l9Closed.l0 : Nat → List (S48) → Int → Bool → Option (Int)
 | 0, _, _, _ => none
 | k + 1, x0, x1, x5 => if x5 = true then (spec_l9Closed.l1 k x0 x1 false 0) else (some x1)
def spec_l9Closed.l1 : Nat → List (S48) → Int → Bool → Int → Option (Int)
 | 0, _, _, _, _ => none
 | k + 1, x0, x1, x5, x6 => if x6 < (x0.length : Int) then (if 0 ≤ x6 then (if (Go.bits .and .i64 ((rd_T48 x0 x6).f0) x1) = ((rd_T48 x0 x6).f0) then (if (Go.bits .and .i64 ((rd_T48 x0 x6).f1) x1) = ((rd_T48 x0 x6).f1) then (spec_l9Closed.l1 k x0 x1 x5 (wrap64 (x6 + 1))) else (spec_l9Closed.l1 k x0 (Go.bits .or .i64 x1 ((rd_T48 x0 x6).f1)) true (wrap64 (x6 + 1)))) else (spec_l9Closed.l1 k x0 x1 x5 (wrap64 (x6 + 1)))) else (none)) else (spec_l9Closed.l0 k x0 x1 x5)
end
def spec_l9Closed.f (k : Nat) (l0 : List (S48)) (a1 : Int) : Option (Int) := spec_l9Closed.l0 k l0 a1 true
theorem spec_l9Closed.calls (k : Nat) (A0 : Option Addr) (c0 : Nat) (l0 : List (S48)) (a1 : Int) (r : Int) (w : World) (hr0 : Kd.C k48 w A0 l0.length l0) (hc0 : l0.length ≤ c0) (h : spec_l9Closed.f k l0 a1 = some r) :
  Calls Tryz.prog 138 #[.slice A0 l0.length c0, .int .i64 a1] w fun e w' => e = .returned (.int .i64 r) ∧ Drawn0 w w' := by
 have HR0 := Aside0.mk hr0; have HC0 := Aside0.mk hc0; clear hr0 hc0; have H := h; clear h; unfold spec_l9Closed.f at H; have H' := Aside0.mk H; clear H
 go_enter Tryz.func138, Tryz.ntmps138
 go_wp2
 repeat (go_quiet (fail); try go_wp2)
 go_loopg [1, 5] k (fun kq v1 v5 w' => ∃ (x1_1 : Int) (x5_1 : Bool), v1 = .int .i64 x1_1 ∧ v5 = .bool x5_1 ∧ Aside0 (spec_l9Closed.l0 kq l0 x1_1 x5_1 = some r) ∧ Aside0 (kq ≤ k) ∧ Drawn0 w w')
 case atStart => exact ⟨(a1), (true), s2_, s2_, H', ⟨Nat.le_refl _⟩, s7_⟩
 case round =>
  clear H'
  try clear c1
  try clear p2
  obtain ⟨x1_1, x5_1, rfl, rfl, HA, HK1, ⟨m1, rfl⟩⟩ := hrel
  cases gk with
  | zero => exact absurd HA.out (by simp [spec_l9Closed.l0])
  | succ k1 =>
   have H := HA.out; clear HA
   simp only [spec_l9Closed.l0] at H
   by_cases c3 : x5_1 = true
   ·
    subst c3; rw [if_pos rfl] at H; have H' := Aside0.mk H; clear H
    go_wp2
    repeat (go_quiet (fail); try go_wp2)
    go_loopg [1, 5, 6] k1 (fun kq v1 v5 v6 w' => ∃ (x1_2 : Int) (x5_2 : Bool) (x6_2 : Int), v1 = .int .i64 x1_2 ∧ v5 = .bool x5_2 ∧ v6 = .int .i64 x6_2 ∧ Aside0 (spec_l9Closed.l1 kq l0 x1_2 x5_2 x6_2 = some r) ∧ Aside0 (kq ≤ k1) ∧ Drawn0 w w')
    case atStart => exact ⟨(x1_1), (false), (0), s2_, s2_, s2_, H', ⟨Nat.le_refl _⟩, s7_⟩
    case round =>
     clear H'
     try clear c1
     try clear p2
     try clear c3
     try clear p2
     obtain ⟨x1_2, x5_2, x6_2, rfl, rfl, rfl, HA, HK2, ⟨m2, rfl⟩⟩ := hrel
     cases gk with
     | zero => exact absurd HA.out (by simp [spec_l9Closed.l1])
     | succ k2 =>
      have H := HA.out; clear HA
      simp only [spec_l9Closed.l1] at H
      by_cases c4 : x6_2 < (l0.length : Int)
      ·
       rw [if_pos c4] at H; have c4b0 : decide (x6_2 < (l0.length : Int)) = true := decide_eq_true c4; clear c4
       by_cases c5 : 0 ≤ x6_2
       ·
        rw [if_pos c5] at H; have c5b0 : decide (0 ≤ x6_2) = true := decide_eq_true c5; clear c5
        by_cases c6 : (Go.bits .and .i64 ((rd_T48 l0 x6_2).f0) x1_2) = ((rd_T48 l0 x6_2).f0)
        ·
         rw [if_pos c6] at H; have c6b0 : ((Go.bits .and .i64 ((rd_T48 l0 x6_2).f0) x1_2) == ((rd_T48 l0 x6_2).f0)) = true := beq_iff_eq.mpr c6; have c6b1 : ((Go.bits .and .i64 ((rd_T48 l0 x6_2).f0) x1_2) != ((rd_T48 l0 x6_2).f0)) = false := bne_eq_false_iff_eq.mpr c6; clear c6
         by_cases c7 : (Go.bits .and .i64 ((rd_T48 l0 x6_2).f1) x1_2) = ((rd_T48 l0 x6_2).f1)
         ·
          rw [if_pos c7] at H; have c7b0 : ((Go.bits .and .i64 ((rd_T48 l0 x6_2).f1) x1_2) == ((rd_T48 l0 x6_2).f1)) = true := beq_iff_eq.mpr c7; have c7b1 : ((Go.bits .and .i64 ((rd_T48 l0 x6_2).f1) x1_2) != ((rd_T48 l0 x6_2).f1)) = false := bne_eq_false_iff_eq.mpr c7; clear c7; have H' := Aside0.mk H; clear H; have p110 : 0 ≤ (x6_2 : Int) := of_decide_eq_true s3_; have q110 : x6_2 < (l0.length : Int) := of_decide_eq_true s3_; obtain ⟨ad110, e110, hx110_0, hx110_1⟩ := at_T48 HR0.out x6_2 p110 q110
          cases e110
          replace p110 := eq_true p110; replace q110 := eq_true q110; have p111 : 0 ≤ (x6_2 : Int) := of_decide_eq_true s3_; have q111 : x6_2 < (l0.length : Int) := of_decide_eq_true s3_; obtain ⟨ad111, e111, hx111_0, hx111_1⟩ := at_T48 HR0.out x6_2 p111 q111
          obtain rfl : ad110 = ad111 := (by injection e111)
          replace p111 := eq_true p111; replace q111 := eq_true q111; have p112 : 0 ≤ (x6_2 : Int) := of_decide_eq_true s3_; have q112 : x6_2 < (l0.length : Int) := of_decide_eq_true s3_; obtain ⟨ad112, e112, hx112_0, hx112_1⟩ := at_T48 HR0.out x6_2 p112 q112
          obtain rfl : ad110 = ad112 := (by injection e112)
          replace p112 := eq_true p112; replace q112 := eq_true q112; have p113 : 0 ≤ (x6_2 : Int) := of_decide_eq_true s3_; have q113 : x6_2 < (l0.length : Int) := of_decide_eq_true s3_; obtain ⟨ad113, e113, hx113_0, hx113_1⟩ := at_T48 HR0.out x6_2 p113 q113
          obtain rfl : ad110 = ad113 := (by injection e113)
          replace p113 := eq_true p113; replace q113 := eq_true q113
          go_wp2
          repeat (go_quiet (fail); try go_wp2)
          go_roundg k2
          case measure => have := HK1.out; have := HK2.out; omega
          case rel => exact ⟨(x1_2), (x5_2), (wrap64 (x6_2 + 1)), s2_, s2_, s2_, H', ⟨by have := HK1.out; have := HK2.out; omega⟩, s7_⟩
         ·
          rw [if_neg c7] at H; have c7b0 : ((Go.bits .and .i64 ((rd_T48 l0 x6_2).f1) x1_2) == ((rd_T48 l0 x6_2).f1)) = false := beq_eq_false_iff_ne.mpr c7; have c7b1 : ((Go.bits .and .i64 ((rd_T48 l0 x6_2).f1) x1_2) != ((rd_T48 l0 x6_2).f1)) = true := bne_iff_ne.mpr c7; have H' := Aside0.mk H; clear H; have p110 : 0 ≤ (x6_2 : Int) := of_decide_eq_true s3_; have q110 : x6_2 < (l0.length : Int) := of_decide_eq_true s3_; obtain ⟨ad110, e110, hx110_0, hx110_1⟩ := at_T48 HR0.out x6_2 p110 q110
          cases e110
          replace p110 := eq_true p110; replace q110 := eq_true q110; have p111 : 0 ≤ (x6_2 : Int) := of_decide_eq_true s3_; have q111 : x6_2 < (l0.length : Int) := of_decide_eq_true s3_; obtain ⟨ad111, e111, hx111_0, hx111_1⟩ := at_T48 HR0.out x6_2 p111 q111
          obtain rfl : ad110 = ad111 := (by injection e111)
          replace p111 := eq_true p111; replace q111 := eq_true q111; have p112 : 0 ≤ (x6_2 : Int) := of_decide_eq_true s3_; have q112 : x6_2 < (l0.length : Int) := of_decide_eq_true s3_; obtain ⟨ad112, e112, hx112_0, hx112_1⟩ := at_T48 HR0.out x6_2 p112 q112
          obtain rfl : ad110 = ad112 := (by injection e112)
          replace p112 := eq_true p112; replace q112 := eq_true q112; have p113 : 0 ≤ (x6_2 : Int) := of_decide_eq_true s3_; have q113 : x6_2 < (l0.length : Int) := of_decide_eq_true s3_; obtain ⟨ad113, e113, hx113_0, hx113_1⟩ := at_T48 HR0.out x6_2 p113 q113
          obtain rfl : ad110 = ad113 := (by injection e113)
          replace p113 := eq_true p113; replace q113 := eq_true q113; have p114 : 0 ≤ (x6_2 : Int) := of_decide_eq_true s3_; have q114 : x6_2 < (l0.length : Int) := of_decide_eq_true s3_; obtain ⟨ad114, e114, hx114_0, hx114_1⟩ := at_T48 HR0.out x6_2 p114 q114
          obtain rfl : ad110 = ad114 := (by injection e114)
          replace p114 := eq_true p114; replace q114 := eq_true q114
          go_wp2
          repeat (go_quiet (fail); try go_wp2)
          go_roundg k2
          case measure => have := HK1.out; have := HK2.out; omega
          case rel => exact ⟨(Go.bits .or .i64 x1_2 ((rd_T48 l0 x6_2).f1)), (true), (wrap64 (x6_2 + 1)), s2_, s2_, s2_, H', ⟨by have := HK1.out; have := HK2.out; omega⟩, s7_⟩
        ·
         rw [if_neg c6] at H; have c6b0 : ((Go.bits .and .i64 ((rd_T48 l0 x6_2).f0) x1_2) == ((rd_T48 l0 x6_2).f0)) = false := beq_eq_false_iff_ne.mpr c6; have c6b1 : ((Go.bits .and .i64 ((rd_T48 l0 x6_2).f0) x1_2) != ((rd_T48 l0 x6_2).f0)) = true := bne_iff_ne.mpr c6; have H' := Aside0.mk H; clear H; have p110 : 0 ≤ (x6_2 : Int) := of_decide_eq_true s3_; have q110 : x6_2 < (l0.length : Int) := of_decide_eq_true s3_; obtain ⟨ad110, e110, hx110_0, hx110_1⟩ := at_T48 HR0.out x6_2 p110 q110
         cases e110
         replace p110 := eq_true p110; replace q110 := eq_true q110; have p111 : 0 ≤ (x6_2 : Int) := of_decide_eq_true s3_; have q111 : x6_2 < (l0.length : Int) := of_decide_eq_true s3_; obtain ⟨ad111, e111, hx111_0, hx111_1⟩ := at_T48 HR0.out x6_2 p111 q111
         obtain rfl : ad110 = ad111 := (by injection e111)
         replace p111 := eq_true p111; replace q111 := eq_true q111
         go_wp2
         repeat (go_quiet (fail); try go_wp2)
         go_roundg k2
         case measure => have := HK1.out; have := HK2.out; omega
         case rel => exact ⟨(x1_2), (x5_2), (wrap64 (x6_2 + 1)), s2_, s2_, s2_, H', ⟨by have := HK1.out; have := HK2.out; omega⟩, s7_⟩
       ·
        rw [if_neg c5] at H
        exact absurd H (by simp)
      ·
       rw [if_neg c4] at H; have c4b0 : decide (x6_2 < (l0.length : Int)) = false := decide_eq_false c4; clear c4; have H' := Aside0.mk H; clear H
       go_wp2
       repeat (go_quiet (fail); try go_wp2)
       go_roundg k2
       case measure => have := HK1.out; have := HK2.out; omega
       case rel => exact ⟨(x1_2), (x5_2), s2_, s2_, H', ⟨by have := HK1.out; have := HK2.out; omega⟩, s7_⟩
   ·
    replace c3 := Bool.eq_false_iff.mpr c3; subst c3
    rw [if_neg (show ¬ (false = true) by decide)] at H
    obtain rfl := Option.some.inj H
    go_wp2
    repeat (go_quiet (fail); try go_wp2)
    go_ret
    exact ⟨s2_, s7_⟩
def laws_sameRules.l0 : Nat → List (S48) → List (S48) → Int → Option (Bool)
 | 0, _, _, _ => none
 | k + 1, x0, x1, x5 => if x5 < (x0.length : Int) then (if 0 ≤ x5 then (if x5 < (x1.length : Int) then (if (!(((rd_T48 x0 x5).f0) == ((rd_T48 x1 x5).f0)) || (!(((rd_T48 x0 x5).f1) == ((rd_T48 x1 x5).f1)))) = true then (some false) else (laws_sameRules.l0 k x0 x1 (wrap64 (x5 + 1)))) else (none)) else (none)) else (some true)
def laws_sameRules.f (k : Nat) (l0 : List (S48)) (l1 : List (S48)) : Option (Bool) := if (l0.length : Int) = (l1.length : Int) then (laws_sameRules.l0 k l0 l1 0) else (some false)
theorem laws_sameRules.calls (k : Nat) (A0 : Option Addr) (c0 : Nat) (l0 : List (S48)) (A1 : Option Addr) (c1 : Nat) (l1 : List (S48)) (r : Bool) (w : World) (hr0 : Kd.C k48 w A0 l0.length l0) (hc0 : l0.length ≤ c0) (hr1 : Kd.C k48 w A1 l1.length l1) (hc1 : l1.length ≤ c1) (h : laws_sameRules.f k l0 l1 = some r) :
  Calls Tryz.prog 27 #[.slice A0 l0.length c0, .slice A1 l1.length c1] w fun e w' => e = .returned (.bool r) ∧ Drawn0 w w' := by
 have hu48 := Tryz.underlying48; have HR0 := Aside0.mk hr0; have HC0 := Aside0.mk hc0; clear hr0 hc0; have HR1 := Aside0.mk hr1; have HC1 := Aside0.mk hc1; clear hr1 hc1; have H := h; clear h; unfold laws_sameRules.f at H
 by_cases c3 : (l0.length : Int) = (l1.length : Int)
 ·
  rw [if_pos c3] at H; have c3b0 : ((l0.length : Int) == (l1.length : Int)) = true := beq_iff_eq.mpr c3; have c3b1 : ((l0.length : Int) != (l1.length : Int)) = false := bne_eq_false_iff_eq.mpr c3
  have c3b2 : (l0.length == l1.length) = true := by first | simpa using c3 | (simp at c3 ⊢; omega)
  clear c3; have H' := Aside0.mk H; clear H
  go_enter Tryz.func27, Tryz.ntmps27
  go_wp2
  repeat (go_quiet (fail); try go_wp2)
  go_loopg [5] k (fun kq v5 w' => ∃ (x5_1 : Int), v5 = .int .i64 x5_1 ∧ Aside0 (laws_sameRules.l0 kq l0 l1 x5_1 = some r) ∧ Aside0 (kq ≤ k) ∧ Drawn0 w w')
  case atStart => exact ⟨(0), s2_, H', ⟨Nat.le_refl _⟩, s7_⟩
  case round =>
   clear H'
   try clear c1
   try clear c2
   try clear p2
   try clear c3
   try clear c3b0
   try clear c3b1
   try clear c3b2
   obtain ⟨x5_1, rfl, HA, HK1, ⟨m1, rfl⟩⟩ := hrel
   cases gk with
   | zero => exact absurd HA.out (by simp [laws_sameRules.l0])
   | succ k1 =>
    have H := HA.out; clear HA
    simp only [laws_sameRules.l0] at H
    by_cases c4 : x5_1 < (l0.length : Int)
    ·
     rw [if_pos c4] at H; have c4b0 : decide (x5_1 < (l0.length : Int)) = true := decide_eq_true c4; clear c4
     by_cases c5 : 0 ≤ x5_1
     ·
      rw [if_pos c5] at H; have c5b0 : decide (0 ≤ x5_1) = true := decide_eq_true c5; clear c5
      by_cases c6 : x5_1 < (l1.length : Int)
      ·
       rw [if_pos c6] at H; have c6b0 : decide (x5_1 < (l1.length : Int)) = true := decide_eq_true c6; clear c6
       by_cases c7 : (!(((rd_T48 l0 x5_1).f0) == ((rd_T48 l1 x5_1).f0)) || (!(((rd_T48 l0 x5_1).f1) == ((rd_T48 l1 x5_1).f1)))) = true
       ·
        rw [if_pos c7] at H; have c7b0 : (!(((rd_T48 l0 x5_1).f0) == ((rd_T48 l1 x5_1).f0)) || (!(((rd_T48 l0 x5_1).f1) == ((rd_T48 l1 x5_1).f1)))) = true := c7; clear c7; obtain rfl := Option.some.inj H; have p194 : 0 ≤ (x5_1 : Int) := of_decide_eq_true s3_; have q194 : x5_1 < (l0.length : Int) := of_decide_eq_true s3_; obtain ⟨ad194, e194, hx194_0, hx194_1⟩ := at_T48 HR0.out x5_1 p194 q194
        cases e194
        replace p194 := eq_true p194; replace q194 := eq_true q194; have p195 : 0 ≤ (x5_1 : Int) := of_decide_eq_true s3_; have q195 : x5_1 < (l1.length : Int) := of_decide_eq_true s3_; obtain ⟨ad195, e195, hx195_0, hx195_1⟩ := at_T48 HR1.out x5_1 p195 q195
        cases e195
        replace p195 := eq_true p195; replace q195 := eq_true q195
        go_wp2
        repeat (go_quiet (fail); try go_wp2)
        go_ret
        exact ⟨s2_, s7_⟩
       ·
        rw [if_neg c7] at H
        have c7b0 : (!(((rd_T48 l0 x5_1).f0) == ((rd_T48 l1 x5_1).f0)) || (!(((rd_T48 l0 x5_1).f1) == ((rd_T48 l1 x5_1).f1)))) = false := by simpa using c7
        clear c7; have H' := Aside0.mk H; clear H; have p194 : 0 ≤ (x5_1 : Int) := of_decide_eq_true s3_; have q194 : x5_1 < (l0.length : Int) := of_decide_eq_true s3_; obtain ⟨ad194, e194, hx194_0, hx194_1⟩ := at_T48 HR0.out x5_1 p194 q194
        cases e194
        replace p194 := eq_true p194; replace q194 := eq_true q194; have p195 : 0 ≤ (x5_1 : Int) := of_decide_eq_true s3_; have q195 : x5_1 < (l1.length : Int) := of_decide_eq_true s3_; obtain ⟨ad195, e195, hx195_0, hx195_1⟩ := at_T48 HR1.out x5_1 p195 q195
        cases e195
        replace p195 := eq_true p195; replace q195 := eq_true q195
        go_wp2
        repeat (go_quiet (fail); try go_wp2)
        go_roundg k1
        case measure => have := HK1.out; omega
        case rel => exact ⟨(wrap64 (x5_1 + 1)), s2_, H', ⟨by have := HK1.out; omega⟩, s7_⟩
      ·
       rw [if_neg c6] at H
       exact absurd H (by simp)
     ·
      rw [if_neg c5] at H
      exact absurd H (by simp)
    ·
     rw [if_neg c4] at H; have c4b0 : decide (x5_1 < (l0.length : Int)) = false := decide_eq_false c4; clear c4; obtain rfl := Option.some.inj H
     go_wp2
     repeat (go_quiet (fail); try go_wp2)
     go_ret
     exact ⟨s2_, s7_⟩
 ·
  rw [if_neg c3] at H; have c3b0 : ((l0.length : Int) == (l1.length : Int)) = false := beq_eq_false_iff_ne.mpr c3; have c3b1 : ((l0.length : Int) != (l1.length : Int)) = true := bne_iff_ne.mpr c3
  have c3b2 : (l0.length == l1.length) = false := by first | simpa using c3 | (simp at c3 ⊢; omega)
  obtain rfl := Option.some.inj H
  go_enter Tryz.func27, Tryz.ntmps27
  go_wp2
  repeat (go_quiet (fail); try go_wp2)
  go_ret
  exact ⟨s2_, s7_⟩
def spec_l9Sets.l0 : Nat → List (S48) → Int → Option (Bool)
 | 0, _, _ => none
 | k + 1, x0, x3 => if x3 < (x0.length : Int) then (if 0 ≤ x3 then ((spec_l9Rule.f 8 ((rd_T48 x0 x3).f0) ((rd_T48 x0 x3).f1)).bind fun t197 => (if t197 = true then (spec_l9Sets.l0 k x0 (wrap64 (x3 + 1))) else (some false))) else (none)) else (some true)
def spec_l9Sets.f (k : Nat) (l0 : List (S48)) : Option (Bool) := spec_l9Sets.l0 k l0 0
theorem spec_l9Sets.calls (k : Nat) (A0 : Option Addr) (c0 : Nat) (l0 : List (S48)) (r : Bool) (w : World) (hr0 : Kd.C k48 w A0 l0.length l0) (hc0 : l0.length ≤ c0) (h : spec_l9Sets.f k l0 = some r) :
  Calls Tryz.prog 156 #[.slice A0 l0.length c0] w fun e w' => e = .returned (.bool r) ∧ Below w.heap.size w w' := by
 have hu48 := Tryz.underlying48; have HR0 := Aside0.mk hr0; have HC0 := Aside0.mk hc0; clear hr0 hc0; have HB := Aside0.mk (Below.refl w.heap.size w); have H := h; clear h; unfold spec_l9Sets.f at H; have H' := Aside0.mk H; clear H
 go_enter Tryz.func156, Tryz.ntmps156
 go_wp2
 go_loopg [3] k (fun kq v3 w' => ∃ (x3_1 : Int), v3 = .int .i64 x3_1 ∧ Aside0 (spec_l9Sets.l0 kq l0 x3_1 = some r) ∧ Aside0 (kq ≤ k) ∧ Aside0 (Below w.heap.size w w'))
 case atStart => exact ⟨(0), rf_, H', ⟨Nat.le_refl _⟩, ⟨s1_⟩⟩
 case round =>
  clear H'
  try clear c1
  obtain ⟨x3_1, rfl, HA, HK1, HB⟩ := hrel
  cases gk with
  | zero => exact absurd HA.out (by simp [spec_l9Sets.l0])
  | succ k1 =>
   have H := HA.out; clear HA
   simp only [spec_l9Sets.l0] at H
   by_cases c2 : x3_1 < (l0.length : Int)
   ·
    rw [if_pos c2] at H; have c2b0 : decide (x3_1 < (l0.length : Int)) = true := decide_eq_true c2; clear c2
    by_cases c3 : 0 ≤ x3_1
    ·
     rw [if_pos c3] at H; have c3b0 : decide (0 ≤ x3_1) = true := decide_eq_true c3; clear c3; obtain ⟨t197, A4, H⟩ := bnd3_ H
     by_cases c5 : t197 = true
     ·
      subst c5; rw [if_pos rfl] at H; have H' := Aside0.mk H; clear H; have p196 : 0 ≤ (x3_1 : Int) := of_decide_eq_true s3_; have q196 : x3_1 < (l0.length : Int) := of_decide_eq_true s3_; obtain ⟨ad196, e196, hx196_0, hx196_1⟩ := at_T48 HR0.out x3_1 p196 q196
      cases e196
      replace hx196_0 := (HB.out.cell (World.block_lt_of_cell? w _ hx196_0)).trans hx196_0; replace hx196_1 := (HB.out.cell (World.block_lt_of_cell? w _ hx196_1)).trans hx196_1; replace p196 := eq_true p196; replace q196 := eq_true q196
      go_wp2_with ((with_reducible refine gw_ rfl ?_); (refine gL_ 157 14 Tryz.func157 #[.int .i64 8, .agg #[.int .i64 ((rd_T48 l0 x3_1).f0), .int .i64 ((rd_T48 l0 x3_1).f1)]] ?_; (with_reducible refine (spec_l9Rule.calls 8 ((rd_T48 l0 x3_1).f0) ((rd_T48 l0 x3_1).f1) true _ A4.out).mono ?_); rintro e w6 ⟨rfl, hb⟩; refine ⟨_, rfl, ?_⟩; have n_ := Aside0.mk (below_step s1_ hb); clear HB; have HB := n_; clear n_; (try clear hb)))
      go_roundg k1
      case measure => have := HK1.out; omega
      case rel => exact ⟨(wrap64 (x3_1 + 1)), rf_, H', ⟨by have := HK1.out; omega⟩, ⟨s1_⟩⟩
     ·
      replace c5 := Bool.eq_false_iff.mpr c5; subst c5
      rw [if_neg (show ¬ (false = true) by decide)] at H
      obtain rfl := Option.some.inj H; have p196 : 0 ≤ (x3_1 : Int) := of_decide_eq_true s3_; have q196 : x3_1 < (l0.length : Int) := of_decide_eq_true s3_; obtain ⟨ad196, e196, hx196_0, hx196_1⟩ := at_T48 HR0.out x3_1 p196 q196
      cases e196
      replace hx196_0 := (HB.out.cell (World.block_lt_of_cell? w _ hx196_0)).trans hx196_0; replace hx196_1 := (HB.out.cell (World.block_lt_of_cell? w _ hx196_1)).trans hx196_1; replace p196 := eq_true p196; replace q196 := eq_true q196
      go_wp2_with ((with_reducible refine gw_ rfl ?_); (refine gL_ 157 14 Tryz.func157 #[.int .i64 8, .agg #[.int .i64 ((rd_T48 l0 x3_1).f0), .int .i64 ((rd_T48 l0 x3_1).f1)]] ?_; (with_reducible refine (spec_l9Rule.calls 8 ((rd_T48 l0 x3_1).f0) ((rd_T48 l0 x3_1).f1) false _ A4.out).mono ?_); rintro e w7 ⟨rfl, hb⟩; refine ⟨_, rfl, ?_⟩; have n_ := Aside0.mk (below_step s1_ hb); clear HB; have HB := n_; clear n_; (try clear hb)))
      go_ret
      exact ⟨(by first | rfl | (simp [errW_none, errW_some] <;> rfl) | (simp [*, errW_none, errW_some] <;> rfl)), s1_⟩
    ·
     rw [if_neg c3] at H
     exact absurd H (by simp)
   ·
    rw [if_neg c2] at H; have c2b0 : decide (x3_1 < (l0.length : Int)) = false := decide_eq_false c2; clear c2; obtain rfl := Option.some.inj H
    go_wp2
    go_ret
    exact ⟨(by first | rfl | (simp [errW_none, errW_some] <;> rfl) | (simp [*, errW_none, errW_some] <;> rfl)), s1_⟩
def spec_ClosedBy.f (k : Nat) (l0 : List (S48)) (a1 : Int) : Option (Int) := (spec_l9Sets.f k l0).bind fun t198 => (if t198 = true then ((spec_IsSet.f 8 a1).bind fun t199 => (if t199 = true then ((spec_l9Closed.f k l0 a1).bind fun t200 => (some t200)) else (some a1))) else (some a1))
theorem spec_ClosedBy.calls (k : Nat) (A0 : Option Addr) (c0 : Nat) (l0 : List (S48)) (a1 : Int) (r : Int) (w : World) (hr0 : Kd.C k48 w A0 l0.length l0) (hc0 : l0.length ≤ c0) (h : spec_ClosedBy.f k l0 a1 = some r) :
  Calls Tryz.prog 63 #[.slice A0 l0.length c0, .int .i64 a1] w fun e w' => e = .returned (.int .i64 r) ∧ Below w.heap.size w w' := by
 have HR0 := Aside0.mk hr0; have HC0 := Aside0.mk hc0; clear hr0 hc0; have HB := Aside0.mk (Below.refl w.heap.size w); have H := h; clear h; unfold spec_ClosedBy.f at H; obtain ⟨t198, A3, H⟩ := bnd3_ H
 by_cases c4 : t198 = true
 ·
  subst c4; rw [if_pos rfl] at H; obtain ⟨t199, A5, H⟩ := bnd3_ H
  by_cases c6 : t199 = true
  ·
   subst c6; rw [if_pos rfl] at H; obtain ⟨t200, A7, H⟩ := bnd3_ H; obtain rfl := Option.some.inj H
   go_enter Tryz.func63, Tryz.ntmps63
   go_wp2_with (first | ((with_reducible refine gw_ rfl ?_); first | (refine gL_ 156 6 Tryz.func156 #[.slice A0 l0.length c0] ?_; (with_reducible refine (spec_l9Sets.calls k _ _ l0 true _ ?side1 ?side2 A3.out).mono ?_); (case side1 => exact s13_); (case side2 => exact HC0.out); rintro e w8 ⟨rfl, hb⟩; refine ⟨_, rfl, ?_⟩; have n_ := Aside0.mk (below_step s1_ hb); clear HB; have HB := n_; clear n_; (try clear hb)) | (refine gL_ 138 16 Tryz.func138 #[.slice A0 l0.length c0, .int .i64 a1] ?_; (with_reducible refine (spec_l9Closed.calls k _ _ l0 a1 t200 _ ?side1 ?side2 A7.out).mono ?_); (case side1 => repeat (first | exact (Kd.C_below HR0.out s1_) | (with_reducible refine Kd.C_alloc ?_ _) | (with_reducible refine Kd.C_drewN ?_ _) | (with_reducible refine Kd.C_drew ?_))); (case side2 => exact HC0.out); rintro e w' ⟨rfl, ⟨nd, rfl⟩⟩; refine ⟨_, rfl, ?_⟩)) | (go_at_call 86; (with_reducible refine (spec_IsSet.calls 8 a1 true _ A5.out).mono ?_); rintro e w' ⟨rfl, ⟨nd, rfl⟩⟩))
   go_ret
   exact ⟨s4_, s1_⟩
  ·
   replace c6 := Bool.eq_false_iff.mpr c6; subst c6
   rw [if_neg (show ¬ (false = true) by decide)] at H
   obtain rfl := Option.some.inj H
   go_enter Tryz.func63, Tryz.ntmps63
   go_wp2_with (first | ((with_reducible refine gw_ rfl ?_); (refine gL_ 156 6 Tryz.func156 #[.slice A0 l0.length c0] ?_; (with_reducible refine (spec_l9Sets.calls k _ _ l0 true _ ?side1 ?side2 A3.out).mono ?_); (case side1 => exact s13_); (case side2 => exact HC0.out); rintro e w9 ⟨rfl, hb⟩; refine ⟨_, rfl, ?_⟩; have n_ := Aside0.mk (below_step s1_ hb); clear HB; have HB := n_; clear n_; (try clear hb))) | (go_at_call 86; (with_reducible refine (spec_IsSet.calls 8 a1 false _ A5.out).mono ?_); rintro e w' ⟨rfl, ⟨nd, rfl⟩⟩))
   go_ret
   exact ⟨s4_, s1_⟩
 ·
  replace c4 := Bool.eq_false_iff.mpr c4; subst c4
  rw [if_neg (show ¬ (false = true) by decide)] at H
  obtain rfl := Option.some.inj H
  go_enter Tryz.func63, Tryz.ntmps63
  go_wp2_with ((with_reducible refine gw_ rfl ?_); (refine gL_ 156 6 Tryz.func156 #[.slice A0 l0.length c0] ?_; (with_reducible refine (spec_l9Sets.calls k _ _ l0 false _ ?side1 ?side2 A3.out).mono ?_); (case side1 => exact s13_); (case side2 => exact HC0.out); rintro e w10 ⟨rfl, hb⟩; refine ⟨_, rfl, ?_⟩; have n_ := Aside0.mk (below_step s1_ hb); clear HB; have HB := n_; clear n_; (try clear hb)))
  go_ret
  exact ⟨s4_, s1_⟩
def IsS152 (w0 W : World) (g : Nat) (f0 : List Int) (f1 : Int) (f2 : Int) : Prop := ∃ A0 c0, W.heap[g]? = some (.cells #[.slice A0 f0.length c0, .int .i64 f1, .int .i64 f2] 152 (0, 0)) ∧ w0.heap.size ≤ g ∧ Kd.C (Kd.int .u8) w0 A0 f0.length f0
theorem IsS152.grown {w0 W : World} {g : Nat} {f0 : List Int} {f1 : Int} {f2 : Int} {W1 : World} {row : Option Nat} (h : IsS152 w0 W g f0 f1 f2) (hw : W.grownBy W1 row) (hne : some g ≠ row) : IsS152 w0 W1 g f0 f1 f2 := by
 obtain ⟨A0, c0, hb, hg, hr0⟩ := h
 exact ⟨A0, c0, blk_grown hb hw hne, hg, hr0⟩
theorem IsS152.below {w0 W : World} {g : Nat} {f0 : List Int} {f1 : Int} {f2 : Int} {W1 : World} (h : IsS152 w0 W g f0 f1 f2) (hw : Below W.heap.size W W1) : IsS152 w0 W1 g f0 f1 f2 := h.grown (grown_of_below hw none) (by simp)
theorem IsS152.drewN {w0 W : World} {g : Nat} {f0 : List Int} {f1 : Int} {f2 : Int} (h : IsS152 w0 W g f0 f1 f2) (m : Nat) : IsS152 w0 (W.drewN m) g f0 f1 f2 := h
theorem IsS152.drew {w0 W : World} {g : Nat} {f0 : List Int} {f1 : Int} {f2 : Int} (h : IsS152 w0 W g f0 f1 f2) : IsS152 w0 W.drew g f0 f1 f2 := h
theorem IsS152.apart {w0 W : World} {g : Nat} {f0 : List Int} {f1 : Int} {f2 : Int} {α : Type} {d : Kd α} {e : Nat} {base : Nat} {ok : Nat → Prop} {v : Value} {xs : List α} (h : IsS152 w0 W g f0 f1 f2) (ho : d.R e W base ok v xs) (ht : ∀ q, q ∈ e :: d.E → q ≠ 152) : d.R e W base (fun k => ok k ∧ k ≠ g) v xs := by
 obtain ⟨A0, c0, hb, hg, hr0⟩ := h
 exact Kd.R_types ho hb ht
theorem IsS152.own_ne {w0 W : World} {g : Nat} {f0 : List Int} {f1 : Int} {f2 : Int} {α : Type} {d : Kd α} {e : Nat} {base : Nat} {ok : Nat → Prop} {v : Value} {xs : List α} (h : IsS152 w0 W g f0 f1 f2) (ho : d.R e W base ok v xs) (ht : e ≠ 152) : some g ≠ v.ownBlock := by
 obtain ⟨A0, c0, hb, hg, hr0⟩ := h
 exact Kd.R_ne ho hb ht
theorem IsS152.lt {w0 W : World} {g : Nat} {f0 : List Int} {f1 : Int} {f2 : Int} (h : IsS152 w0 W g f0 f1 f2) : g < W.heap.size := by
 obtain ⟨A0, c0, hb, hg, hr0⟩ := h
 exact blk_lt hb
theorem IsS152.ge {w0 W : World} {g : Nat} {f0 : List Int} {f1 : Int} {f2 : Int} (h : IsS152 w0 W g f0 f1 f2) : w0.heap.size ≤ g := by
 obtain ⟨A0, c0, hb, hg, hr0⟩ := h
 exact hg
theorem IsS152.ne_blk {w0 W : World} {g : Nat} {f0 : List Int} {f1 : Int} {f2 : Int} {a : Nat} {cs : Array Value} {t : TypeId} {fr : Nat × Nat} (h : IsS152 w0 W g f0 f1 f2) (hb2 : W.heap[a]? = some (.cells cs t fr)) (ht : t ≠ 152) : g ≠ a := by
 obtain ⟨A0, c0, hb, hg, hr0⟩ := h
 rintro rfl
 rw [hb] at hb2
 injection hb2 with hb2
 injection hb2 with _ ht2
 exact ht ht2.symm
theorem IsS152.far {w0 W : World} {g : Nat} {f0 : List Int} {f1 : Int} {f2 : Int} {p : Addr} (h : IsS152 w0 W g f0 f1 f2) (hne : g ≠ p.block) (u : Value) : IsS152 w0 (W.setCell p u) g f0 f1 f2 := by
 obtain ⟨A0, c0, hb, hg, hr0⟩ := h
 exact ⟨A0, c0, blk_far hb hne u, hg, hr0⟩
theorem cellS152_0 {W : World} {g : Nat} {A0 : Option Addr} {c0 : Nat} {f0 : List Int} {f1 : Int} {f2 : Int} (h : W.heap[g]? = some (.cells #[.slice A0 f0.length c0, .int .i64 f1, .int .i64 f2] 152 (0, 0))) : W.cell? ⟨g, 0, none⟩ = some (.slice A0 f0.length c0) := (blk_cell h 0).trans rfl
theorem cellS152_1 {W : World} {g : Nat} {A0 : Option Addr} {c0 : Nat} {f0 : List Int} {f1 : Int} {f2 : Int} (h : W.heap[g]? = some (.cells #[.slice A0 f0.length c0, .int .i64 f1, .int .i64 f2] 152 (0, 0))) : W.cell? ⟨g, 1, none⟩ = some (.int .i64 f1) := (blk_cell h 1).trans rfl
theorem IsS152.set_1 {w0 W : World} {g : Nat} {f0 : List Int} {f1 : Int} {f2 : Int} (h : IsS152 w0 W g f0 f1 f2) (x : Int) : IsS152 w0 (W.setCell ⟨g, 1, none⟩ (.int .i64 x)) g f0 x f2 := by
 obtain ⟨A0, c0, hb, hg, hr0⟩ := h
 exact ⟨A0, c0, by simpa using blk_set hb 1 (.int .i64 x), hg, hr0⟩
theorem cellS152_2 {W : World} {g : Nat} {A0 : Option Addr} {c0 : Nat} {f0 : List Int} {f1 : Int} {f2 : Int} (h : W.heap[g]? = some (.cells #[.slice A0 f0.length c0, .int .i64 f1, .int .i64 f2] 152 (0, 0))) : W.cell? ⟨g, 2, none⟩ = some (.int .i64 f2) := (blk_cell h 2).trans rfl
theorem IsS152.set_2 {w0 W : World} {g : Nat} {f0 : List Int} {f1 : Int} {f2 : Int} (h : IsS152 w0 W g f0 f1 f2) (x : Int) : IsS152 w0 (W.setCell ⟨g, 2, none⟩ (.int .i64 x)) g f0 f1 x := by
 obtain ⟨A0, c0, hb, hg, hr0⟩ := h
 exact ⟨A0, c0, by simpa using blk_set hb 2 (.int .i64 x), hg, hr0⟩
theorem q3_23 {P : Prop} (h : P := by repeat (first | (with_reducible first | exact HBW.out | apply below_alloc | apply pw_below_drewN | apply below_drew1) | exact HBW.out)) : P := h
def spec_l1New.l0 : Nat → List Int → Int → Int → Option (List Int × Int × Int)
 | 0, _, _, _ => none
 | k + 1, x0, x3, x4 => if x4 < (x0.length : Int) then (if x4 < 4000 then (if 0 ≤ x4 then (spec_l1New.l0 k x0 (Go.bits .and .i64 (wrap64 ((wrap64 ((wrap64 (x3 * 131)) + (wrap64 (rd x0 x4)))) + 7)) 1073741823) (wrap64 (x4 + 1))) else (none)) else (some (x0, 0, x3))) else (some (x0, 0, x3))
def spec_l1New.f (k : Nat) (l0 : List Int) : Option (List Int × Int × Int) := spec_l1New.l0 k l0 (wrap64 (26583 + (l0.length : Int))) 0
theorem spec_l1New.calls (k : Nat) (A0 : Option Addr) (c0 : Nat) (l0 : List Int) (r1 : List Int) (r2 : Int) (r3 : Int) (w0 w : World) (hB : Below w0.heap.size w0 w) (hr0 : Kd.C (Kd.int .u8) w0 A0 l0.length l0) (hc0 : l0.length ≤ c0) (h : spec_l1New.f k l0 = some (r1, r2, r3)) :
  Calls Tryz.prog 144 #[.slice A0 l0.length c0] w fun e w' => ∃ g_ : Nat, e = .returned (.pointer (some ⟨g_, 0, none⟩)) ∧ IsS152 w0 w' g_ r1 r2 r3 ∧ Below w0.heap.size w0 w' ∧ Below w.heap.size w w' := by
 have hu152 := Tryz.underlying152; have HR0 := Aside0.mk hr0; have HC0 := Aside0.mk hc0; clear hr0 hc0; have HBW := Aside0.mk (Below.refl w.heap.size w); have HW0 := Aside0.mk hB.size; have HB := Aside0.mk hB; clear hB; have H := h; clear h; unfold spec_l1New.f at H; have H' := Aside0.mk H; clear H
 go_enter Tryz.func144, Tryz.ntmps144
 go_wp2
 go_loopg [3, 4] k (fun kq v3 v4 w' => ∃ (x3_1 : Int) (x4_1 : Int), v3 = .int .i64 x3_1 ∧ v4 = .int .i64 x4_1 ∧ Aside0 (spec_l1New.l0 kq l0 x3_1 x4_1 = some (r1, r2, r3)) ∧ Aside0 (kq ≤ k) ∧ Aside0 (Below w0.heap.size w0 w') ∧ Aside0 (Below w.heap.size w w'))
 case atStart => exact ⟨(wrap64 (26583 + (l0.length : Int))), (0), s2_, s2_, H', ⟨Nat.le_refl _⟩, ⟨s1_⟩, ⟨q3_23⟩⟩
 case round =>
  clear H'
  try clear c1
  obtain ⟨x3_1, x4_1, rfl, rfl, HA, HK1, HB, HBW⟩ := hrel
  cases gk with
  | zero => exact absurd HA.out (by simp [spec_l1New.l0])
  | succ k1 =>
   have H := HA.out; clear HA
   simp only [spec_l1New.l0] at H
   by_cases c2 : x4_1 < (l0.length : Int)
   ·
    rw [if_pos c2] at H; have c2b0 : decide (x4_1 < (l0.length : Int)) = true := decide_eq_true c2; clear c2
    by_cases c3 : x4_1 < 4000
    ·
     rw [if_pos c3] at H; have c3b0 : decide (x4_1 < 4000) = true := decide_eq_true c3; clear c3
     by_cases c4 : 0 ≤ x4_1
     ·
      rw [if_pos c4] at H; have c4b0 : decide (0 ≤ x4_1) = true := decide_eq_true c4; clear c4; have H' := Aside0.mk H; clear H
      have p201 : 0 ≤ (x4_1 : Int) := of_decide_eq_true (by first | (with_reducible assumption) | assumption)
      have q201 : x4_1 < (l0.length : Int) := of_decide_eq_true (by first | (with_reducible assumption) | assumption)
      obtain ⟨ad201, e201, hx201_0⟩ := Kd.at_int HR0.out x4_1 p201 q201
      cases e201
      replace hx201_0 := pw_cell_below HB.out hx201_0; replace p201 := eq_true p201; replace q201 := eq_true q201
      go_wp2
      go_roundg k1
      case measure => have := HK1.out; omega
      case rel => exact ⟨(Go.bits .and .i64 (wrap64 ((wrap64 ((wrap64 (x3_1 * 131)) + (wrap64 (rd l0 x4_1)))) + 7)) 1073741823), (wrap64 (x4_1 + 1)), s2_, s2_, H', ⟨by have := HK1.out; omega⟩, ⟨s1_⟩, ⟨q3_23⟩⟩
     ·
      rw [if_neg c4] at H
      exact absurd H (by simp)
    ·
     rw [if_neg c3] at H; have c3b0 : decide (x4_1 < 4000) = false := decide_eq_false c3; clear c3
     simp only [Option.some.injEq, Prod.mk.injEq] at H
     obtain ⟨rfl, rfl, rfl⟩ := H
     go_wp2_with ((with_reducible refine gw_ rfl ?_); (refine be_ 31 #[.slice A0 l0.length c0, .int .i64 0, .int .i64 x3_1] 152 ?_; intro gb202 hg w5 hbox hb; have n_ := ac_ (below_step HBW.out hb) <| ac_ (below_step s1_ hb) <| ac_ (hbox) <| ac_ ((gz_ w hg q3_23)) <| Aside0.mk ((Nat.le_trans HW0.out (gz_ w hg q3_23) : w0.heap.size ≤ gb202)); clear HBW HB; obtain ⟨HBW, HB, BK202, GW202, GE202⟩ := n_; clear hb hbox hg))
     go_ret
     exact ⟨_, rfl, (show IsS152 w0 _ gb202 l0 0 x3_1 from ⟨_, _, (by (with_reducible repeat (first | refine blk_drewN ?_ _ | refine blk_drew ?_ | refine blk_alloc ?_ _)); exact BK202.out), GE202.out, HR0.out⟩), (by repeat (first | (with_reducible first | exact HB.out | apply below_alloc | apply pw_below_drewN | apply below_drew1 | refine below_set ?_ GE202.out) | exact HB.out)), (by repeat (first | (with_reducible first | exact HBW.out | apply below_alloc | apply pw_below_drewN | apply below_drew1 | refine below_set ?_ GW202.out) | exact HBW.out))⟩
   ·
    rw [if_neg c2] at H; have c2b0 : decide (x4_1 < (l0.length : Int)) = false := decide_eq_false c2; clear c2
    simp only [Option.some.injEq, Prod.mk.injEq] at H
    obtain ⟨rfl, rfl, rfl⟩ := H
    go_wp2_with ((with_reducible refine gw_ rfl ?_); (refine be_ 31 #[.slice A0 l0.length c0, .int .i64 0, .int .i64 x3_1] 152 ?_; intro gb203 hg w6 hbox hb; have n_ := ac_ (below_step HBW.out hb) <| ac_ (below_step s1_ hb) <| ac_ (hbox) <| ac_ ((gz_ w hg q3_23)) <| Aside0.mk ((Nat.le_trans HW0.out (gz_ w hg q3_23) : w0.heap.size ≤ gb203)); clear HBW HB; obtain ⟨HBW, HB, BK203, GW203, GE203⟩ := n_; clear hb hbox hg))
    go_ret
    exact ⟨_, rfl, (show IsS152 w0 _ gb203 l0 0 x3_1 from ⟨_, _, (by (with_reducible repeat (first | refine blk_drewN ?_ _ | refine blk_drew ?_ | refine blk_alloc ?_ _)); exact BK203.out), GE203.out, HR0.out⟩), (by repeat (first | (with_reducible first | exact HB.out | apply below_alloc | apply pw_below_drewN | apply below_drew1 | refine below_set ?_ GE203.out) | exact HB.out)), (by repeat (first | (with_reducible first | exact HBW.out | apply below_alloc | apply pw_below_drewN | apply below_drew1 | refine below_set ?_ GW203.out) | exact HBW.out))⟩
def spec_l1Byte.f (s0_0 : List Int) (s0_1 : Int) (s0_2 : Int) : Option (Int × Int × Int) := if s0_1 < (s0_0.length : Int) then (if 0 ≤ s0_1 then (some (Go.bits .and .i64 (wrap64 ((Go.bits .and .i64 (Go.bits .xor .i64 ((wrap64 ((wrap64 (s0_2 * 6364136223846793005)) + 1442695040888963407)) / 8589934592) ((wrap64 ((wrap64 (s0_2 * 6364136223846793005)) + 1442695040888963407)) / 35184372088832)) 255) + (wrap64 (rd s0_0 s0_1)))) 255, wrap64 (s0_1 + 1), wrap64 ((wrap64 (s0_2 * 6364136223846793005)) + 1442695040888963407))) else (none)) else (some (Go.bits .and .i64 (Go.bits .xor .i64 ((wrap64 ((wrap64 (s0_2 * 6364136223846793005)) + 1442695040888963407)) / 8589934592) ((wrap64 ((wrap64 (s0_2 * 6364136223846793005)) + 1442695040888963407)) / 35184372088832)) 255, s0_1, wrap64 ((wrap64 (s0_2 * 6364136223846793005)) + 1442695040888963407)))
theorem spec_l1Byte.calls (g : Nat) (s0_0 : List Int) (s0_1 : Int) (s0_2 : Int) (r1 : Int) (r2 : Int) (r3 : Int) (w0 w : World) (hI : IsS152 w0 w g s0_0 s0_1 s0_2) (hB : Below w0.heap.size w0 w) (h : spec_l1Byte.f s0_0 s0_1 s0_2 = some (r1, r2, r3)) :
  Calls Tryz.prog 217 #[.pointer (some ⟨g, 0, none⟩)] w fun e w' => e = .returned (.int .i64 r1) ∧ IsS152 w0 w' g s0_0 r2 r3 ∧ Below w0.heap.size w0 w' ∧ KeepBut w w' g none := by
 have HI0 := Aside0.mk hI; have HK := Aside0.mk (KeepBut.refl w g none); have HL := Aside0.mk hB.size; clear hI; have HW0 := Aside0.mk hB.size; have HB := Aside0.mk hB; clear hB; have H := h; clear h; unfold spec_l1Byte.f at H
 by_cases c2 : s0_1 < (s0_0.length : Int)
 ·
  rw [if_pos c2] at H; have c2b0 : decide (s0_1 < (s0_0.length : Int)) = true := decide_eq_true c2; clear c2
  by_cases c3 : 0 ≤ s0_1
  ·
   rw [if_pos c3] at H; have c3b0 : decide (0 ≤ s0_1) = true := decide_eq_true c3; clear c3
   simp only [Option.some.injEq, Prod.mk.injEq] at H
   obtain ⟨rfl, rfl, rfl⟩ := H; obtain ⟨ASz4_0, cSz4_0, HGz4, hgz4, HSz4_0⟩ := HI0.out; have hcz4_0 := cellS152_0 HGz4; have hcz4_1 := cellS152_1 HGz4; have hcz4_2 := cellS152_2 HGz4; have hfz4_1 := blk_frozen HGz4 1; have hfz4_2 := blk_frozen HGz4 2; clear HGz4 hgz4
   have p204 : 0 ≤ (s0_1 : Int) := of_decide_eq_true (by first | (with_reducible assumption) | assumption)
   have q204 : s0_1 < (s0_0.length : Int) := of_decide_eq_true (by first | (with_reducible assumption) | assumption)
   obtain ⟨ad204, e204, hx204_0⟩ := Kd.at_int HSz4_0 s0_1 p204 q204
   cases e204
   have hn204_0 : ad204.block ≠ g := Nat.ne_of_lt (Nat.lt_of_lt_of_le (by have := World.block_lt_of_cell? _ _ hx204_0; first | rwa [add_block] at this | exact this) (IsS152.ge HI0.out))
   replace hx204_0 := pw_cell_below HB.out hx204_0
   replace hx204_0 := (cell_far (p := ⟨g, 2, none⟩) (by first | (rw [add_block]; exact hn204_0) | (show (Addr.add _ _).block ≠ _; rw [add_block]; exact hn204_0) | exact hn204_0) (.int .i64 (wrap64 ((wrap64 (s0_2 * 6364136223846793005)) + 1442695040888963407)))).trans hx204_0
   (try have hy204_0 := fun (n_ : Nat) => (show (((w.drewN n_).setCell ⟨g, 2, none⟩ (.int .i64 (wrap64 ((wrap64 (s0_2 * 6364136223846793005)) + 1442695040888963407))))).cell? _ = some _ from hx204_0))
   clear hn204_0; replace p204 := eq_true p204; replace q204 := eq_true q204
   go_enter Tryz.func217, Tryz.ntmps217
   go_wp2
   repeat (go_quiet (fail); try go_wp2)
   go_ret
   exact ⟨(by first | rfl | (simp [errW_none, errW_some] <;> rfl) | (simp [*, errW_none, errW_some] <;> rfl)), s8_, s11_, s9_⟩
  ·
   rw [if_neg c3] at H
   exact absurd H (by simp)
 ·
  rw [if_neg c2] at H; have c2b0 : decide (s0_1 < (s0_0.length : Int)) = false := decide_eq_false c2; clear c2
  simp only [Option.some.injEq, Prod.mk.injEq] at H
  obtain ⟨rfl, rfl, rfl⟩ := H; obtain ⟨ASz5_0, cSz5_0, HGz5, hgz5, HSz5_0⟩ := HI0.out; have hcz5_0 := cellS152_0 HGz5; have hcz5_1 := cellS152_1 HGz5; have hcz5_2 := cellS152_2 HGz5; have hfz5_1 := blk_frozen HGz5 1; have hfz5_2 := blk_frozen HGz5 2; clear HGz5 hgz5
  go_enter Tryz.func217, Tryz.ntmps217
  go_wp2
  repeat (go_quiet (fail); try go_wp2)
  go_ret
  exact ⟨(by first | rfl | (simp [errW_none, errW_some] <;> rfl) | (simp [*, errW_none, errW_some] <;> rfl)), s8_, s11_, s9_⟩
def spec_l1Below.f (s0_0 : List Int) (s0_1 : Int) (s0_2 : Int) (a1 : Int) : Option (Int × Int × Int) := if a1 ≤ 0 then (some (0, s0_1, s0_2)) else (if a1 ≤ 256 then ((spec_l1Byte.f s0_0 s0_1 s0_2).bind fun bt205 => (if a1 = 0 then (none) else (some (Int.tmod bt205.1 a1, bt205.2.1, bt205.2.2)))) else ((spec_l1Byte.f s0_0 s0_1 s0_2).bind fun bt208 => ((spec_l1Byte.f s0_0 bt208.2.1 bt208.2.2).bind fun bt211 => ((spec_l1Byte.f s0_0 bt211.2.1 bt211.2.2).bind fun bt214 => ((spec_l1Byte.f s0_0 bt214.2.1 bt214.2.2).bind fun bt217 => (if a1 = 0 then (none) else (some (Int.tmod (wrap64 ((wrap64 ((wrap64 ((wrap64 (bt208.1 * 16777216)) + (wrap64 (bt211.1 * 65536)))) + (wrap64 (bt214.1 * 256)))) + bt217.1)) a1, bt217.2.1, bt217.2.2))))))))
theorem spec_l1Below.calls (g : Nat) (s0_0 : List Int) (s0_1 : Int) (s0_2 : Int) (a1 : Int) (r1 : Int) (r2 : Int) (r3 : Int) (w0 w : World) (hI : IsS152 w0 w g s0_0 s0_1 s0_2) (hB : Below w0.heap.size w0 w) (h : spec_l1Below.f s0_0 s0_1 s0_2 a1 = some (r1, r2, r3)) :
  Calls Tryz.prog 146 #[.pointer (some ⟨g, 0, none⟩), .int .i64 a1] w fun e w' => e = .returned (.int .i64 r1) ∧ IsS152 w0 w' g s0_0 r2 r3 ∧ Below w0.heap.size w0 w' ∧ KeepBut w w' g none := by
 have HI0 := Aside0.mk hI; have HK := Aside0.mk (KeepBut.refl w g none); have HL := Aside0.mk hB.size; clear hI; have HW0 := Aside0.mk hB.size; have HB := Aside0.mk hB; clear hB; have H := h; clear h; unfold spec_l1Below.f at H
 by_cases c3 : a1 ≤ 0
 ·
  rw [if_pos c3] at H; have c3b0 : decide (a1 ≤ 0) = true := decide_eq_true c3; clear c3
  simp only [Option.some.injEq, Prod.mk.injEq] at H
  obtain ⟨rfl, rfl, rfl⟩ := H
  go_enter Tryz.func146, Tryz.ntmps146
  go_wp2
  go_ret
  exact ⟨s4_, s8_, s11_, s9_⟩
 ·
  rw [if_neg c3] at H; have c3b0 : decide (a1 ≤ 0) = false := decide_eq_false c3; clear c3
  by_cases c4 : a1 ≤ 256
  ·
   rw [if_pos c4] at H; have c4b0 : decide (a1 ≤ 256) = true := decide_eq_true c4; clear c4; obtain ⟨⟨t205, t206, t207⟩, A5, H⟩ := bnd3_ H; dsimp only at H
   by_cases c6 : a1 = 0
   ·
    rw [if_pos c6] at H
    exact absurd H (by simp)
   ·
    rw [if_neg c6] at H; have c6b0 : (a1 == 0) = false := beq_eq_false_iff_ne.mpr c6; have c6b1 : (a1 != 0) = true := bne_iff_ne.mpr c6
    simp only [Option.some.injEq, Prod.mk.injEq] at H
    obtain ⟨rfl, rfl, rfl⟩ := H
    go_enter Tryz.func146, Tryz.ntmps146
    go_wp2_with ((with_reducible refine gw_ rfl ?_); (refine gL_ 217 14 Tryz.func217 #[.pointer (some ⟨g, 0, none⟩)] ?_; (with_reducible refine (spec_l1Byte.calls g s0_0 s0_1 s0_2 t205 t206 t207 w0 _ ?side1 ?side2 A5.out).mono ?_); (case side1 => exact s8_); (case side2 => exact s11_); rintro e w7 ⟨rfl, hi, hb, hk⟩; refine ⟨_, rfl, ?_⟩; have n_ := ac_ (KeepBut.trans s9_ hk (.inl rfl)) <| ac_ (hb) <| Aside0.mk (hi); clear HK HB HI0; obtain ⟨HK, HB, HI0⟩ := n_; (try clear hb hk hi)))
    go_ret
    exact ⟨s4_, s8_, s11_, s9_⟩
  ·
   rw [if_neg c4] at H; have c4b0 : decide (a1 ≤ 256) = false := decide_eq_false c4; clear c4; obtain ⟨⟨t208, t209, t210⟩, A8, H⟩ := bnd3_ H; dsimp only at H; obtain ⟨⟨t211, t212, t213⟩, A9, H⟩ := bnd3_ H; dsimp only at H; obtain ⟨⟨t214, t215, t216⟩, A10, H⟩ := bnd3_ H; dsimp only at H; obtain ⟨⟨t217, t218, t219⟩, A11, H⟩ := bnd3_ H; dsimp only at H
   by_cases c12 : a1 = 0
   ·
    rw [if_pos c12] at H
    exact absurd H (by simp)
   ·
    rw [if_neg c12] at H; have c12b0 : (a1 == 0) = false := beq_eq_false_iff_ne.mpr c12; have c12b1 : (a1 != 0) = true := bne_iff_ne.mpr c12
    simp only [Option.some.injEq, Prod.mk.injEq] at H
    obtain ⟨rfl, rfl, rfl⟩ := H
    go_enter Tryz.func146, Tryz.ntmps146
    go_wp2_with ((with_reducible refine gw_ rfl ?_); first | (refine gL_ 217 18 Tryz.func217 #[.pointer (some ⟨g, 0, none⟩)] ?_; (with_reducible refine (spec_l1Byte.calls g s0_0 s0_1 s0_2 t208 t209 t210 w0 _ ?side1 ?side2 A8.out).mono ?_); (case side1 => exact s8_); (case side2 => exact s11_); rintro e w13 ⟨rfl, hi, hb, hk⟩; refine ⟨_, rfl, ?_⟩; have n_ := ac_ (KeepBut.trans s9_ hk (.inl rfl)) <| ac_ (hb) <| Aside0.mk (hi); clear HK HB HI0; obtain ⟨HK, HB, HI0⟩ := n_; (try clear hb hk hi)) | (refine gL_ 217 20 Tryz.func217 #[.pointer (some ⟨g, 0, none⟩)] ?_; (with_reducible refine (spec_l1Byte.calls g s0_0 t209 t210 t211 t212 t213 w0 _ ?side1 ?side2 A9.out).mono ?_); (case side1 => exact s8_); (case side2 => exact s11_); rintro e w14 ⟨rfl, hi, hb, hk⟩; refine ⟨_, rfl, ?_⟩; have n_ := ac_ (KeepBut.trans s9_ hk (.inl rfl)) <| ac_ (hb) <| Aside0.mk (hi); clear HK HB HI0; obtain ⟨HK, HB, HI0⟩ := n_; (try clear hb hk hi)) | (refine gL_ 217 22 Tryz.func217 #[.pointer (some ⟨g, 0, none⟩)] ?_; (with_reducible refine (spec_l1Byte.calls g s0_0 t212 t213 t214 t215 t216 w0 _ ?side1 ?side2 A10.out).mono ?_); (case side1 => exact s8_); (case side2 => exact s11_); rintro e w15 ⟨rfl, hi, hb, hk⟩; refine ⟨_, rfl, ?_⟩; have n_ := ac_ (KeepBut.trans s9_ hk (.inl rfl)) <| ac_ (hb) <| Aside0.mk (hi); clear HK HB HI0; obtain ⟨HK, HB, HI0⟩ := n_; (try clear hb hk hi)) | (refine gL_ 217 24 Tryz.func217 #[.pointer (some ⟨g, 0, none⟩)] ?_; (with_reducible refine (spec_l1Byte.calls g s0_0 t215 t216 t217 t218 t219 w0 _ ?side1 ?side2 A11.out).mono ?_); (case side1 => exact s8_); (case side2 => exact s11_); rintro e w16 ⟨rfl, hi, hb, hk⟩; refine ⟨_, rfl, ?_⟩; have n_ := ac_ (KeepBut.trans s9_ hk (.inl rfl)) <| ac_ (hb) <| Aside0.mk (hi); clear HK HB HI0; obtain ⟨HK, HB, HI0⟩ := n_; (try clear hb hk hi)))
    go_ret
    exact ⟨s4_, s8_, s11_, s9_⟩
def spec_l1Once.f (s0_0 : List Int) (s0_1 : Int) (s0_2 : Int) (a1 : Int) : Option (Bool × Int × Int) := (spec_l1Below.f s0_0 s0_1 s0_2 a1).bind fun bt220 => (some ((bt220.1 == 0), bt220.2.1, bt220.2.2))
theorem spec_l1Once.calls (g : Nat) (s0_0 : List Int) (s0_1 : Int) (s0_2 : Int) (a1 : Int) (r1 : Bool) (r2 : Int) (r3 : Int) (w0 w : World) (hI : IsS152 w0 w g s0_0 s0_1 s0_2) (hB : Below w0.heap.size w0 w) (h : spec_l1Once.f s0_0 s0_1 s0_2 a1 = some (r1, r2, r3)) :
  Calls Tryz.prog 145 #[.pointer (some ⟨g, 0, none⟩), .int .i64 a1] w fun e w' => e = .returned (.bool r1) ∧ IsS152 w0 w' g s0_0 r2 r3 ∧ Below w0.heap.size w0 w' ∧ KeepBut w w' g none := by
 have HI0 := Aside0.mk hI; have HK := Aside0.mk (KeepBut.refl w g none); have HL := Aside0.mk hB.size; clear hI; have HW0 := Aside0.mk hB.size; have HB := Aside0.mk hB; clear hB; have H := h; clear h; unfold spec_l1Once.f at H; obtain ⟨⟨t220, t221, t222⟩, A3, H⟩ := bnd3_ H; dsimp only at H
 simp only [Option.some.injEq, Prod.mk.injEq] at H
 obtain ⟨rfl, rfl, rfl⟩ := H
 go_enter Tryz.func145, Tryz.ntmps145
 go_wp2_with (first | ((with_reducible refine gate_callee (f := 146) rfl ?_); refine goesL_ (some 7) rfl rfl Tryz.func146 (by kernel_rfl) rfl #[.pointer (some ⟨g, 0, none⟩), .int .i64 a1] rfl (by (try simp only [List.map_toArray, List.map_cons, List.map_nil]); first | done | rfl | (simp only [List.length_drop, List.length_take]; rfl)) ?_; (with_reducible refine (spec_l1Below.calls g s0_0 s0_1 s0_2 a1 t220 t221 t222 w0 _ ?side1 ?side2 A3.out).mono ?_); (case side1 => exact s8_); (case side2 => exact s11_); rintro e w4 ⟨rfl, hi, hb, hk⟩; refine ⟨_, rfl, ?_⟩; have n_ := ac_ (KeepBut.trans s9_ hk (.inl rfl)) <| ac_ (hb) <| Aside0.mk (hi); clear HK HB HI0; obtain ⟨HK, HB, HI0⟩ := n_; (try clear hb hk hi)))
 go_ret
 exact ⟨(by first | rfl | (simp [errW_none, errW_some] <;> rfl) | (simp [*, errW_none, errW_some] <;> rfl)), s8_, s11_, s9_⟩
def spec_l1PickInt.f (s0_0 : List Int) (s0_1 : Int) (s0_2 : Int) (l1 : List Int) : Option (Int × Int × Int) := (spec_l1Below.f s0_0 s0_1 s0_2 (l1.length : Int)).bind fun bt223 => (if 0 ≤ bt223.1 then (if bt223.1 < (l1.length : Int) then (some (rd l1 bt223.1, bt223.2.1, bt223.2.2)) else (none)) else (none))
theorem spec_l1PickInt.calls (g : Nat) (s0_0 : List Int) (s0_1 : Int) (s0_2 : Int) (A1 : Option Addr) (c1 : Nat) (l1 : List Int) (r1 : Int) (r2 : Int) (r3 : Int) (w0 w : World) (hI : IsS152 w0 w g s0_0 s0_1 s0_2) (hB : Below w0.heap.size w0 w) (hr1 : Kd.C (Kd.int .i64) w A1 l1.length l1) (hc1 : l1.length ≤ c1) (hf1 : ∀ ad, A1 = some ad → 0 < l1.length → ad.block ≠ g) (h : spec_l1PickInt.f s0_0 s0_1 s0_2 l1 = some (r1, r2, r3)) :
  Calls Tryz.prog 147 #[.pointer (some ⟨g, 0, none⟩), .slice A1 l1.length c1] w fun e w' => e = .returned (.int .i64 r1) ∧ IsS152 w0 w' g s0_0 r2 r3 ∧ Below w0.heap.size w0 w' ∧ KeepBut w w' g none := by
 have HR1 := Aside0.mk hr1; have HC1 := Aside0.mk hc1; clear hr1 hc1; have HI0 := Aside0.mk hI; have HK := Aside0.mk (KeepBut.refl w g none); have HL := Aside0.mk hB.size; clear hI; have HW0 := Aside0.mk hB.size; have HB := Aside0.mk hB; clear hB; have H := h; clear h; unfold spec_l1PickInt.f at H; obtain ⟨⟨t223, t224, t225⟩, A3, H⟩ := bnd3_ H; dsimp only at H
 by_cases c4 : 0 ≤ t223
 ·
  rw [if_pos c4] at H; have c4b0 : decide (0 ≤ t223) = true := decide_eq_true c4; clear c4
  by_cases c5 : t223 < (l1.length : Int)
  ·
   rw [if_pos c5] at H; have c5b0 : decide (t223 < (l1.length : Int)) = true := decide_eq_true c5; clear c5
   simp only [Option.some.injEq, Prod.mk.injEq] at H
   obtain ⟨rfl, rfl, rfl⟩ := H
   go_enter Tryz.func147, Tryz.ntmps147
   go_wp2_with (first | ((with_reducible refine gate_callee (f := 146) rfl ?_); refine goesL_ (some 9) rfl rfl Tryz.func146 (by kernel_rfl) rfl #[.pointer (some ⟨g, 0, none⟩), .int .i64 (l1.length : Int)] rfl (by (try simp only [List.map_toArray, List.map_cons, List.map_nil]); first | done | rfl | (simp only [List.length_drop, List.length_take]; rfl)) ?_; (with_reducible refine (spec_l1Below.calls g s0_0 s0_1 s0_2 (l1.length : Int) t223 t224 t225 w0 _ ?side1 ?side2 A3.out).mono ?_); (case side1 => exact s8_); (case side2 => exact s11_); rintro e w6 ⟨rfl, hi, hb, hk⟩; refine ⟨_, rfl, ?_⟩; have n_ := ac_ (KeepBut.trans s9_ hk (.inl rfl)) <| ac_ (hb) <| Aside0.mk (hi); clear HK HB HI0; obtain ⟨HK, HB, HI0⟩ := n_; (try clear hb hk hi); have p226 : 0 ≤ (t223 : Int) := of_decide_eq_true (by first | (with_reducible assumption) | assumption); have q226 : t223 < (l1.length : Int) := of_decide_eq_true (by first | (with_reducible assumption) | assumption); obtain ⟨ad226, e226, hx226_0⟩ := Kd.at_int HR1.out t223 p226 q226; cases e226; replace hx226_0 := keep_cell HK.out hx226_0 (by first | (rw [add_block]; exact hf1 _ rfl (by omega)) | exact hf1 _ rfl (by omega) | exact hf1 ad226 rfl (by omega)); replace p226 := eq_true p226; replace q226 := eq_true q226))
   go_ret
   exact ⟨(by first | rfl | (simp [errW_none, errW_some] <;> rfl) | (simp [*, errW_none, errW_some] <;> rfl)), s8_, s11_, s9_⟩
  ·
   rw [if_neg c5] at H
   exact absurd H (by simp)
 ·
  rw [if_neg c4] at H
  exact absurd H (by simp)
end Go.Proofs.YtafnamchckehmaaGreatDoor.Pr
namespace Go.Proofs.YtafnamchckehmaaGreatDoor.Pr
set_option maxHeartbeats 40000000
set_option maxRecDepth 100000
open Go.RowKit Go.Proofs.YtafnamchckehmaaGreatDoorW.PrintWords Go.Proofs.YtafnamchckehmaaGreatDoorW.PrintLast Go.Proofs.YtafnamchckehmaaGreatDoorW.PrintMore
attribute [local go_sem] max2_int min2_int max_two min_two max_three min_three max_four min_four
set_option linter.unusedVariables false
set_option linter.unusedSimpArgs false
theorem bnd4_ {α β : Type} {o : Option α} {f : α → Option β} {r : β} (h : o.bind f = some r) : ∃ a, Aside0 (o = some a) ∧ f a = some r := by
 obtain ⟨a, h1, h2⟩ := Option.bind_eq_some_iff.mp h
 exact ⟨a, ⟨h1⟩, h2⟩
def spec_l2Bent.f (s0_0 : List Int) (s0_1 : Int) (s0_2 : Int) : Option (Int × Int × Int) := (spec_l1Once.f s0_0 s0_1 s0_2 8).bind fun bt227 => (if bt227.1 = true then ((spec_l1PickInt.f s0_0 bt227.2.1 bt227.2.2 (([(-1), 256, 1000, (-9223372036854775808)] : List Int))).bind fun bt233 => (some (bt233.1, bt233.2.1, bt233.2.2))) else ((spec_l1Below.f s0_0 bt227.2.1 bt227.2.2 256).bind fun bt236 => (some (bt236.1, bt236.2.1, bt236.2.2))))
theorem spec_l2Bent.calls (g : Nat) (s0_0 : List Int) (s0_1 : Int) (s0_2 : Int) (r1 : Int) (r2 : Int) (r3 : Int) (w0 w : World) (hI : IsS152 w0 w g s0_0 s0_1 s0_2) (hB : Below w0.heap.size w0 w) (h : spec_l2Bent.f s0_0 s0_1 s0_2 = some (r1, r2, r3)) :
  Calls Tryz.prog 176 #[.pointer (some ⟨g, 0, none⟩)] w fun e w' => e = .returned (.int .i64 r1) ∧ IsS152 w0 w' g s0_0 r2 r3 ∧ Below w0.heap.size w0 w' ∧ KeepBut w w' g none := by
 have HI0 := Aside0.mk hI; have HK := Aside0.mk (KeepBut.refl w g none); have HL := Aside0.mk hB.size; clear hI; have HW0 := Aside0.mk hB.size; have HB := Aside0.mk hB; clear hB; have H := h; clear h; unfold spec_l2Bent.f at H; obtain ⟨⟨t227, t228, t229⟩, A2, H⟩ := bnd4_ H; dsimp only at H
 by_cases c3 : t227 = true
 ·
  subst c3; rw [if_pos rfl] at H; obtain ⟨y230, hy_⟩ : ∃ y_ : List Int, y_ = (([(-1), 256, 1000, (-9223372036854775808)] : List Int)) := ⟨_, rfl⟩
  replace H : ((spec_l1PickInt.f s0_0 t228 t229 y230).bind fun bt233 => (some (bt233.1, bt233.2.1, bt233.2.2))) = some (r1, r2, r3) := rH_
  have Ny230 := Aside0.mk hy_; clear hy_; obtain ⟨⟨t233, t234, t235⟩, A4, H⟩ := bnd4_ H; dsimp only at H
  simp only [Option.some.injEq, Prod.mk.injEq] at H
  obtain ⟨rfl, rfl, rfl⟩ := H
  go_enter Tryz.func176, Tryz.ntmps176
  go_wp2_with (first | ((with_reducible refine gw_ rfl ?_); first | (refine gL_ 145 4 Tryz.func145 #[.pointer (some ⟨g, 0, none⟩), .int .i64 8] ?_; (with_reducible refine (spec_l1Once.calls g s0_0 s0_1 s0_2 8 true t228 t229 w0 _ ?side1 ?side2 A2.out).mono ?_); (case side1 => exact s8_); (case side2 => exact s11_); rintro e w5 ⟨rfl, hi, hb, hk⟩; refine ⟨_, rfl, ?_⟩; have n_ := ac_ (KeepBut.trans s9_ hk (.inl rfl)) <| ac_ (hb) <| Aside0.mk (hi); clear HK HB HI0; obtain ⟨HK, HB, HI0⟩ := n_; (try clear hb hk hi)) | (refine gL_ 147 7 Tryz.func147 #[.pointer (some ⟨g, 0, none⟩), .slice Ao8 y230.length co8] ?_; (with_reducible refine (spec_l1PickInt.calls g s0_0 t228 t229 _ _ y230 t233 t234 t235 w0 _ ?side1 ?side2 ?side3 ?side4 ?side5 A4.out).mono ?_); (case side1 => exact s8_); (case side2 => exact s11_); (case side3 => repeat (first | exact (Kd.R_reads' HO232.out).2.2 | (with_reducible refine Kd.C_alloc ?_ _) | (with_reducible refine Kd.C_drewN ?_ _) | (with_reducible refine Kd.C_drew ?_))); (case side4 => exact (Kd.R_reads' HO232.out).2.1); (case side5 => exact far_slice (IsS152.own_ne HI0.out HO232.out (by decide))); rintro e w9 ⟨rfl, hi, hb, hk⟩; refine ⟨_, rfl, ?_⟩; have n_ := ac_ (Kd.R_mono (Kd.R_keep (IsS152.apart (show IsS152 w0 _ g s0_0 t228 t229 from s8_) (by (with_reducible repeat (first | apply Kd.R_alloc | apply Kd.R_drewN | apply Kd.R_drew)); exact HO232.out) (by decide)) hk (fun _ h => h.2)) (fun _ h => h.1)) <| ac_ (KeepBut.trans s9_ hk (.inl rfl)) <| ac_ (hb) <| Aside0.mk (hi); clear HO232 HK HB HI0; obtain ⟨HO232, HK, HB, HI0⟩ := n_; (try clear hb hk hi))) | ((with_reducible refine gate_dst (N := 6) rfl ?_); refine Kd.R_lit (Kd.int .i64) _ 3 ?hg (N := 6) ?hd (xs := ([(-1), 256, 1000, (-9223372036854775808)] : List Int)) (inner := [.int .i64 (-1), .int .i64 256, .int .i64 1000, .int .i64 (-9223372036854775808)]) (ok := fun _ => True) (okp := fun _ => True) ?hr ?hp (fun _ hk => hk) trivial (Below.refl _ _) (Nat.le_refl _) (by simp) ?_; (case hd => rfl); (case hg => rfl); (case hr => first | (go_simp; done) | (go_simp; rfl)); (case hp => exact (Reps.one (show Kd.M (Kd.int .i64) _ _ _ (-1) [.int .i64 (-1)] from rfl) (Reps.one (show Kd.M (Kd.int .i64) _ _ _ 256 [.int .i64 256] from rfl) (Reps.one (show Kd.M (Kd.int .i64) _ _ _ 1000 [.int .i64 1000] from rfl) (Reps.one (show Kd.M (Kd.int .i64) _ _ _ (-9223372036854775808) [.int .i64 (-9223372036854775808)] from rfl) (Reps.none _ _)))))); intro v231 w6 ho7 hb hg_ hnew_; clear hg_ hnew_; (first | rw [← Ny230.out] at ho7 | (simp only [Int.reduceToNat] at ho7; rw [← Ny230.out] at ho7)); have n_ := ac_ (Kd.R_lower ho7 (keep_size (w := w) (g := g) (row := none) s9_)) <| ac_ (IsS152.below s8_ hb) <| ac_ (KeepBut.trans s9_ (KeepBut.of_below hb g none) (.inl rfl)) <| Aside0.mk (below_step s11_ hb); clear HI0 HK HB; obtain ⟨HO232, HI0, HK, HB⟩ := n_; clear hb ho7; obtain ⟨Ao8, co8, eo8⟩ := Kd.R_slice HO232.out; subst eo8))
  go_ret
  exact ⟨(by first | rfl | (simp [errW_none, errW_some] <;> rfl) | (simp [*, errW_none, errW_some] <;> rfl)), s8_, s11_, s9_⟩
 ·
  replace c3 := Bool.eq_false_iff.mpr c3; subst c3
  rw [if_neg (show ¬ (false = true) by decide)] at H
  obtain ⟨⟨t236, t237, t238⟩, A10, H⟩ := bnd4_ H; dsimp only at H
  simp only [Option.some.injEq, Prod.mk.injEq] at H
  obtain ⟨rfl, rfl, rfl⟩ := H
  go_enter Tryz.func176, Tryz.ntmps176
  go_wp2_with ((with_reducible refine gw_ rfl ?_); first | (refine gL_ 145 4 Tryz.func145 #[.pointer (some ⟨g, 0, none⟩), .int .i64 8] ?_; (with_reducible refine (spec_l1Once.calls g s0_0 s0_1 s0_2 8 false t228 t229 w0 _ ?side1 ?side2 A2.out).mono ?_); (case side1 => exact s8_); (case side2 => exact s11_); rintro e w11 ⟨rfl, hi, hb, hk⟩; refine ⟨_, rfl, ?_⟩; have n_ := ac_ (KeepBut.trans s9_ hk (.inl rfl)) <| ac_ (hb) <| Aside0.mk (hi); clear HK HB HI0; obtain ⟨HK, HB, HI0⟩ := n_; (try clear hb hk hi)) | (refine gL_ 146 9 Tryz.func146 #[.pointer (some ⟨g, 0, none⟩), .int .i64 256] ?_; (with_reducible refine (spec_l1Below.calls g s0_0 t228 t229 256 t236 t237 t238 w0 _ ?side1 ?side2 A10.out).mono ?_); (case side1 => exact s8_); (case side2 => exact s11_); rintro e w12 ⟨rfl, hi, hb, hk⟩; refine ⟨_, rfl, ?_⟩; have n_ := ac_ (KeepBut.trans s9_ hk (.inl rfl)) <| ac_ (hb) <| Aside0.mk (hi); clear HK HB HI0; obtain ⟨HK, HB, HI0⟩ := n_; (try clear hb hk hi)))
  go_ret
  exact ⟨(by first | rfl | (simp [errW_none, errW_some] <;> rfl) | (simp [*, errW_none, errW_some] <;> rfl)), s8_, s11_, s9_⟩
theorem q4_5 {P : Prop} (h : P := by repeat (first | (with_reducible first | exact HI0.out | apply IsS152.alloc | apply IsS152.drewN | apply IsS152.drew | apply IsS152.set_1 | apply IsS152.set_2 | refine IsS152.far ?_ NB0_239.out _) | exact HI0.out)) : P := h
theorem q4_6 {P : Prop} (h : P := by repeat (first | (with_reducible first | exact HB.out | apply below_alloc | apply pw_below_drewN | apply below_drew1 | refine below_set ?_ (IsS152.ge HI0.out) | refine below_set ?_ GE239.out) | exact HB.out)) : P := h
theorem q4_7 {P : Prop} (h : P := by repeat (first | (with_reducible first | exact HK.out | apply KeepBut.set_ | apply keep_drewN | apply keep_drew | apply keep_alloc | refine keep_far ?_ GW239.out _) | exact HK.out)) : P := h
theorem q4_9 {P : Prop} (h : P := by (try simp only [List.map_toArray, List.map_cons, List.map_nil]); first | done | (simp only [hji5]; rfl) | rfl | (simp only [List.length_drop, List.length_take]; rfl)) : P := h
theorem q4_11 {P : Prop} (h : P := by (with_reducible repeat (first | refine blk_drewN ?_ _ | refine blk_drew ?_ | refine blk_alloc ?_ _)); exact BK239.out) : P := h
def spec_l9Make.f (s0_0 : List Int) (s0_1 : Int) (s0_2 : Int) (a1 : Int) : Option (Int × Int × Int × Int) := if 0 ≤ (IntKind.u64.wrap (a1)) then ((spec_l1Below.f s0_0 s0_1 s0_2 (shl .i64 1 (IntKind.u64.wrap (a1)))).bind fun bt240 => ((spec_l1Below.f s0_0 bt240.2.1 bt240.2.2 (shl .i64 1 (IntKind.u64.wrap (a1)))).bind fun bt243 => ((spec_l1Below.f s0_0 bt243.2.1 bt243.2.2 (shl .i64 1 (IntKind.u64.wrap (a1)))).bind fun bt246 => (some (Go.bits .and .i64 bt240.1 bt243.1, bt246.1, bt246.2.1, bt246.2.2))))) else (none)
theorem spec_l9Make.calls (g : Nat) (s0_0 : List Int) (s0_1 : Int) (s0_2 : Int) (a1 : Int) (r1 : Int) (r2 : Int) (r3 : Int) (r4 : Int) (w0 w : World) (hI : IsS152 w0 w g s0_0 s0_1 s0_2) (hB : Below w0.heap.size w0 w) (h : spec_l9Make.f s0_0 s0_1 s0_2 a1 = some (r1, r2, r3, r4)) :
  Calls Tryz.prog 172 #[.pointer (some ⟨g, 0, none⟩), .int .i64 a1] w fun e w' => e = .returned (.agg #[.int .i64 r1, .int .i64 r2]) ∧ IsS152 w0 w' g s0_0 r3 r4 ∧ Below w0.heap.size w0 w' ∧ KeepBut w w' g none := by
 have hu48 := Tryz.underlying48; have HI0 := Aside0.mk hI; have HK := Aside0.mk (KeepBut.refl w g none); have HL := Aside0.mk hB.size; clear hI; have HW0 := Aside0.mk hB.size; have HB := Aside0.mk hB; clear hB; have H := h; clear h; unfold spec_l9Make.f at H; obtain ⟨ji3, hji3⟩ : ∃ j_ : Int, (IntKind.u64.wrap (a1)) = j_ := ⟨_, rfl⟩
 replace H : (if 0 ≤ (ji3) then ((spec_l1Below.f s0_0 s0_1 s0_2 (shl .i64 1 (ji3))).bind fun bt240 => ((spec_l1Below.f s0_0 bt240.2.1 bt240.2.2 (shl .i64 1 (ji3))).bind fun bt243 => ((spec_l1Below.f s0_0 bt243.2.1 bt243.2.2 (shl .i64 1 (ji3))).bind fun bt246 => (some (Go.bits .and .i64 bt240.1 bt243.1, bt246.1, bt246.2.1, bt246.2.2))))) else (none)) = some (r1, r2, r3, r4) := by first | (rw [hji3] at H; exact H) | (simp only [hji3] at H ⊢; exact H)
 by_cases c4 : 0 ≤ (ji3)
 ·
  rw [if_pos c4] at H; have c4b0 := eq_true c4; have c4b1 : decide (0 ≤ (ji3)) = true := decide_eq_true c4; clear c4; obtain ⟨ji5, hji5⟩ : ∃ j_ : Int, (shl .i64 1 (ji3)) = j_ := ⟨_, rfl⟩
  replace H : ((spec_l1Below.f s0_0 s0_1 s0_2 (ji5)).bind fun bt240 => ((spec_l1Below.f s0_0 bt240.2.1 bt240.2.2 (ji5)).bind fun bt243 => ((spec_l1Below.f s0_0 bt243.2.1 bt243.2.2 (ji5)).bind fun bt246 => (some (Go.bits .and .i64 bt240.1 bt243.1, bt246.1, bt246.2.1, bt246.2.2))))) = some (r1, r2, r3, r4) := by first | (rw [hji5] at H; exact H) | (simp only [hji5] at H ⊢; exact H)
  have hji5_ : (IntKind.i64.wrap (1 * 2 ^ min (ji3).toNat 64)) = ji5 := hji5; have hji5z : (ji3) ≤ 64 → (IntKind.i64.wrap (1 * 2 ^ (ji3).toNat)) = ji5 := shl_small hji5
  have hji5u : (IntKind.i64.wrap (2 ^ min (ji3).toNat 64)) = ji5 := by have h_ := hji5_; rw [Int.one_mul] at h_; exact h_
  have hji5v : (ji3) ≤ 64 → (IntKind.i64.wrap (2 ^ (ji3).toNat)) = ji5 := fun hle_ => by have h_ := hji5z hle_; rw [Int.one_mul] at h_; exact h_
  have hji5y : (wrap64 (1 * 2 ^ min (ji3).toNat 64)) = ji5 := (i64_w _).symm.trans hji5_
  have hji5x : (ji3) ≤ 64 → (wrap64 (1 * 2 ^ (ji3).toNat)) = ji5 := fun h_ => (i64_w _).symm.trans (hji5z h_)
  obtain ⟨⟨t240, t241, t242⟩, A6, H⟩ := bnd4_ H; dsimp only at H
  have c7b0 := eq_true (of_decide_eq_true (by first | (with_reducible assumption) | assumption) : 0 ≤ (ji3))
  obtain ⟨⟨t243, t244, t245⟩, A8, H⟩ := bnd4_ H; dsimp only at H
  have c9b0 := eq_true (of_decide_eq_true (by first | (with_reducible assumption) | assumption) : 0 ≤ (ji3))
  obtain ⟨⟨t246, t247, t248⟩, A10, H⟩ := bnd4_ H; dsimp only at H
  simp only [Option.some.injEq, Prod.mk.injEq] at H
  obtain ⟨rfl, rfl, rfl, rfl⟩ := H
  go_enter Tryz.func172, Tryz.ntmps172
  go_wp2_with (first | ((with_reducible refine gw_ rfl ?_); (refine be_ 4 #[.int .i64 0, .int .i64 0] 48 ?_; intro gb239 hg w11 hbox hb; have n_ := ac_ (IsS152.below s8_ hb) <| ac_ (KeepBut.trans s9_ (KeepBut.of_below hb g none) (.inl rfl)) <| ac_ (below_step (by repeat (first | (with_reducible first | exact HB.out | apply below_alloc | apply pw_below_drewN | apply below_drew1 | refine below_set ?_ (IsS152.ge HI0.out)) | exact HB.out)) hb) <| ac_ (hbox) <| ac_ ((by rw [hg]; exact (keep_size (w := w) (g := g) (row := none) s9_) : w.heap.size ≤ gb239)) <| ac_ ((Nat.le_trans HW0.out (by rw [hg]; exact (keep_size (w := w) (g := g) (row := none) s9_) : w.heap.size ≤ gb239) : w0.heap.size ≤ gb239)) <| ac_ ((nl_ hg (IsS152.lt (show IsS152 w0 _ g s0_0 s0_1 s0_2 from s8_)))) <| Aside0.mk ((ng_ hg (IsS152.lt (show IsS152 w0 _ g s0_0 s0_1 s0_2 from s8_)))); clear HI0 HK HB; obtain ⟨HI0, HK, HB, BK239, GW239, GE239, NB0_239, NB239_0⟩ := n_; clear hb hbox hg)) | ((with_reducible refine gate_callee (f := 146) rfl ?_); refine goesL_ (some 10) rfl rfl Tryz.func146 (by kernel_rfl) rfl #[.pointer (some ⟨g, 0, none⟩), .int .i64 ji5] rfl q4_9 ?_; (with_reducible refine (spec_l1Below.calls g s0_0 s0_1 s0_2 ji5 t240 t241 t242 w0 _ ?side1 ?side2 A6.out).mono ?_); (case side1 => exact q4_5); (case side2 => exact q4_6); rintro e w12 ⟨rfl, hi, hb, hk⟩; refine ⟨_, rfl, ?_⟩; have n_ := ac_ (KeepBut.blk hk (g' := gb239) (o := .cells #[.int .i64 0, .int .i64 0] 48 (0, 0)) q4_11 NB239_0.out (by simp)) <| ac_ (KeepBut.trans q4_7 hk (.inl rfl)) <| ac_ (hb) <| Aside0.mk (hi); clear BK239 HK HB HI0; obtain ⟨BK239, HK, HB, HI0⟩ := n_; (try clear hb hk hi)) | ((with_reducible refine gate_callee (f := 146) rfl ?_); refine goesL_ (some 15) rfl rfl Tryz.func146 (by kernel_rfl) rfl #[.pointer (some ⟨g, 0, none⟩), .int .i64 ji5] rfl q4_9 ?_; (with_reducible refine (spec_l1Below.calls g s0_0 t241 t242 ji5 t243 t244 t245 w0 _ ?side1 ?side2 A8.out).mono ?_); (case side1 => exact q4_5); (case side2 => exact q4_6); rintro e w13 ⟨rfl, hi, hb, hk⟩; refine ⟨_, rfl, ?_⟩; have n_ := ac_ (KeepBut.blk hk (g' := gb239) (o := .cells #[.int .i64 0, .int .i64 0] 48 (0, 0)) q4_11 NB239_0.out (by simp)) <| ac_ (KeepBut.trans q4_7 hk (.inl rfl)) <| ac_ (hb) <| Aside0.mk (hi); clear BK239 HK HB HI0; obtain ⟨BK239, HK, HB, HI0⟩ := n_; (try clear hb hk hi)) | ((with_reducible refine gate_callee (f := 146) rfl ?_); refine goesL_ (some 22) rfl rfl Tryz.func146 (by kernel_rfl) rfl #[.pointer (some ⟨g, 0, none⟩), .int .i64 ji5] rfl q4_9 ?_; (with_reducible refine (spec_l1Below.calls g s0_0 t244 t245 ji5 t246 t247 t248 w0 _ ?side1 ?side2 A10.out).mono ?_); (case side1 => exact q4_5); (case side2 => exact q4_6); rintro e w14 ⟨rfl, hi, hb, hk⟩; refine ⟨_, rfl, ?_⟩; have n_ := ac_ (KeepBut.blk hk (g' := gb239) (o := .cells #[.int .i64 0, .int .i64 0] 48 (0, 0)) q4_11 NB239_0.out (by simp)) <| ac_ (KeepBut.trans q4_7 hk (.inl rfl)) <| ac_ (hb) <| Aside0.mk (hi); clear BK239 HK HB HI0; obtain ⟨BK239, HK, HB, HI0⟩ := n_; (try clear hb hk hi); have hnb15 := NB239_0.out; have hnc15 := NB0_239.out; have hcz16_0 : w14.cell? ⟨gb239, 0, none⟩ = some (.int .i64 0) := (blk_cell BK239.out 0).trans rfl; have hcz16_1 : w14.cell? ⟨gb239, 1, none⟩ = some (.int .i64 0) := (blk_cell BK239.out 1).trans rfl; have hfz16_0 := blk_frozen BK239.out 0; have hfz16_1 := blk_frozen BK239.out 1))
  refine bodyPost_ret (results_cell_row rfl _ _ gb239 48 #[.int .i64 (Go.bits .and .i64 t240 t243), .int .i64 t246] (0, 0) _ rfl (by (with_reducible repeat (first | refine blk_drewN ?_ _ | refine blk_drew ?_ | refine blk_alloc ?_ _)); refine blk_put (cs := #[.int .i64 (Go.bits .and .i64 t240 t243), .int .i64 0]) ?_ 1 _ rfl; (with_reducible repeat (first | refine blk_drewN ?_ _ | refine blk_drew ?_ | refine blk_alloc ?_ _)); refine blk_put (cs := #[.int .i64 0, .int .i64 0]) ?_ 0 _ rfl; (with_reducible repeat (first | refine blk_drewN ?_ _ | refine blk_drew ?_ | refine blk_alloc ?_ _)); exact BK239.out) Tryz.underlying48 rfl (by kernel_rfl)) rfl ?_
  exact ⟨(by first | rfl | (simp [errW_none, errW_some] <;> rfl) | (simp only [← hji3, ← hji5]; first | rfl | (simp [errW_none, errW_some] <;> rfl)) | (simp [*, errW_none, errW_some] <;> rfl)), q4_5, q4_6, q4_7⟩
 ·
  rw [if_neg c4] at H
  exact absurd H (by simp)
def impl_inSet.f (a0 : Int) (a1 : Int) : Option (Bool) := some ((Go.bits .andNot .i64 a0 a1) == 0)
theorem impl_inSet.calls (a0 : Int) (a1 : Int) (r : Bool) (w : World) (h : impl_inSet.f a0 a1 = some r) :
  Calls Tryz.prog 141 #[.int .i64 a0, .int .i64 a1] w fun e w' => e = .returned (.bool r) ∧ Drawn0 w w' := by
 have H := h; clear h; unfold impl_inSet.f at H; obtain rfl := Option.some.inj H
 go_enter Tryz.func141, Tryz.ntmps141
 go_wp2
 go_ret
 exact ⟨rf_, (by repeat (first | exact Drawn0.refl _ | apply Drawn0.step))⟩
def impl_within.f (a0 : Int) (a1 : Int) (a2 : Int) : Option (Bool) := if a1 ≤ a0 then (some (decide (a0 ≤ a2))) else (some false)
theorem impl_within.calls (a0 : Int) (a1 : Int) (a2 : Int) (r : Bool) (w : World) (h : impl_within.f a0 a1 a2 = some r) :
  Calls Tryz.prog 127 #[.int .i64 a0, .int .i64 a1, .int .i64 a2] w fun e w' => e = .returned (.bool r) ∧ Drawn0 w w' := by
 have H := h; clear h; unfold impl_within.f at H
 by_cases c4 : a1 ≤ a0
 ·
  rw [if_pos c4] at H; have c4b0 : decide (a1 ≤ a0) = true := decide_eq_true c4; clear c4; obtain rfl := Option.some.inj H
  go_enter Tryz.func127, Tryz.ntmps127
  go_wp2
  go_ret
  exact ⟨rf_, (by repeat (first | exact Drawn0.refl _ | apply Drawn0.step))⟩
 ·
  rw [if_neg c4] at H; have c4b0 : decide (a1 ≤ a0) = false := decide_eq_false c4; clear c4; obtain rfl := Option.some.inj H
  go_enter Tryz.func127, Tryz.ntmps127
  go_wp2
  go_ret
  exact ⟨rf_, (by repeat (first | exact Drawn0.refl _ | apply Drawn0.step))⟩
def impl_IsSet.f (a0 : Int) (a1 : Int) : Option (Bool) := (impl_within.f a0 0 8).bind fun t305 => (if t305 = true then (if 0 ≤ a0 then ((impl_within.f a1 0 (wrap64 ((shl .i64 1 a0) - 1))).bind fun t306 => (some t306)) else (none)) else (some false))
theorem impl_IsSet.calls (a0 : Int) (a1 : Int) (r : Bool) (w : World) (h : impl_IsSet.f a0 a1 = some r) :
  Calls Tryz.prog 130 #[.int .i64 a0, .int .i64 a1] w fun e w' => e = .returned (.bool r) ∧ Drawn0 w w' := by
 have H := h; clear h; unfold impl_IsSet.f at H; obtain ⟨t305, A3, H⟩ := bnd4_ H
 by_cases c4 : t305 = true
 ·
  subst c4; rw [if_pos rfl] at H
  by_cases c5 : 0 ≤ a0
  ·
   rw [if_pos c5] at H; have c5b0 := eq_true c5; have c5b1 : decide (0 ≤ a0) = true := decide_eq_true c5; clear c5; obtain ⟨ji6, hji6⟩ : ∃ j_ : Int, (shl .i64 1 a0) = j_ := ⟨_, rfl⟩
   replace H : ((impl_within.f a1 0 (wrap64 ((ji6) - 1))).bind fun t306 => (some t306)) = some r := by first | (rw [hji6] at H; exact H) | (simp only [hji6] at H ⊢; exact H)
   (try rw [hji6] at A3)
   have hji6_ : (IntKind.i64.wrap (1 * 2 ^ min a0.toNat 64)) = ji6 := hji6; have hji6z : a0 ≤ 64 → (IntKind.i64.wrap (1 * 2 ^ a0.toNat)) = ji6 := shl_small hji6
   have hji6u : (IntKind.i64.wrap (2 ^ min a0.toNat 64)) = ji6 := by have h_ := hji6_; rw [Int.one_mul] at h_; exact h_
   have hji6v : a0 ≤ 64 → (IntKind.i64.wrap (2 ^ a0.toNat)) = ji6 := fun hle_ => by have h_ := hji6z hle_; rw [Int.one_mul] at h_; exact h_
   have hji6y : (wrap64 (1 * 2 ^ min a0.toNat 64)) = ji6 := (i64_w _).symm.trans hji6_
   have hji6x : a0 ≤ 64 → (wrap64 (1 * 2 ^ a0.toNat)) = ji6 := fun h_ => (i64_w _).symm.trans (hji6z h_)
   obtain ⟨t306, A7, H⟩ := bnd4_ H; obtain rfl := Option.some.inj H
   go_enter Tryz.func130, Tryz.ntmps130
   go_wp2_with (first | ((with_reducible refine gw_ rfl ?_); (refine gL_ 127 6 Tryz.func127 #[.int .i64 a0, .int .i64 0, .int .i64 8] ?_; (with_reducible refine (impl_within.calls a0 0 8 true _ A3.out).mono ?_); rintro e w' ⟨rfl, ⟨nd, rfl⟩⟩; refine ⟨_, rfl, ?_⟩)) | (go_at_call 127; (with_reducible refine (impl_within.calls a1 0 (wrap64 ((ji6) - 1)) t306 _ A7.out).mono ?_); rintro e w' ⟨rfl, ⟨nd, rfl⟩⟩))
   go_ret
   exact ⟨(by first | rfl | (simp; done) | (simp only [← hji6] <;> (first | rfl | simp)) | (simp [*]; done)), (by repeat (first | exact Drawn0.refl _ | apply Drawn0.step))⟩
  ·
   rw [if_neg c5] at H
   exact absurd H (by simp)
 ·
  replace c4 := Bool.eq_false_iff.mpr c4; subst c4
  rw [if_neg (show ¬ (false = true) by decide)] at H
  obtain rfl := Option.some.inj H
  go_enter Tryz.func130, Tryz.ntmps130
  go_wp2_with ((with_reducible refine gw_ rfl ?_); (refine gL_ 127 6 Tryz.func127 #[.int .i64 a0, .int .i64 0, .int .i64 8] ?_; (with_reducible refine (impl_within.calls a0 0 8 false _ A3.out).mono ?_); rintro e w' ⟨rfl, ⟨nd, rfl⟩⟩; refine ⟨_, rfl, ?_⟩))
  go_ret
  exact ⟨rf_, (by repeat (first | exact Drawn0.refl _ | apply Drawn0.step))⟩
def impl_isAnySet.f (a0 : Int) : Option (Bool) := (impl_IsSet.f 8 a0).bind fun t307 => (some t307)
theorem impl_isAnySet.calls (a0 : Int) (r : Bool) (w : World) (h : impl_isAnySet.f a0 = some r) :
  Calls Tryz.prog 177 #[.int .i64 a0] w fun e w' => e = .returned (.bool r) ∧ Drawn0 w w' := by
 have H := h; clear h; unfold impl_isAnySet.f at H; obtain ⟨t307, A2, H⟩ := bnd4_ H; obtain rfl := Option.some.inj H
 go_enter Tryz.func177, Tryz.ntmps177
 go_wp2_with (first | ((with_reducible refine gate_callee (f := 130) rfl ?_); refine goesL_ (some 4) rfl rfl Tryz.func130 (by kernel_rfl) rfl #[.int .i64 8, .int .i64 a0] rfl (by (try simp only [List.map_toArray, List.map_cons, List.map_nil]); first | done | rfl | (simp only [List.length_drop, List.length_take]; rfl)) ?_; (with_reducible refine (impl_IsSet.calls 8 a0 t307 _ A2.out).mono ?_); rintro e w' ⟨rfl, ⟨nd, rfl⟩⟩; refine ⟨_, rfl, ?_⟩))
 go_ret
 exact ⟨rf_, (by repeat (first | exact Drawn0.refl _ | apply Drawn0.step))⟩
theorem q4_13 {P : Prop} (h : P := by repeat (first | (with_reducible first | exact HB.out | apply below_alloc | apply pw_below_drewN | apply below_drew1 | refine below_set ?_ GE308.out) | exact HB.out)) : P := h
def impl_areAnyRules_1.f (a0_0 : Int) (a0_1 : Int) : Option (Bool) := (impl_isAnySet.f a0_0).bind fun t309 => (if t309 = true then ((impl_isAnySet.f a0_1).bind fun t310 => (some (!t310))) else (some true))
theorem impl_areAnyRules_1.calls (a0_0 : Int) (a0_1 : Int) (r : Bool) (w : World) (h : impl_areAnyRules_1.f a0_0 a0_1 = some r) :
  Calls Tryz.prog 218 #[.agg #[.int .i64 a0_0, .int .i64 a0_1]] w fun e w' => e = .returned (.bool r) ∧ Below w.heap.size w w' := by
 have hu48 := Tryz.underlying48; have HB := Aside0.mk (Below.refl w.heap.size w); have H := h; clear h; unfold impl_areAnyRules_1.f at H; obtain ⟨t309, A2, H⟩ := bnd4_ H
 by_cases c3 : t309 = true
 ·
  subst c3; rw [if_pos rfl] at H; obtain ⟨t310, A4, H⟩ := bnd4_ H; obtain rfl := Option.some.inj H
  go_enter Tryz.func218, Tryz.ntmps218
  go_wp2_with (first | ((with_reducible refine gw_ rfl ?_); first | (refine be_ 1 #[.int .i64 a0_0, .int .i64 a0_1] 48 ?_; intro gb308 hg w5 hbox hb; have n_ := ac_ (below_step s1_ hb) <| ac_ (hbox) <| ac_ ((gz_ w hg s1_)) <| Aside0.mk ((gz_ w hg s1_)); clear HB; obtain ⟨HB, BK308, GW308, GE308⟩ := n_; clear hb hbox hg; have hcz6_0 : w5.cell? ⟨gb308, 0, none⟩ = some (.int .i64 a0_0) := (blk_cell BK308.out 0).trans rfl; have hcz6_1 : w5.cell? ⟨gb308, 1, none⟩ = some (.int .i64 a0_1) := (blk_cell BK308.out 1).trans rfl; have hfz6_0 := blk_frozen BK308.out 0; have hfz6_1 := blk_frozen BK308.out 1) | (refine gL_ 177 5 Tryz.func177 #[.int .i64 a0_0] ?_; (with_reducible refine (impl_isAnySet.calls a0_0 true _ A2.out).mono ?_); rintro e w' ⟨rfl, ⟨nd, rfl⟩⟩; refine ⟨_, rfl, ?_⟩)) | (go_at_call 177; (with_reducible refine (impl_isAnySet.calls a0_1 t310 _ A4.out).mono ?_); rintro e w' ⟨rfl, ⟨nd, rfl⟩⟩))
  go_ret
  exact ⟨(by first | rfl | (simp [errW_none, errW_some] <;> rfl) | (simp [*, errW_none, errW_some] <;> rfl)), q4_13⟩
 ·
  replace c3 := Bool.eq_false_iff.mpr c3; subst c3
  rw [if_neg (show ¬ (false = true) by decide)] at H
  obtain rfl := Option.some.inj H
  go_enter Tryz.func218, Tryz.ntmps218
  go_wp2_with ((with_reducible refine gw_ rfl ?_); first | (refine be_ 1 #[.int .i64 a0_0, .int .i64 a0_1] 48 ?_; intro gb308 hg w7 hbox hb; have n_ := ac_ (below_step s1_ hb) <| ac_ (hbox) <| ac_ ((gz_ w hg s1_)) <| Aside0.mk ((gz_ w hg s1_)); clear HB; obtain ⟨HB, BK308, GW308, GE308⟩ := n_; clear hb hbox hg; have hcz8_0 : w7.cell? ⟨gb308, 0, none⟩ = some (.int .i64 a0_0) := (blk_cell BK308.out 0).trans rfl; have hcz8_1 : w7.cell? ⟨gb308, 1, none⟩ = some (.int .i64 a0_1) := (blk_cell BK308.out 1).trans rfl; have hfz8_0 := blk_frozen BK308.out 0; have hfz8_1 := blk_frozen BK308.out 1) | (refine gL_ 177 5 Tryz.func177 #[.int .i64 a0_0] ?_; (with_reducible refine (impl_isAnySet.calls a0_0 false _ A2.out).mono ?_); rintro e w' ⟨rfl, ⟨nd, rfl⟩⟩; refine ⟨_, rfl, ?_⟩))
  go_ret
  exact ⟨(by first | rfl | (simp [errW_none, errW_some] <;> rfl) | (simp [*, errW_none, errW_some] <;> rfl)), q4_13⟩
theorem q4_17 {P : Prop} (h : P := by repeat (first | (with_reducible first | exact HB.out | apply below_alloc | apply pw_below_drewN | apply below_drew1 | refine below_set ?_ GE348.out) | exact HB.out)) : P := h
theorem q4_20 {P : Prop} (h : P := by (with_reducible repeat (first | refine blk_drewN ?_ _ | refine blk_drew ?_ | refine blk_alloc ?_ _)); exact BK348.out) : P := h
def spec_Follows.f (k : Nat) (l0 : List (S48)) (a1_0 : Int) (a1_1 : Int) : Option (Bool) := (spec_l9Sets.f k l0).bind fun t349 => (if t349 = true then ((spec_l9Rule.f 8 a1_0 a1_1).bind fun t350 => (if t350 = true then ((spec_l9Closed.f k l0 a1_0).bind fun t351 => (some ((Go.bits .and .i64 t351 a1_1) == a1_1))) else (some false))) else (some false))
def spec_Follows.T1 : Bool × List (List Nat × List Nat) := (true, [([], []), ([0], [0]), ([1, 1], [1]), ([2], [2]), ([3, 2, 2], [2, 3]), ([2, 4], [2, 4]), ([5, 4], [5]), ([6], [6]), ([6], [6]), ([8, 6], [6, 8]), ([7, 9, 6, 6], [6, 7, 9]), ([6], [6]), ([11, 6], [6, 11]), ([10, 12, 6], [6, 10, 12]), ([6], [6]), ([14, 6], [6, 14]), ([13, 15, 6], [6, 13, 15]), ([6, 16], [6, 16]), ([17, 10, 0, 1, 2, 3, 4, 5, 6, 7, 8, 9, 10, 11, 12, 13, 14, 15, 16, 17], [17])])
def spec_Follows.B1 : List Nat := [0, 1, 3, 7, 15, 31, 63, 127, 127, 383, 1023, 127, 2175, 8191, 127, 16511, 65535, 131071, 262143]
theorem spec_Follows.tab1 : rtab .any (opsOf Tryz.f49 1) = spec_Follows.T1 := by kernel_rfl
theorem spec_Follows.bits1 : waitsOk spec_Follows.T1.2 spec_Follows.B1 = true := by kernel_rfl
theorem spec_Follows.calls (k : Nat) (A0 : Option Addr) (c0 : Nat) (l0 : List (S48)) (a1_0 : Int) (a1_1 : Int) (r : Bool) (w : World) (hr0 : Kd.C k48 w A0 l0.length l0) (hc0 : l0.length ≤ c0) (h : spec_Follows.f k l0 a1_0 a1_1 = some r) :
  Calls Tryz.prog 49 #[.slice A0 l0.length c0, .agg #[.int .i64 a1_0, .int .i64 a1_1]] w fun e w' => e = .returned (.bool r) ∧ Below w.heap.size w w' := by
 have hu48 := Tryz.underlying48; have HR0 := Aside0.mk hr0; have HC0 := Aside0.mk hc0; clear hr0 hc0; have HB := Aside0.mk (Below.refl w.heap.size w); have H := h; clear h; unfold spec_Follows.f at H; obtain ⟨t349, A3, H⟩ := bnd4_ H
 by_cases c4 : t349 = true
 ·
  subst c4; rw [if_pos rfl] at H; obtain ⟨t350, A5, H⟩ := bnd4_ H
  by_cases c6 : t350 = true
  ·
   subst c6; rw [if_pos rfl] at H; obtain ⟨t351, A7, H⟩ := bnd4_ H; obtain rfl := Option.some.inj H
   go_enter Tryz.func49, Tryz.ntmps49
   try go_wp2_with ((with_reducible refine gw_ rfl ?_); (refine be_ 3 #[.int .i64 a1_0, .int .i64 a1_1] 48 ?_; intro gb348 hg w8 hbox hb; have n_ := ac_ (below_step s1_ hb) <| ac_ (hbox) <| ac_ ((gz_ w hg s1_)) <| Aside0.mk ((gz_ w hg s1_)); clear HB; obtain ⟨HB, BK348, GW348, GE348⟩ := n_; clear hb hbox hg))
   have n0_ := Aside0.mk (blk_drew BK348.out); have n1_ := Aside0.mk (below_drew1 HB.out); clear BK348; clear HB; have BK348 := n0_; have HB := n1_; clear n0_ n1_
   refine start_ (n := 19) (S := fun w' => w'.cell? ⟨gb348, 0, none⟩ = some (.int .i64 a1_0) ∧ w'.cell? ⟨gb348, 1, none⟩ = some (.int .i64 a1_1)) (ds := []) (tb_ 19 0) (by kernel_rfl) rfl rfl ⟨(blk_cell BK348.out 0).trans rfl, (blk_cell BK348.out 1).trans rfl⟩ (fun hHeld => ?_); refine with_tabW spec_Follows.tab1 spec_Follows.bits1 (fun HT_ HW_ => ?_)
   generalize w8.drew = w9 at BK348 HB hHeld ⊢
   refine pl_ 0 5 (tb_ 19 1) ?_
   refine on_ 1 6 (tb_ 19 3) (fun K hK => ?_)
   refine goes_ Tryz.func156 (by kernel_rfl) rfl #[.slice A0 l0.length c0] (by rfl) rfl rfl s0_ ?_
   with_reducible refine (spec_l9Sets.calls k _ _ l0 true _ ?side1 ?side2 A3.out).mono ?_
   (case side1 => exact s5_)
   (case side2 => exact HC0.out)
   rintro e w10 ⟨rfl, hb⟩
   refine ⟨_, rfl, ?_⟩
   have n0_ := Aside0.mk (blk_below (g := gb348) (o := .cells #[.int .i64 a1_0, .int .i64 a1_1] 48 (0, 0)) q4_20 hb); have n1_ := Aside0.mk (below_step q4_17 hb); clear BK348; clear HB; have BK348 := n0_; have HB := n1_; clear n0_ n1_
   (try clear hb)
   (try clear hb2)
   (try clear hk)
   (try clear hi)
   refine hK.out _ _ ⟨(blk_cell BK348.out 0).trans rfl, (blk_cell BK348.out 1).trans rfl⟩ (fun hHeld => ?_)
   clear hK K
   refine norm_ (a' := ?_) ?_ ?_
   rotate_left
   ·
    show Act.put _ (some 6) _ = _
    exact s6_
   refine pl_ 2 7 (tb_ 19 7) ?_; refine tk_ 3 8 (tb_ 19 15) hHeld ?_
   refine on_ 4 9 (tb_ 19 31) (fun K hK => ?_)
   refine goes_ Tryz.func157 (by kernel_rfl) rfl #[.int .i64 8, .agg #[.int .i64 a1_0, .int .i64 a1_1]] (by rfl) rfl rfl s0_ ?_
   with_reducible refine (spec_l9Rule.calls 8 a1_0 a1_1 true _ A5.out).mono ?_
   rintro e w11 ⟨rfl, hb⟩
   refine ⟨_, rfl, ?_⟩
   have n0_ := Aside0.mk (blk_below (g := gb348) (o := .cells #[.int .i64 a1_0, .int .i64 a1_1] 48 (0, 0)) q4_20 hb); have n1_ := Aside0.mk (below_step q4_17 hb); clear BK348; clear HB; have BK348 := n0_; have HB := n1_; clear n0_ n1_
   (try clear hb)
   (try clear hb2)
   (try clear hk)
   (try clear hi)
   refine hK.out _ _ ⟨(blk_cell BK348.out 0).trans rfl, (blk_cell BK348.out 1).trans rfl⟩ (fun hHeld => ?_)
   clear hK K
   refine norm_ (a' := ?_) ?_ ?_
   rotate_left
   ·
    show Act.put _ (some 9) _ = _
    exact s6_
   refine pl_ 5 10 (tb_ 19 63) ?_; refine pl_ 6 11 (tb_ 19 127) ?_; refine pl_ 7 12 (tb_ 19 255) ?_; refine pl_ 8 13 (tb_ 19 511) ?_; refine pl_ 11 16 (tb_ 19 2559) ?_; refine pl_ 14 19 (tb_ 19 18943) ?_; refine tk_ 9 14 (tb_ 19 19455) hHeld ?_; refine tk_ 12 17 (tb_ 19 23551) hHeld ?_; refine tk_ 15 20 (tb_ 19 56319) hHeld ?_
   refine on_ 10 15 (tb_ 19 57343) (fun K hK => ?_)
   refine goes_ Tryz.func138 (by kernel_rfl) rfl #[.slice A0 l0.length c0, .int .i64 a1_0] (by rfl) rfl rfl s0_ ?_
   with_reducible refine (spec_l9Closed.calls k _ _ l0 a1_0 t351 _ ?side1 ?side2 A7.out).mono ?_
   (case side1 => exact s5_)
   (case side2 => exact HC0.out)
   rintro e w' ⟨rfl, ⟨nd, rfl⟩⟩
   refine ⟨_, rfl, ?_⟩
   refine hK.out _ _ ⟨(blk_cell BK348.out 0).trans rfl, (blk_cell BK348.out 1).trans rfl⟩ (fun hHeld => ?_)
   clear hK K
   refine norm_ (a' := ?_) ?_ ?_
   rotate_left
   ·
    show Act.put _ (some 15) _ = _
    exact s6_
   refine pl_ 13 18 (tb_ 19 65535) ?_; refine pl_ 16 21 (tb_ 19 131071) ?_; refine pl_ 17 22 (tb_ 19 262143) ?_; refine pl_ 18 4 (tb_ 19 524287) ?_
   refine done_ (done_of HT_.out (by kernel_rfl)) ?_
   try go_wp2
   go_ret
   exact ⟨s4_, q4_17⟩
  ·
   replace c6 := Bool.eq_false_iff.mpr c6; subst c6
   rw [if_neg (show ¬ (false = true) by decide)] at H
   obtain rfl := Option.some.inj H
   go_enter Tryz.func49, Tryz.ntmps49
   try go_wp2_with ((with_reducible refine gw_ rfl ?_); (refine be_ 3 #[.int .i64 a1_0, .int .i64 a1_1] 48 ?_; intro gb348 hg w12 hbox hb; have n_ := ac_ (below_step s1_ hb) <| ac_ (hbox) <| ac_ ((gz_ w hg s1_)) <| Aside0.mk ((gz_ w hg s1_)); clear HB; obtain ⟨HB, BK348, GW348, GE348⟩ := n_; clear hb hbox hg))
   have n0_ := Aside0.mk (blk_drew BK348.out); have n1_ := Aside0.mk (below_drew1 HB.out); clear BK348; clear HB; have BK348 := n0_; have HB := n1_; clear n0_ n1_
   refine start_ (n := 19) (S := fun w' => w'.cell? ⟨gb348, 0, none⟩ = some (.int .i64 a1_0) ∧ w'.cell? ⟨gb348, 1, none⟩ = some (.int .i64 a1_1)) (ds := []) (tb_ 19 0) (by kernel_rfl) rfl rfl ⟨(blk_cell BK348.out 0).trans rfl, (blk_cell BK348.out 1).trans rfl⟩ (fun hHeld => ?_); refine with_tabW spec_Follows.tab1 spec_Follows.bits1 (fun HT_ HW_ => ?_)
   generalize w12.drew = w13 at BK348 HB hHeld ⊢
   refine pl_ 0 5 (tb_ 19 1) ?_
   refine on_ 1 6 (tb_ 19 3) (fun K hK => ?_)
   refine goes_ Tryz.func156 (by kernel_rfl) rfl #[.slice A0 l0.length c0] (by rfl) rfl rfl s0_ ?_
   with_reducible refine (spec_l9Sets.calls k _ _ l0 true _ ?side1 ?side2 A3.out).mono ?_
   (case side1 => exact s5_)
   (case side2 => exact HC0.out)
   rintro e w14 ⟨rfl, hb⟩
   refine ⟨_, rfl, ?_⟩
   have n0_ := Aside0.mk (blk_below (g := gb348) (o := .cells #[.int .i64 a1_0, .int .i64 a1_1] 48 (0, 0)) q4_20 hb); have n1_ := Aside0.mk (below_step q4_17 hb); clear BK348; clear HB; have BK348 := n0_; have HB := n1_; clear n0_ n1_
   (try clear hb)
   (try clear hb2)
   (try clear hk)
   (try clear hi)
   refine hK.out _ _ ⟨(blk_cell BK348.out 0).trans rfl, (blk_cell BK348.out 1).trans rfl⟩ (fun hHeld => ?_)
   clear hK K
   refine norm_ (a' := ?_) ?_ ?_
   rotate_left
   ·
    show Act.put _ (some 6) _ = _
    exact s6_
   refine pl_ 2 7 (tb_ 19 7) ?_; refine tk_ 3 8 (tb_ 19 15) hHeld ?_
   refine on_ 4 9 (tb_ 19 31) (fun K hK => ?_)
   refine goes_ Tryz.func157 (by kernel_rfl) rfl #[.int .i64 8, .agg #[.int .i64 a1_0, .int .i64 a1_1]] (by rfl) rfl rfl s0_ ?_
   with_reducible refine (spec_l9Rule.calls 8 a1_0 a1_1 false _ A5.out).mono ?_
   rintro e w15 ⟨rfl, hb⟩
   refine ⟨_, rfl, ?_⟩
   have n0_ := Aside0.mk (blk_below (g := gb348) (o := .cells #[.int .i64 a1_0, .int .i64 a1_1] 48 (0, 0)) q4_20 hb); have n1_ := Aside0.mk (below_step q4_17 hb); clear BK348; clear HB; have BK348 := n0_; have HB := n1_; clear n0_ n1_
   (try clear hb)
   (try clear hb2)
   (try clear hk)
   (try clear hi)
   refine hK.out _ _ ⟨(blk_cell BK348.out 0).trans rfl, (blk_cell BK348.out 1).trans rfl⟩ (fun hHeld => ?_)
   clear hK K
   refine norm_ (a' := ?_) ?_ ?_
   rotate_left
   ·
    show Act.put _ (some 9) _ = _
    exact s6_
   refine pl_ 5 10 (tb_ 19 63) ?_; refine pl_ 6 11 (tb_ 19 127) ?_; refine pr_ 7 12 (tb_ 19 255) ?_; refine pr_ 8 13 (tb_ 19 511) ?_; refine pr_ 9 14 (tb_ 19 1023) ?_; refine pr_ 10 15 (tb_ 19 2047) ?_; refine pr_ 11 16 (tb_ 19 4095) ?_; refine pr_ 12 17 (tb_ 19 8191) ?_; refine pr_ 13 18 (tb_ 19 16383) ?_; refine pr_ 14 19 (tb_ 19 32767) ?_; refine pr_ 15 20 (tb_ 19 65535) ?_; refine pr_ 16 21 (tb_ 19 131071) ?_; refine pl_ 17 22 (tb_ 19 262143) ?_; refine pl_ 18 4 (tb_ 19 524287) ?_
   refine done_ (done_of HT_.out (by kernel_rfl)) ?_
   try go_wp2
   go_ret
   exact ⟨s4_, q4_17⟩
 ·
  replace c4 := Bool.eq_false_iff.mpr c4; subst c4
  rw [if_neg (show ¬ (false = true) by decide)] at H
  obtain rfl := Option.some.inj H
  go_enter Tryz.func49, Tryz.ntmps49
  try go_wp2_with ((with_reducible refine gw_ rfl ?_); (refine be_ 3 #[.int .i64 a1_0, .int .i64 a1_1] 48 ?_; intro gb348 hg w16 hbox hb; have n_ := ac_ (below_step s1_ hb) <| ac_ (hbox) <| ac_ ((gz_ w hg s1_)) <| Aside0.mk ((gz_ w hg s1_)); clear HB; obtain ⟨HB, BK348, GW348, GE348⟩ := n_; clear hb hbox hg))
  have n0_ := Aside0.mk (blk_drew BK348.out); have n1_ := Aside0.mk (below_drew1 HB.out); clear BK348; clear HB; have BK348 := n0_; have HB := n1_; clear n0_ n1_
  refine start_ (n := 19) (S := fun w' => True) (ds := []) (tb_ 19 0) (by kernel_rfl) rfl rfl trivial (fun hHeld => ?_); refine with_tabW spec_Follows.tab1 spec_Follows.bits1 (fun HT_ HW_ => ?_)
  generalize w16.drew = w17 at BK348 HB hHeld ⊢
  refine pl_ 0 5 (tb_ 19 1) ?_
  refine on_ 1 6 (tb_ 19 3) (fun K hK => ?_)
  refine goes_ Tryz.func156 (by kernel_rfl) rfl #[.slice A0 l0.length c0] (by rfl) rfl rfl s0_ ?_
  with_reducible refine (spec_l9Sets.calls k _ _ l0 false _ ?side1 ?side2 A3.out).mono ?_
  (case side1 => exact s5_)
  (case side2 => exact HC0.out)
  rintro e w18 ⟨rfl, hb⟩
  refine ⟨_, rfl, ?_⟩
  have n0_ := Aside0.mk (blk_below (g := gb348) (o := .cells #[.int .i64 a1_0, .int .i64 a1_1] 48 (0, 0)) q4_20 hb); have n1_ := Aside0.mk (below_step q4_17 hb); clear BK348; clear HB; have BK348 := n0_; have HB := n1_; clear n0_ n1_
  (try clear hb)
  (try clear hb2)
  (try clear hk)
  (try clear hi)
  refine hK.out _ _ trivial (fun hHeld => ?_)
  clear hK K
  refine norm_ (a' := ?_) ?_ ?_
  rotate_left
  ·
   show Act.put _ (some 6) _ = _
   exact s6_
  refine pl_ 2 7 (tb_ 19 7) ?_; refine pr_ 3 8 (tb_ 19 15) ?_; refine pr_ 4 9 (tb_ 19 31) ?_; refine pl_ 5 10 (tb_ 19 63) ?_; refine pl_ 6 11 (tb_ 19 127) ?_; refine pr_ 7 12 (tb_ 19 255) ?_; refine pr_ 8 13 (tb_ 19 511) ?_; refine pr_ 9 14 (tb_ 19 1023) ?_; refine pr_ 10 15 (tb_ 19 2047) ?_; refine pr_ 11 16 (tb_ 19 4095) ?_; refine pr_ 12 17 (tb_ 19 8191) ?_; refine pr_ 13 18 (tb_ 19 16383) ?_; refine pr_ 14 19 (tb_ 19 32767) ?_; refine pr_ 15 20 (tb_ 19 65535) ?_; refine pr_ 16 21 (tb_ 19 131071) ?_; refine pl_ 17 22 (tb_ 19 262143) ?_; refine pl_ 18 4 (tb_ 19 524287) ?_
  refine done_ (done_of HT_.out (by kernel_rfl)) ?_
  try go_wp2
  go_ret
  exact ⟨s4_, q4_17⟩
def impl_HasElement.f (a0 : Int) (a1 : Int) : Option (Bool) := (impl_isAnySet.f a0).bind fun t459 => (if t459 = true then ((impl_within.f a1 0 7).bind fun t460 => (if t460 = true then (if 0 ≤ a1 then (some ((Go.bits .and .i64 (shr .i64 a0 a1) 1) == 1)) else (none)) else (some false))) else (some false))
theorem impl_HasElement.calls (a0 : Int) (a1 : Int) (r : Bool) (w : World) (h : impl_HasElement.f a0 a1 = some r) :
  Calls Tryz.prog 212 #[.int .i64 a0, .int .i64 a1] w fun e w' => e = .returned (.bool r) ∧ Drawn0 w w' := by
 have H := h; clear h; unfold impl_HasElement.f at H; obtain ⟨t459, A3, H⟩ := bnd4_ H
 by_cases c4 : t459 = true
 ·
  subst c4; rw [if_pos rfl] at H; obtain ⟨t460, A5, H⟩ := bnd4_ H
  by_cases c6 : t460 = true
  ·
   subst c6; rw [if_pos rfl] at H
   by_cases c7 : 0 ≤ a1
   ·
    rw [if_pos c7] at H; have c7b0 := eq_true c7; have c7b1 : decide (0 ≤ a1) = true := decide_eq_true c7; clear c7; obtain ⟨ji8, hji8⟩ : ∃ j_ : Int, (shr .i64 a0 a1) = j_ := ⟨_, rfl⟩
    replace H : (some ((Go.bits .and .i64 (ji8) 1) == 1)) = some r := by first | (rw [hji8] at H; exact H) | (simp only [hji8] at H ⊢; exact H)
    (try rw [hji8] at A3)
    (try rw [hji8] at A5)
    have hji8_ : (a0 / 2 ^ min a1.toNat 64) = ji8 := hji8; have hji8z : a1 ≤ 64 → (a0 / 2 ^ a1.toNat) = ji8 := shr_small hji8; obtain rfl := Option.some.inj H
    go_enter Tryz.func212, Tryz.ntmps212
    go_wp2_with (first | ((with_reducible refine gw_ rfl ?_); (refine gL_ 177 6 Tryz.func177 #[.int .i64 a0] ?_; (with_reducible refine (impl_isAnySet.calls a0 true _ A3.out).mono ?_); rintro e w' ⟨rfl, ⟨nd, rfl⟩⟩; refine ⟨_, rfl, ?_⟩)) | (go_at_call 127; (with_reducible refine (impl_within.calls a1 0 7 true _ A5.out).mono ?_); rintro e w' ⟨rfl, ⟨nd, rfl⟩⟩))
    go_ret
    exact ⟨(by first | rfl | (simp; done) | (simp only [← hji8] <;> (first | rfl | simp)) | (simp [*]; done)), (by repeat (first | exact Drawn0.refl _ | apply Drawn0.step))⟩
   ·
    rw [if_neg c7] at H
    exact absurd H (by simp)
  ·
   replace c6 := Bool.eq_false_iff.mpr c6; subst c6
   rw [if_neg (show ¬ (false = true) by decide)] at H
   obtain rfl := Option.some.inj H
   go_enter Tryz.func212, Tryz.ntmps212
   go_wp2_with (first | ((with_reducible refine gw_ rfl ?_); (refine gL_ 177 6 Tryz.func177 #[.int .i64 a0] ?_; (with_reducible refine (impl_isAnySet.calls a0 true _ A3.out).mono ?_); rintro e w' ⟨rfl, ⟨nd, rfl⟩⟩; refine ⟨_, rfl, ?_⟩)) | (go_at_call 127; (with_reducible refine (impl_within.calls a1 0 7 false _ A5.out).mono ?_); rintro e w' ⟨rfl, ⟨nd, rfl⟩⟩))
   go_ret
   exact ⟨rf_, (by repeat (first | exact Drawn0.refl _ | apply Drawn0.step))⟩
 ·
  replace c4 := Bool.eq_false_iff.mpr c4; subst c4
  rw [if_neg (show ¬ (false = true) by decide)] at H
  obtain rfl := Option.some.inj H
  go_enter Tryz.func212, Tryz.ntmps212
  go_wp2_with ((with_reducible refine gw_ rfl ?_); (refine gL_ 177 6 Tryz.func177 #[.int .i64 a0] ?_; (with_reducible refine (impl_isAnySet.calls a0 false _ A3.out).mono ?_); rintro e w' ⟨rfl, ⟨nd, rfl⟩⟩; refine ⟨_, rfl, ?_⟩))
  go_ret
  exact ⟨rf_, (by repeat (first | exact Drawn0.refl _ | apply Drawn0.step))⟩
theorem bnd7_ {α β : Type} {o : Option α} {f : α → Option β} {r : β} (h : o.bind f = some r) : ∃ a, Aside0 (o = some a) ∧ f a = some r := by
 obtain ⟨a, h1, h2⟩ := Option.bind_eq_some_iff.mp h
 exact ⟨a, ⟨h1⟩, h2⟩
def spec_l2In.l0 : Nat → List Int → Int → Int → Option (Bool)
 | 0, _, _, _ => none
 | k + 1, x0, x1, x5 => if x5 < (x0.length : Int) then (if 0 ≤ x5 then (if (rd x0 x5) = x1 then (some true) else (spec_l2In.l0 k x0 x1 (wrap64 (x5 + 1)))) else (none)) else (some false)
def spec_l2In.f (k : Nat) (l0 : List Int) (a1 : Int) : Option (Bool) := spec_l2In.l0 k l0 a1 0
theorem spec_l2In.calls (k : Nat) (A0 : Option Addr) (c0 : Nat) (l0 : List Int) (a1 : Int) (r : Bool) (w : World) (hr0 : Kd.C (Kd.int .i64) w A0 l0.length l0) (hc0 : l0.length ≤ c0) (h : spec_l2In.f k l0 a1 = some r) :
  Calls Tryz.prog 133 #[.slice A0 l0.length c0, .int .i64 a1] w fun e w' => e = .returned (.bool r) ∧ Drawn0 w w' := by
 have HR0 := Aside0.mk hr0; have HC0 := Aside0.mk hc0; clear hr0 hc0; have H := h; clear h; unfold spec_l2In.f at H; have H' := Aside0.mk H; clear H
 go_enter Tryz.func133, Tryz.ntmps133
 go_wp2
 go_loopg [5] k (fun kq v5 w' => ∃ (x5_1 : Int), v5 = .int .i64 x5_1 ∧ Aside0 (spec_l2In.l0 kq l0 a1 x5_1 = some r) ∧ Aside0 (kq ≤ k) ∧ Drawn0 w w')
 case atStart => exact ⟨(0), s2_, H', ⟨Nat.le_refl _⟩, s7_⟩
 case round =>
  clear H'
  try clear c1
  try clear p2
  obtain ⟨x5_1, rfl, HA, HK1, ⟨m1, rfl⟩⟩ := hrel
  cases gk with
  | zero => exact absurd HA.out (by simp [spec_l2In.l0])
  | succ k1 =>
   have H := HA.out; clear HA
   simp only [spec_l2In.l0] at H
   by_cases c3 : x5_1 < (l0.length : Int)
   ·
    rw [if_pos c3] at H; have c3b0 : decide (x5_1 < (l0.length : Int)) = true := decide_eq_true c3; clear c3
    by_cases c4 : 0 ≤ x5_1
    ·
     rw [if_pos c4] at H; have c4b0 : decide (0 ≤ x5_1) = true := decide_eq_true c4; clear c4
     by_cases c5 : (rd l0 x5_1) = a1
     ·
      rw [if_pos c5] at H; have c5b0 : ((rd l0 x5_1) == a1) = true := beq_iff_eq.mpr c5; have c5b1 : ((rd l0 x5_1) != a1) = false := bne_eq_false_iff_eq.mpr c5; clear c5; obtain rfl := Option.some.inj H; have p115 : 0 ≤ (x5_1 : Int) := of_decide_eq_true s3_; have q115 : x5_1 < (l0.length : Int) := of_decide_eq_true s3_; obtain ⟨ad115, e115, hx115_0⟩ := Kd.at_int HR0.out x5_1 p115 q115
      cases e115
      replace p115 := eq_true p115; replace q115 := eq_true q115
      go_wp2
      go_ret
      exact ⟨s2_, s7_⟩
     ·
      rw [if_neg c5] at H; have c5b0 : ((rd l0 x5_1) == a1) = false := beq_eq_false_iff_ne.mpr c5; have c5b1 : ((rd l0 x5_1) != a1) = true := bne_iff_ne.mpr c5; have H' := Aside0.mk H; clear H; have p115 : 0 ≤ (x5_1 : Int) := of_decide_eq_true s3_; have q115 : x5_1 < (l0.length : Int) := of_decide_eq_true s3_; obtain ⟨ad115, e115, hx115_0⟩ := Kd.at_int HR0.out x5_1 p115 q115
      cases e115
      replace p115 := eq_true p115; replace q115 := eq_true q115
      go_wp2
      go_roundg k1
      case measure => have := HK1.out; omega
      case rel => exact ⟨(wrap64 (x5_1 + 1)), s2_, H', ⟨by have := HK1.out; omega⟩, s7_⟩
    ·
     rw [if_neg c4] at H
     exact absurd H (by simp)
   ·
    rw [if_neg c3] at H; have c3b0 : decide (x5_1 < (l0.length : Int)) = false := decide_eq_false c3; clear c3; obtain rfl := Option.some.inj H
    go_wp2
    go_ret
    exact ⟨s2_, s7_⟩
def spec_BeforeSet.f (a0 : Int) (a1 : Int) : Option (Bool) := (spec_IsSet.f 8 a0).bind fun t116 => (if t116 = true then ((spec_IsSet.f 8 a1).bind fun t117 => (if t117 = true then (if a0 = a1 then (some false) else (some ((Go.bits .and .i64 a1 (Go.bits .and .i64 (Go.bits .xor .i64 a0 a1) (wrap64 (-(Go.bits .xor .i64 a0 a1))))) != 0))) else (some false))) else (some false))
theorem spec_BeforeSet.calls (a0 : Int) (a1 : Int) (r : Bool) (w : World) (h : spec_BeforeSet.f a0 a1 = some r) :
  Calls Tryz.prog 134 #[.int .i64 a0, .int .i64 a1] w fun e w' => e = .returned (.bool r) ∧ Drawn0 w w' := by
 have H := h; clear h; unfold spec_BeforeSet.f at H; obtain ⟨t116, A3, H⟩ := bnd7_ H
 by_cases c4 : t116 = true
 ·
  subst c4; rw [if_pos rfl] at H; obtain ⟨t117, A5, H⟩ := bnd7_ H
  by_cases c6 : t117 = true
  ·
   subst c6; rw [if_pos rfl] at H
   by_cases c7 : a0 = a1
   ·
    rw [if_pos c7] at H; have c7b0 : (a0 == a1) = true := beq_iff_eq.mpr c7; have c7b1 : (a0 != a1) = false := bne_eq_false_iff_eq.mpr c7; clear c7; obtain rfl := Option.some.inj H
    go_enter Tryz.func134, Tryz.ntmps134
    go_wp2_with (first | ((with_reducible refine gw_ rfl ?_); (refine gL_ 86 7 Tryz.func86 #[.int .i64 8, .int .i64 a0] ?_; (with_reducible refine (spec_IsSet.calls 8 a0 true _ A3.out).mono ?_); rintro e w' ⟨rfl, ⟨nd, rfl⟩⟩; refine ⟨_, rfl, ?_⟩)) | (go_at_call 86; (with_reducible refine (spec_IsSet.calls 8 a1 true _ A5.out).mono ?_); rintro e w' ⟨rfl, ⟨nd, rfl⟩⟩))
    go_ret
    exact ⟨s2_, s7_⟩
   ·
    rw [if_neg c7] at H; have c7b0 : (a0 == a1) = false := beq_eq_false_iff_ne.mpr c7; have c7b1 : (a0 != a1) = true := bne_iff_ne.mpr c7; obtain rfl := Option.some.inj H
    go_enter Tryz.func134, Tryz.ntmps134
    go_wp2_with (first | ((with_reducible refine gw_ rfl ?_); (refine gL_ 86 7 Tryz.func86 #[.int .i64 8, .int .i64 a0] ?_; (with_reducible refine (spec_IsSet.calls 8 a0 true _ A3.out).mono ?_); rintro e w' ⟨rfl, ⟨nd, rfl⟩⟩; refine ⟨_, rfl, ?_⟩)) | (go_at_call 86; (with_reducible refine (spec_IsSet.calls 8 a1 true _ A5.out).mono ?_); rintro e w' ⟨rfl, ⟨nd, rfl⟩⟩))
    go_ret
    exact ⟨s2_, s7_⟩
  ·
   replace c6 := Bool.eq_false_iff.mpr c6; subst c6
   rw [if_neg (show ¬ (false = true) by decide)] at H
   obtain rfl := Option.some.inj H
   go_enter Tryz.func134, Tryz.ntmps134
   go_wp2_with (first | ((with_reducible refine gw_ rfl ?_); (refine gL_ 86 7 Tryz.func86 #[.int .i64 8, .int .i64 a0] ?_; (with_reducible refine (spec_IsSet.calls 8 a0 true _ A3.out).mono ?_); rintro e w' ⟨rfl, ⟨nd, rfl⟩⟩; refine ⟨_, rfl, ?_⟩)) | (go_at_call 86; (with_reducible refine (spec_IsSet.calls 8 a1 false _ A5.out).mono ?_); rintro e w' ⟨rfl, ⟨nd, rfl⟩⟩))
   go_ret
   exact ⟨s2_, s7_⟩
 ·
  replace c4 := Bool.eq_false_iff.mpr c4; subst c4
  rw [if_neg (show ¬ (false = true) by decide)] at H
  obtain rfl := Option.some.inj H
  go_enter Tryz.func134, Tryz.ntmps134
  go_wp2_with ((with_reducible refine gw_ rfl ?_); (refine gL_ 86 7 Tryz.func86 #[.int .i64 8, .int .i64 a0] ?_; (with_reducible refine (spec_IsSet.calls 8 a0 false _ A3.out).mono ?_); rintro e w' ⟨rfl, ⟨nd, rfl⟩⟩; refine ⟨_, rfl, ?_⟩))
  go_ret
  exact ⟨s2_, s7_⟩
def spec_l2Sets.l0 : Nat → List Int → Int → Option (Bool)
 | 0, _, _ => none
 | k + 1, x0, x3 => if x3 < (x0.length : Int) then (if 0 ≤ x3 then ((spec_IsSet.f 8 (rd x0 x3)).bind fun t119 => (if t119 = true then (spec_l2Sets.l0 k x0 (wrap64 (x3 + 1))) else (some false))) else (none)) else (some true)
def spec_l2Sets.f (k : Nat) (l0 : List Int) : Option (Bool) := spec_l2Sets.l0 k l0 0
theorem spec_l2Sets.calls (k : Nat) (A0 : Option Addr) (c0 : Nat) (l0 : List Int) (r : Bool) (w : World) (hr0 : Kd.C (Kd.int .i64) w A0 l0.length l0) (hc0 : l0.length ≤ c0) (h : spec_l2Sets.f k l0 = some r) :
  Calls Tryz.prog 216 #[.slice A0 l0.length c0] w fun e w' => e = .returned (.bool r) ∧ Drawn0 w w' := by
 have HR0 := Aside0.mk hr0; have HC0 := Aside0.mk hc0; clear hr0 hc0; have H := h; clear h; unfold spec_l2Sets.f at H; have H' := Aside0.mk H; clear H
 go_enter Tryz.func216, Tryz.ntmps216
 go_wp2
 go_loopg [3] k (fun kq v3 w' => ∃ (x3_1 : Int), v3 = .int .i64 x3_1 ∧ Aside0 (spec_l2Sets.l0 kq l0 x3_1 = some r) ∧ Aside0 (kq ≤ k) ∧ Drawn0 w w')
 case atStart => exact ⟨(0), s2_, H', ⟨Nat.le_refl _⟩, s7_⟩
 case round =>
  clear H'; obtain ⟨x3_1, rfl, HA, HK1, ⟨m1, rfl⟩⟩ := hrel
  cases gk with
  | zero => exact absurd HA.out (by simp [spec_l2Sets.l0])
  | succ k1 =>
   have H := HA.out; clear HA
   simp only [spec_l2Sets.l0] at H
   by_cases c2 : x3_1 < (l0.length : Int)
   ·
    rw [if_pos c2] at H; have c2b0 : decide (x3_1 < (l0.length : Int)) = true := decide_eq_true c2; clear c2
    by_cases c3 : 0 ≤ x3_1
    ·
     rw [if_pos c3] at H; have c3b0 : decide (0 ≤ x3_1) = true := decide_eq_true c3; clear c3; obtain ⟨t119, A4, H⟩ := bnd7_ H
     by_cases c5 : t119 = true
     ·
      subst c5; rw [if_pos rfl] at H; have H' := Aside0.mk H; clear H; have p118 : 0 ≤ (x3_1 : Int) := of_decide_eq_true s3_; have q118 : x3_1 < (l0.length : Int) := of_decide_eq_true s3_; obtain ⟨ad118, e118, hx118_0⟩ := Kd.at_int HR0.out x3_1 p118 q118
      cases e118
      replace p118 := eq_true p118; replace q118 := eq_true q118
      go_wp2_with ((with_reducible refine gw_ rfl ?_); (refine gL_ 86 14 Tryz.func86 #[.int .i64 8, .int .i64 (rd l0 x3_1)] ?_; (with_reducible refine (spec_IsSet.calls 8 (rd l0 x3_1) true _ A4.out).mono ?_); rintro e w' ⟨rfl, ⟨nd, rfl⟩⟩; refine ⟨_, rfl, ?_⟩))
      go_roundg k1
      case measure => have := HK1.out; omega
      case rel => exact ⟨(wrap64 (x3_1 + 1)), s2_, H', ⟨by have := HK1.out; omega⟩, s7_⟩
     ·
      replace c5 := Bool.eq_false_iff.mpr c5; subst c5
      rw [if_neg (show ¬ (false = true) by decide)] at H
      obtain rfl := Option.some.inj H; have p118 : 0 ≤ (x3_1 : Int) := of_decide_eq_true s3_; have q118 : x3_1 < (l0.length : Int) := of_decide_eq_true s3_; obtain ⟨ad118, e118, hx118_0⟩ := Kd.at_int HR0.out x3_1 p118 q118
      cases e118
      replace p118 := eq_true p118; replace q118 := eq_true q118
      go_wp2_with ((with_reducible refine gw_ rfl ?_); (refine gL_ 86 14 Tryz.func86 #[.int .i64 8, .int .i64 (rd l0 x3_1)] ?_; (with_reducible refine (spec_IsSet.calls 8 (rd l0 x3_1) false _ A4.out).mono ?_); rintro e w' ⟨rfl, ⟨nd, rfl⟩⟩; refine ⟨_, rfl, ?_⟩))
      go_ret
      exact ⟨s2_, s7_⟩
    ·
     rw [if_neg c3] at H
     exact absurd H (by simp)
   ·
    rw [if_neg c2] at H; have c2b0 : decide (x3_1 < (l0.length : Int)) = false := decide_eq_false c2; clear c2; obtain rfl := Option.some.inj H
    go_wp2
    go_ret
    exact ⟨s2_, s7_⟩
end Go.Proofs.YtafnamchckehmaaGreatDoor.Pr
