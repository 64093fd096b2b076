/- Functions of the program as plain functions, proofs that their calls answer so, and plain laws: what the law needs. No condition beyond what each statement says. -/
import Derived.Test.YtafnamchckehmaaGreatDoorZFnRules7
namespace Go.Proofs.YtafnamchckehmaaGreatDoor.Pr
set_option maxHeartbeats 40000000
set_option maxRecDepth 100000
open Go.RowKit Go.Proofs.YtafnamchckehmaaGreatDoorW.PrintWords Go.Proofs.YtafnamchckehmaaGreatDoorW.PrintLast Go.Proofs.YtafnamchckehmaaGreatDoorW.PrintMore
attribute [local go_sem] max2_int min2_int max_two min_two max_three min_three max_four min_four
set_option linter.unusedVariables false
set_option linter.unusedSimpArgs false
theorem bnd38_ {α β : Type} {o : Option α} {f : α → Option β} {r : β} (h : o.bind f = some r) : ∃ a, Aside0 (o = some a) ∧ f a = some r := by
 obtain ⟨a, h1, h2⟩ := Option.bind_eq_some_iff.mp h
 exact ⟨a, ⟨h1⟩, h2⟩
def stringslite_Cut.f (a0 : ByteArray) (a1 : ByteArray) : Option (ByteArray × ByteArray × Bool) := (stringslite_Index.f a0 a1).bind fun t967 => (if t967 ≥ 0 then (if 0 ≤ t967 then (if t967 ≤ (a0.size : Int) then (if 0 ≤ (wrap64 (t967 + (a1.size : Int))) then (if (wrap64 (t967 + (a1.size : Int))) ≤ (a0.size : Int) then (some (a0.extract 0 (t967 : Int).toNat, a0.extract ((wrap64 (t967 + (a1.size : Int))) : Int).toNat a0.size, true)) else (none)) else (none)) else (none)) else (none)) else (some (a0, (⟨#[]⟩ : ByteArray), false)))
theorem stringslite_Cut.calls (a0 : ByteArray) (a1 : ByteArray) (r1 : ByteArray) (r2 : ByteArray) (r3 : Bool) (w : World) (h : stringslite_Cut.f a0 a1 = some (r1, r2, r3)) :
  Calls Tryz.prog 262 #[.string a0, .string a1] w fun e w' => e = .returned (.tuple #[.string r1, .string r2, .bool r3]) ∧ Drawn0 w w' := by
 have H := h; clear h; unfold stringslite_Cut.f at H; obtain ⟨t967, A3, H⟩ := bnd38_ H
 by_cases c4 : t967 ≥ 0
 ·
  rw [if_pos c4] at H; have c4b0 : decide (0 ≤ t967) = true := decide_eq_true c4; clear c4
  by_cases c5 : 0 ≤ t967
  ·
   rw [if_pos c5] at H; have c5b0 := eq_true c5; have c5b1 : decide (0 ≤ t967) = true := decide_eq_true c5; clear c5
   by_cases c6 : t967 ≤ (a0.size : Int)
   ·
    rw [if_pos c6] at H; have c6b0 := eq_true c6; have c6b1 : decide (t967 ≤ (a0.size : Int)) = true := decide_eq_true c6; clear c6; obtain ⟨ji7, hji7⟩ : ∃ j_ : Int, (wrap64 (t967 + (a1.size : Int))) = j_ := ⟨_, rfl⟩
    replace H : (if 0 ≤ (ji7) then (if (ji7) ≤ (a0.size : Int) then (some (a0.extract 0 (t967 : Int).toNat, a0.extract ((ji7) : Int).toNat a0.size, true)) else (none)) else (none)) = some (r1, r2, r3) := by first | (rw [hji7] at H; exact H) | (simp only [hji7] at H ⊢; exact H)
    (try rw [hji7] at A3)
    have hji7w : (IntKind.i64.wrap (t967 + (a1.size : Int))) = ji7 := (i64_w _).trans hji7
    by_cases c8 : 0 ≤ (ji7)
    ·
     rw [if_pos c8] at H; have c8b0 := eq_true c8; have c8b1 : decide (0 ≤ (ji7)) = true := decide_eq_true c8; clear c8
     by_cases c9 : (ji7) ≤ (a0.size : Int)
     ·
      rw [if_pos c9] at H; have c9b0 := eq_true c9; have c9b1 : decide ((ji7) ≤ (a0.size : Int)) = true := decide_eq_true c9; clear c9
      simp only [Option.some.injEq, Prod.mk.injEq] at H
      obtain ⟨rfl, rfl, rfl⟩ := H
      go_enter Tryz.func262, Tryz.ntmps262
      go_wp2_with (first | (go_at_call 278; (with_reducible refine (stringslite_Index.calls a0 a1 t967 _ A3.out).mono ?_); rintro e w' ⟨rfl, ⟨nd, rfl⟩⟩; (try exact dn_)))
      repeat (go_quiet (first | (go_at_call 278; (with_reducible refine (stringslite_Index.calls a0 a1 t967 _ A3.out).mono ?_); rintro e w' ⟨rfl, ⟨nd, rfl⟩⟩; (try exact dn_))); try go_wp2_with (first | (go_at_call 278; (with_reducible refine (stringslite_Index.calls a0 a1 t967 _ A3.out).mono ?_); rintro e w' ⟨rfl, ⟨nd, rfl⟩⟩; (try exact dn_))))
      go_ret3
      exact ⟨(by first | rfl | (simp; done) | (simp only [← hji7] <;> (first | rfl | simp)) | (simp [*]; done)), (by repeat (first | exact Drawn0.refl _ | apply Drawn0.step))⟩
     ·
      rw [if_neg c9] at H
      exact absurd H (by simp)
    ·
     rw [if_neg c8] at H
     exact absurd H (by simp)
   ·
    rw [if_neg c6] at H
    exact absurd H (by simp)
  ·
   rw [if_neg c5] at H
   exact absurd H (by simp)
 ·
  rw [if_neg c4] at H; have c4b0 : decide (0 ≤ t967) = false := decide_eq_false c4; clear c4
  simp only [Option.some.injEq, Prod.mk.injEq] at H
  obtain ⟨rfl, rfl, rfl⟩ := H
  go_enter Tryz.func262, Tryz.ntmps262
  go_wp2_with (first | (go_at_call 278; (with_reducible refine (stringslite_Index.calls a0 a1 t967 _ A3.out).mono ?_); rintro e w' ⟨rfl, ⟨nd, rfl⟩⟩; (try exact dn_)))
  repeat (go_quiet (first | (go_at_call 278; (with_reducible refine (stringslite_Index.calls a0 a1 t967 _ A3.out).mono ?_); rintro e w' ⟨rfl, ⟨nd, rfl⟩⟩; (try exact dn_))); try go_wp2_with (first | (go_at_call 278; (with_reducible refine (stringslite_Index.calls a0 a1 t967 _ A3.out).mono ?_); rintro e w' ⟨rfl, ⟨nd, rfl⟩⟩; (try exact dn_))))
  go_ret3
  exact ⟨rf_, (by repeat (first | exact Drawn0.refl _ | apply Drawn0.step))⟩
def strings_Cut.f (a0 : ByteArray) (a1 : ByteArray) : Option (ByteArray × ByteArray × Bool) := (stringslite_Cut.f a0 a1).bind fun bt968 => (some (bt968.1, bt968.2.1, bt968.2.2))
theorem strings_Cut.calls (a0 : ByteArray) (a1 : ByteArray) (r1 : ByteArray) (r2 : ByteArray) (r3 : Bool) (w : World) (h : strings_Cut.f a0 a1 = some (r1, r2, r3)) :
  Calls Tryz.prog 232 #[.string a0, .string a1] w fun e w' => e = .returned (.tuple #[.string r1, .string r2, .bool r3]) ∧ Drawn0 w w' := by
 have H := h; clear h; unfold strings_Cut.f at H; obtain ⟨⟨t968, t969, t970⟩, A3, H⟩ := bnd38_ H; dsimp only at H
 simp only [Option.some.injEq, Prod.mk.injEq] at H
 obtain ⟨rfl, rfl, rfl⟩ := H
 go_enter Tryz.func232, Tryz.ntmps232
 go_wp2_with (first | ((with_reducible refine gate_callee (f := 262) rfl ?_); refine goesL_ (some 9) rfl rfl Tryz.func262 (by kernel_rfl) rfl #[.string a0, .string a1] rfl (by (try simp only [List.map_toArray, List.map_cons, List.map_nil]); first | done | rfl | (simp only [List.length_drop, List.length_take]; rfl)) ?_; (with_reducible refine (stringslite_Cut.calls a0 a1 t968 t969 t970 _ A3.out).mono ?_); rintro e w' ⟨rfl, ⟨nd, rfl⟩⟩; refine ⟨_, rfl, ?_⟩))
 go_ret3
 exact ⟨rf_, (by repeat (first | exact Drawn0.refl _ | apply Drawn0.step))⟩
theorem q38_1 {P : Prop} (h : P := by (with_reducible repeat (first | refine blk_drewN ?_ _ | refine blk_drew ?_ | refine blk_alloc ?_ _)); refine blk_put (cs := #[.int .i64 0, .int .i64 0]) ?_ 1 _ rfl; (with_reducible repeat (first | refine blk_drewN ?_ _ | refine blk_drew ?_ | refine blk_alloc ?_ _)); refine blk_put (cs := #[.int .i64 0, .int .i64 0]) ?_ 0 _ rfl; (with_reducible repeat (first | refine blk_drewN ?_ _ | refine blk_drew ?_ | refine blk_alloc ?_ _)); exact BK977.out) : P := h
theorem q38_2 {P : Prop} (h : P := by repeat (first | (with_reducible first | exact HB.out | apply below_alloc | apply pw_below_drewN | apply below_drew1 | refine below_set ?_ GE977.out) | exact HB.out)) : P := h
theorem q38_5 {P : Prop} (h : P := by (with_reducible repeat (first | refine blk_drewN ?_ _ | refine blk_drew ?_ | refine blk_alloc ?_ _)); exact BK977.out) : P := h
def impl_ParseRule.f (k : Nat) (a0 : ByteArray) : Option (Int × Int × Bool) := (strings_Cut.f a0 (⟨#[62]⟩ : ByteArray)).bind fun bt978 => ((impl_ParseSet.f k bt978.1).bind fun bt981 => ((impl_ParseSet.f k bt978.2.1).bind fun bt983 => (if bt978.2.2 = true then (if bt981.2 = true then (if bt983.2 = true then (some (bt981.1, bt983.1, true)) else (some (0, 0, false))) else (some (0, 0, false))) else (some (0, 0, false)))))
theorem impl_ParseRule.calls (k : Nat) (a0 : ByteArray) (r1 : Int) (r2 : Int) (r3 : Bool) (w : World) (h : impl_ParseRule.f k a0 = some (r1, r2, r3)) :
  Calls Tryz.prog 181 #[.string a0] w fun e w' => e = .returned (.tuple #[.agg #[.int .i64 r1, .int .i64 r2], .bool r3]) ∧ Below w.heap.size w w' := by
 have hu48 := Tryz.underlying48; have HB := Aside0.mk (Below.refl w.heap.size w); have H := h; clear h; unfold impl_ParseRule.f at H; obtain ⟨⟨t978, t979, t980⟩, A2, H⟩ := bnd38_ H; dsimp only at H; obtain ⟨⟨t981, t982⟩, A3, H⟩ := bnd38_ H; dsimp only at H; obtain ⟨⟨t983, t984⟩, A4, H⟩ := bnd38_ H; dsimp only at H
 by_cases c5 : t980 = true
 ·
  subst c5; rw [if_pos rfl] at H
  by_cases c6 : t982 = true
  ·
   subst c6; rw [if_pos rfl] at H
   by_cases c7 : t984 = true
   ·
    subst c7; rw [if_pos rfl] at H
    simp only [Option.some.injEq, Prod.mk.injEq] at H
    obtain ⟨rfl, rfl, rfl⟩ := H
    go_enter Tryz.func181, Tryz.ntmps181
    go_wp2_with ((with_reducible refine gw_ rfl ?_); first | (refine be_ 2 #[.int .i64 0, .int .i64 0] 48 ?_; intro gb977 hg w8 hbox hb; have n_ := ac_ (below_step s1_ hb) <| ac_ (hbox) <| ac_ ((gz_ w hg s1_)) <| Aside0.mk ((gz_ w hg s1_)); clear HB; obtain ⟨HB, BK977, GW977, GE977⟩ := n_; clear hb hbox hg) | (refine gL_ 232 13 Tryz.func232 #[.string a0, .string (⟨#[62]⟩ : ByteArray)] ?_; (with_reducible refine (strings_Cut.calls a0 (⟨#[62]⟩ : ByteArray) t978 t979 true _ A2.out).mono ?_); rintro e w' ⟨rfl, ⟨nd, rfl⟩⟩; refine ⟨_, rfl, ?_⟩; (try (rw [drewN_self w8]; generalize hq_ : World.drewN w8 _ = w8; have n0_ : Aside0 (w8.heap[gb977]? = some (.cells #[.int .i64 0, .int .i64 0] 48 (0, 0))) := ⟨by rw [← hq_]; exact q38_5⟩; have n1_ : Aside0 (Below w.heap.size w w8) := ⟨by rw [← hq_]; exact q38_2⟩; clear BK977 HB hq_; have BK977 := n0_; have HB := n1_; clear n0_ n1_))) | (refine gL_ 233 19 Tryz.func233 #[.string t978] ?_; (with_reducible refine (impl_ParseSet.calls k t978 t981 true _ A3.out).mono ?_); rintro e w9 ⟨rfl, hb⟩; refine ⟨_, rfl, ?_⟩; have n_ := ac_ (blk_below (g := gb977) (o := .cells #[.int .i64 0, .int .i64 0] 48 (0, 0)) q38_5 hb) <| Aside0.mk (below_step q38_2 hb); clear BK977 HB; obtain ⟨BK977, HB⟩ := n_; (try clear hb)) | (refine gL_ 233 24 Tryz.func233 #[.string t979] ?_; (with_reducible refine (impl_ParseSet.calls k t979 t983 true _ A4.out).mono ?_); rintro e w10 ⟨rfl, hb⟩; refine ⟨_, rfl, ?_⟩; have n_ := ac_ (blk_below (g := gb977) (o := .cells #[.int .i64 0, .int .i64 0] 48 (0, 0)) q38_5 hb) <| Aside0.mk (below_step q38_2 hb); clear BK977 HB; obtain ⟨BK977, HB⟩ := n_; (try clear hb); have hcz11_0 : w10.cell? ⟨gb977, 0, none⟩ = some (.int .i64 0) := (blk_cell BK977.out 0).trans rfl; have hcz11_1 : w10.cell? ⟨gb977, 1, none⟩ = some (.int .i64 0) := (blk_cell BK977.out 1).trans rfl; have hfz11_0 := blk_frozen BK977.out 0; have hfz11_1 := blk_frozen BK977.out 1))
    refine bodyPost_ret (results_ct rfl _ _ gb977 48 #[.int .i64 t981, .int .i64 t983] (0, 0) _ rfl (by (with_reducible repeat (first | refine blk_drewN ?_ _ | refine blk_drew ?_ | refine blk_alloc ?_ _)); refine blk_put (cs := #[.int .i64 t981, .int .i64 0]) ?_ 1 _ rfl; (with_reducible repeat (first | refine blk_drewN ?_ _ | refine blk_drew ?_ | refine blk_alloc ?_ _)); refine blk_put (cs := #[.int .i64 0, .int .i64 0]) ?_ 0 _ rfl; (with_reducible repeat (first | refine blk_drewN ?_ _ | refine blk_drew ?_ | refine blk_alloc ?_ _)); exact BK977.out) Tryz.underlying48 rfl s10_) rfl ?_
    exact ⟨s2_, q38_2⟩
   ·
    replace c7 := Bool.eq_false_iff.mpr c7; subst c7
    rw [if_neg (show ¬ (false = true) by decide)] at H
    simp only [Option.some.injEq, Prod.mk.injEq] at H
    obtain ⟨rfl, rfl, rfl⟩ := H
    go_enter Tryz.func181, Tryz.ntmps181
    go_wp2_with ((with_reducible refine gw_ rfl ?_); first | (refine be_ 2 #[.int .i64 0, .int .i64 0] 48 ?_; intro gb977 hg w12 hbox hb; have n_ := ac_ (below_step s1_ hb) <| ac_ (hbox) <| ac_ ((gz_ w hg s1_)) <| Aside0.mk ((gz_ w hg s1_)); clear HB; obtain ⟨HB, BK977, GW977, GE977⟩ := n_; clear hb hbox hg) | (refine gL_ 232 13 Tryz.func232 #[.string a0, .string (⟨#[62]⟩ : ByteArray)] ?_; (with_reducible refine (strings_Cut.calls a0 (⟨#[62]⟩ : ByteArray) t978 t979 true _ A2.out).mono ?_); rintro e w' ⟨rfl, ⟨nd, rfl⟩⟩; refine ⟨_, rfl, ?_⟩; (try (rw [drewN_self w12]; generalize hq_ : World.drewN w12 _ = w12; have n0_ : Aside0 (w12.heap[gb977]? = some (.cells #[.int .i64 0, .int .i64 0] 48 (0, 0))) := ⟨by rw [← hq_]; exact q38_5⟩; have n1_ : Aside0 (Below w.heap.size w w12) := ⟨by rw [← hq_]; exact q38_2⟩; clear BK977 HB hq_; have BK977 := n0_; have HB := n1_; clear n0_ n1_))) | (refine gL_ 233 19 Tryz.func233 #[.string t978] ?_; (with_reducible refine (impl_ParseSet.calls k t978 t981 true _ A3.out).mono ?_); rintro e w13 ⟨rfl, hb⟩; refine ⟨_, rfl, ?_⟩; have n_ := ac_ (blk_below (g := gb977) (o := .cells #[.int .i64 0, .int .i64 0] 48 (0, 0)) q38_5 hb) <| Aside0.mk (below_step q38_2 hb); clear BK977 HB; obtain ⟨BK977, HB⟩ := n_; (try clear hb)) | (refine gL_ 233 24 Tryz.func233 #[.string t979] ?_; (with_reducible refine (impl_ParseSet.calls k t979 t983 false _ A4.out).mono ?_); rintro e w14 ⟨rfl, hb⟩; refine ⟨_, rfl, ?_⟩; have n_ := ac_ (blk_below (g := gb977) (o := .cells #[.int .i64 0, .int .i64 0] 48 (0, 0)) q38_5 hb) <| Aside0.mk (below_step q38_2 hb); clear BK977 HB; obtain ⟨BK977, HB⟩ := n_; (try clear hb); have hcz15_0 : w14.cell? ⟨gb977, 0, none⟩ = some (.int .i64 0) := (blk_cell BK977.out 0).trans rfl; have hcz15_1 : w14.cell? ⟨gb977, 1, none⟩ = some (.int .i64 0) := (blk_cell BK977.out 1).trans rfl; have hfz15_0 := blk_frozen BK977.out 0; have hfz15_1 := blk_frozen BK977.out 1))
    refine bodyPost_ret (results_ct rfl _ _ gb977 48 #[.int .i64 0, .int .i64 0] (0, 0) _ rfl q38_1 Tryz.underlying48 rfl s10_) rfl ?_
    exact ⟨s2_, q38_2⟩
  ·
   replace c6 := Bool.eq_false_iff.mpr c6; subst c6
   rw [if_neg (show ¬ (false = true) by decide)] at H
   simp only [Option.some.injEq, Prod.mk.injEq] at H
   obtain ⟨rfl, rfl, rfl⟩ := H
   go_enter Tryz.func181, Tryz.ntmps181
   go_wp2_with ((with_reducible refine gw_ rfl ?_); first | (refine be_ 2 #[.int .i64 0, .int .i64 0] 48 ?_; intro gb977 hg w16 hbox hb; have n_ := ac_ (below_step s1_ hb) <| ac_ (hbox) <| ac_ ((gz_ w hg s1_)) <| Aside0.mk ((gz_ w hg s1_)); clear HB; obtain ⟨HB, BK977, GW977, GE977⟩ := n_; clear hb hbox hg) | (refine gL_ 232 13 Tryz.func232 #[.string a0, .string (⟨#[62]⟩ : ByteArray)] ?_; (with_reducible refine (strings_Cut.calls a0 (⟨#[62]⟩ : ByteArray) t978 t979 true _ A2.out).mono ?_); rintro e w' ⟨rfl, ⟨nd, rfl⟩⟩; refine ⟨_, rfl, ?_⟩; (try (rw [drewN_self w16]; generalize hq_ : World.drewN w16 _ = w16; have n0_ : Aside0 (w16.heap[gb977]? = some (.cells #[.int .i64 0, .int .i64 0] 48 (0, 0))) := ⟨by rw [← hq_]; exact q38_5⟩; have n1_ : Aside0 (Below w.heap.size w w16) := ⟨by rw [← hq_]; exact q38_2⟩; clear BK977 HB hq_; have BK977 := n0_; have HB := n1_; clear n0_ n1_))) | (refine gL_ 233 19 Tryz.func233 #[.string t978] ?_; (with_reducible refine (impl_ParseSet.calls k t978 t981 false _ A3.out).mono ?_); rintro e w17 ⟨rfl, hb⟩; refine ⟨_, rfl, ?_⟩; have n_ := ac_ (blk_below (g := gb977) (o := .cells #[.int .i64 0, .int .i64 0] 48 (0, 0)) q38_5 hb) <| Aside0.mk (below_step q38_2 hb); clear BK977 HB; obtain ⟨BK977, HB⟩ := n_; (try clear hb)) | (refine gL_ 233 24 Tryz.func233 #[.string t979] ?_; (with_reducible refine (impl_ParseSet.calls k t979 t983 t984 _ A4.out).mono ?_); rintro e w18 ⟨rfl, hb⟩; refine ⟨_, rfl, ?_⟩; have n_ := ac_ (blk_below (g := gb977) (o := .cells #[.int .i64 0, .int .i64 0] 48 (0, 0)) q38_5 hb) <| Aside0.mk (below_step q38_2 hb); clear BK977 HB; obtain ⟨BK977, HB⟩ := n_; (try clear hb); have hcz19_0 : w18.cell? ⟨gb977, 0, none⟩ = some (.int .i64 0) := (blk_cell BK977.out 0).trans rfl; have hcz19_1 : w18.cell? ⟨gb977, 1, none⟩ = some (.int .i64 0) := (blk_cell BK977.out 1).trans rfl; have hfz19_0 := blk_frozen BK977.out 0; have hfz19_1 := blk_frozen BK977.out 1))
   refine bodyPost_ret (results_ct rfl _ _ gb977 48 #[.int .i64 0, .int .i64 0] (0, 0) _ rfl q38_1 Tryz.underlying48 rfl s10_) rfl ?_
   exact ⟨s2_, q38_2⟩
 ·
  replace c5 := Bool.eq_false_iff.mpr c5; subst c5
  rw [if_neg (show ¬ (false = true) by decide)] at H
  simp only [Option.some.injEq, Prod.mk.injEq] at H
  obtain ⟨rfl, rfl, rfl⟩ := H
  go_enter Tryz.func181, Tryz.ntmps181
  go_wp2_with ((with_reducible refine gw_ rfl ?_); first | (refine be_ 2 #[.int .i64 0, .int .i64 0] 48 ?_; intro gb977 hg w20 hbox hb; have n_ := ac_ (below_step s1_ hb) <| ac_ (hbox) <| ac_ ((gz_ w hg s1_)) <| Aside0.mk ((gz_ w hg s1_)); clear HB; obtain ⟨HB, BK977, GW977, GE977⟩ := n_; clear hb hbox hg) | (refine gL_ 232 13 Tryz.func232 #[.string a0, .string (⟨#[62]⟩ : ByteArray)] ?_; (with_reducible refine (strings_Cut.calls a0 (⟨#[62]⟩ : ByteArray) t978 t979 false _ A2.out).mono ?_); rintro e w' ⟨rfl, ⟨nd, rfl⟩⟩; refine ⟨_, rfl, ?_⟩; (try (rw [drewN_self w20]; generalize hq_ : World.drewN w20 _ = w20; have n0_ : Aside0 (w20.heap[gb977]? = some (.cells #[.int .i64 0, .int .i64 0] 48 (0, 0))) := ⟨by rw [← hq_]; exact q38_5⟩; have n1_ : Aside0 (Below w.heap.size w w20) := ⟨by rw [← hq_]; exact q38_2⟩; clear BK977 HB hq_; have BK977 := n0_; have HB := n1_; clear n0_ n1_))) | (refine gL_ 233 19 Tryz.func233 #[.string t978] ?_; (with_reducible refine (impl_ParseSet.calls k t978 t981 t982 _ A3.out).mono ?_); rintro e w21 ⟨rfl, hb⟩; refine ⟨_, rfl, ?_⟩; have n_ := ac_ (blk_below (g := gb977) (o := .cells #[.int .i64 0, .int .i64 0] 48 (0, 0)) q38_5 hb) <| Aside0.mk (below_step q38_2 hb); clear BK977 HB; obtain ⟨BK977, HB⟩ := n_; (try clear hb)) | (refine gL_ 233 24 Tryz.func233 #[.string t979] ?_; (with_reducible refine (impl_ParseSet.calls k t979 t983 t984 _ A4.out).mono ?_); rintro e w22 ⟨rfl, hb⟩; refine ⟨_, rfl, ?_⟩; have n_ := ac_ (blk_below (g := gb977) (o := .cells #[.int .i64 0, .int .i64 0] 48 (0, 0)) q38_5 hb) <| Aside0.mk (below_step q38_2 hb); clear BK977 HB; obtain ⟨BK977, HB⟩ := n_; (try clear hb); have hcz23_0 : w22.cell? ⟨gb977, 0, none⟩ = some (.int .i64 0) := (blk_cell BK977.out 0).trans rfl; have hcz23_1 : w22.cell? ⟨gb977, 1, none⟩ = some (.int .i64 0) := (blk_cell BK977.out 1).trans rfl; have hfz23_0 := blk_frozen BK977.out 0; have hfz23_1 := blk_frozen BK977.out 1))
  refine bodyPost_ret (results_ct rfl _ _ gb977 48 #[.int .i64 0, .int .i64 0] (0, 0) _ rfl q38_1 Tryz.underlying48 rfl s10_) rfl ?_
  exact ⟨s2_, q38_2⟩
end Go.Proofs.YtafnamchckehmaaGreatDoor.Pr
