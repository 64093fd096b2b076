/- What the law needs of the program's functions as plain functions, of the proofs that their calls answer so, and of plain laws: gathered by a program of this place (pack.py) out of its printed texts. No condition beyond what each statement says. -/
import Derived.Test.YtafnamchckehmaaGreatDoorZFnDirect10
import Derived.Test.YtafnamchckehmaaGreatDoorZFnDirect8
import Derived.Test.YtafnamchckehmaaGreatDoorZFnDirect12
import Derived.Test.YtafnamchckehmaaGreatDoorZFnDirect2
import Derived.Test.YtafnamchckehmaaGreatDoorZFnDirect11
import Derived.Test.YtafnamchckehmaaGreatDoorZFnDirect3
import Derived.Test.YtafnamchckehmaaGreatDoorZFnDirect5
import Derived.Test.YtafnamchckehmaaGreatDoorZFnDirect7
namespace Go.Proofs.YtafnamchckehmaaGreatDoor.Pr
open Go.RowKit Go.Proofs.YtafnamchckehmaaGreatDoorW.PrintWords Go.Proofs.YtafnamchckehmaaGreatDoorW.PrintLast Go.Proofs.YtafnamchckehmaaGreatDoorW.PrintMore
set_option linter.unusedVariables false
theorem box_cellsD {w w1 : World} {g : Nat} {cs : Array Value} {t : TypeId} (h : w.heap[g]? = some (.cells cs t (0, 0))) (hb : Below w.heap.size w w1) (i : Nat) : w1.cell? ⟨g, i, none⟩ = cs[i]? := blk_cell (blk_below h hb) i
def fvD (n : Int) (l : List Int) (s : Int) : Int := ((Pu.newN n.toNat (l.map Int.toNat) s.toNat : Nat) : Int)
def fvS (n : Int) (l : List Int) (s : Int) : Int := ((Pu.cl n.toNat (l.map Int.toNat) s.toNat : Nat) : Int)
def okD (l0 : List Int) (n : Int) (l : List Int) : Prop := l0.length ≤ 1048576 ∧ l0.all (Pu.isSetB n) = true ∧ (l0 = [] ∨ Pu.ctxB n l = true)
instance (l0 : List Int) (n : Int) (l : List Int) : Decidable (okD l0 n l) := by unfold okD; infer_instance
theorem okD_nat {l0 : List Int} {n : Int} {l : List Int} (h : okD l0 n l) {x : Int} (hx : x ∈ l0) : ∃ (m : Nat) (R : List Nat) (s : Nat), n = (m : Int) ∧ m ≤ 6 ∧ l = Pu.cast R ∧ R.length ≤ 8 ∧ (∀ r ∈ R, r < 2 ^ m) ∧ x = (s : Int) ∧ s < 2 ^ m ∧ Pu.ctxB (m : Int) (Pu.cast R) = true := by
  obtain ⟨_, hs, hc⟩ := h
  have hc : Pu.ctxB n l = true := hc.resolve_left (fun e => by rw [e] at hx; cases hx)
  have hxs := List.all_eq_true.1 hs x hx
  have hc2 := hc
  obtain ⟨m, R, rfl, hm, rfl, hR, hb⟩ := Pu.ctxB_nat hc2
  obtain ⟨m', s, _, e1, hs', e2⟩ := Pu.isSetB_nat hxs
  obtain rfl : m = m' := by omega
  exact ⟨m, R, s, rfl, hm, rfl, hR, hb, e2, hs', hc⟩
def impl_DirectBase_rulesTo0.f (l0 : List Int) (a1_0 : Int) (l1_1 : List Int) : Option (List S48) := if okD l0 a1_0 l1_1 then some (ruleMap (fvD a1_0 l1_1) l0) else none
set_option maxHeartbeats 4000000 in
set_option maxRecDepth 100000 in
theorem impl_DirectBase_rulesTo0.calls (A0 : Option Addr) (c0 : Nat) (l0 : List Int) (a1_0 : Int) (A1_1 : Option Addr) (c1_1 : Nat) (l1_1 : List Int) (r : List S48) (w : World) (hr0 : Kd.C (Kd.int .i64) w A0 l0.length l0) (hc0 : l0.length ≤ c0) (hr1_1 : Kd.C (Kd.int .i64) w A1_1 l1_1.length l1_1) (hc1_1 : l1_1.length ≤ c1_1) (h : impl_DirectBase_rulesTo0.f l0 a1_0 l1_1 = some r)
    {g : Nat} (hg : w.heap[g]? = some (.cells #[.int .i64 a1_0, .slice A1_1 l1_1.length c1_1] 29 (0, 0))) :
    Calls Tryz.prog 153 #[.slice A0 l0.length c0, .func (.func 203) #[] #[.pointer (some ⟨g, 0, none⟩)]] w fun e w' => ∃ v0_ : Value, e = .returned (v0_) ∧ Kd.R k48 48 w' w.heap.size (fun _ => True) v0_ r ∧ Below w.heap.size w w' := by
  unfold impl_DirectBase_rulesTo0.f at h
  by_cases hn : okD l0 a1_0 l1_1
  · rw [if_pos hn] at h
    obtain rfl := Option.some.inj h
    have eg : ∀ args w, (callFunc 203 args).run Tryz.prog w = .ok (.enter 203 args) w := enters_of Tryz.func203 (by kernel_rfl) rfl
    refine rulesTo_at 203 #[.pointer (some ⟨g, 0, none⟩)] eg (fvD a1_0 l1_1) A0 c0 l0 w hr0 hn.1 ?_
    intro W x hx hb
    rw [show (#[.int .i64 x] ++ #[.pointer (some ⟨g, 0, none⟩)] : Array Value) = #[.int .i64 x, .pointer (some ⟨g, 0, none⟩)] from rfl]
    have hk : ∃ k, impl_proper.f k a1_0 l1_1 x = some (fvD a1_0 l1_1 x) := by
      obtain ⟨m, R, s, rfl, hm, rfl, hR, hbd, rfl, hs, hc⟩ := okD_nat hn hx
      unfold fvD
      rw [Int.toNat_natCast, Int.toNat_natCast, Pu.uncast]
      exact Ev.rounds (Pu.newI_val hm hR hbd hs hc)
    obtain ⟨k, hk⟩ := hk
    have hu := Tryz.underlying29
    have hc0' : W.cell? ⟨g, 0, none⟩ = some (.int .i64 a1_0) := (box_cellsD hg hb 0).trans rfl
    have hc1' : W.cell? ⟨g, 1, none⟩ = some (.slice A1_1 l1_1.length c1_1) := (box_cellsD hg hb 1).trans rfl
    have HR := Aside0.mk (Kd.C_below hr1_1 hb)
    have HC := Aside0.mk hc1_1
    have HK := Aside0.mk hk
    clear hr1_1 hc1_1 hk hn hg h hr0 hc0 hx
    generalize fvD a1_0 l1_1 x = q at *
    go_enter Tryz.func203, Tryz.ntmps203
    go_wp2_with (go_at_call 204; refine (impl_proper.calls k a1_0 A1_1 c1_1 l1_1 x q _ (by first | exact HR.out | exact Kd.C_drewN HR.out _) HC.out HK.out).mono ?_; rintro e w' ⟨rfl, hb2⟩; have HB := Aside0.mk hb2; clear hb2)
    go_ret
    exact ⟨rfl, below_step (by repeat (first | exact Below.refl _ _ | apply below_alloc | apply pw_below_drewN | apply below_drew1)) HB.out⟩
  · rw [if_neg hn] at h
    cases h
end Go.Proofs.YtafnamchckehmaaGreatDoor.Pr
namespace Go.Proofs.YtafnamchckehmaaGreatDoor.Pr
open Go.RowKit Go.Proofs.YtafnamchckehmaaGreatDoorW.PrintWords Go.Proofs.YtafnamchckehmaaGreatDoorW.PrintLast Go.Proofs.YtafnamchckehmaaGreatDoorW.PrintMore
attribute [local go_sem] max2_int min2_int max_two min_two max_three min_three max_four min_four
set_option linter.unusedVariables false
set_option linter.unusedSimpArgs false
theorem bnd25_ {α β : Type} {o : Option α} {f : α → Option β} {r : β} (h : o.bind f = some r) : ∃ a, Aside0 (o = some a) ∧ f a = some r := by
 obtain ⟨a, h1, h2⟩ := Option.bind_eq_some_iff.mp h
 exact ⟨a, ⟨h1⟩, h2⟩
theorem q25_2 {P : Prop} (h : P := by repeat (first | (with_reducible first | exact HB.out | apply below_alloc | apply pw_below_drewN | apply below_drew1 | refine below_set ?_ GE693.out) | exact HB.out)) : P := h
theorem q25_5 {P : Prop} (h : P := by (with_reducible repeat (first | refine blk_drewN ?_ _ | refine blk_drew ?_ | refine blk_alloc ?_ _)); exact BK693.out) : P := h
def impl_DirectBase.f (k : Nat) (a0_0 : Int) (l0_1 : List Int) : Option ((List (S48))) := (impl_ProperPremises.f k a0_0 l0_1).bind fun t694 => ((impl_DirectBase_rulesTo0.f t694 a0_0 l0_1).bind fun t697 => (some t697))
set_option maxHeartbeats 8000000 in
set_option maxRecDepth 100000 in
theorem impl_DirectBase.calls (k : Nat) (a0_0 : Int) (A0_1 : Option Addr) (c0_1 : Nat) (l0_1 : List Int) (r : List (S48)) (w : World) (hr0_1 : Kd.C (Kd.int .i64) w A0_1 l0_1.length l0_1) (hc0_1 : l0_1.length ≤ c0_1) (htab : Tab64 w) (h : impl_DirectBase.f k a0_0 l0_1 = some r) :
  Calls Tryz.prog 110 #[.agg #[.int .i64 a0_0, .slice A0_1 l0_1.length c0_1]] w fun e w' => ∃ v0_ : Value, e = .returned (v0_) ∧ Kd.R k48 48 w' w.heap.size (fun _ => True) v0_ r ∧ Below w.heap.size w w' := by
 have HTB := Aside0.mk htab; clear htab; have hu29 := Tryz.underlying29; have HR0_1 := Aside0.mk hr0_1; have HC0_1 := Aside0.mk hc0_1; clear hr0_1 hc0_1; have HB := Aside0.mk (Below.refl w.heap.size w); have H := h; clear h; unfold impl_DirectBase.f at H; obtain ⟨t694, A2, H⟩ := bnd25_ H; obtain ⟨t697, A3, H⟩ := bnd25_ H; obtain rfl := Option.some.inj H
 go_enter Tryz.func110, Tryz.ntmps110
 go_wp2_with (first | ((with_reducible refine gate_dst (N := 1) rfl ?_); refine box_event ?hg (N := 1) ?hd (cs := #[.int .i64 a0_0, .slice A0_1 l0_1.length c0_1]) (t := 29) ?hr ?_; (case hd => rfl); (case hg => rfl); (case hr => first | (go_simp; done) | (go_simp; rfl)); intro gb693 hg w4 hbox hb; have n_ := ac_ (below_step s1_ hb) <| ac_ (hbox) <| ac_ ((by rw [hg]; exact (below_size s1_) : w.heap.size ≤ gb693)) <| Aside0.mk ((by rw [hg]; exact (below_size s1_) : w.heap.size ≤ gb693)); clear HB; obtain ⟨HB, BK693, GW693, GE693⟩ := n_; clear hb hbox hg; have hcz5_0 : w4.cell? ⟨gb693, 0, none⟩ = some (.int .i64 a0_0) := (blk_cell BK693.out 0).trans rfl; have hcz5_1 : w4.cell? ⟨gb693, 1, none⟩ = some (.slice A0_1 l0_1.length c0_1) := (blk_cell BK693.out 1).trans rfl; have hfz5_0 := blk_frozen BK693.out 0; have hfz5_1 := blk_frozen BK693.out 1) | (refine gL_ 111 4 Tryz.func111 #[.agg #[.int .i64 a0_0, .slice A0_1 l0_1.length c0_1]] ?_; (with_reducible refine (impl_ProperPremises.calls k a0_0 _ _ l0_1 t694 _ ?side1 ?side2 ?tab A2.out).mono ?_); (case tab => first | exact HTB.out | (refine Tab64.below HTB.out ?_; repeat (first | (with_reducible first | exact HB.out | apply below_alloc | apply pw_below_drewN | apply below_drew1 | refine below_set ?_ GE693.out) | exact HB.out)) | (repeat (first | exact HTB.out | apply Tab64.drewN | apply Tab64.drew | apply Tab64.alloc))); (case side1 => exact s4_); (case side2 => exact HC0_1.out); rintro e w6 ⟨v695, rfl, ho0, hb⟩; refine ⟨_, rfl, ?_⟩; have n_ := ac_ (Kd.R_lower ho0 (below_size q25_2)) <| ac_ (blk_below (g := gb693) (o := .cells #[.int .i64 a0_0, .slice A0_1 l0_1.length c0_1] 29 (0, 0)) q25_5 hb) <| Aside0.mk (below_step q25_2 hb); clear BK693 HB; obtain ⟨HO696, BK693, HB⟩ := n_; (try clear hb ho0); have hcz7_0 : w6.cell? ⟨gb693, 0, none⟩ = some (.int .i64 a0_0) := (blk_cell BK693.out 0).trans rfl; have hcz7_1 : w6.cell? ⟨gb693, 1, none⟩ = some (.slice A0_1 l0_1.length c0_1) := (blk_cell BK693.out 1).trans rfl; have hfz7_0 := blk_frozen BK693.out 0; have hfz7_1 := blk_frozen BK693.out 1; obtain ⟨Ao8, co8, eo8⟩ := Kd.R_slice HO696.out; subst eo8) | (refine gL_ 153 6 Tryz.func153 #[.slice Ao8 t694.length co8, .func (.func 203) #[] #[.pointer (some ⟨gb693, 0, none⟩)]] ?_; (with_reducible refine (impl_DirectBase_rulesTo0.calls ?u1_1 ?u1_2 t694 a0_0 ?u1_3 ?u1_4 l0_1 t697 _ ?side1 ?side2 ?side3 ?side4 A3.out ?box0).mono ?_); (case box0 => (with_reducible repeat (first | refine blk_drewN ?_ _ | refine blk_drew ?_ | refine blk_alloc ?_ _)); exact BK693.out); (case side1 => repeat (first | exact (Kd.R_reads' HO696.out).2.2 | (with_reducible refine Kd.C_alloc ?_ _) | (with_reducible refine Kd.C_drewN ?_ _) | (with_reducible refine Kd.C_drew ?_))); (case side2 => exact (Kd.R_reads' HO696.out).2.1); (case side3 => exact s4_); (case side4 => exact HC0_1.out); rintro e w9 ⟨v698, rfl, ho0, hb⟩; refine ⟨_, rfl, ?_⟩; have n_ := ac_ (Kd.R_below (by (with_reducible repeat (first | apply Kd.R_alloc | apply Kd.R_drewN | apply Kd.R_drew)); exact HO696.out) hb) <| ac_ (Kd.R_lower ho0 (below_size q25_2)) <| ac_ (blk_below (g := gb693) (o := .cells #[.int .i64 a0_0, .slice A0_1 l0_1.length c0_1] 29 (0, 0)) q25_5 hb) <| Aside0.mk (below_step q25_2 hb); clear HO696 BK693 HB; obtain ⟨HO696, HO699, BK693, HB⟩ := n_; (try clear hb ho0)))
 go_ret
 exact ⟨_, (by first | rfl | (simp [errW_none, errW_some] <;> rfl) | (simp [*, errW_none, errW_some] <;> rfl)), (by (with_reducible repeat (first | apply Kd.R_alloc | apply Kd.R_drewN | apply Kd.R_drew)); exact HO699.out), q25_2⟩
end Go.Proofs.YtafnamchckehmaaGreatDoor.Pr
namespace Go.Proofs.YtafnamchckehmaaGreatDoor.Pr
open Go.RowKit Go.Proofs.YtafnamchckehmaaGreatDoorW.PrintWords Go.Proofs.YtafnamchckehmaaGreatDoorW.PrintLast Go.Proofs.YtafnamchckehmaaGreatDoorW.PrintMore
attribute [local go_sem] max2_int min2_int max_two min_two max_three min_three max_four min_four
set_option linter.unusedVariables false
set_option linter.unusedSimpArgs false
theorem bnd29_ {α β : Type} {o : Option α} {f : α → Option β} {r : β} (h : o.bind f = some r) : ∃ a, Aside0 (o = some a) ∧ f a = some r := by
 obtain ⟨a, h1, h2⟩ := Option.bind_eq_some_iff.mp h
 exact ⟨a, ⟨h1⟩, h2⟩
theorem q29_1 {P : Prop} (h : P := by (with_reducible repeat (first | apply Kd.R_alloc | apply Kd.R_drewN | apply Kd.R_drew)); exact (Kd.R_mono (Kd.R_far (p := ⟨gb828, 1, none⟩) (Kd.R_far (p := ⟨gb828, 0, none⟩) (Kd.R_types HO827.out BK828.out (by decide)) (fun _ hk => hk.2) (.int .i64 t824)) (fun _ hk => hk.2) (.slice Ao13 t825.length co13)) (fun _ h_ => h_.1))) : P := h
theorem q29_2 {P : Prop} (h : P := by repeat (first | exact (Kd.R_reads' HO_829001.out).2.2 | (with_reducible refine Kd.C_alloc ?_ _) | (with_reducible refine Kd.C_drewN ?_ _) | (with_reducible refine Kd.C_drew ?_))) : P := h
theorem q29_4 {P : Prop} (h : P := by repeat (first | exact (Kd.R_reads' HO827.out).2.2 | (with_reducible refine Kd.C_alloc ?_ _) | (with_reducible refine Kd.C_drewN ?_ _) | (with_reducible refine Kd.C_drew ?_))) : P := h
theorem q29_5 {P : Prop} (h : P := by repeat (first | exact (Kd.R_reads' HO838.out).2.2 | (with_reducible refine Kd.C_alloc ?_ _) | (with_reducible refine Kd.C_drewN ?_ _) | (with_reducible refine Kd.C_drew ?_))) : P := h
theorem q29_6 {P : Prop} (h : P := by repeat (first | exact (Kd.R_reads' HO842.out).2.2 | (with_reducible refine Kd.C_alloc ?_ _) | (with_reducible refine Kd.C_drewN ?_ _) | (with_reducible refine Kd.C_drew ?_))) : P := h
theorem q29_7 {P : Prop} (h : P := by repeat (first | (with_reducible first | exact HB.out | apply below_alloc | apply pw_below_drewN | apply below_drew1 | refine below_set ?_ GE828.out) | exact HB.out)) : P := h
theorem q29_11 {P : Prop} (h : P := by (with_reducible repeat (first | refine blk_drewN ?_ _ | refine blk_drew ?_ | refine blk_alloc ?_ _)); exact BK828.out) : P := h
theorem q29_12 {P : Prop} (h : P := by (with_reducible repeat (first | apply Kd.R_alloc | apply Kd.R_drewN | apply Kd.R_drew)); exact HO_829001.out) : P := h
theorem q29_13 {P : Prop} (h : P := by (with_reducible repeat (first | apply Kd.R_alloc | apply Kd.R_drewN | apply Kd.R_drew)); exact HO827.out) : P := h
theorem q29_14 {P : Prop} (h : P := by (with_reducible repeat (first | apply Kd.R_alloc | apply Kd.R_drewN | apply Kd.R_drew)); exact HO831.out) : P := h
theorem q29_15 {P : Prop} (h : P := by (with_reducible repeat (first | apply Kd.R_alloc | apply Kd.R_drewN | apply Kd.R_drew)); exact HO834.out) : P := h
theorem q29_16 {P : Prop} (h : P := by (with_reducible repeat (first | apply Kd.R_alloc | apply Kd.R_drewN | apply Kd.R_drew)); exact HO838.out) : P := h
theorem q29_17 {P : Prop} (h : P := by (with_reducible repeat (first | apply Kd.R_alloc | apply Kd.R_drewN | apply Kd.R_drew)); exact HO842.out) : P := h
theorem q29_18 {P : Prop} (h : P := by (with_reducible repeat (first | apply Kd.R_alloc | apply Kd.R_drewN | apply Kd.R_drew)); exact HO845.out) : P := h
theorem q29_19 {P : Prop} (h : P := by (with_reducible repeat (first | apply Kd.R_alloc | apply Kd.R_drewN | apply Kd.R_drew)); exact HO849.out) : P := h
theorem q29_23 {P : Prop} (h : P := by simp only [laws_FnDirect.j0]; exact fun h => by cases h) : P := h
mutual
def laws_FnDirect.j0 : Nat → List (S48) → Bool → Int → List Int → Option (Bool)
 | 0, _, _, _, _ => none
 | k + 1, x4, x65, x829000, x829001 => if x65 = true then (some false) else (laws_FnDirect.l0 k x4 0 x829000 x829001)
def laws_FnDirect.l0 : Nat → List (S48) → Int → Int → List Int → Option (Bool)
 | 0, _, _, _, _ => none
 | k + 1, x4, x10, x829000, x829001 => (spec_FullSet.f x829000).bind fun t855 => (if x10 ≤ t855 then ((spec_IsContext.f k x829000 x829001).bind fun t856 => (laws_FnDirect.j2 k x4 x10 t856 x829000 x829001)) else (laws_FnDirect.j2 k x4 x10 false x829000 x829001))
def laws_FnDirect.j2 : Nat → List (S48) → Int → Bool → Int → List Int → Option (Bool)
 | 0, _, _, _, _, _ => none
 | k + 1, x4, x10, x74, x829000, x829001 => if x74 = true then ((impl_OneStep.f k x4 x10).bind fun t861 => ((spec_ClosureOf.f k x829000 x829001 x10).bind fun t862 => (if t861 = t862 then (laws_FnDirect.l0 k x4 (wrap64 (x10 + 1)) x829000 x829001) else (some false)))) else ((spec_StemBase.f k x829000 x829001).bind fun t857 => (if (x4.length : Int) ≥ (t857.length : Int) then (some true) else ((spec_IsContext.f k x829000 x829001).bind fun t860 => (some (!t860)))))
end
def laws_FnDirect.f (k : Nat) (l0 : List Int) : Option (Bool) := (laws_big.f l0).bind fun t823 => (if t823 = true then (some true) else ((spec_DrawDirectBase.f k l0).bind fun bt824 => ((impl_DirectBase.f k bt824.1 bt824.2).bind fun t829 => ((impl_ProperPremises.f k bt824.1 bt824.2).bind fun t832 => ((spec_DrawOneStep.f k l0).bind fun bt835 => ((spec_DrawIsDirect.f k l0).bind fun bt839 => ((spec_DirectBase.f k bt824.1 bt824.2).bind fun t843 => ((laws_sameRules.f k t829 t843).bind fun t846 => (if t846 = true then ((spec_ProperPremises.f k bt824.1 bt824.2).bind fun t847 => ((laws_sameInts.f k t832 t847).bind fun t850 => (if t850 = true then ((impl_OneStep.f k bt835.1 bt835.2).bind fun t851 => ((spec_OneStep.f k bt835.1 bt835.2).bind fun t852 => (if t851 = t852 then ((impl_IsDirect.f k bt839.1 bt839.2).bind fun t853 => ((spec_IsDirect.f k bt839.1 bt839.2).bind fun t854 => (if (t853 != t854) = true then (laws_FnDirect.j0 k t829 true bt824.1 bt824.2) else (laws_FnDirect.j0 k t829 ((t832.length : Int) != (t829.length : Int)) bt824.1 bt824.2)))) else (laws_FnDirect.j0 k t829 true bt824.1 bt824.2)))) else (laws_FnDirect.j0 k t829 true bt824.1 bt824.2)))) else (laws_FnDirect.j0 k t829 true bt824.1 bt824.2))))))))))
set_option maxHeartbeats 8000000 in
set_option maxRecDepth 100000 in
theorem laws_FnDirect.calls (k : Nat) (A0 : Option Addr) (c0 : Nat) (l0 : List Int) (r : Bool) (w : World) (hr0 : Kd.C (Kd.int .u8) w A0 l0.length l0) (hc0 : l0.length ≤ c0) (hrt : r = true) (htab : Tab64 w) (h : laws_FnDirect.f k l0 = some r) :
  Calls Tryz.prog 8 #[.slice A0 l0.length c0] w fun e w' => e = .returned (.bool r) ∧ Below w.heap.size w w' := by
 have HTB := Aside0.mk htab; clear htab; have hu29 := Tryz.underlying29; have HR0 := Aside0.mk hr0; have HC0 := Aside0.mk hc0; clear hr0 hc0; have HB := Aside0.mk (Below.refl w.heap.size w); have HRT := Aside0.mk hrt; clear hrt; have H := h; clear h; unfold laws_FnDirect.f at H; obtain ⟨t823, A2, H⟩ := bnd29_ H
 by_cases c3 : t823 = true
 ·
  subst c3; rw [if_pos rfl] at H; obtain rfl := Option.some.inj H
  go_enter Tryz.func8, Tryz.ntmps8
  go_wp2_with (first | (refine gL_ 9 12 Tryz.func9 #[.slice A0 l0.length c0] ?_; (with_reducible refine (laws_big.calls _ _ l0 true _ ?side1 ?side2 A2.out).mono ?_); (case side1 => exact s16_); (case side2 => exact HC0.out); rintro e w' ⟨rfl, ⟨nd, rfl⟩⟩; refine ⟨_, rfl, ?_⟩))
  go_ret
  exact ⟨s8_, s1_⟩
 ·
  replace c3 := Bool.eq_false_iff.mpr c3; subst c3
  rw [if_neg (show ¬ (false = true) by decide)] at H
  obtain ⟨⟨t824, t825⟩, A4, H⟩ := bnd29_ H; dsimp only at H; obtain ⟨t829, A5, H⟩ := bnd29_ H; obtain ⟨t832, A6, H⟩ := bnd29_ H; obtain ⟨⟨t835, t836⟩, A7, H⟩ := bnd29_ H; dsimp only at H; obtain ⟨⟨t839, t840⟩, A8, H⟩ := bnd29_ H; dsimp only at H; have HC9 := Aside0.mk H; clear H
  go_enter Tryz.func8, Tryz.ntmps8
  go_upto_region 8 with (first | (refine gL_ 9 12 Tryz.func9 #[.slice A0 l0.length c0] ?_; (with_reducible refine (laws_big.calls _ _ l0 false _ ?side1 ?side2 A2.out).mono ?_); (case side1 => exact s16_); (case side2 => exact HC0.out); rintro e w' ⟨rfl, ⟨nd, rfl⟩⟩; refine ⟨_, rfl, ?_⟩) | (refine gL_ 109 14 Tryz.func109 #[.slice A0 l0.length c0] ?_; (with_reducible refine (spec_DrawDirectBase.calls k _ _ l0 t824 t825 _ ?side1 ?side2 A4.out).mono ?_); (case side1 => exact s16_); (case side2 => exact HC0.out); rintro e w10 ⟨v826, rfl, ho0, hb⟩; refine ⟨_, rfl, ?_⟩; have n_ := ac_ (Kd.R_lower ho0 (below_size s1_)) <| Aside0.mk (below_step s1_ hb); clear HB; obtain ⟨HO827, HB⟩ := n_; (try clear hb ho0)) | ((with_reducible refine gate_dst (N := 3) rfl ?_); (try (refine gate_guard (by rfl) ?_; dsimp only)); refine box_event ?hg (N := 3) ?hd (cs := #[.int .i64 0, .slice none 0 0]) (t := 29) ?hr ?_; (case hd => rfl); (case hg => rfl); (case hr => first | (go_simp; done) | (go_simp; rfl)); intro gb828 hg w11 hbox hb; have n_ := ac_ (Kd.R_below q29_13 hb) <| ac_ (below_step s1_ hb) <| ac_ (hbox) <| ac_ ((by rw [hg]; exact (below_size s1_) : w.heap.size ≤ gb828)) <| Aside0.mk ((by rw [hg]; exact (below_size s1_) : w.heap.size ≤ gb828)); clear HO827 HB; obtain ⟨HO827, HB, BK828, GW828, GE828⟩ := n_; clear hb hbox hg; have hcz12_0 : w11.cell? ⟨gb828, 0, none⟩ = some (.int .i64 0) := (blk_cell BK828.out 0).trans rfl; have hcz12_1 : w11.cell? ⟨gb828, 1, none⟩ = some (.slice none 0 0) := (blk_cell BK828.out 1).trans rfl; have hfz12_0 := blk_frozen BK828.out 0; have hfz12_1 := blk_frozen BK828.out 1; obtain ⟨Ao13, co13, eo13⟩ := Kd.R_slice HO827.out; subst eo13) | (refine gL_ 110 16 Tryz.func110 #[.agg #[.int .i64 t824, .slice Ao13 t825.length co13]] ?_; (with_reducible refine (impl_DirectBase.calls k t824 _ _ t825 t829 _ ?side1 ?side2 ?tab A5.out).mono ?_); (case tab => first | exact HTB.out | (refine Tab64.below HTB.out ?_; repeat (first | (with_reducible first | exact HB.out | apply below_alloc | apply pw_below_drewN | apply below_drew1 | refine below_set ?_ GE828.out) | exact HB.out)) | (repeat (first | exact HTB.out | apply Tab64.drewN | apply Tab64.drew | apply Tab64.alloc))); (case side1 => refine (Kd.R_reads' (e := 3) (base := w.heap.size) (ok := fun k_ => True) (n := t825.length) (c := co13) ?_).2.2; exact q29_1); (case side2 => exact (Kd.R_reads' HO827.out).2.1); rintro e w14 ⟨v830, rfl, ho0, hb⟩; refine ⟨_, rfl, ?_⟩; have n_ := ac_ (Kd.R_below q29_1 hb) <| ac_ (Kd.R_lower ho0 (below_size q29_7)) <| ac_ (blk_below (g := gb828) (o := .cells #[.int .i64 t824, .slice Ao13 t825.length co13] 29 (0, 0)) (by (with_reducible repeat (first | refine blk_drewN ?_ _ | refine blk_drew ?_ | refine blk_alloc ?_ _)); refine blk_put (cs := #[.int .i64 t824, .slice none 0 0]) ?_ 1 _ rfl; (with_reducible repeat (first | refine blk_drewN ?_ _ | refine blk_drew ?_ | refine blk_alloc ?_ _)); refine blk_put (cs := #[.int .i64 0, .slice none 0 0]) ?_ 0 _ rfl; (with_reducible repeat (first | refine blk_drewN ?_ _ | refine blk_drew ?_ | refine blk_alloc ?_ _)); exact BK828.out) hb) <| Aside0.mk (below_step q29_7 hb); clear HO827 BK828 HB; obtain ⟨HO827, HO831, BK828, HB⟩ := n_; (try clear hb ho0); have hcz15_0 : w14.cell? ⟨gb828, 0, none⟩ = some (.int .i64 t824) := (blk_cell BK828.out 0).trans rfl; have hcz15_1 : w14.cell? ⟨gb828, 1, none⟩ = some (.slice Ao13 t825.length co13) := (blk_cell BK828.out 1).trans rfl; have hfz15_0 := blk_frozen BK828.out 0; have hfz15_1 := blk_frozen BK828.out 1) | (refine gL_ 111 18 Tryz.func111 #[.agg #[.int .i64 t824, .slice Ao13 t825.length co13]] ?_; (with_reducible refine (impl_ProperPremises.calls k t824 _ _ t825 t832 _ ?side1 ?side2 ?tab A6.out).mono ?_); (case tab => first | exact HTB.out | (refine Tab64.below HTB.out ?_; repeat (first | (with_reducible first | exact HB.out | apply below_alloc | apply pw_below_drewN | apply below_drew1 | refine below_set ?_ GE828.out) | exact HB.out)) | (repeat (first | exact HTB.out | apply Tab64.drewN | apply Tab64.drew | apply Tab64.alloc))); (case side1 => exact q29_4); (case side2 => exact (Kd.R_reads' HO827.out).2.1); rintro e w16 ⟨v833, rfl, ho0, hb⟩; refine ⟨_, rfl, ?_⟩; have n_ := ac_ (Kd.R_elder' q29_13 (Kd.R_base ho0) hb) <| ac_ (Kd.R_below q29_14 hb) <| ac_ (Kd.R_lower (Kd.R_new' ho0 (Kd.R_lt q29_13)) (below_size q29_7)) <| ac_ (blk_below (g := gb828) (o := .cells #[.int .i64 t824, .slice Ao13 t825.length co13] 29 (0, 0)) q29_11 hb) <| Aside0.mk (below_step q29_7 hb); clear HO827 HO831 BK828 HB; obtain ⟨HO827, HO831, HO834, BK828, HB⟩ := n_; (try clear hb ho0)) | (refine gL_ 112 21 Tryz.func112 #[.slice A0 l0.length c0] ?_; (with_reducible refine (spec_DrawOneStep.calls k _ _ l0 t835 t836 _ ?side1 ?side2 A7.out).mono ?_); (case side1 => exact s13_); (case side2 => exact HC0.out); rintro e w17 ⟨v837, rfl, ho0, hb⟩; refine ⟨_, rfl, ?_⟩; have n_ := ac_ (Kd.R_below q29_13 hb) <| ac_ (Kd.R_elder' q29_14 (Kd.R_base ho0) hb) <| ac_ (Kd.R_below q29_15 hb) <| ac_ (Kd.R_lower (Kd.R_new' ho0 (Kd.R_lt q29_14)) (below_size q29_7)) <| ac_ (blk_below (g := gb828) (o := .cells #[.int .i64 t824, .slice Ao13 t825.length co13] 29 (0, 0)) q29_11 hb) <| Aside0.mk (below_step q29_7 hb); clear HO827 HO831 HO834 BK828 HB; obtain ⟨HO827, HO831, HO834, HO838, BK828, HB⟩ := n_; (try clear hb ho0)) | (refine gL_ 113 26 Tryz.func113 #[.slice A0 l0.length c0] ?_; (with_reducible refine (spec_DrawIsDirect.calls k _ _ l0 t839 t840 _ ?side1 ?side2 A8.out).mono ?_); (case side1 => exact s13_); (case side2 => exact HC0.out); rintro e w18 ⟨v841, rfl, ho0, hb⟩; refine ⟨_, rfl, ?_⟩; have n_ := ac_ (Kd.R_below q29_13 hb) <| ac_ (Kd.R_elder' q29_14 (Kd.R_base ho0) hb) <| ac_ (Kd.R_below q29_15 hb) <| ac_ (Kd.R_elder' q29_16 (Kd.R_base ho0) hb) <| ac_ (Kd.R_lower (Kd.R_new' (Kd.R_new' ho0 (Kd.R_lt q29_14)) (Kd.R_lt q29_16)) (below_size q29_7)) <| ac_ (blk_below (g := gb828) (o := .cells #[.int .i64 t824, .slice Ao13 t825.length co13] 29 (0, 0)) q29_11 hb) <| Aside0.mk (below_step q29_7 hb); clear HO827 HO831 HO834 HO838 BK828 HB; obtain ⟨HO827, HO831, HO834, HO838, HO842, BK828, HB⟩ := n_; (try clear hb ho0)))
  (try simp only [Act.put, List.setIfInBounds_toArray, List.set_cons_zero, List.set_cons_succ])
  go_cut [65] (fun v65 wc => ∃ (kq : Nat) (x65_8 : Bool), v65 = .bool x65_8 ∧ Aside0 (laws_FnDirect.j0 kq t829 x65_8 t824 t825 = some r) ∧ Aside0 (kq ≤ k) ∧ Aside0 (Kd.R k48 48 wc w.heap.size (fun _ => True) v830 t829) ∧ Aside0 (Kd.R (Kd.int .i64) 3 wc w.heap.size (fun _ => True) (.slice Ao13 t825.length co13) t825) ∧ Aside0 (wc.heap[gb828]? = some (.cells #[.int .i64 t824, (.slice Ao13 t825.length co13)] 29 (0, 0))) ∧ Aside0 (Below w.heap.size w wc))
  case first =>
   have H := HC9.out; clear HC9; obtain ⟨t843, A19, H⟩ := bnd29_ H; obtain ⟨t846, A20, H⟩ := bnd29_ H
   by_cases c21 : t846 = true
   ·
    subst c21; rw [if_pos rfl] at H; obtain ⟨t847, A22, H⟩ := bnd29_ H; obtain ⟨t850, A23, H⟩ := bnd29_ H
    by_cases c24 : t850 = true
    ·
     subst c24; rw [if_pos rfl] at H; obtain ⟨t851, A25, H⟩ := bnd29_ H; obtain ⟨t852, A26, H⟩ := bnd29_ H
     by_cases c27 : t851 = t852
     ·
      rw [if_pos c27] at H; have c27b0 : (t851 == t852) = true := beq_iff_eq.mpr c27; have c27b1 : (t851 != t852) = false := bne_eq_false_iff_eq.mpr c27; clear c27
      (first | rw [c27b0] | (simp only [i64_w, i32_w]; rw [c27b0]) | skip)
      obtain ⟨t853, A28, H⟩ := bnd29_ H; obtain ⟨t854, A29, H⟩ := bnd29_ H
      by_cases c30 : (t853 != t854) = true
      ·
       rw [if_pos c30] at H
       refine absurd ?_ Bool.false_ne_true; revert H; generalize k = kq_; intro H; cases kq_ with | zero => exact absurd H q29_23 | succ kq_ => simp only [laws_FnDirect.j0] at H; (try rw [if_pos rfl] at H); exact (Option.some.inj H).trans HRT.out
      ·
       rw [if_neg c30] at H
       have c30b0 : (t853 != t854) = false := by simpa using c30
       (try (have c30b1 : decide (t853 = t854) = true := by simpa using c30))
       (try (have c30b2 : (t853 == t854) = true := by simpa using c30))
       clear c30; have H' := Aside0.mk H; clear H; have hcz31_0 : w18.cell? ⟨gb828, 0, none⟩ = some (.int .i64 t824) := (blk_cell BK828.out 0).trans rfl; have hcz31_1 : w18.cell? ⟨gb828, 1, none⟩ = some (.slice Ao13 t825.length co13) := (blk_cell BK828.out 1).trans rfl; have hfz31_0 := blk_frozen BK828.out 0; have hfz31_1 := blk_frozen BK828.out 1
       go_wp2_with (first | (refine gL_ 114 31 Tryz.func114 #[.agg #[.int .i64 t824, .slice Ao13 t825.length co13]] ?_; (with_reducible refine (spec_DirectBase.calls k t824 _ _ t825 t843 _ ?side1 ?side2 A19.out).mono ?_); (case side1 => exact q29_4); (case side2 => exact (Kd.R_reads' HO827.out).2.1); rintro e w32 ⟨v844, rfl, ho0, hb⟩; refine ⟨_, rfl, ?_⟩; have n_ := ac_ (Kd.R_below q29_13 hb) <| ac_ (Kd.R_elder' q29_14 (Kd.R_base ho0) hb) <| ac_ (Kd.R_below q29_15 hb) <| ac_ (Kd.R_elder' q29_16 (Kd.R_base ho0) hb) <| ac_ (Kd.R_elder' q29_17 (Kd.R_base ho0) hb) <| ac_ (Kd.R_lower (Kd.R_new' (Kd.R_new' (Kd.R_new' ho0 (Kd.R_lt q29_14)) (Kd.R_lt q29_16)) (Kd.R_lt q29_17)) (below_size q29_7)) <| ac_ (blk_below (g := gb828) (o := .cells #[.int .i64 t824, .slice Ao13 t825.length co13] 29 (0, 0)) q29_11 hb) <| Aside0.mk (below_step q29_7 hb); clear HO827 HO831 HO834 HO838 HO842 BK828 HB; obtain ⟨HO827, HO831, HO834, HO838, HO842, HO845, BK828, HB⟩ := n_; (try clear hb ho0); obtain ⟨Ao33, co33, eo33⟩ := Kd.R_slice HO831.out; subst eo33; obtain ⟨Ao34, co34, eo34⟩ := Kd.R_slice HO845.out; subst eo34) | (refine gL_ 27 32 Tryz.func27 #[.slice Ao33 t829.length co33, .slice Ao34 t843.length co34] ?_; (with_reducible refine (laws_sameRules.calls k _ _ t829 _ _ t843 true _ ?side1 ?side2 ?side3 ?side4 A20.out).mono ?_); (case side1 => repeat (first | exact (Kd.R_reads' HO831.out).2.2 | (with_reducible refine Kd.C_alloc ?_ _) | (with_reducible refine Kd.C_drewN ?_ _) | (with_reducible refine Kd.C_drew ?_))); (case side2 => exact (Kd.R_reads' HO831.out).2.1); (case side3 => repeat (first | exact (Kd.R_reads' HO845.out).2.2 | (with_reducible refine Kd.C_alloc ?_ _) | (with_reducible refine Kd.C_drewN ?_ _) | (with_reducible refine Kd.C_drew ?_))); (case side4 => exact (Kd.R_reads' HO845.out).2.1); rintro e w' ⟨rfl, ⟨nd, rfl⟩⟩; refine ⟨_, rfl, ?_⟩; have hcz35_0 : w32.cell? ⟨gb828, 0, none⟩ = some (.int .i64 t824) := (blk_cell BK828.out 0).trans rfl; have hcz35_1 : w32.cell? ⟨gb828, 1, none⟩ = some (.slice Ao13 t825.length co13) := (blk_cell BK828.out 1).trans rfl; have hfz35_0 := blk_frozen BK828.out 0; have hfz35_1 := blk_frozen BK828.out 1) | (go_at_call 115; (with_reducible refine (spec_ProperPremises.calls k t824 _ _ t825 t847 _ ?side1 ?side2 A22.out).mono ?_); (case side1 => exact q29_4); (case side2 => exact (Kd.R_reads' HO827.out).2.1); rintro e w36 ⟨v848, rfl, ho0, hb⟩; have n_ := ac_ (Kd.R_elder' q29_13 (Kd.R_base ho0) hb) <| ac_ (Kd.R_below q29_14 hb) <| ac_ (Kd.R_elder' q29_15 (Kd.R_base ho0) hb) <| ac_ (Kd.R_below q29_16 hb) <| ac_ (Kd.R_below q29_17 hb) <| ac_ (Kd.R_below q29_18 hb) <| ac_ (Kd.R_lower (Kd.R_new' (Kd.R_new' ho0 (Kd.R_lt q29_13)) (Kd.R_lt q29_15)) (below_size q29_7)) <| ac_ (blk_below (g := gb828) (o := .cells #[.int .i64 t824, .slice Ao13 t825.length co13] 29 (0, 0)) q29_11 hb) <| Aside0.mk (below_step q29_7 hb); clear HO827 HO831 HO834 HO838 HO842 HO845 BK828 HB; obtain ⟨HO827, HO831, HO834, HO838, HO842, HO845, HO849, BK828, HB⟩ := n_; (try clear hb ho0); obtain ⟨Ao37, co37, eo37⟩ := Kd.R_slice HO834.out; subst eo37; obtain ⟨Ao38, co38, eo38⟩ := Kd.R_slice HO849.out; subst eo38) | (go_at_call 21; (with_reducible refine (laws_sameInts.calls k _ _ t832 _ _ t847 true _ ?side1 ?side2 ?side3 ?side4 A23.out).mono ?_); (case side1 => repeat (first | exact (Kd.R_reads' HO834.out).2.2 | (with_reducible refine Kd.C_alloc ?_ _) | (with_reducible refine Kd.C_drewN ?_ _) | (with_reducible refine Kd.C_drew ?_))); (case side2 => exact (Kd.R_reads' HO834.out).2.1); (case side3 => repeat (first | exact (Kd.R_reads' HO849.out).2.2 | (with_reducible refine Kd.C_alloc ?_ _) | (with_reducible refine Kd.C_drewN ?_ _) | (with_reducible refine Kd.C_drew ?_))); (case side4 => exact (Kd.R_reads' HO849.out).2.1); rintro e w' ⟨rfl, ⟨nd, rfl⟩⟩; obtain ⟨Ao39, co39, eo39⟩ := Kd.R_slice HO838.out; subst eo39) | (go_at_call 116; (with_reducible refine (impl_OneStep.calls k _ _ t835 t836 t851 _ ?side1 ?side2 A25.out).mono ?_); (case side1 => exact q29_5); (case side2 => exact (Kd.R_reads' HO838.out).2.1); rintro e w40 ⟨rfl, hb⟩; have n_ := ac_ (Kd.R_below q29_13 hb) <| ac_ (Kd.R_below q29_14 hb) <| ac_ (Kd.R_below q29_15 hb) <| ac_ (Kd.R_below q29_16 hb) <| ac_ (Kd.R_below q29_17 hb) <| ac_ (Kd.R_below q29_18 hb) <| ac_ (Kd.R_below q29_19 hb) <| ac_ (blk_below (g := gb828) (o := .cells #[.int .i64 t824, .slice Ao13 t825.length co13] 29 (0, 0)) q29_11 hb) <| Aside0.mk (below_step q29_7 hb); clear HO827 HO831 HO834 HO838 HO842 HO845 HO849 BK828 HB; obtain ⟨HO827, HO831, HO834, HO838, HO842, HO845, HO849, BK828, HB⟩ := n_; (try clear hb)) | (go_at_call 117; (with_reducible refine (spec_OneStep.calls k _ _ t835 t836 t852 _ ?side1 ?side2 A26.out).mono ?_); (case side1 => exact q29_5); (case side2 => exact (Kd.R_reads' HO838.out).2.1); rintro e w41 ⟨rfl, hb⟩; have n_ := ac_ (Kd.R_below q29_13 hb) <| ac_ (Kd.R_below q29_14 hb) <| ac_ (Kd.R_below q29_15 hb) <| ac_ (Kd.R_below q29_16 hb) <| ac_ (Kd.R_below q29_17 hb) <| ac_ (Kd.R_below q29_18 hb) <| ac_ (Kd.R_below q29_19 hb) <| ac_ (blk_below (g := gb828) (o := .cells #[.int .i64 t824, .slice Ao13 t825.length co13] 29 (0, 0)) q29_11 hb) <| Aside0.mk (below_step q29_7 hb); clear HO827 HO831 HO834 HO838 HO842 HO845 HO849 BK828 HB; obtain ⟨HO827, HO831, HO834, HO838, HO842, HO845, HO849, BK828, HB⟩ := n_; (try clear hb); obtain ⟨Ao42, co42, eo42⟩ := Kd.R_slice HO842.out; subst eo42) | (go_at_call 118; (with_reducible refine (impl_IsDirect.calls k t839 _ _ t840 t853 _ ?side1 ?side2 A28.out).mono ?_); (case side1 => exact q29_6); (case side2 => exact (Kd.R_reads' HO842.out).2.1); rintro e w43 ⟨rfl, hb⟩; have n_ := ac_ (Kd.R_below q29_13 hb) <| ac_ (Kd.R_below q29_14 hb) <| ac_ (Kd.R_below q29_15 hb) <| ac_ (Kd.R_below q29_16 hb) <| ac_ (Kd.R_below q29_17 hb) <| ac_ (Kd.R_below q29_18 hb) <| ac_ (Kd.R_below q29_19 hb) <| ac_ (blk_below (g := gb828) (o := .cells #[.int .i64 t824, .slice Ao13 t825.length co13] 29 (0, 0)) q29_11 hb) <| Aside0.mk (below_step q29_7 hb); clear HO827 HO831 HO834 HO838 HO842 HO845 HO849 BK828 HB; obtain ⟨HO827, HO831, HO834, HO838, HO842, HO845, HO849, BK828, HB⟩ := n_; (try clear hb)) | (go_at_call 119; (with_reducible refine (spec_IsDirect.calls k t839 _ _ t840 t854 _ ?side1 ?side2 A29.out).mono ?_); (case side1 => exact q29_6); (case side2 => exact (Kd.R_reads' HO842.out).2.1); rintro e w44 ⟨rfl, hb⟩; have n_ := ac_ (Kd.R_below q29_13 hb) <| ac_ (Kd.R_below q29_14 hb) <| ac_ (Kd.R_below q29_15 hb) <| ac_ (Kd.R_below q29_16 hb) <| ac_ (Kd.R_below q29_17 hb) <| ac_ (Kd.R_below q29_18 hb) <| ac_ (Kd.R_below q29_19 hb) <| ac_ (blk_below (g := gb828) (o := .cells #[.int .i64 t824, .slice Ao13 t825.length co13] 29 (0, 0)) q29_11 hb) <| Aside0.mk (below_step q29_7 hb); clear HO827 HO831 HO834 HO838 HO842 HO845 HO849 BK828 HB; obtain ⟨HO827, HO831, HO834, HO838, HO842, HO845, HO849, BK828, HB⟩ := n_; (try clear hb)))
       go_meet
       case rel => exact ⟨_, (((t832.length : Int) != (t829.length : Int))), s2_, H', ⟨(by first | omega | exact Nat.le_refl _)⟩, ⟨(by (with_reducible repeat (first | apply Kd.R_alloc | apply Kd.R_drewN | apply Kd.R_drew)); exact Kd.R_mono HO831.out (fun _ hk => trivial))⟩, ⟨(by (with_reducible repeat (first | apply Kd.R_alloc | apply Kd.R_drewN | apply Kd.R_drew)); exact Kd.R_mono HO827.out (fun _ hk => trivial))⟩, ⟨q29_11⟩, ⟨q29_7⟩⟩
     ·
      rw [if_neg c27] at H
      refine absurd ?_ Bool.false_ne_true; revert H; generalize k = kq_; intro H; cases kq_ with | zero => exact absurd H q29_23 | succ kq_ => simp only [laws_FnDirect.j0] at H; (try rw [if_pos rfl] at H); exact (Option.some.inj H).trans HRT.out
    ·
     replace c24 := Bool.eq_false_iff.mpr c24; subst c24
     rw [if_neg (show ¬ (false = true) by decide)] at H
     refine absurd ?_ Bool.false_ne_true; revert H; generalize k = kq_; intro H; cases kq_ with | zero => exact absurd H q29_23 | succ kq_ => simp only [laws_FnDirect.j0] at H; (try rw [if_pos rfl] at H); exact (Option.some.inj H).trans HRT.out
   ·
    replace c21 := Bool.eq_false_iff.mpr c21; subst c21
    rw [if_neg (show ¬ (false = true) by decide)] at H
    refine absurd ?_ Bool.false_ne_true; revert H; generalize k = kq_; intro H; cases kq_ with | zero => exact absurd H q29_23 | succ kq_ => simp only [laws_FnDirect.j0] at H; (try rw [if_pos rfl] at H); exact (Option.some.inj H).trans HRT.out
  case rest =>
   clear HC9
   try clear c1
   try clear c2
   try clear p2
   try clear c3
   try clear c8
   try clear c9
   try clear c10
   try clear c11
   try clear c21
   try clear c24
   try clear c27
   try clear c27b0
   try clear c27b1
   try clear c30
   try clear c30b0
   try clear c30b1
   try clear c30b2
   try clear hcz12_0
   try clear hcz12_1
   try clear hcz15_0
   try clear hcz15_1
   try clear hcz31_0
   try clear hcz31_1
   try clear hcz35_0
   try clear hcz35_1
   try clear hfz12_0
   try clear hfz12_1
   try clear hfz15_0
   try clear hfz15_1
   try clear hfz31_0
   try clear hfz31_1
   try clear hfz35_0
   try clear hfz35_1
   obtain ⟨kq, x65_8, rfl, HA, HJ8, HO_4, HO_829001, BK828, HB⟩ := hcut
   cases kq with
   | zero => exact absurd HA.out (by simp [laws_FnDirect.j0])
   | succ kj8 =>
    have H := HA.out; clear HA
    simp only [laws_FnDirect.j0] at H
    by_cases c45 : x65_8 = true
    ·
     subst c45; rw [if_pos rfl] at H
     exact absurd ((Option.some.inj H).trans HRT.out) Bool.false_ne_true
    ·
     replace c45 := Bool.eq_false_iff.mpr c45; subst c45
     rw [if_neg (show ¬ (false = true) by decide)] at H
     have H' := Aside0.mk H; clear H
     go_wp2
     go_loopg [10] kj8 (fun kq v10 w' => ∃ (x10_2 : Int), v10 = .int .i64 x10_2 ∧ Aside0 (laws_FnDirect.l0 kq t829 x10_2 t824 t825 = some r) ∧ Aside0 (kq ≤ kj8) ∧ Aside0 (Kd.R k48 48 w' w.heap.size (fun _ => True) v830 t829) ∧ Aside0 (Kd.R (Kd.int .i64) 3 w' w.heap.size (fun _ => True) (.slice Ao13 t825.length co13) t825) ∧ Aside0 (w'.heap[gb828]? = some (.cells #[.int .i64 t824, (.slice Ao13 t825.length co13)] 29 (0, 0))) ∧ Aside0 (Below w.heap.size w w'))
     case atStart => exact ⟨(0), s2_, H', ⟨Nat.le_refl _⟩, ⟨s14_⟩, ⟨q29_12⟩, ⟨q29_11⟩, ⟨q29_7⟩⟩
     case round =>
      clear H'
      try clear c1
      try clear c2
      try clear p2
      try clear c3
      try clear c4
      try clear c8
      try clear c9
      try clear c10
      try clear c11
      try clear c21
      try clear c24
      try clear c27
      try clear c27b0
      try clear c27b1
      try clear c30
      try clear c30b0
      try clear c30b1
      try clear c30b2
      try clear c45
      try clear hcz12_0
      try clear hcz12_1
      try clear hcz15_0
      try clear hcz15_1
      try clear hcz31_0
      try clear hcz31_1
      try clear hcz35_0
      try clear hcz35_1
      try clear hfz12_0
      try clear hfz12_1
      try clear hfz15_0
      try clear hfz15_1
      try clear hfz31_0
      try clear hfz31_1
      try clear hfz35_0
      try clear hfz35_1
      try clear p2
      obtain ⟨x10_2, rfl, HA, HK2, HO_4, HO_829001, BK828, HB⟩ := hrel
      cases gk with
      | zero => exact absurd HA.out (by simp [laws_FnDirect.l0])
      | succ k2 =>
       have H := HA.out; clear HA
       simp only [laws_FnDirect.l0] at H
       have HC46 := Aside0.mk H; clear H
       go_upto_region 11 with (fail)
       go_cut [74] (fun v74 wc => ∃ (kq : Nat) (x74_45 : Bool), v74 = .bool x74_45 ∧ Aside0 (laws_FnDirect.j2 kq t829 x10_2 x74_45 t824 t825 = some r) ∧ Aside0 (kq ≤ k2) ∧ Aside0 (Kd.R k48 48 wc w.heap.size (fun _ => True) v830 t829) ∧ Aside0 (Kd.R (Kd.int .i64) 3 wc w.heap.size (fun _ => True) (.slice Ao13 t825.length co13) t825) ∧ Aside0 (wc.heap[gb828]? = some (.cells #[.int .i64 t824, (.slice Ao13 t825.length co13)] 29 (0, 0))) ∧ Aside0 (Below w.heap.size w wc))
       case first =>
        have H := HC46.out; clear HC46; obtain ⟨t855, A47, H⟩ := bnd29_ H
        by_cases c48 : x10_2 ≤ t855
        ·
         rw [if_pos c48] at H; have c48b0 : decide (x10_2 ≤ t855) = true := decide_eq_true c48; clear c48
         (first | rw [c48b0] | (simp only [i64_w, i32_w]; rw [c48b0]) | skip)
         obtain ⟨t856, A49, H⟩ := bnd29_ H; have H' := Aside0.mk H; clear H; have hcz50_0 : wr.cell? ⟨gb828, 0, none⟩ = some (.int .i64 t824) := (blk_cell BK828.out 0).trans rfl; have hcz50_1 : wr.cell? ⟨gb828, 1, none⟩ = some (.slice Ao13 t825.length co13) := (blk_cell BK828.out 1).trans rfl; have hfz50_0 := blk_frozen BK828.out 0; have hfz50_1 := blk_frozen BK828.out 1
         go_wp2_with (first | (refine gL_ 62 69 Tryz.func62 #[.int .i64 t824] ?_; (with_reducible refine (spec_FullSet.calls t824 t855 _ A47.out).mono ?_); rintro e w' ⟨rfl, ⟨nd, rfl⟩⟩; refine ⟨_, rfl, ?_⟩) | (go_at_call 61; (with_reducible refine (spec_IsContext.calls k2 t824 _ _ t825 t856 _ ?side1 ?side2 A49.out).mono ?_); (case side1 => exact q29_2); (case side2 => exact (Kd.R_reads' HO_829001.out).2.1); rintro e w51 ⟨rfl, hb⟩; have n_ := ac_ (Kd.R_below s14_ hb) <| ac_ (Kd.R_below q29_12 hb) <| ac_ (blk_below (g := gb828) (o := .cells #[.int .i64 t824, .slice Ao13 t825.length co13] 29 (0, 0)) q29_11 hb) <| Aside0.mk (below_step q29_7 hb); clear HO_4 HO_829001 BK828 HB; obtain ⟨HO_4, HO_829001, BK828, HB⟩ := n_; (try clear hb)))
         go_meet
         case rel => exact ⟨_, (t856), s2_, H', ⟨by have := HJ8.out; have := HK2.out; first | omega | exact Nat.le_refl _⟩, ⟨s14_⟩, ⟨q29_12⟩, ⟨q29_11⟩, ⟨q29_7⟩⟩
        ·
         rw [if_neg c48] at H; have c48b0 : decide (x10_2 ≤ t855) = false := decide_eq_false c48; clear c48
         (first | rw [c48b0] | (simp only [i64_w, i32_w]; rw [c48b0]) | skip)
         have H' := Aside0.mk H; clear H; have hcz52_0 : wr.cell? ⟨gb828, 0, none⟩ = some (.int .i64 t824) := (blk_cell BK828.out 0).trans rfl; have hcz52_1 : wr.cell? ⟨gb828, 1, none⟩ = some (.slice Ao13 t825.length co13) := (blk_cell BK828.out 1).trans rfl; have hfz52_0 := blk_frozen BK828.out 0; have hfz52_1 := blk_frozen BK828.out 1
         go_wp2_with (first | (refine gL_ 62 69 Tryz.func62 #[.int .i64 t824] ?_; (with_reducible refine (spec_FullSet.calls t824 t855 _ A47.out).mono ?_); rintro e w' ⟨rfl, ⟨nd, rfl⟩⟩; refine ⟨_, rfl, ?_⟩))
         go_meet
         case rel => exact ⟨_, (false), s2_, H', ⟨by have := HJ8.out; have := HK2.out; first | omega | exact Nat.le_refl _⟩, ⟨s14_⟩, ⟨q29_12⟩, ⟨q29_11⟩, ⟨q29_7⟩⟩
       case rest =>
        clear HC46
        try clear c1
        try clear c2
        try clear p2
        try clear c3
        try clear c4
        try clear c6
        try clear c8
        try clear c9
        try clear c10
        try clear c11
        try clear c21
        try clear c24
        try clear c27
        try clear c27b0
        try clear c27b1
        try clear c30
        try clear c30b0
        try clear c30b1
        try clear c30b2
        try clear c45
        try clear c48
        try clear c48b0
        try clear hcz12_0
        try clear hcz12_1
        try clear hcz15_0
        try clear hcz15_1
        try clear hcz31_0
        try clear hcz31_1
        try clear hcz35_0
        try clear hcz35_1
        try clear hcz50_0
        try clear hcz50_1
        try clear hcz52_0
        try clear hcz52_1
        try clear hfz12_0
        try clear hfz12_1
        try clear hfz15_0
        try clear hfz15_1
        try clear hfz31_0
        try clear hfz31_1
        try clear hfz35_0
        try clear hfz35_1
        try clear hfz50_0
        try clear hfz50_1
        try clear hfz52_0
        try clear hfz52_1
        try clear p2
        obtain ⟨kq, x74_45, rfl, HA, HJ45, HO_4, HO_829001, BK828, HB⟩ := hcut
        cases kq with
        | zero => exact absurd HA.out (by simp [laws_FnDirect.j2])
        | succ kj45 =>
         have H := HA.out; clear HA
         simp only [laws_FnDirect.j2] at H
         by_cases c53 : x74_45 = true
         ·
          subst c53; rw [if_pos rfl] at H; obtain ⟨t861, A54, H⟩ := bnd29_ H; obtain ⟨t862, A55, H⟩ := bnd29_ H
          by_cases c56 : t861 = t862
          ·
           rw [if_pos c56] at H; have c56b0 : (t861 == t862) = true := beq_iff_eq.mpr c56; have c56b1 : (t861 != t862) = false := bne_eq_false_iff_eq.mpr c56; clear c56; have H' := Aside0.mk H; clear H
           try go_wp2
           have n0_ := Aside0.mk (Kd.R_drew HO_4.out); have n1_ := Aside0.mk (Kd.R_drew HO_829001.out); have n2_ := Aside0.mk (blk_drew BK828.out); have n3_ := Aside0.mk (below_drew1 HB.out); clear HO_4; clear HO_829001; clear BK828; clear HB; have HO_4 := n0_; have HO_829001 := n1_; have BK828 := n2_; have HB := n3_; clear n0_ n1_ n2_ n3_; obtain ⟨Ao58, co58, eo58⟩ := Kd.R_slice HO_4.out
           (first | subst eo58 | (injection eo58 with f1_ f2_ f3_; have f4_ := f1_.symm; have f5_ := f3_.symm; clear f1_ f2_ f3_; subst f4_; subst f5_))
           refine start_ (n := 7) (S := fun w' => w'.cell? ⟨gb828, 0, none⟩ = some (.int .i64 t824) ∧ w'.cell? ⟨gb828, 1, none⟩ = some (.slice Ao13 t825.length co13)) (ds := []) (tb_ 7 0) s12_ rfl rfl ⟨(blk_cell BK828.out 0).trans rfl, (blk_cell BK828.out 1).trans rfl⟩ (fun hHeld => ?_)
           generalize wc.drew = w57 at HO_4 HO_829001 BK828 HB hHeld ⊢
           refine pl_ 0 77 (tb_ 7 1) ?_; refine pl_ 1 78 (tb_ 7 3) ?_; refine pl_ 4 81 (tb_ 7 19) ?_
           refine take_ (i := 3) (N := some 80) (v := ?_) (a' := ?_) (tb_ 7 27) rfl rfl s12_ (fun _ _ _ h => h) (Or.inl ⟨by rfl, ?_⟩) hHeld ?_ ?_
           rotate_left
           ·
            rintro w' ⟨s0, s1⟩
            go_simp; with_reducible rfl
           rotate_left
           ·
            simp only [Act.put, List.setIfInBounds_toArray, List.set_cons_zero, List.set_cons_succ, i64_w, i32_w]
            rfl
           refine one_ (i := 2) (N := some 79) (tb_ 7 31) rfl rfl s12_ (by decide) (fun K hK => ?_)
           refine goes_ Tryz.func116 s12_ rfl #[.slice Ao58 t829.length co58, .int .i64 x10_2] (by rfl) rfl rfl s0_ ?_
           with_reducible refine (impl_OneStep.calls kj45 _ _ t829 x10_2 t861 _ ?side1 ?side2 A54.out).mono ?_
           (case side1 => repeat (first | exact (Kd.R_reads' HO_4.out).2.2 | (with_reducible refine Kd.C_alloc ?_ _) | (with_reducible refine Kd.C_drewN ?_ _) | (with_reducible refine Kd.C_drew ?_)))
           (case side2 => exact (Kd.R_reads' HO_4.out).2.1)
           rintro e w59 ⟨rfl, hb⟩
           refine ⟨_, rfl, ?_⟩
           have n0_ := Aside0.mk (Kd.R_below s14_ hb); have n1_ := Aside0.mk (Kd.R_below q29_12 hb); have n2_ := Aside0.mk (blk_below (g := gb828) (o := .cells #[.int .i64 t824, .slice Ao13 t825.length co13] 29 (0, 0)) q29_11 hb); have n3_ := Aside0.mk (below_step q29_7 hb); clear HO_4; clear HO_829001; clear BK828; clear HB; have HO_4 := n0_; have HO_829001 := n1_; have BK828 := n2_; have HB := n3_; clear n0_ n1_ n2_ n3_
           (try clear hb)
           (try clear hb2)
           (try clear hk)
           (try clear hi)
           refine hK.out _ _ ⟨(blk_cell BK828.out 0).trans rfl, (blk_cell BK828.out 1).trans rfl⟩ (fun hHeld => ?_)
           clear hK K
           refine norm_ (a' := ?_) ?_ ?_
           rotate_left
           ·
            show Act.put _ (some 79) _ = _
            simp only [Act.put, List.setIfInBounds_toArray, List.set_cons_zero, List.set_cons_succ, i64_w, i32_w]
            rfl
           refine one_ (i := 5) (N := some 82) (tb_ 7 63) rfl rfl s12_ (by decide) (fun K hK => ?_)
           refine goes_ Tryz.func64 s12_ rfl #[.agg #[.int .i64 t824, .slice Ao13 t825.length co13], .int .i64 x10_2] (by rfl) rfl rfl s0_ ?_
           with_reducible refine (spec_ClosureOf.calls kj45 t824 _ _ t825 x10_2 t862 _ ?side1 ?side2 A55.out).mono ?_
           (case side1 => exact q29_2)
           (case side2 => exact (Kd.R_reads' HO_829001.out).2.1)
           rintro e w60 ⟨rfl, hb⟩
           refine ⟨_, rfl, ?_⟩
           have n0_ := Aside0.mk (Kd.R_below s14_ hb); have n1_ := Aside0.mk (Kd.R_below q29_12 hb); have n2_ := Aside0.mk (blk_below (g := gb828) (o := .cells #[.int .i64 t824, .slice Ao13 t825.length co13] 29 (0, 0)) q29_11 hb); have n3_ := Aside0.mk (below_step q29_7 hb); clear HO_4; clear HO_829001; clear BK828; clear HB; have HO_4 := n0_; have HO_829001 := n1_; have BK828 := n2_; have HB := n3_; clear n0_ n1_ n2_ n3_
           (try clear hb)
           (try clear hb2)
           (try clear hk)
           (try clear hi)
           refine hK.out _ _ ⟨(blk_cell BK828.out 0).trans rfl, (blk_cell BK828.out 1).trans rfl⟩ (fun hHeld => ?_)
           clear hK K
           refine norm_ (a' := ?_) ?_ ?_
           rotate_left
           ·
            show Act.put _ (some 82) _ = _
            simp only [Act.put, List.setIfInBounds_toArray, List.set_cons_zero, List.set_cons_succ, i64_w, i32_w]
            rfl
           refine pl_ 6 83 (tb_ 7 127) ?_
           refine done_ s12_ ?_
           try go_wp2
           go_roundg kj45
           case measure => have := HJ8.out; have := HK2.out; have := HJ45.out; omega
           case rel => exact ⟨(wrap64 (x10_2 + 1)), s2_, H', ⟨by have := HJ8.out; have := HK2.out; have := HJ45.out; omega⟩, ⟨s14_⟩, ⟨q29_12⟩, ⟨q29_11⟩, ⟨q29_7⟩⟩
          ·
           rw [if_neg c56] at H
           exact absurd ((Option.some.inj H).trans HRT.out) Bool.false_ne_true
         ·
          replace c53 := Bool.eq_false_iff.mpr c53; subst c53
          rw [if_neg (show ¬ (false = true) by decide)] at H
          obtain ⟨t857, A61, H⟩ := bnd29_ H
          by_cases c62 : (t829.length : Int) ≥ (t857.length : Int)
          ·
           rw [if_pos c62] at H; have c62b0 : decide ((t857.length : Int) ≤ (t829.length : Int)) = true := decide_eq_true c62; have c62b1 : decide (t857.length ≤ t829.length) = true := decide_eq_true (Int.ofNat_le.mp c62); clear c62; obtain rfl := Option.some.inj H; obtain ⟨Ao63, co63, eo63⟩ := Kd.R_slice HO_4.out; subst eo63; have hcz64_0 : wc.cell? ⟨gb828, 0, none⟩ = some (.int .i64 t824) := (blk_cell BK828.out 0).trans rfl; have hcz64_1 : wc.cell? ⟨gb828, 1, none⟩ = some (.slice Ao13 t825.length co13) := (blk_cell BK828.out 1).trans rfl; have hfz64_0 := blk_frozen BK828.out 0; have hfz64_1 := blk_frozen BK828.out 1
           go_wp2_with (first | (refine gL_ 28 87 Tryz.func28 #[.agg #[.int .i64 t824, .slice Ao13 t825.length co13]] ?_; (with_reducible refine (spec_StemBase.calls kj45 t824 _ _ t825 t857 _ ?side1 ?side2 A61.out).mono ?_); (case side1 => exact q29_2); (case side2 => exact (Kd.R_reads' HO_829001.out).2.1); rintro e w65 ⟨v858, rfl, ho0, hb⟩; refine ⟨_, rfl, ?_⟩; have n_ := ac_ (Kd.R_elder' s14_ (Kd.R_base ho0) hb) <| ac_ (Kd.R_below q29_12 hb) <| ac_ (Kd.R_lower (Kd.R_new' ho0 (Kd.R_lt s14_)) (below_size q29_7)) <| ac_ (blk_below (g := gb828) (o := .cells #[.int .i64 t824, .slice Ao13 t825.length co13] 29 (0, 0)) q29_11 hb) <| Aside0.mk (below_step q29_7 hb); clear HO_4 HO_829001 BK828 HB; obtain ⟨HO_4, HO_829001, HO859, BK828, HB⟩ := n_; (try clear hb ho0); obtain ⟨Ao66, co66, eo66⟩ := Kd.R_slice HO859.out; subst eo66))
           go_ret
           exact ⟨s8_, q29_7⟩
          ·
           rw [if_neg c62] at H; have c62b0 : decide ((t857.length : Int) ≤ (t829.length : Int)) = false := decide_eq_false c62
           have c62b1 : decide (t857.length ≤ t829.length) = false := decide_eq_false (fun h => c62 (Int.ofNat_le.mpr h))
           clear c62; obtain ⟨t860, A67, H⟩ := bnd29_ H; obtain rfl := Option.some.inj H; obtain ⟨Ao68, co68, eo68⟩ := Kd.R_slice HO_4.out; subst eo68; have hcz69_0 : wc.cell? ⟨gb828, 0, none⟩ = some (.int .i64 t824) := (blk_cell BK828.out 0).trans rfl; have hcz69_1 : wc.cell? ⟨gb828, 1, none⟩ = some (.slice Ao13 t825.length co13) := (blk_cell BK828.out 1).trans rfl; have hfz69_0 := blk_frozen BK828.out 0; have hfz69_1 := blk_frozen BK828.out 1
           go_wp2_with (first | (refine gL_ 28 87 Tryz.func28 #[.agg #[.int .i64 t824, .slice Ao13 t825.length co13]] ?_; (with_reducible refine (spec_StemBase.calls kj45 t824 _ _ t825 t857 _ ?side1 ?side2 A61.out).mono ?_); (case side1 => exact q29_2); (case side2 => exact (Kd.R_reads' HO_829001.out).2.1); rintro e w70 ⟨v858, rfl, ho0, hb⟩; refine ⟨_, rfl, ?_⟩; have n_ := ac_ (Kd.R_elder' s14_ (Kd.R_base ho0) hb) <| ac_ (Kd.R_below q29_12 hb) <| ac_ (Kd.R_lower (Kd.R_new' ho0 (Kd.R_lt s14_)) (below_size q29_7)) <| ac_ (blk_below (g := gb828) (o := .cells #[.int .i64 t824, .slice Ao13 t825.length co13] 29 (0, 0)) q29_11 hb) <| Aside0.mk (below_step q29_7 hb); clear HO_4 HO_829001 BK828 HB; obtain ⟨HO_4, HO_829001, HO859, BK828, HB⟩ := n_; (try clear hb ho0); obtain ⟨Ao71, co71, eo71⟩ := Kd.R_slice HO859.out; subst eo71; have hcz72_0 : w70.cell? ⟨gb828, 0, none⟩ = some (.int .i64 t824) := (blk_cell BK828.out 0).trans rfl; have hcz72_1 : w70.cell? ⟨gb828, 1, none⟩ = some (.slice Ao13 t825.length co13) := (blk_cell BK828.out 1).trans rfl; have hfz72_0 := blk_frozen BK828.out 0; have hfz72_1 := blk_frozen BK828.out 1) | (go_at_call 61; (with_reducible refine (spec_IsContext.calls kj45 t824 _ _ t825 t860 _ ?side1 ?side2 A67.out).mono ?_); (case side1 => exact q29_2); (case side2 => exact (Kd.R_reads' HO_829001.out).2.1); rintro e w73 ⟨rfl, hb⟩; have n_ := ac_ (Kd.R_below s14_ hb) <| ac_ (Kd.R_below q29_12 hb) <| ac_ (Kd.R_below (by (with_reducible repeat (first | apply Kd.R_alloc | apply Kd.R_drewN | apply Kd.R_drew)); exact HO859.out) hb) <| ac_ (blk_below (g := gb828) (o := .cells #[.int .i64 t824, .slice Ao13 t825.length co13] 29 (0, 0)) q29_11 hb) <| Aside0.mk (below_step q29_7 hb); clear HO_4 HO_829001 HO859 BK828 HB; obtain ⟨HO_4, HO_829001, HO859, BK828, HB⟩ := n_; (try clear hb)))
           go_ret
           exact ⟨s8_, q29_7⟩
end Go.Proofs.YtafnamchckehmaaGreatDoor.Pr
