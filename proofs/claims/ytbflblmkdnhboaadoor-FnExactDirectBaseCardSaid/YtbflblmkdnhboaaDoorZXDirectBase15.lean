/- What the law needs of the program's functions as plain functions, of the proofs that their calls answer so, and of plain laws: gathered by a program of this place (pack.py) out of its printed texts. No condition beyond what each statement says. -/
import Derived.Test.YtbflblmkdnhboaaDoorZXDirectBase11
import Derived.Test.YtbflblmkdnhboaaDoorZXDirectBase12
import Derived.Test.YtbflblmkdnhboaaDoorZXDirectBase7
import Derived.Test.YtbflblmkdnhboaaDoorZXDirectBase14
import Derived.Test.YtbflblmkdnhboaaDoorZXDirectBase2
import Derived.Test.YtbflblmkdnhboaaDoorZXDirectBase13
namespace Go.Proofs.YtbflblmkdnhboaaDoor.Pr
open Go.RowKit Go.Proofs.YtbflblmkdnhboaaDoorW.PrintWords Go.Proofs.YtbflblmkdnhboaaDoorW.PrintLast Go.Proofs.YtbflblmkdnhboaaDoorW.PrintMore
set_option linter.unusedVariables false
theorem box_cellsD {w w1 : World} {g : Nat} {cs : Array Value} {t : TypeId} (h : w.heap[g]? = some (.cells cs t (0, 0))) (hb : Below w.heap.size w w1) (i : Nat) : w1.cell? ⟨g, i, none⟩ = cs[i]? := blk_cell (blk_below h hb) i
def fvD (n : Int) (l : List Int) (s : Int) : Int := ((Pu.newN n.toNat (l.map Int.toNat) s.toNat : Nat) : Int)
def okD (l0 : List Int) (n : Int) (l : List Int) : Prop := l0.length ≤ 1048576 ∧ l0.all (Pu.isSetB n) = true ∧ (l0 = [] ∨ Pu.ctxB n l = true)
instance (l0 : List Int) (n : Int) (l : List Int) : Decidable (okD l0 n l) := by unfold okD; infer_instance
theorem okD_nat {l0 : List Int} {n : Int} {l : List Int} (h : okD l0 n l) {x : Int} (hx : x ∈ l0) : ∃ (m : Nat) (R : List Nat) (s : Nat), n = (m : Int) ∧ m ≤ 6 ∧ l = Pu.cast R ∧ R.length ≤ 8 ∧ (∀ r ∈ R, r < 2 ^ m) ∧ x = (s : Int) ∧ s < 2 ^ m ∧ Pu.ctxB (m : Int) (Pu.cast R) = true := by
  obtain ⟨_, hs, hc⟩ := h
  have hc : Pu.ctxB n l = true := hc.resolve_left (fun e => by rw [e] at hx; cases hx)
  have hxs := List.all_eq_true.1 hs x hx
  have hc2 := hc
  obtain ⟨m, R, rfl, hm, rfl, hR, hb⟩ := Pu.ctxB_nat hc2
  obtain ⟨m', s, _, e1, hs', e2⟩ := Pu.isSetB_nat hxs
  obtain rfl : m = m' := by omega
  exact ⟨m, R, s, rfl, hm, rfl, hR, hb, e2, hs', hc⟩
def impl_DirectBase_rulesTo0.f (l0 : List Int) (a1_0 : Int) (l1_1 : List Int) : Option (List S58) := if okD l0 a1_0 l1_1 then some (ruleMap (fvD a1_0 l1_1) l0) else none
set_option maxHeartbeats 4000000 in
set_option maxRecDepth 100000 in
theorem impl_DirectBase_rulesTo0.calls (A0 : Option Addr) (c0 : Nat) (l0 : List Int) (a1_0 : Int) (A1_1 : Option Addr) (c1_1 : Nat) (l1_1 : List Int) (r : List S58) (w : World) (hr0 : Kd.C (Kd.int .i64) w A0 l0.length l0) (hc0 : l0.length ≤ c0) (hr1_1 : Kd.C (Kd.int .i64) w A1_1 l1_1.length l1_1) (hc1_1 : l1_1.length ≤ c1_1) (h : impl_DirectBase_rulesTo0.f l0 a1_0 l1_1 = some r)
    {g : Nat} (hg : w.heap[g]? = some (.cells #[.int .i64 a1_0, .slice A1_1 l1_1.length c1_1] 27 (0, 0))) :
    Calls Tryd.prog 64 #[.slice A0 l0.length c0, .func (.func 65) #[] #[.pointer (some ⟨g, 0, none⟩)]] w fun e w' => ∃ v0_ : Value, e = .returned (v0_) ∧ Kd.R k58 58 w' w.heap.size (fun _ => True) v0_ r ∧ Below w.heap.size w w' := by
  unfold impl_DirectBase_rulesTo0.f at h
  by_cases hn : okD l0 a1_0 l1_1
  · rw [if_pos hn] at h
    obtain rfl := Option.some.inj h
    have eg : ∀ args w, (callFunc 65 args).run Tryd.prog w = .ok (.enter 65 args) w := enters_of Tryd.func65 (by kernel_rfl) rfl
    refine rulesTo_at 65 #[.pointer (some ⟨g, 0, none⟩)] eg (fvD a1_0 l1_1) A0 c0 l0 w hr0 hn.1 ?_
    intro W x hx hb
    rw [show (#[.int .i64 x] ++ #[.pointer (some ⟨g, 0, none⟩)] : Array Value) = #[.int .i64 x, .pointer (some ⟨g, 0, none⟩)] from rfl]
    have hk : ∃ k, impl_proper.f k a1_0 l1_1 x = some (fvD a1_0 l1_1 x) := by
      obtain ⟨m, R, s, rfl, hm, rfl, hR, hbd, rfl, hs, hc⟩ := okD_nat hn hx
      unfold fvD
      rw [Int.toNat_natCast, Int.toNat_natCast, Pu.uncast]
      exact Ev.rounds (Pu.newI_val hm hR hbd hs hc)
    obtain ⟨k, hk⟩ := hk
    have hu := Tryd.underlying27
    have hc0' : W.cell? ⟨g, 0, none⟩ = some (.int .i64 a1_0) := (box_cellsD hg hb 0).trans rfl
    have hc1' : W.cell? ⟨g, 1, none⟩ = some (.slice A1_1 l1_1.length c1_1) := (box_cellsD hg hb 1).trans rfl
    have HR := Aside0.mk (Kd.C_below hr1_1 hb)
    have HC := Aside0.mk hc1_1
    have HK := Aside0.mk hk
    clear hr1_1 hc1_1 hk hn hg h hr0 hc0 hx
    generalize fvD a1_0 l1_1 x = q at *
    go_enter Tryd.func65, Tryd.ntmps65
    go_wp2_with (go_at_call 60; refine (impl_proper.calls k a1_0 A1_1 c1_1 l1_1 x q _ (by first | exact HR.out | exact Kd.C_drewN HR.out _) HC.out HK.out).mono ?_; rintro e w' ⟨rfl, hb2⟩; have HB := Aside0.mk hb2; clear hb2)
    go_ret
    exact ⟨rfl, below_step (by repeat (first | exact Below.refl _ _ | apply below_alloc | apply pw_below_drewN | apply below_drew1)) HB.out⟩
  · rw [if_neg hn] at h
    cases h
end Go.Proofs.YtbflblmkdnhboaaDoor.Pr
namespace Go.Proofs.YtbflblmkdnhboaaDoor.Pr
open Go.RowKit Go.Proofs.YtbflblmkdnhboaaDoorW.PrintWords Go.Proofs.YtbflblmkdnhboaaDoorW.PrintLast Go.Proofs.YtbflblmkdnhboaaDoorW.PrintMore
attribute [local go_sem] max2_int min2_int max_two min_two max_three min_three max_four min_four   -- for this text's walks alone
set_option linter.unusedVariables false
set_option linter.unusedSimpArgs false
theorem q10_1 {P : Prop} (h : P := by repeat (first | exact (Kd.C_below HR0_1.out HB.out) | (with_reducible refine Kd.C_alloc ?_ _) | (with_reducible refine Kd.C_drewN ?_ _) | (with_reducible refine Kd.C_drew ?_))) : P := h
theorem q10_2 {P : Prop} (h : P := by repeat (first | (with_reducible first | exact HB.out | apply below_alloc | apply pw_below_drewN | apply below_drew1 | refine below_set ?_ GE316.out) | exact HB.out)) : P := h
theorem q10_3 {P : Prop} (h : P := by (try simp only [List.map_toArray, List.map_cons, List.map_nil]); first | done | rfl | (simp only [List.length_drop, List.length_take]; rfl)) : P := h
theorem q10_4 {P : Prop} (h : P := by repeat (first | (with_reducible first | exact HB.out | apply below_alloc | apply pw_below_drewN | apply below_drew1) | exact HB.out)) : P := h
theorem q10_5 {P : Prop} (h : P := by (with_reducible repeat (first | refine blk_drewN ?_ _ | refine blk_drew ?_ | refine blk_alloc ?_ _)); exact BK316.out) : P := h
def impl_DirectBase.f (k : Nat) (a0_0 : Int) (l0_1 : List Int) : Option ((List (S58))) := (impl_ProperPremises.f k a0_0 l0_1).bind fun t317 => ((impl_DirectBase_rulesTo0.f t317 a0_0 l0_1).bind fun t320 => (some t320))
set_option maxHeartbeats 8000000 in
set_option maxRecDepth 100000 in
theorem impl_DirectBase.calls (k : Nat) (a0_0 : Int) (A0_1 : Option Addr) (c0_1 : Nat) (l0_1 : List Int) (r : List (S58)) (w : World) (hr0_1 : Kd.C (Kd.int .i64) w A0_1 l0_1.length l0_1) (hc0_1 : l0_1.length ≤ c0_1) (htab : Tab64 w) (h : impl_DirectBase.f k a0_0 l0_1 = some r) :
  Calls Tryd.prog 35 #[.agg #[.int .i64 a0_0, .slice A0_1 l0_1.length c0_1]] w fun e w' => ∃ v0_ : Value, e = .returned (v0_) ∧ Kd.R k58 58 w' w.heap.size (fun _ => True) v0_ r ∧ Below w.heap.size w w' := by
 have HTB := Aside0.mk htab
 clear htab
 have hu27 := Tryd.underlying27
 have HR0_1 := Aside0.mk hr0_1
 have HC0_1 := Aside0.mk hc0_1
 clear hr0_1 hc0_1
 have HB := Aside0.mk (Below.refl w.heap.size w)
 have H : ((impl_ProperPremises.f k a0_0 l0_1).bind fun t317 => ((impl_DirectBase_rulesTo0.f t317 a0_0 l0_1).bind fun t320 => (some t320))) = some r := h
 clear h
 replace H := Option.bind_eq_some_iff.mp H
 obtain ⟨t317, A20, H⟩ := H
 replace H : ((impl_DirectBase_rulesTo0.f t317 a0_0 l0_1).bind fun t320 => (some t320)) = some r := H
 have A2 := Aside0.mk A20
 clear A20
 replace H := Option.bind_eq_some_iff.mp H
 obtain ⟨t320, A30, H⟩ := H
 replace H : (some t320) = some r := H
 have A3 := Aside0.mk A30
 clear A30
 obtain rfl := Option.some.inj H
 go_enter Tryd.func35, Tryd.ntmps35
 go_wp2_with (first | ((with_reducible refine gate_dst (N := 1) rfl ?_); refine box_event ?hg (N := 1) ?hd (cs := #[.int .i64 a0_0, .slice A0_1 l0_1.length c0_1]) (t := 27) ?hr ?_; (case hd => rfl); (case hg => rfl); (case hr => first | (go_simp; done) | (go_simp; rfl)); intro gb316 hg w4 hbox hb; have n0_ := Aside0.mk (below_step q10_4 hb); have n1_ := Aside0.mk (hbox); have n2_ := Aside0.mk ((by rw [hg]; exact (below_size q10_4) : w.heap.size ≤ gb316)); have n3_ := Aside0.mk ((by rw [hg]; exact (below_size q10_4) : w.heap.size ≤ gb316)); clear HB; have HB := n0_; have BK316 := n1_; have GW316 := n2_; have GE316 := n3_; clear n0_ n1_ n2_ n3_; clear hb hbox hg; have hcz5_0 : w4.cell? ⟨gb316, 0, none⟩ = some (.int .i64 a0_0) := (blk_cell BK316.out 0).trans rfl; have hcz5_1 : w4.cell? ⟨gb316, 1, none⟩ = some (.slice A0_1 l0_1.length c0_1) := (blk_cell BK316.out 1).trans rfl; have hfz5_0 := blk_frozen BK316.out 0; have hfz5_1 := blk_frozen BK316.out 1) | ((with_reducible refine gate_callee (f := 27) rfl ?_); refine goesL_ (some 4) rfl rfl Tryd.func27 (by kernel_rfl) rfl #[.agg #[.int .i64 a0_0, .slice A0_1 l0_1.length c0_1]] rfl q10_3 ?_; (with_reducible refine (impl_ProperPremises.calls k a0_0 _ _ l0_1 t317 _ ?side1 ?side2 ?tab A2.out).mono ?_); (case tab => first | exact HTB.out | (refine Tab64.below HTB.out ?_; repeat (first | (with_reducible first | exact HB.out | apply below_alloc | apply pw_below_drewN | apply below_drew1 | refine below_set ?_ GE316.out) | exact HB.out)) | (repeat (first | exact HTB.out | apply Tab64.drewN | apply Tab64.drew | apply Tab64.alloc))); (case side1 => exact q10_1); (case side2 => exact HC0_1.out); rintro e w6 ⟨v318, rfl, ho0, hb⟩; refine ⟨_, rfl, ?_⟩; have n0_ := Aside0.mk (Kd.R_lower ho0 (below_size q10_2)); have n1_ := Aside0.mk (blk_below (g := gb316) (o := .cells #[.int .i64 a0_0, .slice A0_1 l0_1.length c0_1] 27 (0, 0)) q10_5 hb); have n2_ := Aside0.mk (below_step q10_2 hb); clear BK316; clear HB; have HO319 := n0_; have BK316 := n1_; have HB := n2_; clear n0_ n1_ n2_; (try clear hb); (try clear hb2); (try clear hk); (try clear hi); (try clear ho0); have hcz7_0 : w6.cell? ⟨gb316, 0, none⟩ = some (.int .i64 a0_0) := (blk_cell BK316.out 0).trans rfl; have hcz7_1 : w6.cell? ⟨gb316, 1, none⟩ = some (.slice A0_1 l0_1.length c0_1) := (blk_cell BK316.out 1).trans rfl; have hfz7_0 := blk_frozen BK316.out 0; have hfz7_1 := blk_frozen BK316.out 1; obtain ⟨Ao8, co8, eo8⟩ := Kd.R_slice HO319.out; subst eo8) | ((with_reducible refine gate_callee (f := 64) rfl ?_); refine goesL_ (some 6) rfl rfl Tryd.func64 (by kernel_rfl) rfl #[.slice Ao8 t317.length co8, .func (.func 65) #[] #[.pointer (some ⟨gb316, 0, none⟩)]] rfl q10_3 ?_; (with_reducible refine (impl_DirectBase_rulesTo0.calls ?u1_1 ?u1_2 t317 a0_0 ?u1_3 ?u1_4 l0_1 t320 _ ?side1 ?side2 ?side3 ?side4 A3.out ?box0).mono ?_); (case box0 => (with_reducible repeat (first | refine blk_drewN ?_ _ | refine blk_drew ?_ | refine blk_alloc ?_ _)); exact BK316.out); (case side1 => repeat (first | exact (Kd.R_reads' HO319.out).2.2 | (with_reducible refine Kd.C_alloc ?_ _) | (with_reducible refine Kd.C_drewN ?_ _) | (with_reducible refine Kd.C_drew ?_))); (case side2 => exact (Kd.R_reads' HO319.out).2.1); (case side3 => exact q10_1); (case side4 => exact HC0_1.out); rintro e w9 ⟨v321, rfl, ho0, hb⟩; refine ⟨_, rfl, ?_⟩; have n0_ := Aside0.mk (Kd.R_below (by (with_reducible repeat (first | apply Kd.R_alloc | apply Kd.R_drewN | apply Kd.R_drew)); exact HO319.out) hb); have n1_ := Aside0.mk (Kd.R_lower ho0 (below_size q10_2)); have n2_ := Aside0.mk (blk_below (g := gb316) (o := .cells #[.int .i64 a0_0, .slice A0_1 l0_1.length c0_1] 27 (0, 0)) q10_5 hb); have n3_ := Aside0.mk (below_step q10_2 hb); clear HO319; clear BK316; clear HB; have HO319 := n0_; have HO322 := n1_; have BK316 := n2_; have HB := n3_; clear n0_ n1_ n2_ n3_; (try clear hb); (try clear hb2); (try clear hk); (try clear hi); (try clear ho0)))
 go_ret
 exact ⟨_, by first | rfl | (simp [errW_none, errW_some] <;> rfl) | (simp [*, errW_none, errW_some] <;> rfl), by (with_reducible repeat (first | apply Kd.R_alloc | apply Kd.R_drewN | apply Kd.R_drew)); exact HO322.out, by repeat (first | (with_reducible first | exact HB.out | apply below_alloc | apply pw_below_drewN | apply below_drew1 | refine below_set ?_ GE316.out) | exact HB.out)⟩
end Go.Proofs.YtbflblmkdnhboaaDoor.Pr
