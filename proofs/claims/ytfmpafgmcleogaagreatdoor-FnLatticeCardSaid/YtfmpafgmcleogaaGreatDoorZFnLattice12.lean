/- Functions of the program as plain functions, proofs that their calls answer so, and plain laws: what the law needs. No condition beyond what each statement says. -/
import Derived.Test.YtfmpafgmcleogaaGreatDoorZFnLattice11
namespace Go.Proofs.YtfmpafgmcleogaaGreatDoor.Pr
open Go.RowKit Go.Maps Go.Proofs.YtfmpafgmcleogaaGreatDoorW.PrintWords Go.Proofs.YtfmpafgmcleogaaGreatDoorW.PrintLast Go.Proofs.YtfmpafgmcleogaaGreatDoorW.PrintMore
set_option linter.unusedVariables false
set_option linter.unusedSimpArgs false
def impl_HeightOf.f (a0_0 : Int) (l0_1 : List Int) : Option Int := some (Pu.heightV a0_0 l0_1)
set_option maxHeartbeats 40000000 in
set_option maxRecDepth 100000 in
theorem impl_HeightOf.calls (a0_0 : Int) (A0_1 : Option Addr) (c0_1 : Nat) (l0_1 : List Int) (r : Int) (w : World) (hr0_1 : Kd.C (Kd.int .i64) w A0_1 l0_1.length l0_1) (hc0_1 : l0_1.length ≤ c0_1) (htab : Tab64 w) (h : impl_HeightOf.f a0_0 l0_1 = some r) :
    Calls Tryz.prog 23 #[.agg #[.int .i64 a0_0, .slice A0_1 l0_1.length c0_1]] w fun e w' => e = .returned (.int .i64 r) ∧ Below w.heap.size w w' := by
  obtain rfl := Option.some.inj h
  clear h
  obtain ⟨k, hk⟩ := Ev.rounds (Pu.conI_val a0_0 l0_1)
  have hlen := Pu.conV_len a0_0 l0_1
  have hdn := Pu.conV_down a0_0 l0_1
  have htr := Pu.conV_trans a0_0 l0_1
  have hq : Aside0 (Pu.heightV a0_0 l0_1 = if (Pu.conV a0_0 l0_1).length = 0 then -1 else ((Pu.far (belI (Pu.conV a0_0 l0_1)) ((Pu.conV a0_0 l0_1).length - 1) : Nat) : Int)) := ⟨rfl⟩
  generalize Pu.heightV a0_0 l0_1 = r at *
  generalize Pu.conV a0_0 l0_1 = L at *
  have HTB := Aside0.mk htab
  have HR := Aside0.mk hr0_1
  have HC := Aside0.mk hc0_1
  have HK := Aside0.mk hk
  have HL := Aside0.mk hlen
  have HD := Aside0.mk hdn
  have HT := Aside0.mk htr
  clear htab hr0_1 hc0_1 hk hlen hdn htr
  have hu26 := Tryz.underlying26
  have hmm := @run_makeMap Tryz.prog
  by_cases hz : L.length = 0
  · have HZ : Aside0 (r = -1) := ⟨by rw [hq.out, if_pos hz]⟩
    have hz0 : ((L.length : Int) == 0) = true := by rw [beq_iff_eq]; omega
    clear hz hq
    go_enter Tryz.func23, Tryz.ntmps23
    go_wp2_with (first
      | (refine be_ 1 #[.int .i64 a0_0, .slice A0_1 l0_1.length c0_1] 26 ?_; intro gb hg w3 hbox hb; have HB := Aside0.mk (below_step (by repeat (first | exact Below.refl _ _ | apply below_alloc | apply pw_below_drewN | apply below_drew1)) hb); have BK := Aside0.mk hbox; clear hb hbox hg; have hcz0 : w3.cell? ⟨gb, 0, none⟩ = some (.int .i64 a0_0) := (blk_cell BK.out 0).trans rfl; have hcz1 : w3.cell? ⟨gb, 1, none⟩ = some (.slice A0_1 l0_1.length c0_1) := (blk_cell BK.out 1).trans rfl; have hfz0 := blk_frozen BK.out 0; have hfz1 := blk_frozen BK.out 1)
      | (go_at_call 30; refine (impl_Concepts.calls k a0_0 _ _ l0_1 L _ (by first | exact Kd.C_below HR.out HB.out | exact Kd.C_drewN (Kd.C_below HR.out HB.out) _) HC.out (by first | exact HTB.out | (refine Tab64.below HTB.out ?_; repeat (first | (with_reducible first | exact HB.out | apply below_alloc | apply pw_below_drewN | apply below_drew1) | exact HB.out)) | (repeat (first | exact HTB.out | apply Tab64.drewN | apply Tab64.drew | apply Tab64.alloc))) HK.out).mono ?_; rintro e w5 ⟨v5, rfl, ho, hb⟩; have HO := Aside0.mk ho; have HB5 := Aside0.mk (below_step (by repeat (first | (with_reducible first | exact HB.out | apply below_alloc | apply pw_below_drewN | apply below_drew1) | exact HB.out)) hb); clear ho hb; obtain ⟨Ao, co, eo⟩ := Kd.R_slice HO.out; subst eo))
    go_ret
    rw [HZ.out]
    exact ⟨rfl, HB5.out⟩
  · obtain ⟨a, ha⟩ : ∃ a, L.length = a + 1 := ⟨L.length - 1, by omega⟩
    have HZ : Aside0 (r = ((Pu.far (belI L) a : Nat) : Int)) := ⟨by rw [hq.out, if_neg hz, ha]; rfl⟩
    have HN := Aside0.mk ha
    have hw : wrap64 ((L.length : Int) - 1) = (a : Int) := by have h2 := HL.out; unfold wrap64; omega
    clear hz hq ha
    have hz0 : ((L.length : Int) == 0) = false := by rw [beq_eq_false_iff_ne]; have h1 := HN.out; omega
    go_enter Tryz.func23, Tryz.ntmps23
    go_wp2_with (first
      | (refine be_ 1 #[.int .i64 a0_0, .slice A0_1 l0_1.length c0_1] 26 ?_; intro gb hg w3 hbox hb; have HB := Aside0.mk (below_step (by repeat (first | exact Below.refl _ _ | apply below_alloc | apply pw_below_drewN | apply below_drew1)) hb); have BK := Aside0.mk hbox; clear hb hbox hg; have hcz0 : w3.cell? ⟨gb, 0, none⟩ = some (.int .i64 a0_0) := (blk_cell BK.out 0).trans rfl; have hcz1 : w3.cell? ⟨gb, 1, none⟩ = some (.slice A0_1 l0_1.length c0_1) := (blk_cell BK.out 1).trans rfl; have hfz0 := blk_frozen BK.out 0; have hfz1 := blk_frozen BK.out 1)
      | (go_at_call 30; refine (impl_Concepts.calls k a0_0 _ _ l0_1 L _ (by first | exact Kd.C_below HR.out HB.out | exact Kd.C_drewN (Kd.C_below HR.out HB.out) _) HC.out (by first | exact HTB.out | (refine Tab64.below HTB.out ?_; repeat (first | (with_reducible first | exact HB.out | apply below_alloc | apply pw_below_drewN | apply below_drew1) | exact HB.out)) | (repeat (first | exact HTB.out | apply Tab64.drewN | apply Tab64.drew | apply Tab64.alloc))) HK.out).mono ?_; rintro e w5 ⟨v5, rfl, ho, hb⟩; have HO := Aside0.mk ho; have HB5 := Aside0.mk (below_step (by repeat (first | (with_reducible first | exact HB.out | apply below_alloc | apply pw_below_drewN | apply below_drew1) | exact HB.out)) hb); clear ho hb; obtain ⟨Ao, co, eo⟩ := Kd.R_slice HO.out; subst eo)
      | (go_at_call 48; refine (height_at L HL.out HD.out HT.out Ao co w5 (Kd.R_reads' HO.out).2.2 (Kd.R_reads' HO.out).2.1 w5.heap.size (Nat.le_refl _) (a + 1) a (Nat.lt_succ_self _) (by have h1 := HN.out; omega) (.map []) _ (agrees_empty _) ((World.ownsMap_made _ _ _ _).mono (Nat.zero_le _)) (by repeat (first | exact Below.refl _ _ | apply below_alloc | apply pw_below_drewN | apply below_drew1))).mono ?_; rintro e w6 ⟨rfl, D', _, _, _, hg⟩; have HG6 := Aside0.mk hg; clear hg))
    go_ret
    rw [HZ.out]
    have h1 := HB5.out.alloc HB5.out.size (.map #[] 0)
    exact ⟨rfl, Below.grown h1 HG6.out h1.size (fun k e => by cases e; exact HB5.out.size)⟩
end Go.Proofs.YtfmpafgmcleogaaGreatDoor.Pr
