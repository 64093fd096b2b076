/- Functions of the program as plain functions, proofs that their calls answer so, and plain laws: what the law needs. No condition beyond what each statement says. -/
import Derived.Test.YtafnamchckehmaaGreatDoorZFnRules5
namespace Go.Proofs.YtafnamchckehmaaGreatDoor.Pr
set_option maxHeartbeats 40000000
set_option maxRecDepth 100000
open Go.RowKit Go.Proofs.YtafnamchckehmaaGreatDoorW.PrintWords Go.Proofs.YtafnamchckehmaaGreatDoorW.PrintLast Go.Proofs.YtafnamchckehmaaGreatDoorW.PrintMore
attribute [local go_sem] max2_int min2_int max_two min_two max_three min_three max_four min_four
set_option linter.unusedVariables false
set_option linter.unusedSimpArgs false
theorem bnd21_ {α β : Type} {o : Option α} {f : α → Option β} {r : β} (h : o.bind f = some r) : ∃ a, Aside0 (o = some a) ∧ f a = some r := by
 obtain ⟨a, h1, h2⟩ := Option.bind_eq_some_iff.mp h
 exact ⟨a, ⟨h1⟩, h2⟩
theorem q21_1 {P : Prop} (h : P := by (with_reducible repeat (first | refine blk_drewN ?_ _ | refine blk_drew ?_ | refine blk_alloc ?_ _)); refine blk_far ?_ NB785_786.out _; (with_reducible repeat (first | refine blk_drewN ?_ _ | refine blk_drew ?_ | refine blk_alloc ?_ _)); refine blk_far ?_ NB785_786.out _; (with_reducible repeat (first | refine blk_drewN ?_ _ | refine blk_drew ?_ | refine blk_alloc ?_ _)); refine blk_put (cs := #[.int .i64 t791, .slice none 0 0]) ?_ 1 _ rfl; (with_reducible repeat (first | refine blk_drewN ?_ _ | refine blk_drew ?_ | refine blk_alloc ?_ _)); refine blk_put (cs := #[.int .i64 0, .slice none 0 0]) ?_ 0 _ rfl; (with_reducible repeat (first | refine blk_drewN ?_ _ | refine blk_drew ?_ | refine blk_alloc ?_ _)); exact BK785.out) : P := h
theorem q21_2 {P : Prop} (h : P := by (with_reducible repeat (first | refine blk_drewN ?_ _ | refine blk_drew ?_ | refine blk_alloc ?_ _)); refine blk_put (cs := #[.int .i64 t800, .int .i64 0]) ?_ 1 _ rfl; (with_reducible repeat (first | refine blk_drewN ?_ _ | refine blk_drew ?_ | refine blk_alloc ?_ _)); refine blk_put (cs := #[.int .i64 0, .int .i64 0]) ?_ 0 _ rfl; (with_reducible repeat (first | refine blk_drewN ?_ _ | refine blk_drew ?_ | refine blk_alloc ?_ _)); refine blk_far ?_ NB786_785.out _; (with_reducible repeat (first | refine blk_drewN ?_ _ | refine blk_drew ?_ | refine blk_alloc ?_ _)); refine blk_far ?_ NB786_785.out _; (with_reducible repeat (first | refine blk_drewN ?_ _ | refine blk_drew ?_ | refine blk_alloc ?_ _)); exact BK786.out) : P := h
theorem q21_3 {P : Prop} (h : P := by (with_reducible repeat (first | refine blk_drewN ?_ _ | refine blk_drew ?_ | refine blk_alloc ?_ _)); refine blk_put (cs := #[.int .i64 t791, .slice none 0 0]) ?_ 1 _ rfl; (with_reducible repeat (first | refine blk_drewN ?_ _ | refine blk_drew ?_ | refine blk_alloc ?_ _)); refine blk_put (cs := #[.int .i64 0, .slice none 0 0]) ?_ 0 _ rfl; (with_reducible repeat (first | refine blk_drewN ?_ _ | refine blk_drew ?_ | refine blk_alloc ?_ _)); exact BK797.out) : P := h
theorem q21_4 {P : Prop} (h : P := by (with_reducible repeat (first | refine blk_drewN ?_ _ | refine blk_drew ?_ | refine blk_alloc ?_ _)); refine blk_put (cs := #[.int .i64 t800, .int .i64 0]) ?_ 1 _ rfl; (with_reducible repeat (first | refine blk_drewN ?_ _ | refine blk_drew ?_ | refine blk_alloc ?_ _)); refine blk_put (cs := #[.int .i64 0, .int .i64 0]) ?_ 0 _ rfl; (with_reducible repeat (first | refine blk_drewN ?_ _ | refine blk_drew ?_ | refine blk_alloc ?_ _)); exact BK804.out) : P := h
theorem q21_5 {P : Prop} (h : P := by (with_reducible repeat (first | refine blk_drewN ?_ _ | refine blk_drew ?_ | refine blk_alloc ?_ _)); refine blk_far ?_ NB785_797.out _; (with_reducible repeat (first | refine blk_drewN ?_ _ | refine blk_drew ?_ | refine blk_alloc ?_ _)); refine blk_far ?_ NB785_797.out _; (with_reducible repeat (first | refine blk_drewN ?_ _ | refine blk_drew ?_ | refine blk_alloc ?_ _)); exact BK785.out) : P := h
theorem q21_6 {P : Prop} (h : P := by (with_reducible repeat (first | refine blk_drewN ?_ _ | refine blk_drew ?_ | refine blk_alloc ?_ _)); refine blk_far ?_ NB785_804.out _; (with_reducible repeat (first | refine blk_drewN ?_ _ | refine blk_drew ?_ | refine blk_alloc ?_ _)); refine blk_far ?_ NB785_804.out _; (with_reducible repeat (first | refine blk_drewN ?_ _ | refine blk_drew ?_ | refine blk_alloc ?_ _)); exact BK785.out) : P := h
theorem q21_7 {P : Prop} (h : P := by (with_reducible repeat (first | refine blk_drewN ?_ _ | refine blk_drew ?_ | refine blk_alloc ?_ _)); refine blk_far ?_ NB786_797.out _; (with_reducible repeat (first | refine blk_drewN ?_ _ | refine blk_drew ?_ | refine blk_alloc ?_ _)); refine blk_far ?_ NB786_797.out _; (with_reducible repeat (first | refine blk_drewN ?_ _ | refine blk_drew ?_ | refine blk_alloc ?_ _)); exact BK786.out) : P := h
theorem q21_8 {P : Prop} (h : P := by (with_reducible repeat (first | refine blk_drewN ?_ _ | refine blk_drew ?_ | refine blk_alloc ?_ _)); refine blk_far ?_ NB786_804.out _; (with_reducible repeat (first | refine blk_drewN ?_ _ | refine blk_drew ?_ | refine blk_alloc ?_ _)); refine blk_far ?_ NB786_804.out _; (with_reducible repeat (first | refine blk_drewN ?_ _ | refine blk_drew ?_ | refine blk_alloc ?_ _)); exact BK786.out) : P := h
theorem q21_9 {P : Prop} (h : P := by (with_reducible repeat (first | refine blk_drewN ?_ _ | refine blk_drew ?_ | refine blk_alloc ?_ _)); refine blk_far ?_ NB797_804.out _; (with_reducible repeat (first | refine blk_drewN ?_ _ | refine blk_drew ?_ | refine blk_alloc ?_ _)); refine blk_far ?_ NB797_804.out _; (with_reducible repeat (first | refine blk_drewN ?_ _ | refine blk_drew ?_ | refine blk_alloc ?_ _)); exact BK797.out) : P := h
theorem q21_10 {P : Prop} (h : P := by repeat (first | (with_reducible first | exact HI790.out | apply IsS152.alloc | apply IsS152.drewN | apply IsS152.drew | apply IsS152.set_1 | apply IsS152.set_2 | refine IsS152.far ?_ NB790_785.out _ | refine IsS152.far ?_ NB790_786.out _ | refine IsS152.far ?_ NB790_797.out _ | refine IsS152.far ?_ NB790_804.out _) | exact HI790.out)) : P := h
theorem q21_11 {P : Prop} (h : P := by (with_reducible repeat (first | apply Kd.R_alloc | apply Kd.R_drewN | apply Kd.R_drew)); exact (Kd.R_mono (Kd.R_far (p := ⟨gb804, 1, none⟩) (Kd.R_far (p := ⟨gb804, 0, none⟩) (Kd.R_types HO794.out BK804.out (by decide)) (fun _ hk => hk.2) (.int .i64 t800)) (fun _ hk => hk.2) (.int .i64 t801)) (fun _ h_ => h_.1))) : P := h
theorem q21_12 {P : Prop} (h : P := by repeat (first | (with_reducible first | exact HB.out | apply below_alloc | apply pw_below_drewN | apply below_drew1 | refine below_set ?_ (IsS152.ge HI790.out) | refine below_set ?_ GE785.out | refine below_set ?_ GE786.out | refine below_set ?_ GE797.out | refine below_set ?_ GE804.out) | exact HB.out)) : P := h
theorem q21_13 {P : Prop} (h : P := by repeat (first | (with_reducible first | exact HI790.out | apply IsS152.alloc | apply IsS152.drewN | apply IsS152.drew | apply IsS152.set_1 | apply IsS152.set_2 | refine IsS152.far ?_ NB790_785.out _ | refine IsS152.far ?_ NB790_786.out _ | refine IsS152.far ?_ NB790_797.out _) | exact HI790.out)) : P := h
theorem q21_14 {P : Prop} (h : P := by repeat (first | (with_reducible first | exact HB.out | apply below_alloc | apply pw_below_drewN | apply below_drew1 | refine below_set ?_ (IsS152.ge HI790.out) | refine below_set ?_ GE785.out | refine below_set ?_ GE786.out | refine below_set ?_ GE797.out) | exact HB.out)) : P := h
theorem q21_15 {P : Prop} (h : P := by repeat (first | (with_reducible first | exact HI790.out | apply IsS152.alloc | apply IsS152.drewN | apply IsS152.drew | apply IsS152.set_1 | apply IsS152.set_2 | refine IsS152.far ?_ NB790_785.out _ | refine IsS152.far ?_ NB790_786.out _) | exact HI790.out)) : P := h
theorem q21_16 {P : Prop} (h : P := by repeat (first | (with_reducible first | exact HB.out | apply below_alloc | apply pw_below_drewN | apply below_drew1 | refine below_set ?_ (IsS152.ge HI790.out) | refine below_set ?_ GE785.out | refine below_set ?_ GE786.out) | exact HB.out)) : P := h
theorem q21_17 {P : Prop} (h : P := by repeat (first | (with_reducible first | exact HB.out | apply below_alloc | apply pw_below_drewN | apply below_drew1 | refine below_set ?_ GE785.out | refine below_set ?_ GE786.out) | exact HB.out)) : P := h
theorem q21_18 {P : Prop} (h : P := by repeat (first | (with_reducible first | exact HB.out | apply below_alloc | apply pw_below_drewN | apply below_drew1 | refine below_set ?_ GE785.out) | exact HB.out)) : P := h
theorem q21_21 {P : Prop} (h : P := by (with_reducible repeat (first | refine blk_drewN ?_ _ | refine blk_drew ?_ | refine blk_alloc ?_ _)); exact BK785.out) : P := h
theorem q21_22 {P : Prop} (h : P := by (with_reducible repeat (first | refine blk_drewN ?_ _ | refine blk_drew ?_ | refine blk_alloc ?_ _)); exact BK786.out) : P := h
theorem q21_23 {P : Prop} (h : P := by (with_reducible repeat (first | refine blk_drewN ?_ _ | refine blk_drew ?_ | refine blk_alloc ?_ _)); exact BK797.out) : P := h
theorem q21_24 {P : Prop} (h : P := by (with_reducible repeat (first | apply Kd.R_alloc | apply Kd.R_drewN | apply Kd.R_drew)); exact HO794.out) : P := h
def spec_DrawHoldsIn.f (k : Nat) (l0 : List Int) : Option (Int × List Int × Int × Int) := (spec_l1New.f k l0).bind fun bt787 => ((spec_l3Bent.f k bt787.1 bt787.2.1 bt787.2.2).bind fun bt791 => ((spec_l1Min.f bt791.1 6).bind fun t798 => ((spec_l1Max.f 0 t798).bind fun t799 => ((spec_l9Make.f bt787.1 bt791.2.2.1 bt791.2.2.2 t799).bind fun bt800 => ((spec_l1Once.f bt787.1 bt800.2.2.1 bt800.2.2.2 3).bind fun bt805 => (if bt805.1 = true then ((spec_ClosureOf.f k bt791.1 bt791.2.1 bt800.1).bind fun t808 => (some (bt791.1, bt791.2.1, bt800.1, t808))) else (some (bt791.1, bt791.2.1, bt800.1, bt800.2.1))))))))
theorem spec_DrawHoldsIn.calls (k : Nat) (A0 : Option Addr) (c0 : Nat) (l0 : List Int) (r1 : Int) (r2 : List Int) (r3 : Int) (r4 : Int) (w : World) (hr0 : Kd.C (Kd.int .u8) w A0 l0.length l0) (hc0 : l0.length ≤ c0) (h : spec_DrawHoldsIn.f k l0 = some (r1, r2, r3, r4)) :
  Calls Tryz.prog 65 #[.slice A0 l0.length c0] w fun e w' => ∃ v1_ : Value, e = .returned (.tuple #[.agg #[.int .i64 r1, v1_], .agg #[.int .i64 r3, .int .i64 r4]]) ∧ Kd.R (Kd.int .i64) 3 w' w.heap.size (fun _ => True) v1_ r2 ∧ Below w.heap.size w w' := by
 have hu29 := Tryz.underlying29; have hu48 := Tryz.underlying48; have HR0 := Aside0.mk hr0; have HC0 := Aside0.mk hc0; clear hr0 hc0; have HB := Aside0.mk (Below.refl w.heap.size w); have H := h; clear h; unfold spec_DrawHoldsIn.f at H; obtain ⟨⟨t787, t788, t789⟩, A2, H⟩ := bnd21_ H; dsimp only at H; obtain ⟨⟨t791, t792, t795, t796⟩, A3, H⟩ := bnd21_ H; dsimp only at H; obtain ⟨t798, A4, H⟩ := bnd21_ H; obtain ⟨t799, A5, H⟩ := bnd21_ H; obtain ⟨⟨t800, t801, t802, t803⟩, A6, H⟩ := bnd21_ H; dsimp only at H; obtain ⟨⟨t805, t806, t807⟩, A7, H⟩ := bnd21_ H; dsimp only at H
 by_cases c8 : t805 = true
 ·
  subst c8; rw [if_pos rfl] at H; obtain ⟨t808, A9, H⟩ := bnd21_ H
  simp only [Option.some.injEq, Prod.mk.injEq] at H
  obtain ⟨rfl, rfl, rfl, rfl⟩ := H
  go_enter Tryz.func65, Tryz.ntmps65
  try go_wp2_with ((with_reducible refine gw_ rfl ?_); first | (refine be_ 2 #[.int .i64 0, .slice none 0 0] 29 ?_; intro gb785 hg w10 hbox hb; have n_ := ac_ (below_step s1_ hb) <| ac_ (hbox) <| ac_ ((gz_ w hg s1_)) <| Aside0.mk ((gz_ w hg s1_)); clear HB; obtain ⟨HB, BK785, GW785, GE785⟩ := n_; clear hb hbox hg) | (refine be_ 3 #[.int .i64 0, .int .i64 0] 48 ?_; intro gb786 hg w11 hbox hb; have n_ := ac_ (blk_below (g := gb785) (o := .cells #[.int .i64 0, .slice none 0 0] 29 (0, 0)) q21_21 hb) <| ac_ (below_step q21_18 hb) <| ac_ (hbox) <| ac_ ((gz_ w hg q21_18)) <| ac_ ((gz_ w hg q21_18)) <| ac_ ((nl_ hg (blk_lt (g := gb785) (o := .cells #[.int .i64 0, .slice none 0 0] 29 (0, 0)) q21_21))) <| Aside0.mk ((ng_ hg (blk_lt (g := gb785) (o := .cells #[.int .i64 0, .slice none 0 0] 29 (0, 0)) q21_21))); clear BK785 HB; obtain ⟨BK785, HB, BK786, GW786, GE786, NB785_786, NB786_785⟩ := n_; clear hb hbox hg) | (refine gL_ 144 8 Tryz.func144 #[.slice A0 l0.length c0] ?_; (with_reducible refine (spec_l1New.calls k _ _ l0 t787 t788 t789 w _ ?side1 ?side2 ?side3 A2.out).mono ?_); (case side1 => exact q21_17); (case side2 => exact HR0.out); (case side3 => exact HC0.out); rintro e w12 ⟨g790, rfl, hi, hb, hb2⟩; refine ⟨_, rfl, ?_⟩; have n_ := ac_ (blk_below (g := gb785) (o := .cells #[.int .i64 0, .slice none 0 0] 29 (0, 0)) q21_21 hb2) <| ac_ (blk_below (g := gb786) (o := .cells #[.int .i64 0, .int .i64 0] 48 (0, 0)) q21_22 hb2) <| ac_ (hb) <| ac_ (hi) <| ac_ (IsS152.ne_blk hi (blk_below (g := gb785) (o := .cells #[.int .i64 0, .slice none 0 0] 29 (0, 0)) q21_21 hb2) (by decide)) <| ac_ (Ne.symm (IsS152.ne_blk hi (blk_below (g := gb785) (o := .cells #[.int .i64 0, .slice none 0 0] 29 (0, 0)) q21_21 hb2) (by decide))) <| ac_ (IsS152.ne_blk hi (blk_below (g := gb786) (o := .cells #[.int .i64 0, .int .i64 0] 48 (0, 0)) q21_22 hb2) (by decide)) <| Aside0.mk (Ne.symm (IsS152.ne_blk hi (blk_below (g := gb786) (o := .cells #[.int .i64 0, .int .i64 0] 48 (0, 0)) q21_22 hb2) (by decide))); clear BK785 BK786 HB; obtain ⟨BK785, BK786, HB, HI790, NB790_785, NB785_790, NB790_786, NB786_790⟩ := n_; (try clear hb hb2 hi)) | (refine gL_ 161 10 Tryz.func161 #[.pointer (some ⟨g790, 0, none⟩)] ?_; (with_reducible refine (spec_l3Bent.calls k g790 t787 t788 t789 t791 t792 t795 t796 w _ ?side1 ?side2 A3.out).mono ?_); (case side1 => exact q21_15); (case side2 => exact q21_16); rintro e w13 ⟨v793, rfl, ho0, hi, hb, hk⟩; refine ⟨_, rfl, ?_⟩; have n_ := ac_ (KeepBut.blk hk (g' := gb785) (o := .cells #[.int .i64 0, .slice none 0 0] 29 (0, 0)) q21_21 NB785_790.out (by simp)) <| ac_ (KeepBut.blk hk (g' := gb786) (o := .cells #[.int .i64 0, .int .i64 0] 48 (0, 0)) q21_22 NB786_790.out (by simp)) <| ac_ (Kd.R_lower ho0 (below_size q21_16)) <| ac_ (hb) <| Aside0.mk (hi); clear BK785 BK786 HB HI790; obtain ⟨BK785, BK786, HO794, HB, HI790⟩ := n_; (try clear hb hk hi ho0)) | (refine be_ 5 #[.int .i64 0, .slice none 0 0] 29 ?_; intro gb797 hg w14 hbox hb; have n_ := ac_ (Kd.R_below q21_24 hb) <| ac_ (blk_below (g := gb785) (o := .cells #[.int .i64 0, .slice none 0 0] 29 (0, 0)) q21_21 hb) <| ac_ (blk_below (g := gb786) (o := .cells #[.int .i64 0, .int .i64 0] 48 (0, 0)) q21_22 hb) <| ac_ (IsS152.below q21_15 hb) <| ac_ (below_step q21_16 hb) <| ac_ (hbox) <| ac_ ((gz_ w hg q21_16)) <| ac_ ((gz_ w hg q21_16)) <| ac_ ((nl_ hg (blk_lt (g := gb785) (o := .cells #[.int .i64 0, .slice none 0 0] 29 (0, 0)) q21_21))) <| ac_ ((ng_ hg (blk_lt (g := gb785) (o := .cells #[.int .i64 0, .slice none 0 0] 29 (0, 0)) q21_21))) <| ac_ ((nl_ hg (blk_lt (g := gb786) (o := .cells #[.int .i64 0, .int .i64 0] 48 (0, 0)) q21_22))) <| ac_ ((ng_ hg (blk_lt (g := gb786) (o := .cells #[.int .i64 0, .int .i64 0] 48 (0, 0)) q21_22))) <| ac_ ((nl_ hg (IsS152.lt (show IsS152 w _ g790 t787 t795 t796 from q21_15)))) <| Aside0.mk ((ng_ hg (IsS152.lt (show IsS152 w _ g790 t787 t795 t796 from q21_15)))); clear HO794 BK785 BK786 HI790 HB; obtain ⟨HO794, BK785, BK786, HI790, HB, BK797, GW797, GE797, NB785_797, NB797_785, NB786_797, NB797_786, NB790_797, NB797_790⟩ := n_; clear hb hbox hg; have hnb15 := NB797_785.out; have hnc15 := NB785_797.out; have hnb16 := NB797_786.out; have hnc16 := NB786_797.out; have hnb17 := NB797_790.out; have hnc17 := NB790_797.out; have hcz18_0 : w14.cell? ⟨gb797, 0, none⟩ = some (.int .i64 0) := (blk_cell BK797.out 0).trans rfl; have hcz18_1 : w14.cell? ⟨gb797, 1, none⟩ = some (.slice none 0 0) := (blk_cell BK797.out 1).trans rfl; have hfz18_0 := blk_frozen BK797.out 0; have hfz18_1 := blk_frozen BK797.out 1; obtain ⟨Ao19, co19, eo19⟩ := Kd.R_slice HO794.out; subst eo19) | (refine gL_ 174 14 Tryz.func174 #[.int .i64 t791, .int .i64 6] ?_; (with_reducible refine (spec_l1Min.calls t791 6 t798 _ A4.out).mono ?_); rintro e w' ⟨rfl, ⟨nd, rfl⟩⟩; refine ⟨_, rfl, ?_⟩) | (refine gL_ 173 15 Tryz.func173 #[.int .i64 0, .int .i64 t798] ?_; (with_reducible refine (spec_l1Max.calls 0 t798 t799 _ A5.out).mono ?_); rintro e w' ⟨rfl, ⟨nd, rfl⟩⟩; refine ⟨_, rfl, ?_⟩) | (refine gL_ 172 16 Tryz.func172 #[.pointer (some ⟨g790, 0, none⟩), .int .i64 t799] ?_; (with_reducible refine (spec_l9Make.calls g790 t787 t795 t796 t799 t800 t801 t802 t803 w _ ?side1 ?side2 A6.out).mono ?_); (case side1 => exact q21_13); (case side2 => exact q21_14); rintro e w20 ⟨rfl, hi, hb, hk⟩; refine ⟨_, rfl, ?_⟩; have n_ := ac_ (KeepBut.blk hk (g' := gb785) (o := .cells #[.int .i64 0, .slice none 0 0] 29 (0, 0)) q21_5 NB785_790.out (by simp)) <| ac_ (KeepBut.blk hk (g' := gb786) (o := .cells #[.int .i64 0, .int .i64 0] 48 (0, 0)) q21_7 NB786_790.out (by simp)) <| ac_ (Kd.R_mono (Kd.R_keep (IsS152.apart (show IsS152 w _ g790 t787 t795 t796 from q21_13) (by (with_reducible repeat (first | apply Kd.R_alloc | apply Kd.R_drewN | apply Kd.R_drew)); exact (Kd.R_mono (Kd.R_far (p := ⟨gb797, 1, none⟩) (Kd.R_far (p := ⟨gb797, 0, none⟩) (Kd.R_types HO794.out BK797.out (by decide)) (fun _ hk => hk.2) (.int .i64 t791)) (fun _ hk => hk.2) (.slice Ao19 t792.length co19)) (fun _ h_ => h_.1))) (by decide)) hk (fun _ h => h.2)) (fun _ h => h.1)) <| ac_ (KeepBut.blk hk (g' := gb797) (o := .cells #[.int .i64 t791, .slice Ao19 t792.length co19] 29 (0, 0)) q21_3 NB797_790.out (by simp)) <| ac_ (hb) <| Aside0.mk (hi); clear BK785 BK786 HO794 BK797 HB HI790; obtain ⟨BK785, BK786, HO794, BK797, HB, HI790⟩ := n_; (try clear hb hk hi)) | (refine be_ 6 #[.int .i64 0, .int .i64 0] 48 ?_; intro gb804 hg w21 hbox hb; have n_ := ac_ (Kd.R_below q21_24 hb) <| ac_ (blk_below (g := gb785) (o := .cells #[.int .i64 0, .slice none 0 0] 29 (0, 0)) q21_21 hb) <| ac_ (blk_below (g := gb786) (o := .cells #[.int .i64 0, .int .i64 0] 48 (0, 0)) q21_22 hb) <| ac_ (IsS152.below q21_13 hb) <| ac_ (blk_below (g := gb797) (o := .cells #[.int .i64 t791, .slice Ao19 t792.length co19] 29 (0, 0)) q21_23 hb) <| ac_ (below_step q21_14 hb) <| ac_ (hbox) <| ac_ ((gz_ w hg q21_14)) <| ac_ ((gz_ w hg q21_14)) <| ac_ ((nl_ hg (blk_lt (g := gb785) (o := .cells #[.int .i64 0, .slice none 0 0] 29 (0, 0)) q21_21))) <| ac_ ((ng_ hg (blk_lt (g := gb785) (o := .cells #[.int .i64 0, .slice none 0 0] 29 (0, 0)) q21_21))) <| ac_ ((nl_ hg (blk_lt (g := gb786) (o := .cells #[.int .i64 0, .int .i64 0] 48 (0, 0)) q21_22))) <| ac_ ((ng_ hg (blk_lt (g := gb786) (o := .cells #[.int .i64 0, .int .i64 0] 48 (0, 0)) q21_22))) <| ac_ ((nl_ hg (blk_lt (g := gb797) (o := .cells #[.int .i64 t791, .slice Ao19 t792.length co19] 29 (0, 0)) q21_23))) <| ac_ ((ng_ hg (blk_lt (g := gb797) (o := .cells #[.int .i64 t791, .slice Ao19 t792.length co19] 29 (0, 0)) q21_23))) <| ac_ ((nl_ hg (IsS152.lt (show IsS152 w _ g790 t787 t802 t803 from q21_13)))) <| Aside0.mk ((ng_ hg (IsS152.lt (show IsS152 w _ g790 t787 t802 t803 from q21_13)))); clear HO794 BK785 BK786 HI790 BK797 HB; obtain ⟨HO794, BK785, BK786, HI790, BK797, HB, BK804, GW804, GE804, NB785_804, NB804_785, NB786_804, NB804_786, NB797_804, NB804_797, NB790_804, NB804_790⟩ := n_; clear hb hbox hg; have hnb22 := NB804_785.out; have hnc22 := NB785_804.out; have hnb23 := NB804_786.out; have hnc23 := NB786_804.out; have hnb24 := NB804_797.out; have hnc24 := NB797_804.out; have hnb25 := NB804_790.out; have hnc25 := NB790_804.out; have hcz26_0 : w21.cell? ⟨gb804, 0, none⟩ = some (.int .i64 0) := (blk_cell BK804.out 0).trans rfl; have hcz26_1 : w21.cell? ⟨gb804, 1, none⟩ = some (.int .i64 0) := (blk_cell BK804.out 1).trans rfl; have hfz26_0 := blk_frozen BK804.out 0; have hfz26_1 := blk_frozen BK804.out 1) | (refine gL_ 145 18 Tryz.func145 #[.pointer (some ⟨g790, 0, none⟩), .int .i64 3] ?_; (with_reducible refine (spec_l1Once.calls g790 t787 t802 t803 3 true t806 t807 w _ ?side1 ?side2 A7.out).mono ?_); (case side1 => exact q21_10); (case side2 => exact q21_12); rintro e w27 ⟨rfl, hi, hb, hk⟩; refine ⟨_, rfl, ?_⟩; have n_ := ac_ (KeepBut.blk hk (g' := gb785) (o := .cells #[.int .i64 0, .slice none 0 0] 29 (0, 0)) q21_6 NB785_790.out (by simp)) <| ac_ (KeepBut.blk hk (g' := gb786) (o := .cells #[.int .i64 0, .int .i64 0] 48 (0, 0)) q21_8 NB786_790.out (by simp)) <| ac_ (Kd.R_mono (Kd.R_keep (IsS152.apart (show IsS152 w _ g790 t787 t802 t803 from q21_10) q21_11 (by decide)) hk (fun _ h => h.2)) (fun _ h => h.1)) <| ac_ (KeepBut.blk hk (g' := gb797) (o := .cells #[.int .i64 t791, .slice Ao19 t792.length co19] 29 (0, 0)) q21_9 NB797_790.out (by simp)) <| ac_ (KeepBut.blk hk (g' := gb804) (o := .cells #[.int .i64 t800, .int .i64 t801] 48 (0, 0)) q21_4 NB804_790.out (by simp)) <| ac_ (hb) <| Aside0.mk (hi); clear BK785 BK786 HO794 BK797 BK804 HB HI790; obtain ⟨BK785, BK786, HO794, BK797, BK804, HB, HI790⟩ := n_; (try clear hb hk hi); have hcz28_0 : w27.cell? ⟨gb797, 0, none⟩ = some (.int .i64 t791) := (blk_cell BK797.out 0).trans rfl; have hcz28_1 : w27.cell? ⟨gb797, 1, none⟩ = some (.slice Ao19 t792.length co19) := (blk_cell BK797.out 1).trans rfl; have hfz28_0 := blk_frozen BK797.out 0; have hfz28_1 := blk_frozen BK797.out 1; have hcz29_0 : w27.cell? ⟨gb804, 0, none⟩ = some (.int .i64 t800) := (blk_cell BK804.out 0).trans rfl; have hcz29_1 : w27.cell? ⟨gb804, 1, none⟩ = some (.int .i64 t801) := (blk_cell BK804.out 1).trans rfl; have hfz29_0 := blk_frozen BK804.out 0; have hfz29_1 := blk_frozen BK804.out 1) | (refine gL_ 64 22 Tryz.func64 #[.agg #[.int .i64 t791, .slice Ao19 t792.length co19], .int .i64 t800] ?_; (with_reducible refine (spec_ClosureOf.calls k t791 _ _ t792 t800 t808 _ ?side1 ?side2 A9.out).mono ?_); (case side1 => repeat (first | exact (Kd.R_reads' HO794.out).2.2 | (with_reducible refine Kd.C_alloc ?_ _) | (with_reducible refine Kd.C_drewN ?_ _) | (with_reducible refine Kd.C_drew ?_))); (case side2 => exact (Kd.R_reads' HO794.out).2.1); rintro e w30 ⟨rfl, hb⟩; refine ⟨_, rfl, ?_⟩; have n_ := ac_ (Kd.R_below q21_24 hb) <| ac_ (blk_below (g := gb785) (o := .cells #[.int .i64 0, .slice none 0 0] 29 (0, 0)) q21_21 hb) <| ac_ (blk_below (g := gb786) (o := .cells #[.int .i64 0, .int .i64 0] 48 (0, 0)) q21_22 hb) <| ac_ (IsS152.below q21_10 hb) <| ac_ (blk_below (g := gb797) (o := .cells #[.int .i64 t791, .slice Ao19 t792.length co19] 29 (0, 0)) q21_23 hb) <| ac_ (blk_below (g := gb804) (o := .cells #[.int .i64 t800, .int .i64 t801] 48 (0, 0)) (by (with_reducible repeat (first | refine blk_drewN ?_ _ | refine blk_drew ?_ | refine blk_alloc ?_ _)); exact BK804.out) hb) <| Aside0.mk (below_step q21_12 hb); clear HO794 BK785 BK786 HI790 BK797 BK804 HB; obtain ⟨HO794, BK785, BK786, HI790, BK797, BK804, HB⟩ := n_; (try clear hb); have hcz31_0 : w30.cell? ⟨gb804, 0, none⟩ = some (.int .i64 t800) := (blk_cell BK804.out 0).trans rfl; have hcz31_1 : w30.cell? ⟨gb804, 1, none⟩ = some (.int .i64 t801) := (blk_cell BK804.out 1).trans rfl; have hfz31_0 := blk_frozen BK804.out 0; have hfz31_1 := blk_frozen BK804.out 1))
  have n0_ : Aside0 (Kd.R (Kd.int .i64) 3 (w30.setCell ⟨gb804, 1, none⟩ (.int .i64 t808)) w.heap.size (fun _ => True) (.slice Ao19 t792.length co19) t792) := ⟨by (with_reducible repeat (first | apply Kd.R_alloc | apply Kd.R_drewN | apply Kd.R_drew)); exact Kd.R_mono (Kd.R_far (p := ⟨gb804, 1, none⟩) (Kd.R_types HO794.out BK804.out (by decide)) (fun _ hk => hk.2) (.int .i64 t808)) (fun _ hk => trivial)⟩
  have n1_ : Aside0 ((w30.setCell ⟨gb804, 1, none⟩ (.int .i64 t808)).heap[gb785]? = some (.cells #[.int .i64 0, .slice none 0 0] 29 (0, 0))) := ⟨by (with_reducible repeat (first | refine blk_drewN ?_ _ | refine blk_drew ?_ | refine blk_alloc ?_ _)); refine blk_far ?_ NB785_804.out _; (with_reducible repeat (first | refine blk_drewN ?_ _ | refine blk_drew ?_ | refine blk_alloc ?_ _)); exact BK785.out⟩
  have n2_ : Aside0 ((w30.setCell ⟨gb804, 1, none⟩ (.int .i64 t808)).heap[gb786]? = some (.cells #[.int .i64 0, .int .i64 0] 48 (0, 0))) := ⟨by (with_reducible repeat (first | refine blk_drewN ?_ _ | refine blk_drew ?_ | refine blk_alloc ?_ _)); refine blk_far ?_ NB786_804.out _; (with_reducible repeat (first | refine blk_drewN ?_ _ | refine blk_drew ?_ | refine blk_alloc ?_ _)); exact BK786.out⟩
  have n3_ : Aside0 ((w30.setCell ⟨gb804, 1, none⟩ (.int .i64 t808)).heap[gb797]? = some (.cells #[.int .i64 t791, .slice Ao19 t792.length co19] 29 (0, 0))) := ⟨by (with_reducible repeat (first | refine blk_drewN ?_ _ | refine blk_drew ?_ | refine blk_alloc ?_ _)); refine blk_far ?_ NB797_804.out _; (with_reducible repeat (first | refine blk_drewN ?_ _ | refine blk_drew ?_ | refine blk_alloc ?_ _)); exact BK797.out⟩
  have n4_ : Aside0 ((w30.setCell ⟨gb804, 1, none⟩ (.int .i64 t808)).heap[gb804]? = some (.cells #[.int .i64 t800, .int .i64 t808] 48 (0, 0))) := ⟨by (with_reducible repeat (first | refine blk_drewN ?_ _ | refine blk_drew ?_ | refine blk_alloc ?_ _)); refine blk_put (cs := #[.int .i64 t800, .int .i64 t801]) ?_ 1 _ rfl; (with_reducible repeat (first | refine blk_drewN ?_ _ | refine blk_drew ?_ | refine blk_alloc ?_ _)); exact BK804.out⟩
  have n5_ : Aside0 (IsS152 w (w30.setCell ⟨gb804, 1, none⟩ (.int .i64 t808)) g790 t787 t806 t807) := ⟨by repeat (first | (with_reducible first | exact HI790.out | apply IsS152.alloc | apply IsS152.drewN | apply IsS152.drew | apply IsS152.set_1 | apply IsS152.set_2 | refine IsS152.far ?_ NB790_785.out _ | refine IsS152.far ?_ NB790_786.out _ | refine IsS152.far ?_ NB790_797.out _ | refine IsS152.far ?_ NB790_804.out _) | exact HI790.out)⟩
  have n6_ : Aside0 (Below w.heap.size w (w30.setCell ⟨gb804, 1, none⟩ (.int .i64 t808))) := ⟨by repeat (first | (with_reducible first | exact HB.out | apply below_alloc | apply pw_below_drewN | apply below_drew1 | refine below_set ?_ (IsS152.ge HI790.out) | refine below_set ?_ GE785.out | refine below_set ?_ GE786.out | refine below_set ?_ GE797.out | refine below_set ?_ GE804.out) | exact HB.out)⟩
  (try clear HO794)
  (try clear BK785)
  (try clear BK786)
  (try clear BK797)
  (try clear BK804)
  (try clear HI790)
  (try clear HB)
  generalize (w30.setCell ⟨gb804, 1, none⟩ (.int .i64 t808)) = w32 at n0_ n1_ n2_ n3_ n4_ n5_ n6_ ⊢
  have HO794 := n0_; have BK785 := n1_; have BK786 := n2_; have BK797 := n3_; have BK804 := n4_; have HI790 := n5_; have HB := n6_; clear n0_ n1_ n2_ n3_ n4_ n5_ n6_; have n0_ := Aside0.mk (Kd.R_drew HO794.out); have n1_ := Aside0.mk (blk_drew BK785.out); have n2_ := Aside0.mk (blk_drew BK786.out); have n3_ := Aside0.mk (blk_drew BK797.out); have n4_ := Aside0.mk (blk_drew BK804.out); have n5_ := Aside0.mk (IsS152.drew HI790.out); have n6_ := Aside0.mk (below_drew1 HB.out); clear HO794; clear BK785; clear BK786; clear BK797; clear BK804; clear HI790; clear HB; have HO794 := n0_; have BK785 := n1_; have BK786 := n2_; have BK797 := n3_; have BK804 := n4_; have HI790 := n5_; have HB := n6_; clear n0_ n1_ n2_ n3_ n4_ n5_ n6_
  refine start_ (n := 4) (S := fun w' => w'.cell? ⟨gb797, 0, none⟩ = some (.int .i64 t791) ∧ w'.cell? ⟨gb797, 1, none⟩ = some (.slice Ao19 t792.length co19) ∧ w'.cell? ⟨gb804, 0, none⟩ = some (.int .i64 t800) ∧ w'.cell? ⟨gb804, 1, none⟩ = some (.int .i64 t808)) (ds := []) (tb_ 4 0) s10_ rfl rfl ⟨(blk_cell BK797.out 0).trans rfl, (blk_cell BK797.out 1).trans rfl, (blk_cell BK804.out 0).trans rfl, (blk_cell BK804.out 1).trans rfl⟩ (fun hHeld => ?_)
  generalize w32.drew = w33 at HO794 BK785 BK786 BK797 BK804 HI790 HB hHeld ⊢
  refine take_ (i := 0) (N := some 24) (v := ?_) (a' := ?_) (tb_ 4 1) rfl rfl s10_ (fun _ _ _ h => h) (Or.inl ⟨by rfl, ?_⟩) hHeld ?_ ?_
  rotate_left
  ·
   rintro w' ⟨s0, s1, s2, s3⟩
   go_simp; with_reducible rfl
  rotate_left
  ·
   exact s9_
  refine take_ (i := 1) (N := some 25) (v := ?_) (a' := ?_) (tb_ 4 3) rfl rfl s10_ (fun _ _ _ h => h) (Or.inl ⟨by rfl, ?_⟩) hHeld ?_ ?_
  rotate_left
  ·
   rintro w' ⟨s0, s1, s2, s3⟩
   go_simp; with_reducible rfl
  rotate_left
  ·
   exact s9_
  refine one_ (i := 2) (N := none) (tb_ 4 7) rfl rfl s10_ (by decide) (fun K hK => ?_)
  have hs34 : w33.cell? ⟨gb785, 0, none⟩ = some (.int .i64 0) := (blk_cell BK785.out 0).trans rfl; have hfs34 := blk_frozen BK785.out 0; have hns34_1 := NB786_785.out; have hns34_2 := NB797_785.out; have hns34_3 := NB804_785.out; have hms34_1 := NB785_786.out; have hms34_2 := NB785_797.out; have hms34_3 := NB785_804.out; have hs35 : w33.cell? ⟨gb785, 1, none⟩ = some (.slice none 0 0) := (blk_cell BK785.out 1).trans rfl; have hfs35 := blk_frozen BK785.out 1; have hns35_1 := NB786_785.out; have hns35_2 := NB797_785.out; have hns35_3 := NB804_785.out; have hms35_1 := NB785_786.out; have hms35_2 := NB785_797.out; have hms35_3 := NB785_804.out
  refine skip_ (w1 := ?_) (by rfl) rfl ?_ ?_
  rotate_left
  ·
   go_simp
   rfl
  refine hK.out _ _ ⟨((cell_far (p := ⟨gb785, _, none⟩) NB797_785.out _).trans (((cell_far (p := ⟨gb785, _, none⟩) NB797_785.out _).trans (hHeld.1)))), ((cell_far (p := ⟨gb785, _, none⟩) NB797_785.out _).trans (((cell_far (p := ⟨gb785, _, none⟩) NB797_785.out _).trans (hHeld.2.1)))), ((cell_far (p := ⟨gb785, _, none⟩) NB804_785.out _).trans (((cell_far (p := ⟨gb785, _, none⟩) NB804_785.out _).trans (hHeld.2.2.1)))), ((cell_far (p := ⟨gb785, _, none⟩) NB804_785.out _).trans (((cell_far (p := ⟨gb785, _, none⟩) NB804_785.out _).trans (hHeld.2.2.2))))⟩ (fun hHeld => ?_)
  clear hK K
  refine one_ (i := 3) (N := none) (tb_ 4 15) rfl rfl s10_ (by decide) (fun K hK => ?_)
  have hs36 : w33.cell? ⟨gb786, 0, none⟩ = some (.int .i64 0) := (blk_cell BK786.out 0).trans rfl; have hfs36 := blk_frozen BK786.out 0; have hns36_0 := NB785_786.out; have hns36_2 := NB797_786.out; have hns36_3 := NB804_786.out; have hms36_0 := NB786_785.out; have hms36_2 := NB786_797.out; have hms36_3 := NB786_804.out; have hs37 : w33.cell? ⟨gb786, 1, none⟩ = some (.int .i64 0) := (blk_cell BK786.out 1).trans rfl; have hfs37 := blk_frozen BK786.out 1; have hns37_0 := NB785_786.out; have hns37_2 := NB797_786.out; have hns37_3 := NB804_786.out; have hms37_0 := NB786_785.out; have hms37_2 := NB786_797.out; have hms37_3 := NB786_804.out
  refine skip_ (w1 := ?_) (by rfl) rfl ?_ ?_
  rotate_left
  ·
   go_simp
   rfl
  refine hK.out _ _ ⟨((cell_far (p := ⟨gb786, _, none⟩) NB797_786.out _).trans (((cell_far (p := ⟨gb786, _, none⟩) NB797_786.out _).trans (hHeld.1)))), ((cell_far (p := ⟨gb786, _, none⟩) NB797_786.out _).trans (((cell_far (p := ⟨gb786, _, none⟩) NB797_786.out _).trans (hHeld.2.1)))), ((cell_far (p := ⟨gb786, _, none⟩) NB804_786.out _).trans (((cell_far (p := ⟨gb786, _, none⟩) NB804_786.out _).trans (hHeld.2.2.1)))), ((cell_far (p := ⟨gb786, _, none⟩) NB804_786.out _).trans (((cell_far (p := ⟨gb786, _, none⟩) NB804_786.out _).trans (hHeld.2.2.2))))⟩ (fun hHeld => ?_)
  clear hK K
  refine done_ s10_ ?_
  try go_wp2
  refine bodyPost_ret (results_cc rfl _ _ gb785 gb786 29 48 #[.int .i64 t791, .slice Ao19 t792.length co19] #[.int .i64 t800, .int .i64 t808] (0, 0) (0, 0) _ _ rfl q21_1 Tryz.underlying29 rfl s10_ rfl q21_2 Tryz.underlying48 rfl s10_) rfl ?_
  exact ⟨_, (by first | rfl | (simp [errW_none, errW_some] <;> rfl) | (simp [*, errW_none, errW_some] <;> rfl)), (by (with_reducible repeat (first | apply Kd.R_alloc | apply Kd.R_drewN | apply Kd.R_drew)); exact Kd.R_mono (Kd.R_far (p := ⟨gb786, 1, none⟩) (Kd.R_far (p := ⟨gb786, 0, none⟩) (Kd.R_far (p := ⟨gb785, 1, none⟩) (Kd.R_far (p := ⟨gb785, 0, none⟩) (Kd.R_types (Kd.R_types HO794.out BK785.out (by decide)) BK786.out (by decide)) (fun _ hk => hk.1.2) (.int .i64 t791)) (fun _ hk => hk.1.2) (.slice Ao19 t792.length co19)) (fun _ hk => hk.2) (.int .i64 t800)) (fun _ hk => hk.2) (.int .i64 t808)) (fun _ hk => trivial)), q21_12⟩
 ·
  replace c8 := Bool.eq_false_iff.mpr c8; subst c8
  rw [if_neg (show ¬ (false = true) by decide)] at H
  simp only [Option.some.injEq, Prod.mk.injEq] at H
  obtain ⟨rfl, rfl, rfl, rfl⟩ := H
  go_enter Tryz.func65, Tryz.ntmps65
  try go_wp2_with ((with_reducible refine gw_ rfl ?_); first | (refine be_ 2 #[.int .i64 0, .slice none 0 0] 29 ?_; intro gb785 hg w38 hbox hb; have n_ := ac_ (below_step s1_ hb) <| ac_ (hbox) <| ac_ ((gz_ w hg s1_)) <| Aside0.mk ((gz_ w hg s1_)); clear HB; obtain ⟨HB, BK785, GW785, GE785⟩ := n_; clear hb hbox hg) | (refine be_ 3 #[.int .i64 0, .int .i64 0] 48 ?_; intro gb786 hg w39 hbox hb; have n_ := ac_ (blk_below (g := gb785) (o := .cells #[.int .i64 0, .slice none 0 0] 29 (0, 0)) q21_21 hb) <| ac_ (below_step q21_18 hb) <| ac_ (hbox) <| ac_ ((gz_ w hg q21_18)) <| ac_ ((gz_ w hg q21_18)) <| ac_ ((nl_ hg (blk_lt (g := gb785) (o := .cells #[.int .i64 0, .slice none 0 0] 29 (0, 0)) q21_21))) <| Aside0.mk ((ng_ hg (blk_lt (g := gb785) (o := .cells #[.int .i64 0, .slice none 0 0] 29 (0, 0)) q21_21))); clear BK785 HB; obtain ⟨BK785, HB, BK786, GW786, GE786, NB785_786, NB786_785⟩ := n_; clear hb hbox hg) | (refine gL_ 144 8 Tryz.func144 #[.slice A0 l0.length c0] ?_; (with_reducible refine (spec_l1New.calls k _ _ l0 t787 t788 t789 w _ ?side1 ?side2 ?side3 A2.out).mono ?_); (case side1 => exact q21_17); (case side2 => exact HR0.out); (case side3 => exact HC0.out); rintro e w40 ⟨g790, rfl, hi, hb, hb2⟩; refine ⟨_, rfl, ?_⟩; have n_ := ac_ (blk_below (g := gb785) (o := .cells #[.int .i64 0, .slice none 0 0] 29 (0, 0)) q21_21 hb2) <| ac_ (blk_below (g := gb786) (o := .cells #[.int .i64 0, .int .i64 0] 48 (0, 0)) q21_22 hb2) <| ac_ (hb) <| ac_ (hi) <| ac_ (IsS152.ne_blk hi (blk_below (g := gb785) (o := .cells #[.int .i64 0, .slice none 0 0] 29 (0, 0)) q21_21 hb2) (by decide)) <| ac_ (Ne.symm (IsS152.ne_blk hi (blk_below (g := gb785) (o := .cells #[.int .i64 0, .slice none 0 0] 29 (0, 0)) q21_21 hb2) (by decide))) <| ac_ (IsS152.ne_blk hi (blk_below (g := gb786) (o := .cells #[.int .i64 0, .int .i64 0] 48 (0, 0)) q21_22 hb2) (by decide)) <| Aside0.mk (Ne.symm (IsS152.ne_blk hi (blk_below (g := gb786) (o := .cells #[.int .i64 0, .int .i64 0] 48 (0, 0)) q21_22 hb2) (by decide))); clear BK785 BK786 HB; obtain ⟨BK785, BK786, HB, HI790, NB790_785, NB785_790, NB790_786, NB786_790⟩ := n_; (try clear hb hb2 hi)) | (refine gL_ 161 10 Tryz.func161 #[.pointer (some ⟨g790, 0, none⟩)] ?_; (with_reducible refine (spec_l3Bent.calls k g790 t787 t788 t789 t791 t792 t795 t796 w _ ?side1 ?side2 A3.out).mono ?_); (case side1 => exact q21_15); (case side2 => exact q21_16); rintro e w41 ⟨v793, rfl, ho0, hi, hb, hk⟩; refine ⟨_, rfl, ?_⟩; have n_ := ac_ (KeepBut.blk hk (g' := gb785) (o := .cells #[.int .i64 0, .slice none 0 0] 29 (0, 0)) q21_21 NB785_790.out (by simp)) <| ac_ (KeepBut.blk hk (g' := gb786) (o := .cells #[.int .i64 0, .int .i64 0] 48 (0, 0)) q21_22 NB786_790.out (by simp)) <| ac_ (Kd.R_lower ho0 (below_size q21_16)) <| ac_ (hb) <| Aside0.mk (hi); clear BK785 BK786 HB HI790; obtain ⟨BK785, BK786, HO794, HB, HI790⟩ := n_; (try clear hb hk hi ho0)) | (refine be_ 5 #[.int .i64 0, .slice none 0 0] 29 ?_; intro gb797 hg w42 hbox hb; have n_ := ac_ (Kd.R_below q21_24 hb) <| ac_ (blk_below (g := gb785) (o := .cells #[.int .i64 0, .slice none 0 0] 29 (0, 0)) q21_21 hb) <| ac_ (blk_below (g := gb786) (o := .cells #[.int .i64 0, .int .i64 0] 48 (0, 0)) q21_22 hb) <| ac_ (IsS152.below q21_15 hb) <| ac_ (below_step q21_16 hb) <| ac_ (hbox) <| ac_ ((gz_ w hg q21_16)) <| ac_ ((gz_ w hg q21_16)) <| ac_ ((nl_ hg (blk_lt (g := gb785) (o := .cells #[.int .i64 0, .slice none 0 0] 29 (0, 0)) q21_21))) <| ac_ ((ng_ hg (blk_lt (g := gb785) (o := .cells #[.int .i64 0, .slice none 0 0] 29 (0, 0)) q21_21))) <| ac_ ((nl_ hg (blk_lt (g := gb786) (o := .cells #[.int .i64 0, .int .i64 0] 48 (0, 0)) q21_22))) <| ac_ ((ng_ hg (blk_lt (g := gb786) (o := .cells #[.int .i64 0, .int .i64 0] 48 (0, 0)) q21_22))) <| ac_ ((nl_ hg (IsS152.lt (show IsS152 w _ g790 t787 t795 t796 from q21_15)))) <| Aside0.mk ((ng_ hg (IsS152.lt (show IsS152 w _ g790 t787 t795 t796 from q21_15)))); clear HO794 BK785 BK786 HI790 HB; obtain ⟨HO794, BK785, BK786, HI790, HB, BK797, GW797, GE797, NB785_797, NB797_785, NB786_797, NB797_786, NB790_797, NB797_790⟩ := n_; clear hb hbox hg; have hnb43 := NB797_785.out; have hnc43 := NB785_797.out; have hnb44 := NB797_786.out; have hnc44 := NB786_797.out; have hnb45 := NB797_790.out; have hnc45 := NB790_797.out; have hcz46_0 : w42.cell? ⟨gb797, 0, none⟩ = some (.int .i64 0) := (blk_cell BK797.out 0).trans rfl; have hcz46_1 : w42.cell? ⟨gb797, 1, none⟩ = some (.slice none 0 0) := (blk_cell BK797.out 1).trans rfl; have hfz46_0 := blk_frozen BK797.out 0; have hfz46_1 := blk_frozen BK797.out 1; obtain ⟨Ao47, co47, eo47⟩ := Kd.R_slice HO794.out; subst eo47) | (refine gL_ 174 14 Tryz.func174 #[.int .i64 t791, .int .i64 6] ?_; (with_reducible refine (spec_l1Min.calls t791 6 t798 _ A4.out).mono ?_); rintro e w' ⟨rfl, ⟨nd, rfl⟩⟩; refine ⟨_, rfl, ?_⟩) | (refine gL_ 173 15 Tryz.func173 #[.int .i64 0, .int .i64 t798] ?_; (with_reducible refine (spec_l1Max.calls 0 t798 t799 _ A5.out).mono ?_); rintro e w' ⟨rfl, ⟨nd, rfl⟩⟩; refine ⟨_, rfl, ?_⟩) | (refine gL_ 172 16 Tryz.func172 #[.pointer (some ⟨g790, 0, none⟩), .int .i64 t799] ?_; (with_reducible refine (spec_l9Make.calls g790 t787 t795 t796 t799 t800 t801 t802 t803 w _ ?side1 ?side2 A6.out).mono ?_); (case side1 => exact q21_13); (case side2 => exact q21_14); rintro e w48 ⟨rfl, hi, hb, hk⟩; refine ⟨_, rfl, ?_⟩; have n_ := ac_ (KeepBut.blk hk (g' := gb785) (o := .cells #[.int .i64 0, .slice none 0 0] 29 (0, 0)) q21_5 NB785_790.out (by simp)) <| ac_ (KeepBut.blk hk (g' := gb786) (o := .cells #[.int .i64 0, .int .i64 0] 48 (0, 0)) q21_7 NB786_790.out (by simp)) <| ac_ (Kd.R_mono (Kd.R_keep (IsS152.apart (show IsS152 w _ g790 t787 t795 t796 from q21_13) (by (with_reducible repeat (first | apply Kd.R_alloc | apply Kd.R_drewN | apply Kd.R_drew)); exact (Kd.R_mono (Kd.R_far (p := ⟨gb797, 1, none⟩) (Kd.R_far (p := ⟨gb797, 0, none⟩) (Kd.R_types HO794.out BK797.out (by decide)) (fun _ hk => hk.2) (.int .i64 t791)) (fun _ hk => hk.2) (.slice Ao47 t792.length co47)) (fun _ h_ => h_.1))) (by decide)) hk (fun _ h => h.2)) (fun _ h => h.1)) <| ac_ (KeepBut.blk hk (g' := gb797) (o := .cells #[.int .i64 t791, .slice Ao47 t792.length co47] 29 (0, 0)) q21_3 NB797_790.out (by simp)) <| ac_ (hb) <| Aside0.mk (hi); clear BK785 BK786 HO794 BK797 HB HI790; obtain ⟨BK785, BK786, HO794, BK797, HB, HI790⟩ := n_; (try clear hb hk hi)) | (refine be_ 6 #[.int .i64 0, .int .i64 0] 48 ?_; intro gb804 hg w49 hbox hb; have n_ := ac_ (Kd.R_below q21_24 hb) <| ac_ (blk_below (g := gb785) (o := .cells #[.int .i64 0, .slice none 0 0] 29 (0, 0)) q21_21 hb) <| ac_ (blk_below (g := gb786) (o := .cells #[.int .i64 0, .int .i64 0] 48 (0, 0)) q21_22 hb) <| ac_ (IsS152.below q21_13 hb) <| ac_ (blk_below (g := gb797) (o := .cells #[.int .i64 t791, .slice Ao47 t792.length co47] 29 (0, 0)) q21_23 hb) <| ac_ (below_step q21_14 hb) <| ac_ (hbox) <| ac_ ((gz_ w hg q21_14)) <| ac_ ((gz_ w hg q21_14)) <| ac_ ((nl_ hg (blk_lt (g := gb785) (o := .cells #[.int .i64 0, .slice none 0 0] 29 (0, 0)) q21_21))) <| ac_ ((ng_ hg (blk_lt (g := gb785) (o := .cells #[.int .i64 0, .slice none 0 0] 29 (0, 0)) q21_21))) <| ac_ ((nl_ hg (blk_lt (g := gb786) (o := .cells #[.int .i64 0, .int .i64 0] 48 (0, 0)) q21_22))) <| ac_ ((ng_ hg (blk_lt (g := gb786) (o := .cells #[.int .i64 0, .int .i64 0] 48 (0, 0)) q21_22))) <| ac_ ((nl_ hg (blk_lt (g := gb797) (o := .cells #[.int .i64 t791, .slice Ao47 t792.length co47] 29 (0, 0)) q21_23))) <| ac_ ((ng_ hg (blk_lt (g := gb797) (o := .cells #[.int .i64 t791, .slice Ao47 t792.length co47] 29 (0, 0)) q21_23))) <| ac_ ((nl_ hg (IsS152.lt (show IsS152 w _ g790 t787 t802 t803 from q21_13)))) <| Aside0.mk ((ng_ hg (IsS152.lt (show IsS152 w _ g790 t787 t802 t803 from q21_13)))); clear HO794 BK785 BK786 HI790 BK797 HB; obtain ⟨HO794, BK785, BK786, HI790, BK797, HB, BK804, GW804, GE804, NB785_804, NB804_785, NB786_804, NB804_786, NB797_804, NB804_797, NB790_804, NB804_790⟩ := n_; clear hb hbox hg; have hnb50 := NB804_785.out; have hnc50 := NB785_804.out; have hnb51 := NB804_786.out; have hnc51 := NB786_804.out; have hnb52 := NB804_797.out; have hnc52 := NB797_804.out; have hnb53 := NB804_790.out; have hnc53 := NB790_804.out; have hcz54_0 : w49.cell? ⟨gb804, 0, none⟩ = some (.int .i64 0) := (blk_cell BK804.out 0).trans rfl; have hcz54_1 : w49.cell? ⟨gb804, 1, none⟩ = some (.int .i64 0) := (blk_cell BK804.out 1).trans rfl; have hfz54_0 := blk_frozen BK804.out 0; have hfz54_1 := blk_frozen BK804.out 1) | (refine gL_ 145 18 Tryz.func145 #[.pointer (some ⟨g790, 0, none⟩), .int .i64 3] ?_; (with_reducible refine (spec_l1Once.calls g790 t787 t802 t803 3 false t806 t807 w _ ?side1 ?side2 A7.out).mono ?_); (case side1 => exact q21_10); (case side2 => exact q21_12); rintro e w55 ⟨rfl, hi, hb, hk⟩; refine ⟨_, rfl, ?_⟩; have n_ := ac_ (KeepBut.blk hk (g' := gb785) (o := .cells #[.int .i64 0, .slice none 0 0] 29 (0, 0)) q21_6 NB785_790.out (by simp)) <| ac_ (KeepBut.blk hk (g' := gb786) (o := .cells #[.int .i64 0, .int .i64 0] 48 (0, 0)) q21_8 NB786_790.out (by simp)) <| ac_ (Kd.R_mono (Kd.R_keep (IsS152.apart (show IsS152 w _ g790 t787 t802 t803 from q21_10) q21_11 (by decide)) hk (fun _ h => h.2)) (fun _ h => h.1)) <| ac_ (KeepBut.blk hk (g' := gb797) (o := .cells #[.int .i64 t791, .slice Ao47 t792.length co47] 29 (0, 0)) q21_9 NB797_790.out (by simp)) <| ac_ (KeepBut.blk hk (g' := gb804) (o := .cells #[.int .i64 t800, .int .i64 t801] 48 (0, 0)) q21_4 NB804_790.out (by simp)) <| ac_ (hb) <| Aside0.mk (hi); clear BK785 BK786 HO794 BK797 BK804 HB HI790; obtain ⟨BK785, BK786, HO794, BK797, BK804, HB, HI790⟩ := n_; (try clear hb hk hi)))
  have n0_ := Aside0.mk (Kd.R_drew HO794.out); have n1_ := Aside0.mk (blk_drew BK785.out); have n2_ := Aside0.mk (blk_drew BK786.out); have n3_ := Aside0.mk (blk_drew BK797.out); have n4_ := Aside0.mk (blk_drew BK804.out); have n5_ := Aside0.mk (IsS152.drew HI790.out); have n6_ := Aside0.mk (below_drew1 HB.out); clear HO794; clear BK785; clear BK786; clear BK797; clear BK804; clear HI790; clear HB; have HO794 := n0_; have BK785 := n1_; have BK786 := n2_; have BK797 := n3_; have BK804 := n4_; have HI790 := n5_; have HB := n6_; clear n0_ n1_ n2_ n3_ n4_ n5_ n6_
  refine start_ (n := 4) (S := fun w' => w'.cell? ⟨gb797, 0, none⟩ = some (.int .i64 t791) ∧ w'.cell? ⟨gb797, 1, none⟩ = some (.slice Ao47 t792.length co47) ∧ w'.cell? ⟨gb804, 0, none⟩ = some (.int .i64 t800) ∧ w'.cell? ⟨gb804, 1, none⟩ = some (.int .i64 t801)) (ds := []) (tb_ 4 0) s10_ rfl rfl ⟨(blk_cell BK797.out 0).trans rfl, (blk_cell BK797.out 1).trans rfl, (blk_cell BK804.out 0).trans rfl, (blk_cell BK804.out 1).trans rfl⟩ (fun hHeld => ?_)
  generalize w55.drew = w56 at HO794 BK785 BK786 BK797 BK804 HI790 HB hHeld ⊢
  refine take_ (i := 0) (N := some 24) (v := ?_) (a' := ?_) (tb_ 4 1) rfl rfl s10_ (fun _ _ _ h => h) (Or.inl ⟨by rfl, ?_⟩) hHeld ?_ ?_
  rotate_left
  ·
   rintro w' ⟨s0, s1, s2, s3⟩
   go_simp; with_reducible rfl
  rotate_left
  ·
   exact s9_
  refine take_ (i := 1) (N := some 25) (v := ?_) (a' := ?_) (tb_ 4 3) rfl rfl s10_ (fun _ _ _ h => h) (Or.inl ⟨by rfl, ?_⟩) hHeld ?_ ?_
  rotate_left
  ·
   rintro w' ⟨s0, s1, s2, s3⟩
   go_simp; with_reducible rfl
  rotate_left
  ·
   exact s9_
  refine one_ (i := 2) (N := none) (tb_ 4 7) rfl rfl s10_ (by decide) (fun K hK => ?_)
  have hs57 : w56.cell? ⟨gb785, 0, none⟩ = some (.int .i64 0) := (blk_cell BK785.out 0).trans rfl; have hfs57 := blk_frozen BK785.out 0; have hns57_1 := NB786_785.out; have hns57_2 := NB797_785.out; have hns57_3 := NB804_785.out; have hms57_1 := NB785_786.out; have hms57_2 := NB785_797.out; have hms57_3 := NB785_804.out; have hs58 : w56.cell? ⟨gb785, 1, none⟩ = some (.slice none 0 0) := (blk_cell BK785.out 1).trans rfl; have hfs58 := blk_frozen BK785.out 1; have hns58_1 := NB786_785.out; have hns58_2 := NB797_785.out; have hns58_3 := NB804_785.out; have hms58_1 := NB785_786.out; have hms58_2 := NB785_797.out; have hms58_3 := NB785_804.out
  refine skip_ (w1 := ?_) (by rfl) rfl ?_ ?_
  rotate_left
  ·
   go_simp
   rfl
  refine hK.out _ _ ⟨((cell_far (p := ⟨gb785, _, none⟩) NB797_785.out _).trans (((cell_far (p := ⟨gb785, _, none⟩) NB797_785.out _).trans (hHeld.1)))), ((cell_far (p := ⟨gb785, _, none⟩) NB797_785.out _).trans (((cell_far (p := ⟨gb785, _, none⟩) NB797_785.out _).trans (hHeld.2.1)))), ((cell_far (p := ⟨gb785, _, none⟩) NB804_785.out _).trans (((cell_far (p := ⟨gb785, _, none⟩) NB804_785.out _).trans (hHeld.2.2.1)))), ((cell_far (p := ⟨gb785, _, none⟩) NB804_785.out _).trans (((cell_far (p := ⟨gb785, _, none⟩) NB804_785.out _).trans (hHeld.2.2.2))))⟩ (fun hHeld => ?_)
  clear hK K
  refine one_ (i := 3) (N := none) (tb_ 4 15) rfl rfl s10_ (by decide) (fun K hK => ?_)
  have hs59 : w56.cell? ⟨gb786, 0, none⟩ = some (.int .i64 0) := (blk_cell BK786.out 0).trans rfl; have hfs59 := blk_frozen BK786.out 0; have hns59_0 := NB785_786.out; have hns59_2 := NB797_786.out; have hns59_3 := NB804_786.out; have hms59_0 := NB786_785.out; have hms59_2 := NB786_797.out; have hms59_3 := NB786_804.out; have hs60 : w56.cell? ⟨gb786, 1, none⟩ = some (.int .i64 0) := (blk_cell BK786.out 1).trans rfl; have hfs60 := blk_frozen BK786.out 1; have hns60_0 := NB785_786.out; have hns60_2 := NB797_786.out; have hns60_3 := NB804_786.out; have hms60_0 := NB786_785.out; have hms60_2 := NB786_797.out; have hms60_3 := NB786_804.out
  refine skip_ (w1 := ?_) (by rfl) rfl ?_ ?_
  rotate_left
  ·
   go_simp
   rfl
  refine hK.out _ _ ⟨((cell_far (p := ⟨gb786, _, none⟩) NB797_786.out _).trans (((cell_far (p := ⟨gb786, _, none⟩) NB797_786.out _).trans (hHeld.1)))), ((cell_far (p := ⟨gb786, _, none⟩) NB797_786.out _).trans (((cell_far (p := ⟨gb786, _, none⟩) NB797_786.out _).trans (hHeld.2.1)))), ((cell_far (p := ⟨gb786, _, none⟩) NB804_786.out _).trans (((cell_far (p := ⟨gb786, _, none⟩) NB804_786.out _).trans (hHeld.2.2.1)))), ((cell_far (p := ⟨gb786, _, none⟩) NB804_786.out _).trans (((cell_far (p := ⟨gb786, _, none⟩) NB804_786.out _).trans (hHeld.2.2.2))))⟩ (fun hHeld => ?_)
  clear hK K
  refine done_ s10_ ?_
  try go_wp2
  refine bodyPost_ret (results_cc rfl _ _ gb785 gb786 29 48 #[.int .i64 t791, .slice Ao47 t792.length co47] #[.int .i64 t800, .int .i64 t801] (0, 0) (0, 0) _ _ rfl q21_1 Tryz.underlying29 rfl s10_ rfl q21_2 Tryz.underlying48 rfl s10_) rfl ?_
  exact ⟨_, (by first | rfl | (simp [errW_none, errW_some] <;> rfl) | (simp [*, errW_none, errW_some] <;> rfl)), (by (with_reducible repeat (first | apply Kd.R_alloc | apply Kd.R_drewN | apply Kd.R_drew)); exact Kd.R_mono (Kd.R_far (p := ⟨gb786, 1, none⟩) (Kd.R_far (p := ⟨gb786, 0, none⟩) (Kd.R_far (p := ⟨gb785, 1, none⟩) (Kd.R_far (p := ⟨gb785, 0, none⟩) (Kd.R_types (Kd.R_types HO794.out BK785.out (by decide)) BK786.out (by decide)) (fun _ hk => hk.1.2) (.int .i64 t791)) (fun _ hk => hk.1.2) (.slice Ao47 t792.length co47)) (fun _ hk => hk.2) (.int .i64 t800)) (fun _ hk => hk.2) (.int .i64 t801)) (fun _ hk => trivial)), q21_12⟩
theorem q21_26 {P : Prop} (h : P := by repeat (first | (with_reducible first | exact HI856.out | apply IsS152.alloc | apply IsS152.drewN | apply IsS152.drew | apply IsS152.set_1 | apply IsS152.set_2) | exact HI856.out)) : P := h
theorem q21_27 {P : Prop} (h : P := by repeat (first | (with_reducible first | exact HB.out | apply below_alloc | apply pw_below_drewN | apply below_drew1 | refine below_set ?_ (IsS152.ge HI856.out)) | exact HB.out)) : P := h
theorem q21_30 {P : Prop} (h : P := by (with_reducible repeat (first | apply Kd.R_alloc | apply Kd.R_drewN | apply Kd.R_drew)); exact HO859.out) : P := h
def spec_DrawClosedBy.f (k : Nat) (l0 : List Int) : Option ((List (S48)) × Int) := (spec_l1New.f k l0).bind fun bt853 => ((spec_l9Bent.f k bt853.1 bt853.2.1 bt853.2.2 5).bind fun bt857 => ((spec_l1Once.f bt853.1 bt857.2.1 bt857.2.2 12).bind fun bt862 => (if bt862.1 = true then ((spec_l2Bent.f bt853.1 bt862.2.1 bt862.2.2).bind fun bt865 => (some (bt857.1, bt865.1))) else ((spec_l1Below.f bt853.1 bt862.2.1 bt862.2.2 32).bind fun bt868 => (some (bt857.1, bt868.1))))))
theorem spec_DrawClosedBy.calls (k : Nat) (A0 : Option Addr) (c0 : Nat) (l0 : List Int) (r1 : List (S48)) (r2 : Int) (w : World) (hr0 : Kd.C (Kd.int .u8) w A0 l0.length l0) (hc0 : l0.length ≤ c0) (h : spec_DrawClosedBy.f k l0 = some (r1, r2)) :
  Calls Tryz.prog 69 #[.slice A0 l0.length c0] w fun e w' => ∃ v0_ : Value, e = .returned (.tuple #[v0_, .int .i64 r2]) ∧ Kd.R k48 48 w' w.heap.size (fun _ => True) v0_ r1 ∧ Below w.heap.size w w' := by
 have HR0 := Aside0.mk hr0; have HC0 := Aside0.mk hc0; clear hr0 hc0; have HB := Aside0.mk (Below.refl w.heap.size w); have H := h; clear h; unfold spec_DrawClosedBy.f at H; obtain ⟨⟨t853, t854, t855⟩, A2, H⟩ := bnd21_ H; dsimp only at H; obtain ⟨⟨t857, t860, t861⟩, A3, H⟩ := bnd21_ H; dsimp only at H; obtain ⟨⟨t862, t863, t864⟩, A4, H⟩ := bnd21_ H; dsimp only at H
 by_cases c5 : t862 = true
 ·
  subst c5; rw [if_pos rfl] at H; obtain ⟨⟨t865, t866, t867⟩, A6, H⟩ := bnd21_ H; dsimp only at H
  simp only [Option.some.injEq, Prod.mk.injEq] at H
  obtain ⟨rfl, rfl⟩ := H
  go_enter Tryz.func69, Tryz.ntmps69
  go_wp2_with ((with_reducible refine gw_ rfl ?_); first | (refine gL_ 144 7 Tryz.func144 #[.slice A0 l0.length c0] ?_; (with_reducible refine (spec_l1New.calls k _ _ l0 t853 t854 t855 w _ ?side1 ?side2 ?side3 A2.out).mono ?_); (case side1 => exact s1_); (case side2 => exact HR0.out); (case side3 => exact HC0.out); rintro e w7 ⟨g856, rfl, hi, hb, hb2⟩; refine ⟨_, rfl, ?_⟩; have n_ := ac_ (hb) <| Aside0.mk (hi); clear HB; obtain ⟨HB, HI856⟩ := n_; (try clear hb hb2 hi)) | (refine gL_ 148 9 Tryz.func148 #[.pointer (some ⟨g856, 0, none⟩), .int .i64 5] ?_; (with_reducible refine (spec_l9Bent.calls k g856 t853 t854 t855 5 t857 t860 t861 w _ ?side1 ?side2 A3.out).mono ?_); (case side1 => exact q21_26); (case side2 => exact q21_27); rintro e w8 ⟨v858, rfl, ho0, hi, hb, hk⟩; refine ⟨_, rfl, ?_⟩; have n_ := ac_ (Kd.R_lower ho0 (below_size q21_27)) <| ac_ (hb) <| Aside0.mk (hi); clear HB HI856; obtain ⟨HO859, HB, HI856⟩ := n_; (try clear hb hk hi ho0)) | (refine gL_ 145 11 Tryz.func145 #[.pointer (some ⟨g856, 0, none⟩), .int .i64 12] ?_; (with_reducible refine (spec_l1Once.calls g856 t853 t860 t861 12 true t863 t864 w _ ?side1 ?side2 A4.out).mono ?_); (case side1 => exact q21_26); (case side2 => exact q21_27); rintro e w9 ⟨rfl, hi, hb, hk⟩; refine ⟨_, rfl, ?_⟩; have n_ := ac_ (Kd.R_mono (Kd.R_keep (IsS152.apart (show IsS152 w _ g856 t853 t860 t861 from q21_26) q21_30 (by decide)) hk (fun _ h => h.2)) (fun _ h => h.1)) <| ac_ (hb) <| Aside0.mk (hi); clear HO859 HB HI856; obtain ⟨HO859, HB, HI856⟩ := n_; (try clear hb hk hi)) | (refine gL_ 176 14 Tryz.func176 #[.pointer (some ⟨g856, 0, none⟩)] ?_; (with_reducible refine (spec_l2Bent.calls g856 t853 t863 t864 t865 t866 t867 w _ ?side1 ?side2 A6.out).mono ?_); (case side1 => exact q21_26); (case side2 => exact q21_27); rintro e w10 ⟨rfl, hi, hb, hk⟩; refine ⟨_, rfl, ?_⟩; have n_ := ac_ (Kd.R_mono (Kd.R_keep (IsS152.apart (show IsS152 w _ g856 t853 t863 t864 from q21_26) q21_30 (by decide)) hk (fun _ h => h.2)) (fun _ h => h.1)) <| ac_ (hb) <| Aside0.mk (hi); clear HO859 HB HI856; obtain ⟨HO859, HB, HI856⟩ := n_; (try clear hb hk hi)))
  go_ret2
  exact ⟨_, (by first | rfl | (simp [errW_none, errW_some] <;> rfl) | (simp [*, errW_none, errW_some] <;> rfl)), q21_30, q21_27⟩
 ·
  replace c5 := Bool.eq_false_iff.mpr c5; subst c5
  rw [if_neg (show ¬ (false = true) by decide)] at H
  obtain ⟨⟨t868, t869, t870⟩, A11, H⟩ := bnd21_ H; dsimp only at H
  simp only [Option.some.injEq, Prod.mk.injEq] at H
  obtain ⟨rfl, rfl⟩ := H
  go_enter Tryz.func69, Tryz.ntmps69
  go_wp2_with ((with_reducible refine gw_ rfl ?_); first | (refine gL_ 144 7 Tryz.func144 #[.slice A0 l0.length c0] ?_; (with_reducible refine (spec_l1New.calls k _ _ l0 t853 t854 t855 w _ ?side1 ?side2 ?side3 A2.out).mono ?_); (case side1 => exact s1_); (case side2 => exact HR0.out); (case side3 => exact HC0.out); rintro e w12 ⟨g856, rfl, hi, hb, hb2⟩; refine ⟨_, rfl, ?_⟩; have n_ := ac_ (hb) <| Aside0.mk (hi); clear HB; obtain ⟨HB, HI856⟩ := n_; (try clear hb hb2 hi)) | (refine gL_ 148 9 Tryz.func148 #[.pointer (some ⟨g856, 0, none⟩), .int .i64 5] ?_; (with_reducible refine (spec_l9Bent.calls k g856 t853 t854 t855 5 t857 t860 t861 w _ ?side1 ?side2 A3.out).mono ?_); (case side1 => exact q21_26); (case side2 => exact q21_27); rintro e w13 ⟨v858, rfl, ho0, hi, hb, hk⟩; refine ⟨_, rfl, ?_⟩; have n_ := ac_ (Kd.R_lower ho0 (below_size q21_27)) <| ac_ (hb) <| Aside0.mk (hi); clear HB HI856; obtain ⟨HO859, HB, HI856⟩ := n_; (try clear hb hk hi ho0)) | (refine gL_ 145 11 Tryz.func145 #[.pointer (some ⟨g856, 0, none⟩), .int .i64 12] ?_; (with_reducible refine (spec_l1Once.calls g856 t853 t860 t861 12 false t863 t864 w _ ?side1 ?side2 A4.out).mono ?_); (case side1 => exact q21_26); (case side2 => exact q21_27); rintro e w14 ⟨rfl, hi, hb, hk⟩; refine ⟨_, rfl, ?_⟩; have n_ := ac_ (Kd.R_mono (Kd.R_keep (IsS152.apart (show IsS152 w _ g856 t853 t860 t861 from q21_26) q21_30 (by decide)) hk (fun _ h => h.2)) (fun _ h => h.1)) <| ac_ (hb) <| Aside0.mk (hi); clear HO859 HB HI856; obtain ⟨HO859, HB, HI856⟩ := n_; (try clear hb hk hi)) | (refine gL_ 146 17 Tryz.func146 #[.pointer (some ⟨g856, 0, none⟩), .int .i64 32] ?_; (with_reducible refine (spec_l1Below.calls g856 t853 t863 t864 32 t868 t869 t870 w _ ?side1 ?side2 A11.out).mono ?_); (case side1 => exact q21_26); (case side2 => exact q21_27); rintro e w15 ⟨rfl, hi, hb, hk⟩; refine ⟨_, rfl, ?_⟩; have n_ := ac_ (Kd.R_mono (Kd.R_keep (IsS152.apart (show IsS152 w _ g856 t853 t863 t864 from q21_26) q21_30 (by decide)) hk (fun _ h => h.2)) (fun _ h => h.1)) <| ac_ (hb) <| Aside0.mk (hi); clear HO859 HB HI856; obtain ⟨HO859, HB, HI856⟩ := n_; (try clear hb hk hi)))
  go_ret2
  exact ⟨_, (by first | rfl | (simp [errW_none, errW_some] <;> rfl) | (simp [*, errW_none, errW_some] <;> rfl)), q21_30, q21_27⟩
theorem bnd22_ {α β : Type} {o : Option α} {f : α → Option β} {r : β} (h : o.bind f = some r) : ∃ a, Aside0 (o = some a) ∧ f a = some r := by
 obtain ⟨a, h1, h2⟩ := Option.bind_eq_some_iff.mp h
 exact ⟨a, ⟨h1⟩, h2⟩
theorem q22_1 {P : Prop} (h : P := by (with_reducible repeat (first | refine blk_drewN ?_ _ | refine blk_drew ?_ | refine blk_alloc ?_ _)); refine blk_put (cs := #[.int .i64 t876, .int .i64 0]) ?_ 1 _ rfl; (with_reducible repeat (first | refine blk_drewN ?_ _ | refine blk_drew ?_ | refine blk_alloc ?_ _)); refine blk_put (cs := #[.int .i64 0, .int .i64 0]) ?_ 0 _ rfl; (with_reducible repeat (first | refine blk_drewN ?_ _ | refine blk_drew ?_ | refine blk_alloc ?_ _)); exact BK880.out) : P := h
theorem q22_2 {P : Prop} (h : P := by (with_reducible repeat (first | refine blk_drewN ?_ _ | refine blk_drew ?_ | refine blk_alloc ?_ _)); refine blk_far ?_ NB871_880.out _; (with_reducible repeat (first | refine blk_drewN ?_ _ | refine blk_drew ?_ | refine blk_alloc ?_ _)); refine blk_far ?_ NB871_880.out _; (with_reducible repeat (first | refine blk_drewN ?_ _ | refine blk_drew ?_ | refine blk_alloc ?_ _)); exact BK871.out) : P := h
theorem q22_3 {P : Prop} (h : P := by repeat (first | (with_reducible first | exact HI875.out | apply IsS152.alloc | apply IsS152.drewN | apply IsS152.drew | apply IsS152.set_1 | apply IsS152.set_2 | refine IsS152.far ?_ NB875_871.out _ | refine IsS152.far ?_ NB875_880.out _) | exact HI875.out)) : P := h
theorem q22_4 {P : Prop} (h : P := by repeat (first | (with_reducible first | exact HB.out | apply below_alloc | apply pw_below_drewN | apply below_drew1 | refine below_set ?_ (IsS152.ge HI875.out) | refine below_set ?_ GE871.out | refine below_set ?_ GE880.out) | exact HB.out)) : P := h
theorem q22_5 {P : Prop} (h : P := by repeat (first | (with_reducible first | exact HI875.out | apply IsS152.alloc | apply IsS152.drewN | apply IsS152.drew | apply IsS152.set_1 | apply IsS152.set_2 | refine IsS152.far ?_ NB875_871.out _) | exact HI875.out)) : P := h
theorem q22_6 {P : Prop} (h : P := by repeat (first | (with_reducible first | exact HB.out | apply below_alloc | apply pw_below_drewN | apply below_drew1 | refine below_set ?_ (IsS152.ge HI875.out) | refine below_set ?_ GE871.out) | exact HB.out)) : P := h
theorem q22_7 {P : Prop} (h : P := by repeat (first | (with_reducible first | exact HB.out | apply below_alloc | apply pw_below_drewN | apply below_drew1 | refine below_set ?_ GE871.out) | exact HB.out)) : P := h
theorem q22_10 {P : Prop} (h : P := by (with_reducible repeat (first | refine blk_drewN ?_ _ | refine blk_drew ?_ | refine blk_alloc ?_ _)); exact BK871.out) : P := h
theorem q22_11 {P : Prop} (h : P := by (with_reducible repeat (first | refine blk_drewN ?_ _ | refine blk_drew ?_ | refine blk_alloc ?_ _)); exact BK880.out) : P := h
def spec_DrawRespects.f (k : Nat) (l0 : List Int) : Option (Int × Int × Int) := (spec_l1New.f k l0).bind fun bt872 => ((spec_l9Make.f bt872.1 bt872.2.1 bt872.2.2 4).bind fun bt876 => ((spec_l1Once.f bt872.1 bt876.2.2.1 bt876.2.2.2 10).bind fun bt881 => (if bt881.1 = true then ((spec_l2Bent.f bt872.1 bt881.2.1 bt881.2.2).bind fun bt884 => ((spec_l1Below.f bt872.1 bt884.2.1 bt884.2.2 17).bind fun bt887 => (some (bt884.1, bt876.2.1, bt887.1)))) else ((spec_l1Below.f bt872.1 bt881.2.1 bt881.2.2 17).bind fun bt890 => (some (bt876.1, bt876.2.1, bt890.1))))))
theorem spec_DrawRespects.calls (k : Nat) (A0 : Option Addr) (c0 : Nat) (l0 : List Int) (r1 : Int) (r2 : Int) (r3 : Int) (w : World) (hr0 : Kd.C (Kd.int .u8) w A0 l0.length l0) (hc0 : l0.length ≤ c0) (h : spec_DrawRespects.f k l0 = some (r1, r2, r3)) :
  Calls Tryz.prog 71 #[.slice A0 l0.length c0] w fun e w' => e = .returned (.tuple #[.agg #[.int .i64 r1, .int .i64 r2], .int .i64 r3]) ∧ Below w.heap.size w w' := by
 have hu48 := Tryz.underlying48; have HR0 := Aside0.mk hr0; have HC0 := Aside0.mk hc0; clear hr0 hc0; have HB := Aside0.mk (Below.refl w.heap.size w); have H := h; clear h; unfold spec_DrawRespects.f at H; obtain ⟨⟨t872, t873, t874⟩, A2, H⟩ := bnd22_ H; dsimp only at H; obtain ⟨⟨t876, t877, t878, t879⟩, A3, H⟩ := bnd22_ H; dsimp only at H; obtain ⟨⟨t881, t882, t883⟩, A4, H⟩ := bnd22_ H; dsimp only at H
 by_cases c5 : t881 = true
 ·
  subst c5; rw [if_pos rfl] at H; obtain ⟨⟨t884, t885, t886⟩, A6, H⟩ := bnd22_ H; dsimp only at H; obtain ⟨⟨t887, t888, t889⟩, A7, H⟩ := bnd22_ H; dsimp only at H
  simp only [Option.some.injEq, Prod.mk.injEq] at H
  obtain ⟨rfl, rfl, rfl⟩ := H
  go_enter Tryz.func71, Tryz.ntmps71
  try go_wp2_with ((with_reducible refine gw_ rfl ?_); first | (refine be_ 2 #[.int .i64 0, .int .i64 0] 48 ?_; intro gb871 hg w8 hbox hb; have n_ := ac_ (below_step s1_ hb) <| ac_ (hbox) <| ac_ ((gz_ w hg s1_)) <| Aside0.mk ((gz_ w hg s1_)); clear HB; obtain ⟨HB, BK871, GW871, GE871⟩ := n_; clear hb hbox hg) | (refine gL_ 144 7 Tryz.func144 #[.slice A0 l0.length c0] ?_; (with_reducible refine (spec_l1New.calls k _ _ l0 t872 t873 t874 w _ ?side1 ?side2 ?side3 A2.out).mono ?_); (case side1 => exact q22_7); (case side2 => exact HR0.out); (case side3 => exact HC0.out); rintro e w9 ⟨g875, rfl, hi, hb, hb2⟩; refine ⟨_, rfl, ?_⟩; have n_ := ac_ (blk_below (g := gb871) (o := .cells #[.int .i64 0, .int .i64 0] 48 (0, 0)) q22_10 hb2) <| ac_ (hb) <| ac_ (hi) <| ac_ (IsS152.ne_blk hi (blk_below (g := gb871) (o := .cells #[.int .i64 0, .int .i64 0] 48 (0, 0)) q22_10 hb2) (by decide)) <| Aside0.mk (Ne.symm (IsS152.ne_blk hi (blk_below (g := gb871) (o := .cells #[.int .i64 0, .int .i64 0] 48 (0, 0)) q22_10 hb2) (by decide))); clear BK871 HB; obtain ⟨BK871, HB, HI875, NB875_871, NB871_875⟩ := n_; (try clear hb hb2 hi)) | (refine gL_ 172 9 Tryz.func172 #[.pointer (some ⟨g875, 0, none⟩), .int .i64 4] ?_; (with_reducible refine (spec_l9Make.calls g875 t872 t873 t874 4 t876 t877 t878 t879 w _ ?side1 ?side2 A3.out).mono ?_); (case side1 => exact q22_5); (case side2 => exact q22_6); rintro e w10 ⟨rfl, hi, hb, hk⟩; refine ⟨_, rfl, ?_⟩; have n_ := ac_ (KeepBut.blk hk (g' := gb871) (o := .cells #[.int .i64 0, .int .i64 0] 48 (0, 0)) q22_10 NB871_875.out (by simp)) <| ac_ (hb) <| Aside0.mk (hi); clear BK871 HB HI875; obtain ⟨BK871, HB, HI875⟩ := n_; (try clear hb hk hi)) | (refine be_ 5 #[.int .i64 0, .int .i64 0] 48 ?_; intro gb880 hg w11 hbox hb; have n_ := ac_ (blk_below (g := gb871) (o := .cells #[.int .i64 0, .int .i64 0] 48 (0, 0)) q22_10 hb) <| ac_ (IsS152.below q22_5 hb) <| ac_ (below_step q22_6 hb) <| ac_ (hbox) <| ac_ ((gz_ w hg q22_6)) <| ac_ ((gz_ w hg q22_6)) <| ac_ ((nl_ hg (blk_lt (g := gb871) (o := .cells #[.int .i64 0, .int .i64 0] 48 (0, 0)) q22_10))) <| ac_ ((ng_ hg (blk_lt (g := gb871) (o := .cells #[.int .i64 0, .int .i64 0] 48 (0, 0)) q22_10))) <| ac_ ((nl_ hg (IsS152.lt (show IsS152 w _ g875 t872 t878 t879 from q22_5)))) <| Aside0.mk ((ng_ hg (IsS152.lt (show IsS152 w _ g875 t872 t878 t879 from q22_5)))); clear BK871 HI875 HB; obtain ⟨BK871, HI875, HB, BK880, GW880, GE880, NB871_880, NB880_871, NB875_880, NB880_875⟩ := n_; clear hb hbox hg; have hnb12 := NB880_871.out; have hnc12 := NB871_880.out; have hnb13 := NB880_875.out; have hnc13 := NB875_880.out; have hcz14_0 : w11.cell? ⟨gb880, 0, none⟩ = some (.int .i64 0) := (blk_cell BK880.out 0).trans rfl; have hcz14_1 : w11.cell? ⟨gb880, 1, none⟩ = some (.int .i64 0) := (blk_cell BK880.out 1).trans rfl; have hfz14_0 := blk_frozen BK880.out 0; have hfz14_1 := blk_frozen BK880.out 1) | (refine gL_ 145 11 Tryz.func145 #[.pointer (some ⟨g875, 0, none⟩), .int .i64 10] ?_; (with_reducible refine (spec_l1Once.calls g875 t872 t878 t879 10 true t882 t883 w _ ?side1 ?side2 A4.out).mono ?_); (case side1 => exact q22_3); (case side2 => exact q22_4); rintro e w15 ⟨rfl, hi, hb, hk⟩; refine ⟨_, rfl, ?_⟩; have n_ := ac_ (KeepBut.blk hk (g' := gb871) (o := .cells #[.int .i64 0, .int .i64 0] 48 (0, 0)) q22_2 NB871_875.out (by simp)) <| ac_ (KeepBut.blk hk (g' := gb880) (o := .cells #[.int .i64 t876, .int .i64 t877] 48 (0, 0)) q22_1 NB880_875.out (by simp)) <| ac_ (hb) <| Aside0.mk (hi); clear BK871 BK880 HB HI875; obtain ⟨BK871, BK880, HB, HI875⟩ := n_; (try clear hb hk hi)) | (refine gL_ 176 13 Tryz.func176 #[.pointer (some ⟨g875, 0, none⟩)] ?_; (with_reducible refine (spec_l2Bent.calls g875 t872 t882 t883 t884 t885 t886 w _ ?side1 ?side2 A6.out).mono ?_); (case side1 => exact q22_3); (case side2 => exact q22_4); rintro e w16 ⟨rfl, hi, hb, hk⟩; refine ⟨_, rfl, ?_⟩; have n_ := ac_ (KeepBut.blk hk (g' := gb871) (o := .cells #[.int .i64 0, .int .i64 0] 48 (0, 0)) q22_10 NB871_875.out (by simp)) <| ac_ (KeepBut.blk hk (g' := gb880) (o := .cells #[.int .i64 t876, .int .i64 t877] 48 (0, 0)) q22_11 NB880_875.out (by simp)) <| ac_ (hb) <| Aside0.mk (hi); clear BK871 BK880 HB HI875; obtain ⟨BK871, BK880, HB, HI875⟩ := n_; (try clear hb hk hi); have hcz17_0 : w16.cell? ⟨gb880, 0, none⟩ = some (.int .i64 t876) := (blk_cell BK880.out 0).trans rfl; have hcz17_1 : w16.cell? ⟨gb880, 1, none⟩ = some (.int .i64 t877) := (blk_cell BK880.out 1).trans rfl; have hfz17_0 := blk_frozen BK880.out 0; have hfz17_1 := blk_frozen BK880.out 1))
  have n0_ : Aside0 ((w16.setCell ⟨gb880, 0, none⟩ (.int .i64 t884)).heap[gb871]? = some (.cells #[.int .i64 0, .int .i64 0] 48 (0, 0))) := ⟨by (with_reducible repeat (first | refine blk_drewN ?_ _ | refine blk_drew ?_ | refine blk_alloc ?_ _)); refine blk_far ?_ NB871_880.out _; (with_reducible repeat (first | refine blk_drewN ?_ _ | refine blk_drew ?_ | refine blk_alloc ?_ _)); exact BK871.out⟩
  have n1_ : Aside0 ((w16.setCell ⟨gb880, 0, none⟩ (.int .i64 t884)).heap[gb880]? = some (.cells #[.int .i64 t884, .int .i64 t877] 48 (0, 0))) := ⟨by (with_reducible repeat (first | refine blk_drewN ?_ _ | refine blk_drew ?_ | refine blk_alloc ?_ _)); refine blk_put (cs := #[.int .i64 t876, .int .i64 t877]) ?_ 0 _ rfl; (with_reducible repeat (first | refine blk_drewN ?_ _ | refine blk_drew ?_ | refine blk_alloc ?_ _)); exact BK880.out⟩
  have n2_ : Aside0 (IsS152 w (w16.setCell ⟨gb880, 0, none⟩ (.int .i64 t884)) g875 t872 t885 t886) := ⟨by repeat (first | (with_reducible first | exact HI875.out | apply IsS152.alloc | apply IsS152.drewN | apply IsS152.drew | apply IsS152.set_1 | apply IsS152.set_2 | refine IsS152.far ?_ NB875_871.out _ | refine IsS152.far ?_ NB875_880.out _) | exact HI875.out)⟩
  have n3_ : Aside0 (Below w.heap.size w (w16.setCell ⟨gb880, 0, none⟩ (.int .i64 t884))) := ⟨by repeat (first | (with_reducible first | exact HB.out | apply below_alloc | apply pw_below_drewN | apply below_drew1 | refine below_set ?_ (IsS152.ge HI875.out) | refine below_set ?_ GE871.out | refine below_set ?_ GE880.out) | exact HB.out)⟩
  (try clear BK871)
  (try clear BK880)
  (try clear HI875)
  (try clear HB)
  generalize (w16.setCell ⟨gb880, 0, none⟩ (.int .i64 t884)) = w18 at n0_ n1_ n2_ n3_ ⊢
  have BK871 := n0_; have BK880 := n1_; have HI875 := n2_; have HB := n3_; clear n0_ n1_ n2_ n3_; have n0_ := Aside0.mk (blk_drew BK871.out); have n1_ := Aside0.mk (blk_drew BK880.out); have n2_ := Aside0.mk (IsS152.drew HI875.out); have n3_ := Aside0.mk (below_drew1 HB.out); clear BK871; clear BK880; clear HI875; clear HB; have BK871 := n0_; have BK880 := n1_; have HI875 := n2_; have HB := n3_; clear n0_ n1_ n2_ n3_
  refine start_ (n := 5) (S := fun w' => w'.cell? ⟨gb880, 0, none⟩ = some (.int .i64 t884) ∧ w'.cell? ⟨gb880, 1, none⟩ = some (.int .i64 t877)) (ds := []) (tb_ 5 0) s10_ rfl rfl ⟨(blk_cell BK880.out 0).trans rfl, (blk_cell BK880.out 1).trans rfl⟩ (fun hHeld => ?_)
  generalize w18.drew = w19 at BK871 BK880 HI875 HB hHeld ⊢
  refine pl_ 1 16 (tb_ 5 2) ?_
  refine take_ (i := 0) (N := some 15) (v := ?_) (a' := ?_) (tb_ 5 3) rfl rfl s10_ (fun _ _ _ h => h) (Or.inl ⟨by rfl, ?_⟩) hHeld ?_ ?_
  rotate_left
  ·
   rintro w' ⟨s0, s1⟩
   go_simp; with_reducible rfl
  rotate_left
  ·
   exact s9_
  refine one_ (i := 2) (N := some 17) (tb_ 5 7) rfl rfl s10_ (by decide) (fun K hK => ?_)
  refine goes_ Tryz.func146 s10_ rfl #[.pointer (some ⟨g875, 0, none⟩), .int .i64 17] (by rfl) rfl rfl s0_ ?_
  with_reducible refine (spec_l1Below.calls g875 t872 t885 t886 17 t887 t888 t889 w _ ?side1 ?side2 A7.out).mono ?_
  (case side1 => exact q22_3)
  (case side2 => exact q22_4)
  rintro e w20 ⟨rfl, hi, hb, hk⟩
  refine ⟨_, rfl, ?_⟩
  have n0_ := Aside0.mk (KeepBut.blk hk (g' := gb871) (o := .cells #[.int .i64 0, .int .i64 0] 48 (0, 0)) q22_10 NB871_875.out (by simp))
  have n1_ := Aside0.mk (KeepBut.blk hk (g' := gb880) (o := .cells #[.int .i64 t884, .int .i64 t877] 48 (0, 0)) q22_11 NB880_875.out (by simp))
  have n2_ := Aside0.mk (hb); have n3_ := Aside0.mk (hi); clear BK871; clear BK880; clear HB; clear HI875; have BK871 := n0_; have BK880 := n1_; have HB := n2_; have HI875 := n3_; clear n0_ n1_ n2_ n3_
  (try clear hb)
  (try clear hb2)
  (try clear hk)
  (try clear hi)
  refine hK.out _ _ ⟨(blk_cell BK880.out 0).trans rfl, (blk_cell BK880.out 1).trans rfl⟩ (fun hHeld => ?_)
  clear hK K
  refine norm_ (a' := ?_) ?_ ?_
  rotate_left
  ·
   show Act.put _ (some 17) _ = _
   exact s9_
  refine one_ (i := 3) (N := none) (tb_ 5 15) rfl rfl s10_ (by decide) (fun K hK => ?_)
  have hs21 : w20.cell? ⟨gb871, 0, none⟩ = some (.int .i64 0) := (blk_cell BK871.out 0).trans rfl; have hfs21 := blk_frozen BK871.out 0; have hns21_1 := NB880_871.out; have hms21_1 := NB871_880.out; have hs22 : w20.cell? ⟨gb871, 1, none⟩ = some (.int .i64 0) := (blk_cell BK871.out 1).trans rfl; have hfs22 := blk_frozen BK871.out 1; have hns22_1 := NB880_871.out; have hms22_1 := NB871_880.out
  refine skip_ (w1 := ?_) (by rfl) rfl ?_ ?_
  rotate_left
  ·
   go_simp
   rfl
  refine hK.out _ _ ⟨((cell_far (p := ⟨gb871, _, none⟩) NB880_871.out _).trans (((cell_far (p := ⟨gb871, _, none⟩) NB880_871.out _).trans (hHeld.1)))), ((cell_far (p := ⟨gb871, _, none⟩) NB880_871.out _).trans (((cell_far (p := ⟨gb871, _, none⟩) NB880_871.out _).trans (hHeld.2))))⟩ (fun hHeld => ?_)
  clear hK K; refine pl_ 4 3 (tb_ 5 31) ?_
  refine done_ s10_ ?_
  try go_wp2
  refine bodyPost_ret (results_ct rfl _ _ gb871 48 #[.int .i64 t884, .int .i64 t877] (0, 0) _ rfl (by (with_reducible repeat (first | refine blk_drewN ?_ _ | refine blk_drew ?_ | refine blk_alloc ?_ _)); refine blk_put (cs := #[.int .i64 t884, .int .i64 0]) ?_ 1 _ rfl; (with_reducible repeat (first | refine blk_drewN ?_ _ | refine blk_drew ?_ | refine blk_alloc ?_ _)); refine blk_put (cs := #[.int .i64 0, .int .i64 0]) ?_ 0 _ rfl; (with_reducible repeat (first | refine blk_drewN ?_ _ | refine blk_drew ?_ | refine blk_alloc ?_ _)); exact BK871.out) Tryz.underlying48 rfl s10_) rfl ?_
  exact ⟨(by first | rfl | (simp [errW_none, errW_some] <;> rfl) | (simp [*, errW_none, errW_some] <;> rfl)), q22_4⟩
 ·
  replace c5 := Bool.eq_false_iff.mpr c5; subst c5
  rw [if_neg (show ¬ (false = true) by decide)] at H
  obtain ⟨⟨t890, t891, t892⟩, A23, H⟩ := bnd22_ H; dsimp only at H
  simp only [Option.some.injEq, Prod.mk.injEq] at H
  obtain ⟨rfl, rfl, rfl⟩ := H
  go_enter Tryz.func71, Tryz.ntmps71
  try go_wp2_with ((with_reducible refine gw_ rfl ?_); first | (refine be_ 2 #[.int .i64 0, .int .i64 0] 48 ?_; intro gb871 hg w24 hbox hb; have n_ := ac_ (below_step s1_ hb) <| ac_ (hbox) <| ac_ ((gz_ w hg s1_)) <| Aside0.mk ((gz_ w hg s1_)); clear HB; obtain ⟨HB, BK871, GW871, GE871⟩ := n_; clear hb hbox hg) | (refine gL_ 144 7 Tryz.func144 #[.slice A0 l0.length c0] ?_; (with_reducible refine (spec_l1New.calls k _ _ l0 t872 t873 t874 w _ ?side1 ?side2 ?side3 A2.out).mono ?_); (case side1 => exact q22_7); (case side2 => exact HR0.out); (case side3 => exact HC0.out); rintro e w25 ⟨g875, rfl, hi, hb, hb2⟩; refine ⟨_, rfl, ?_⟩; have n_ := ac_ (blk_below (g := gb871) (o := .cells #[.int .i64 0, .int .i64 0] 48 (0, 0)) q22_10 hb2) <| ac_ (hb) <| ac_ (hi) <| ac_ (IsS152.ne_blk hi (blk_below (g := gb871) (o := .cells #[.int .i64 0, .int .i64 0] 48 (0, 0)) q22_10 hb2) (by decide)) <| Aside0.mk (Ne.symm (IsS152.ne_blk hi (blk_below (g := gb871) (o := .cells #[.int .i64 0, .int .i64 0] 48 (0, 0)) q22_10 hb2) (by decide))); clear BK871 HB; obtain ⟨BK871, HB, HI875, NB875_871, NB871_875⟩ := n_; (try clear hb hb2 hi)) | (refine gL_ 172 9 Tryz.func172 #[.pointer (some ⟨g875, 0, none⟩), .int .i64 4] ?_; (with_reducible refine (spec_l9Make.calls g875 t872 t873 t874 4 t876 t877 t878 t879 w _ ?side1 ?side2 A3.out).mono ?_); (case side1 => exact q22_5); (case side2 => exact q22_6); rintro e w26 ⟨rfl, hi, hb, hk⟩; refine ⟨_, rfl, ?_⟩; have n_ := ac_ (KeepBut.blk hk (g' := gb871) (o := .cells #[.int .i64 0, .int .i64 0] 48 (0, 0)) q22_10 NB871_875.out (by simp)) <| ac_ (hb) <| Aside0.mk (hi); clear BK871 HB HI875; obtain ⟨BK871, HB, HI875⟩ := n_; (try clear hb hk hi)) | (refine be_ 5 #[.int .i64 0, .int .i64 0] 48 ?_; intro gb880 hg w27 hbox hb; have n_ := ac_ (blk_below (g := gb871) (o := .cells #[.int .i64 0, .int .i64 0] 48 (0, 0)) q22_10 hb) <| ac_ (IsS152.below q22_5 hb) <| ac_ (below_step q22_6 hb) <| ac_ (hbox) <| ac_ ((gz_ w hg q22_6)) <| ac_ ((gz_ w hg q22_6)) <| ac_ ((nl_ hg (blk_lt (g := gb871) (o := .cells #[.int .i64 0, .int .i64 0] 48 (0, 0)) q22_10))) <| ac_ ((ng_ hg (blk_lt (g := gb871) (o := .cells #[.int .i64 0, .int .i64 0] 48 (0, 0)) q22_10))) <| ac_ ((nl_ hg (IsS152.lt (show IsS152 w _ g875 t872 t878 t879 from q22_5)))) <| Aside0.mk ((ng_ hg (IsS152.lt (show IsS152 w _ g875 t872 t878 t879 from q22_5)))); clear BK871 HI875 HB; obtain ⟨BK871, HI875, HB, BK880, GW880, GE880, NB871_880, NB880_871, NB875_880, NB880_875⟩ := n_; clear hb hbox hg; have hnb28 := NB880_871.out; have hnc28 := NB871_880.out; have hnb29 := NB880_875.out; have hnc29 := NB875_880.out; have hcz30_0 : w27.cell? ⟨gb880, 0, none⟩ = some (.int .i64 0) := (blk_cell BK880.out 0).trans rfl; have hcz30_1 : w27.cell? ⟨gb880, 1, none⟩ = some (.int .i64 0) := (blk_cell BK880.out 1).trans rfl; have hfz30_0 := blk_frozen BK880.out 0; have hfz30_1 := blk_frozen BK880.out 1) | (refine gL_ 145 11 Tryz.func145 #[.pointer (some ⟨g875, 0, none⟩), .int .i64 10] ?_; (with_reducible refine (spec_l1Once.calls g875 t872 t878 t879 10 false t882 t883 w _ ?side1 ?side2 A4.out).mono ?_); (case side1 => exact q22_3); (case side2 => exact q22_4); rintro e w31 ⟨rfl, hi, hb, hk⟩; refine ⟨_, rfl, ?_⟩; have n_ := ac_ (KeepBut.blk hk (g' := gb871) (o := .cells #[.int .i64 0, .int .i64 0] 48 (0, 0)) q22_2 NB871_875.out (by simp)) <| ac_ (KeepBut.blk hk (g' := gb880) (o := .cells #[.int .i64 t876, .int .i64 t877] 48 (0, 0)) q22_1 NB880_875.out (by simp)) <| ac_ (hb) <| Aside0.mk (hi); clear BK871 BK880 HB HI875; obtain ⟨BK871, BK880, HB, HI875⟩ := n_; (try clear hb hk hi)))
  have n0_ := Aside0.mk (blk_drew BK871.out); have n1_ := Aside0.mk (blk_drew BK880.out); have n2_ := Aside0.mk (IsS152.drew HI875.out); have n3_ := Aside0.mk (below_drew1 HB.out); clear BK871; clear BK880; clear HI875; clear HB; have BK871 := n0_; have BK880 := n1_; have HI875 := n2_; have HB := n3_; clear n0_ n1_ n2_ n3_
  refine start_ (n := 5) (S := fun w' => w'.cell? ⟨gb880, 0, none⟩ = some (.int .i64 t876) ∧ w'.cell? ⟨gb880, 1, none⟩ = some (.int .i64 t877)) (ds := []) (tb_ 5 0) s10_ rfl rfl ⟨(blk_cell BK880.out 0).trans rfl, (blk_cell BK880.out 1).trans rfl⟩ (fun hHeld => ?_)
  generalize w31.drew = w32 at BK871 BK880 HI875 HB hHeld ⊢
  refine pl_ 1 16 (tb_ 5 2) ?_
  refine take_ (i := 0) (N := some 15) (v := ?_) (a' := ?_) (tb_ 5 3) rfl rfl s10_ (fun _ _ _ h => h) (Or.inl ⟨by rfl, ?_⟩) hHeld ?_ ?_
  rotate_left
  ·
   rintro w' ⟨s0, s1⟩
   go_simp; with_reducible rfl
  rotate_left
  ·
   exact s9_
  refine one_ (i := 2) (N := some 17) (tb_ 5 7) rfl rfl s10_ (by decide) (fun K hK => ?_)
  refine goes_ Tryz.func146 s10_ rfl #[.pointer (some ⟨g875, 0, none⟩), .int .i64 17] (by rfl) rfl rfl s0_ ?_
  with_reducible refine (spec_l1Below.calls g875 t872 t882 t883 17 t890 t891 t892 w _ ?side1 ?side2 A23.out).mono ?_
  (case side1 => exact q22_3)
  (case side2 => exact q22_4)
  rintro e w33 ⟨rfl, hi, hb, hk⟩
  refine ⟨_, rfl, ?_⟩
  have n0_ := Aside0.mk (KeepBut.blk hk (g' := gb871) (o := .cells #[.int .i64 0, .int .i64 0] 48 (0, 0)) q22_10 NB871_875.out (by simp))
  have n1_ := Aside0.mk (KeepBut.blk hk (g' := gb880) (o := .cells #[.int .i64 t876, .int .i64 t877] 48 (0, 0)) q22_11 NB880_875.out (by simp))
  have n2_ := Aside0.mk (hb); have n3_ := Aside0.mk (hi); clear BK871; clear BK880; clear HB; clear HI875; have BK871 := n0_; have BK880 := n1_; have HB := n2_; have HI875 := n3_; clear n0_ n1_ n2_ n3_
  (try clear hb)
  (try clear hb2)
  (try clear hk)
  (try clear hi)
  refine hK.out _ _ ⟨(blk_cell BK880.out 0).trans rfl, (blk_cell BK880.out 1).trans rfl⟩ (fun hHeld => ?_)
  clear hK K
  refine norm_ (a' := ?_) ?_ ?_
  rotate_left
  ·
   show Act.put _ (some 17) _ = _
   exact s9_
  refine one_ (i := 3) (N := none) (tb_ 5 15) rfl rfl s10_ (by decide) (fun K hK => ?_)
  have hs34 : w33.cell? ⟨gb871, 0, none⟩ = some (.int .i64 0) := (blk_cell BK871.out 0).trans rfl; have hfs34 := blk_frozen BK871.out 0; have hns34_1 := NB880_871.out; have hms34_1 := NB871_880.out; have hs35 : w33.cell? ⟨gb871, 1, none⟩ = some (.int .i64 0) := (blk_cell BK871.out 1).trans rfl; have hfs35 := blk_frozen BK871.out 1; have hns35_1 := NB880_871.out; have hms35_1 := NB871_880.out
  refine skip_ (w1 := ?_) (by rfl) rfl ?_ ?_
  rotate_left
  ·
   go_simp
   rfl
  refine hK.out _ _ ⟨((cell_far (p := ⟨gb871, _, none⟩) NB880_871.out _).trans (((cell_far (p := ⟨gb871, _, none⟩) NB880_871.out _).trans (hHeld.1)))), ((cell_far (p := ⟨gb871, _, none⟩) NB880_871.out _).trans (((cell_far (p := ⟨gb871, _, none⟩) NB880_871.out _).trans (hHeld.2))))⟩ (fun hHeld => ?_)
  clear hK K; refine pl_ 4 3 (tb_ 5 31) ?_
  refine done_ s10_ ?_
  try go_wp2
  refine bodyPost_ret (results_ct rfl _ _ gb871 48 #[.int .i64 t876, .int .i64 t877] (0, 0) _ rfl (by (with_reducible repeat (first | refine blk_drewN ?_ _ | refine blk_drew ?_ | refine blk_alloc ?_ _)); refine blk_put (cs := #[.int .i64 t876, .int .i64 0]) ?_ 1 _ rfl; (with_reducible repeat (first | refine blk_drewN ?_ _ | refine blk_drew ?_ | refine blk_alloc ?_ _)); refine blk_put (cs := #[.int .i64 0, .int .i64 0]) ?_ 0 _ rfl; (with_reducible repeat (first | refine blk_drewN ?_ _ | refine blk_drew ?_ | refine blk_alloc ?_ _)); exact BK871.out) Tryz.underlying48 rfl s10_) rfl ?_
  exact ⟨(by first | rfl | (simp [errW_none, errW_some] <;> rfl) | (simp [*, errW_none, errW_some] <;> rfl)), q22_4⟩
def spec_HasElement.f (a0 : Int) (a1 : Int) : Option (Bool) := (spec_IsSet.f 8 a0).bind fun t893 => (if t893 = true then ((spec_l1In.f a1 0 7).bind fun t894 => (if t894 = true then ((spec_l2Has.f a0 a1).bind fun t895 => (some t895)) else (some false))) else (some false))
theorem spec_HasElement.calls (a0 : Int) (a1 : Int) (r : Bool) (w : World) (h : spec_HasElement.f a0 a1 = some r) :
  Calls Tryz.prog 266 #[.int .i64 a0, .int .i64 a1] w fun e w' => e = .returned (.bool r) ∧ Drawn0 w w' := by
 have H := h; clear h; unfold spec_HasElement.f at H; obtain ⟨t893, A3, H⟩ := bnd22_ H
 by_cases c4 : t893 = true
 ·
  subst c4; rw [if_pos rfl] at H; obtain ⟨t894, A5, H⟩ := bnd22_ H
  by_cases c6 : t894 = true
  ·
   subst c6; rw [if_pos rfl] at H; obtain ⟨t895, A7, H⟩ := bnd22_ H; obtain rfl := Option.some.inj H
   go_enter Tryz.func266, Tryz.ntmps266
   go_wp2_with (first | ((with_reducible refine gw_ rfl ?_); (refine gL_ 86 6 Tryz.func86 #[.int .i64 8, .int .i64 a0] ?_; (with_reducible refine (spec_IsSet.calls 8 a0 true _ A3.out).mono ?_); rintro e w' ⟨rfl, ⟨nd, rfl⟩⟩; refine ⟨_, rfl, ?_⟩)) | (go_at_call 132; (with_reducible refine (spec_l1In.calls a1 0 7 true _ A5.out).mono ?_); rintro e w' ⟨rfl, ⟨nd, rfl⟩⟩) | (go_at_call 215; (with_reducible refine (spec_l2Has.calls a0 a1 t895 _ A7.out).mono ?_); rintro e w' ⟨rfl, ⟨nd, rfl⟩⟩))
   go_ret
   exact ⟨s3_, (by repeat (first | exact Drawn0.refl _ | apply Drawn0.step))⟩
  ·
   replace c6 := Bool.eq_false_iff.mpr c6; subst c6
   rw [if_neg (show ¬ (false = true) by decide)] at H
   obtain rfl := Option.some.inj H
   go_enter Tryz.func266, Tryz.ntmps266
   go_wp2_with (first | ((with_reducible refine gw_ rfl ?_); (refine gL_ 86 6 Tryz.func86 #[.int .i64 8, .int .i64 a0] ?_; (with_reducible refine (spec_IsSet.calls 8 a0 true _ A3.out).mono ?_); rintro e w' ⟨rfl, ⟨nd, rfl⟩⟩; refine ⟨_, rfl, ?_⟩)) | (go_at_call 132; (with_reducible refine (spec_l1In.calls a1 0 7 false _ A5.out).mono ?_); rintro e w' ⟨rfl, ⟨nd, rfl⟩⟩))
   go_ret
   exact ⟨s3_, (by repeat (first | exact Drawn0.refl _ | apply Drawn0.step))⟩
 ·
  replace c4 := Bool.eq_false_iff.mpr c4; subst c4
  rw [if_neg (show ¬ (false = true) by decide)] at H
  obtain rfl := Option.some.inj H
  go_enter Tryz.func266, Tryz.ntmps266
  go_wp2_with ((with_reducible refine gw_ rfl ?_); (refine gL_ 86 6 Tryz.func86 #[.int .i64 8, .int .i64 a0] ?_; (with_reducible refine (spec_IsSet.calls 8 a0 false _ A3.out).mono ?_); rintro e w' ⟨rfl, ⟨nd, rfl⟩⟩; refine ⟨_, rfl, ?_⟩))
  go_ret
  exact ⟨s3_, (by repeat (first | exact Drawn0.refl _ | apply Drawn0.step))⟩
def spec_ElementsOf.l0 : Nat → Int → List Int → Int → Option (List Int)
 | 0, _, _, _ => none
 | k + 1, x0, x3, x4 => if x4 < 8 then ((spec_HasElement.f x0 x4).bind fun t899 => (if t899 = true then (if x3.length < 17592186044416 then (spec_ElementsOf.l0 k x0 (x3 ++ [x4]) (wrap64 (x4 + 1))) else (none)) else (spec_ElementsOf.l0 k x0 x3 (wrap64 (x4 + 1))))) else (some x3)
def spec_ElementsOf.f (k : Nat) (a0 : Int) : Option (List Int) := spec_ElementsOf.l0 k a0 (([] : List Int)) 0
theorem spec_ElementsOf.calls (k : Nat) (a0 : Int) (r : List Int) (w : World) (h : spec_ElementsOf.f k a0 = some r) :
  Calls Tryz.prog 236 #[.int .i64 a0] w fun e w' => ∃ v0_ : Value, e = .returned (v0_) ∧ Kd.R (Kd.int .i64) 3 w' w.heap.size (fun _ => True) v0_ r ∧ Below w.heap.size w w' := by
 have HB := Aside0.mk (Below.refl w.heap.size w); have H := h; clear h; unfold spec_ElementsOf.f at H; obtain ⟨y896, hy_⟩ : ∃ y_ : List Int, y_ = (([] : List Int)) := ⟨_, rfl⟩
 replace H : (spec_ElementsOf.l0 k a0 y896 0) = some r := rH_
 have Ny896 := Aside0.mk hy_; clear hy_; have H' := Aside0.mk H; clear H
 go_enter Tryz.func236, Tryz.ntmps236
 go_wp2_with ((with_reducible refine gw_ rfl ?_); (refine rl_ (Kd.int .i64) 3 5 ?_; intro v897 w2 ho3 hb hg_ hnew_; clear hg_ hnew_; (first | rw [← Ny896.out] at ho3 | (simp only [Int.reduceToNat] at ho3; rw [← Ny896.out] at ho3)); have n_ := ac_ (Kd.R_lower ho3 (below_size s1_)) <| Aside0.mk (below_step s1_ hb); clear HB; obtain ⟨HO898, HB⟩ := n_; clear hb ho3))
 go_loopg [3, 4] k (fun kq v3 v4 w' => ∃ (x3_1 : List Int) (x4_1 : Int), v4 = .int .i64 x4_1 ∧ Aside0 (spec_ElementsOf.l0 kq a0 x3_1 x4_1 = some r) ∧ Aside0 (kq ≤ k) ∧ Aside0 (Kd.R (Kd.int .i64) 3 w' w.heap.size (fun _ => True) v3 x3_1) ∧ Aside0 (Below w.heap.size w w'))
 case atStart => exact ⟨(y896), (0), s3_, H', ⟨Nat.le_refl _⟩, ⟨(by (with_reducible repeat (first | apply Kd.R_alloc | apply Kd.R_drewN | apply Kd.R_drew)); exact HO898.out)⟩, ⟨s1_⟩⟩
 case round =>
  clear H'
  try clear c2
  try clear p2
  obtain ⟨x3_1, x4_1, rfl, HA, HK1, HO_3, HB⟩ := hrel
  cases gk with
  | zero => exact absurd HA.out (by simp [spec_ElementsOf.l0])
  | succ k1 =>
   have H := HA.out; clear HA
   simp only [spec_ElementsOf.l0] at H
   by_cases c4 : x4_1 < 8
   ·
    rw [if_pos c4] at H; have c4b0 : decide (x4_1 < 8) = true := decide_eq_true c4; clear c4; obtain ⟨t899, A5, H⟩ := bnd22_ H
    by_cases c6 : t899 = true
    ·
     subst c6; rw [if_pos rfl] at H
     by_cases c7 : x3_1.length < 17592186044416
     ·
      rw [if_pos c7] at H; have LMc7 := Aside0.mk c7; clear c7; obtain ⟨y900, hy_⟩ : ∃ y_ : List Int, y_ = (x3_1 ++ [x4_1]) := ⟨_, rfl⟩
      replace H : (spec_ElementsOf.l0 k1 a0 y900 (wrap64 (x4_1 + 1))) = some r := rH_
      have Ny900 := Aside0.mk hy_; clear hy_; have H' := Aside0.mk H; clear H
      go_wp2_with (first | ((with_reducible refine gw_ rfl ?_); (refine gL_ 266 12 Tryz.func266 #[.int .i64 a0, .int .i64 x4_1] ?_; (with_reducible refine (spec_HasElement.calls a0 x4_1 true _ A5.out).mono ?_); rintro e w' ⟨rfl, ⟨nd, rfl⟩⟩; refine ⟨_, rfl, ?_⟩)) | ((with_reducible refine gate_builtin (b := .append) (xs := #[.tmp 13, .tmp 15]) rfl ?_); at_builtin; refine Kd.R_append (Kd.int .i64) (w0 := w) w.heap.size rfl (.tmp 13) (.tmp 15) 27 3 (.int .i64 0) 8 rfl Tryz.underlying27 info3 rfl (by decide) (by omega) u3 x3_1 x4_1 [.int .i64 x4_1] (fun _ => True) (fun _ => False) rfl rfl ?aP (fun _ hk => hk.elim) ?aF ?aO ?aB ?aS ?aL ?_; (case aP => exact rfl); (case aB => exact s1_); (case aF => exact (fun _ _ => trivial)); (case aO => exact s11_); (case aS => exact (below_size s1_)); (case aL => have := LMc7.out; omega); intro v901 w8 ho hb hg hat; rw [← Ny900.out] at ho; have n_ := ac_ (hb) <| Aside0.mk (ho); clear HB HO_3; obtain ⟨HB, HO902⟩ := n_; clear ho hb hg hat))
      go_roundg k1
      case measure => have := HK1.out; omega
      case rel => exact ⟨(y900), (wrap64 (x4_1 + 1)), s3_, H', ⟨by have := HK1.out; omega⟩, ⟨(by (with_reducible repeat (first | apply Kd.R_alloc | apply Kd.R_drewN | apply Kd.R_drew)); exact HO902.out)⟩, ⟨s1_⟩⟩
     ·
      rw [if_neg c7] at H
      exact absurd H (by simp)
    ·
     replace c6 := Bool.eq_false_iff.mpr c6; subst c6
     rw [if_neg (show ¬ (false = true) by decide)] at H
     have H' := Aside0.mk H; clear H
     go_wp2_with ((with_reducible refine gw_ rfl ?_); (refine gL_ 266 12 Tryz.func266 #[.int .i64 a0, .int .i64 x4_1] ?_; (with_reducible refine (spec_HasElement.calls a0 x4_1 false _ A5.out).mono ?_); rintro e w' ⟨rfl, ⟨nd, rfl⟩⟩; refine ⟨_, rfl, ?_⟩))
     go_roundg k1
     case measure => have := HK1.out; omega
     case rel => exact ⟨(x3_1), (wrap64 (x4_1 + 1)), s3_, H', ⟨by have := HK1.out; omega⟩, ⟨s11_⟩, ⟨s1_⟩⟩
   ·
    rw [if_neg c4] at H; have c4b0 : decide (x4_1 < 8) = false := decide_eq_false c4; clear c4; obtain rfl := Option.some.inj H
    go_wp2
    go_ret
    exact ⟨_, (by first | rfl | (simp [errW_none, errW_some] <;> rfl) | (simp [*, errW_none, errW_some] <;> rfl)), s11_, s1_⟩
def spec_SetText.l0 : Nat → ByteArray → List Int → Int → Option (ByteArray)
 | 0, _, _, _ => none
 | k + 1, x3, x4, x5 => if x5 < (x4.length : Int) then (if 0 ≤ x5 then (if 0 ≤ (rd x4 x5) then (if (rd x4 x5) ≤ (wrap64 ((rd x4 x5) + 1)) then (if (wrap64 ((rd x4 x5) + 1)) ≤ 8 then (if x3.size + ((⟨#[97, 98, 99, 100, 101, 102, 103, 104]⟩ : ByteArray).extract ((rd x4 x5) : Int).toNat ((wrap64 ((rd x4 x5) + 1)) : Int).toNat).size ≤ 9223372036854775807 then (spec_SetText.l0 k (x3 ++ ((⟨#[97, 98, 99, 100, 101, 102, 103, 104]⟩ : ByteArray).extract ((rd x4 x5) : Int).toNat ((wrap64 ((rd x4 x5) + 1)) : Int).toNat)) x4 (wrap64 (x5 + 1))) else (none)) else (none)) else (none)) else (none)) else (none)) else (some x3)
def spec_SetText.f (k : Nat) (a0 : Int) : Option (ByteArray) := (spec_IsSet.f 8 a0).bind fun t903 => (if t903 = true then (if a0 = 0 then (some (⟨#[45]⟩ : ByteArray)) else ((spec_ElementsOf.f k a0).bind fun t904 => (spec_SetText.l0 k (⟨#[]⟩ : ByteArray) t904 0))) else (some (⟨#[]⟩ : ByteArray)))
theorem spec_SetText.calls (k : Nat) (a0 : Int) (r : ByteArray) (w : World) (h : spec_SetText.f k a0 = some r) :
  Calls Tryz.prog 188 #[.int .i64 a0] w fun e w' => e = .returned (.string r) ∧ Below w.heap.size w w' := by
 have HB := Aside0.mk (Below.refl w.heap.size w); have H := h; clear h; unfold spec_SetText.f at H; obtain ⟨t903, A2, H⟩ := bnd22_ H
 by_cases c3 : t903 = true
 ·
  subst c3; rw [if_pos rfl] at H
  by_cases c4 : a0 = 0
  ·
   rw [if_pos c4] at H; have c4b0 : (a0 == 0) = true := beq_iff_eq.mpr c4; have c4b1 : (a0 != 0) = false := bne_eq_false_iff_eq.mpr c4; clear c4; obtain rfl := Option.some.inj H
   go_enter Tryz.func188, Tryz.ntmps188
   go_wp2_with (first | (go_at_call 86; (with_reducible refine (spec_IsSet.calls 8 a0 true _ A2.out).mono ?_); rintro e w' ⟨rfl, ⟨nd, rfl⟩⟩; (try exact dn_)))
   repeat (go_quiet (first | (go_at_call 86; (with_reducible refine (spec_IsSet.calls 8 a0 true _ A2.out).mono ?_); rintro e w' ⟨rfl, ⟨nd, rfl⟩⟩; (try exact dn_))); try go_wp2_with (first | (go_at_call 86; (with_reducible refine (spec_IsSet.calls 8 a0 true _ A2.out).mono ?_); rintro e w' ⟨rfl, ⟨nd, rfl⟩⟩; (try exact dn_))))
   go_ret
   exact ⟨s2_, s1_⟩
  ·
   rw [if_neg c4] at H; have c4b0 : (a0 == 0) = false := beq_eq_false_iff_ne.mpr c4; have c4b1 : (a0 != 0) = true := bne_iff_ne.mpr c4; obtain ⟨t904, A5, H⟩ := bnd22_ H; have H' := Aside0.mk H; clear H
   go_enter Tryz.func188, Tryz.ntmps188
   go_wp2_with (first | (go_at_call 86; (with_reducible refine (spec_IsSet.calls 8 a0 true _ A2.out).mono ?_); rintro e w' ⟨rfl, ⟨nd, rfl⟩⟩; (try exact dn_)) | (go_at_call 236; (with_reducible refine (spec_ElementsOf.calls k a0 t904 _ A5.out).mono ?_); rintro e w6 ⟨v905, rfl, ho0, hb⟩; have n_ := ac_ (Kd.R_lower ho0 (below_size s1_)) <| Aside0.mk (below_step s1_ hb); clear HB; obtain ⟨HO906, HB⟩ := n_; (try clear hb ho0)))
   repeat (go_quiet (first | (go_at_call 86; (with_reducible refine (spec_IsSet.calls 8 a0 true _ A2.out).mono ?_); rintro e w' ⟨rfl, ⟨nd, rfl⟩⟩; (try exact dn_)) | (go_at_call 236; (with_reducible refine (spec_ElementsOf.calls k a0 t904 _ A5.out).mono ?_); rintro e w6 ⟨v905, rfl, ho0, hb⟩; have n_ := ac_ (Kd.R_lower ho0 (below_size s1_)) <| Aside0.mk (below_step s1_ hb); clear HB; obtain ⟨HO906, HB⟩ := n_; (try clear hb ho0))); try go_wp2_with (first | (go_at_call 86; (with_reducible refine (spec_IsSet.calls 8 a0 true _ A2.out).mono ?_); rintro e w' ⟨rfl, ⟨nd, rfl⟩⟩; (try exact dn_)) | (go_at_call 236; (with_reducible refine (spec_ElementsOf.calls k a0 t904 _ A5.out).mono ?_); rintro e w6 ⟨v905, rfl, ho0, hb⟩; have n_ := ac_ (Kd.R_lower ho0 (below_size s1_)) <| Aside0.mk (below_step s1_ hb); clear HB; obtain ⟨HO906, HB⟩ := n_; (try clear hb ho0))))
   go_loopg [3, 5] k (fun kq v3 v5 w' => ∃ (x3_1 : ByteArray) (x5_1 : Int), v3 = .string x3_1 ∧ v5 = .int .i64 x5_1 ∧ Aside0 (spec_SetText.l0 kq x3_1 t904 x5_1 = some r) ∧ Aside0 (kq ≤ k) ∧ Aside0 (Kd.R (Kd.int .i64) 3 w' w.heap.size (fun _ => True) v905 t904) ∧ Aside0 (Below w.heap.size w w'))
   case atStart => exact ⟨((⟨#[]⟩ : ByteArray)), (0), s3_, s3_, H', ⟨Nat.le_refl _⟩, ⟨(by (with_reducible repeat (first | apply Kd.R_alloc | apply Kd.R_drewN | apply Kd.R_drew)); exact HO906.out)⟩, ⟨s1_⟩⟩
   case round =>
    clear H'
    try clear c1
    try clear p2
    try clear c3
    try clear c4
    try clear c4b0
    try clear c4b1
    obtain ⟨x3_1, x5_1, rfl, rfl, HA, HK1, HO_4, HB⟩ := hrel
    cases gk with
    | zero => exact absurd HA.out (by simp [spec_SetText.l0])
    | succ k1 =>
     have H := HA.out; clear HA
     simp only [spec_SetText.l0] at H
     by_cases c7 : x5_1 < (t904.length : Int)
     ·
      rw [if_pos c7] at H; have c7b0 : decide (x5_1 < (t904.length : Int)) = true := decide_eq_true c7; clear c7
      by_cases c8 : 0 ≤ x5_1
      ·
       rw [if_pos c8] at H; have c8b0 : decide (0 ≤ x5_1) = true := decide_eq_true c8; clear c8
       by_cases c9 : 0 ≤ (rd t904 x5_1)
       ·
        rw [if_pos c9] at H; have c9b0 := eq_true c9; have c9b1 : decide (0 ≤ (rd t904 x5_1)) = true := decide_eq_true c9; clear c9
        by_cases c10 : (rd t904 x5_1) ≤ (wrap64 ((rd t904 x5_1) + 1))
        ·
         rw [if_pos c10] at H; have c10b0 := eq_true c10; have c10b1 : decide ((rd t904 x5_1) ≤ (wrap64 ((rd t904 x5_1) + 1))) = true := decide_eq_true c10
         by_cases c11 : (wrap64 ((rd t904 x5_1) + 1)) ≤ 8
         ·
          rw [if_pos c11] at H; have c11b0 := eq_true c11; have c11b1 : decide ((wrap64 ((rd t904 x5_1) + 1)) ≤ 8) = true := decide_eq_true c11
          by_cases c12 : x3_1.size + ((⟨#[97, 98, 99, 100, 101, 102, 103, 104]⟩ : ByteArray).extract ((rd t904 x5_1) : Int).toNat ((wrap64 ((rd t904 x5_1) + 1)) : Int).toNat).size ≤ 9223372036854775807
          ·
           rw [if_pos c12] at H; have c12b0 := eq_true c12; have c12b1 : decide (x3_1.size + ((⟨#[97, 98, 99, 100, 101, 102, 103, 104]⟩ : ByteArray).extract ((rd t904 x5_1) : Int).toNat ((wrap64 ((rd t904 x5_1) + 1)) : Int).toNat).size ≤ 9223372036854775807) = true := decide_eq_true c12
           try have c12b2 : (9223372036854775807 < x3_1.size + ((⟨#[97, 98, 99, 100, 101, 102, 103, 104]⟩ : ByteArray).extract ((rd t904 x5_1) : Int).toNat ((wrap64 ((rd t904 x5_1) + 1)) : Int).toNat).size) = False := eq_false (Nat.not_lt.2 c12)
           have H' := Aside0.mk H; clear H; obtain ⟨Ao13, co13, eo13⟩ := Kd.R_slice HO_4.out; subst eo13; have p907 : 0 ≤ (x5_1 : Int) := of_decide_eq_true s4_; have q907 : x5_1 < (t904.length : Int) := of_decide_eq_true s4_; obtain ⟨ad907, e907, hx907_0⟩ := Kd.at_int (Kd.R_reads' HO_4.out).2.2 x5_1 p907 q907
           cases e907
           replace p907 := eq_true p907; replace q907 := eq_true q907; have p908 : 0 ≤ (x5_1 : Int) := of_decide_eq_true s4_; have q908 : x5_1 < (t904.length : Int) := of_decide_eq_true s4_; obtain ⟨ad908, e908, hx908_0⟩ := Kd.at_int (Kd.R_reads' HO_4.out).2.2 x5_1 p908 q908
           obtain rfl : ad907 = ad908 := (by injection e908)
           replace p908 := eq_true p908; replace q908 := eq_true q908
           go_wp2
           repeat (go_quiet (fail); try go_wp2)
           go_roundg k1
           case measure => have := HK1.out; omega
           case rel => exact ⟨(x3_1 ++ ((⟨#[97, 98, 99, 100, 101, 102, 103, 104]⟩ : ByteArray).extract ((rd t904 x5_1) : Int).toNat ((wrap64 ((rd t904 x5_1) + 1)) : Int).toNat)), (wrap64 (x5_1 + 1)), s3_, s3_, H', ⟨by have := HK1.out; omega⟩, ⟨(by (with_reducible repeat (first | apply Kd.R_alloc | apply Kd.R_drewN | apply Kd.R_drew)); exact HO_4.out)⟩, ⟨s1_⟩⟩
          ·
           rw [if_neg c12] at H
           exact absurd H (by simp)
         ·
          rw [if_neg c11] at H
          exact absurd H (by simp)
        ·
         rw [if_neg c10] at H
         exact absurd H (by simp)
       ·
        rw [if_neg c9] at H
        exact absurd H (by simp)
      ·
       rw [if_neg c8] at H
       exact absurd H (by simp)
     ·
      rw [if_neg c7] at H; have c7b0 : decide (x5_1 < (t904.length : Int)) = false := decide_eq_false c7; clear c7; obtain rfl := Option.some.inj H; obtain ⟨Ao14, co14, eo14⟩ := Kd.R_slice HO_4.out; subst eo14
      go_wp2
      repeat (go_quiet (fail); try go_wp2)
      go_ret
      exact ⟨s2_, s1_⟩
 ·
  replace c3 := Bool.eq_false_iff.mpr c3; subst c3
  rw [if_neg (show ¬ (false = true) by decide)] at H
  obtain rfl := Option.some.inj H
  go_enter Tryz.func188, Tryz.ntmps188
  go_wp2_with (first | (go_at_call 86; (with_reducible refine (spec_IsSet.calls 8 a0 false _ A2.out).mono ?_); rintro e w' ⟨rfl, ⟨nd, rfl⟩⟩; (try exact dn_)))
  repeat (go_quiet (first | (go_at_call 86; (with_reducible refine (spec_IsSet.calls 8 a0 false _ A2.out).mono ?_); rintro e w' ⟨rfl, ⟨nd, rfl⟩⟩; (try exact dn_))); try go_wp2_with (first | (go_at_call 86; (with_reducible refine (spec_IsSet.calls 8 a0 false _ A2.out).mono ?_); rintro e w' ⟨rfl, ⟨nd, rfl⟩⟩; (try exact dn_))))
  go_ret
  exact ⟨s2_, s1_⟩
theorem q22_23 {P : Prop} (h : P := by repeat (first | (with_reducible first | exact HB.out | apply below_alloc | apply pw_below_drewN | apply below_drew1 | refine below_set ?_ GE909.out) | exact HB.out)) : P := h
theorem q22_26 {P : Prop} (h : P := by (with_reducible repeat (first | refine blk_drewN ?_ _ | refine blk_drew ?_ | refine blk_alloc ?_ _)); exact BK909.out) : P := h
def spec_RuleText.f (k : Nat) (a0_0 : Int) (a0_1 : Int) : Option (ByteArray) := (spec_l9Rule.f 8 a0_0 a0_1).bind fun t910 => (if t910 = true then ((spec_SetText.f k a0_0).bind fun t911 => (if t911.size + 1 ≤ 9223372036854775807 then ((spec_SetText.f k a0_1).bind fun t912 => (if (t911 ++ (⟨#[62]⟩ : ByteArray)).size + t912.size ≤ 9223372036854775807 then (some ((t911 ++ (⟨#[62]⟩ : ByteArray)) ++ t912)) else (none))) else (none))) else (some (⟨#[]⟩ : ByteArray)))
def spec_RuleText.T3 : Bool × List (List Nat × List Nat) := (true, [([], []), ([0], [0]), ([1], [1]), ([2], [2]), ([], []), ([4], [4]), ([5, 2], [5]), ([3, 6], [3, 6]), ([7, 6, 0, 1, 2, 3, 4, 5, 6, 7], [7])])
def spec_RuleText.B3 : List Nat := [0, 1, 3, 7, 0, 16, 55, 127, 255]
theorem spec_RuleText.tab3 : rtab .any (opsOf Tryz.f85 3) = spec_RuleText.T3 := by kernel_rfl
theorem spec_RuleText.bits3 : waitsOk spec_RuleText.T3.2 spec_RuleText.B3 = true := by kernel_rfl
theorem spec_RuleText.calls (k : Nat) (a0_0 : Int) (a0_1 : Int) (r : ByteArray) (w : World) (h : spec_RuleText.f k a0_0 a0_1 = some r) :
  Calls Tryz.prog 85 #[.agg #[.int .i64 a0_0, .int .i64 a0_1]] w fun e w' => e = .returned (.string r) ∧ Below w.heap.size w w' := by
 have hu48 := Tryz.underlying48; have HB := Aside0.mk (Below.refl w.heap.size w); have H := h; clear h; unfold spec_RuleText.f at H; obtain ⟨t910, A2, H⟩ := bnd22_ H
 by_cases c3 : t910 = true
 ·
  subst c3; rw [if_pos rfl] at H; obtain ⟨t911, A4, H⟩ := bnd22_ H
  by_cases c5 : t911.size + 1 ≤ 9223372036854775807
  ·
   rw [if_pos c5] at H; have c5b0 := eq_true c5; have c5b1 : decide (t911.size + 1 ≤ 9223372036854775807) = true := decide_eq_true c5
   try have c5b2 : (9223372036854775807 < t911.size + 1) = False := eq_false (Nat.not_lt.2 c5)
   obtain ⟨t912, A6, H⟩ := bnd22_ H
   by_cases c7 : (t911 ++ (⟨#[62]⟩ : ByteArray)).size + t912.size ≤ 9223372036854775807
   ·
    rw [if_pos c7] at H; have c7b0 := eq_true c7; have c7b1 : decide ((t911 ++ (⟨#[62]⟩ : ByteArray)).size + t912.size ≤ 9223372036854775807) = true := decide_eq_true c7
    try have c7b2 : (9223372036854775807 < (t911 ++ (⟨#[62]⟩ : ByteArray)).size + t912.size) = False := eq_false (Nat.not_lt.2 c7)
    have c7b9 : (9223372036854775807 < t911.size + 1 + t912.size) = False := eq_false (Nat.not_lt.2 (by have h_ := c7; rw [ByteArray.size_append] at h_; exact h_))
    obtain rfl := Option.some.inj H
    go_enter Tryz.func85, Tryz.ntmps85
    try go_wp2_with ((with_reducible refine gw_ rfl ?_); first | (refine be_ 1 #[.int .i64 a0_0, .int .i64 a0_1] 48 ?_; intro gb909 hg w8 hbox hb; have n_ := ac_ (below_step s1_ hb) <| ac_ (hbox) <| ac_ ((gz_ w hg s1_)) <| Aside0.mk ((gz_ w hg s1_)); clear HB; obtain ⟨HB, BK909, GW909, GE909⟩ := n_; clear hb hbox hg; have hcz9_0 : w8.cell? ⟨gb909, 0, none⟩ = some (.int .i64 a0_0) := (blk_cell BK909.out 0).trans rfl; have hcz9_1 : w8.cell? ⟨gb909, 1, none⟩ = some (.int .i64 a0_1) := (blk_cell BK909.out 1).trans rfl; have hfz9_0 := blk_frozen BK909.out 0; have hfz9_1 := blk_frozen BK909.out 1) | (refine gL_ 157 4 Tryz.func157 #[.int .i64 8, .agg #[.int .i64 a0_0, .int .i64 a0_1]] ?_; (with_reducible refine (spec_l9Rule.calls 8 a0_0 a0_1 true _ A2.out).mono ?_); rintro e w10 ⟨rfl, hb⟩; refine ⟨_, rfl, ?_⟩; have n_ := ac_ (blk_below (g := gb909) (o := .cells #[.int .i64 a0_0, .int .i64 a0_1] 48 (0, 0)) q22_26 hb) <| Aside0.mk (below_step q22_23 hb); clear BK909 HB; obtain ⟨BK909, HB⟩ := n_; (try clear hb)))
    have n0_ := Aside0.mk (blk_drew BK909.out); have n1_ := Aside0.mk (below_drew1 HB.out); clear BK909; clear HB; have BK909 := n0_; have HB := n1_; clear n0_ n1_
    refine start_ (n := 9) (S := fun w' => w'.cell? ⟨gb909, 0, none⟩ = some (.int .i64 a0_0) ∧ w'.cell? ⟨gb909, 1, none⟩ = some (.int .i64 a0_1)) (ds := []) (tb_ 9 0) (by kernel_rfl) rfl rfl ⟨(blk_cell BK909.out 0).trans rfl, (blk_cell BK909.out 1).trans rfl⟩ (fun hHeld => ?_); refine with_tabW spec_RuleText.tab3 spec_RuleText.bits3 (fun HT_ HW_ => ?_)
    generalize w10.drew = w11 at BK909 HB hHeld ⊢
    refine pl_ 0 6 (tb_ 9 1) ?_; refine pl_ 4 10 (tb_ 9 17) ?_; refine tk_ 1 7 (tb_ 9 19) hHeld ?_; refine tk_ 5 11 (tb_ 9 51) hHeld ?_
    refine on_ 2 8 (tb_ 9 55) (fun K hK => ?_)
    refine goes_ Tryz.func188 (by kernel_rfl) rfl #[.int .i64 a0_0] (by rfl) rfl rfl s0_ ?_
    with_reducible refine (spec_SetText.calls k a0_0 t911 _ A4.out).mono ?_
    rintro e w12 ⟨rfl, hb⟩
    refine ⟨_, rfl, ?_⟩
    have n0_ := Aside0.mk (blk_below (g := gb909) (o := .cells #[.int .i64 a0_0, .int .i64 a0_1] 48 (0, 0)) q22_26 hb); have n1_ := Aside0.mk (below_step q22_23 hb); clear BK909; clear HB; have BK909 := n0_; have HB := n1_; clear n0_ n1_
    (try clear hb)
    (try clear hb2)
    (try clear hk)
    (try clear hi)
    refine hK.out _ _ ⟨(blk_cell BK909.out 0).trans rfl, (blk_cell BK909.out 1).trans rfl⟩ (fun hHeld => ?_)
    clear hK K
    refine norm_ (a' := ?_) ?_ ?_
    rotate_left
    ·
     show Act.put _ (some 8) _ = _
     exact s9_
    refine pl_ 3 9 (tb_ 9 63) ?_
    refine on_ 6 12 (tb_ 9 127) (fun K hK => ?_)
    refine goes_ Tryz.func188 (by kernel_rfl) rfl #[.int .i64 a0_1] (by rfl) rfl rfl s0_ ?_
    with_reducible refine (spec_SetText.calls k a0_1 t912 _ A6.out).mono ?_
    rintro e w13 ⟨rfl, hb⟩
    refine ⟨_, rfl, ?_⟩
    have n0_ := Aside0.mk (blk_below (g := gb909) (o := .cells #[.int .i64 a0_0, .int .i64 a0_1] 48 (0, 0)) q22_26 hb); have n1_ := Aside0.mk (below_step q22_23 hb); clear BK909; clear HB; have BK909 := n0_; have HB := n1_; clear n0_ n1_
    (try clear hb)
    (try clear hb2)
    (try clear hk)
    (try clear hi)
    refine hK.out _ _ ⟨(blk_cell BK909.out 0).trans rfl, (blk_cell BK909.out 1).trans rfl⟩ (fun hHeld => ?_)
    clear hK K
    refine norm_ (a' := ?_) ?_ ?_
    rotate_left
    ·
     show Act.put _ (some 12) _ = _
     exact s9_
    refine pl_ 7 13 (tb_ 9 255) ?_; refine pl_ 8 2 (tb_ 9 511) ?_
    refine done_ (done_of HT_.out (by kernel_rfl)) ?_
    try go_wp2
    go_ret
    exact ⟨(by first | rfl | (simp [errW_none, errW_some] <;> rfl) | (simp [*, errW_none, errW_some] <;> rfl)), q22_23⟩
   ·
    rw [if_neg c7] at H
    exact absurd H (by simp)
  ·
   rw [if_neg c5] at H
   exact absurd H (by simp)
 ·
  replace c3 := Bool.eq_false_iff.mpr c3; subst c3
  rw [if_neg (show ¬ (false = true) by decide)] at H
  obtain rfl := Option.some.inj H
  go_enter Tryz.func85, Tryz.ntmps85
  go_wp2_with ((with_reducible refine gw_ rfl ?_); first | (refine be_ 1 #[.int .i64 a0_0, .int .i64 a0_1] 48 ?_; intro gb909 hg w14 hbox hb; have n_ := ac_ (below_step s1_ hb) <| ac_ (hbox) <| ac_ ((gz_ w hg s1_)) <| Aside0.mk ((gz_ w hg s1_)); clear HB; obtain ⟨HB, BK909, GW909, GE909⟩ := n_; clear hb hbox hg; have hcz15_0 : w14.cell? ⟨gb909, 0, none⟩ = some (.int .i64 a0_0) := (blk_cell BK909.out 0).trans rfl; have hcz15_1 : w14.cell? ⟨gb909, 1, none⟩ = some (.int .i64 a0_1) := (blk_cell BK909.out 1).trans rfl; have hfz15_0 := blk_frozen BK909.out 0; have hfz15_1 := blk_frozen BK909.out 1) | (refine gL_ 157 4 Tryz.func157 #[.int .i64 8, .agg #[.int .i64 a0_0, .int .i64 a0_1]] ?_; (with_reducible refine (spec_l9Rule.calls 8 a0_0 a0_1 false _ A2.out).mono ?_); rintro e w16 ⟨rfl, hb⟩; refine ⟨_, rfl, ?_⟩; have n_ := ac_ (blk_below (g := gb909) (o := .cells #[.int .i64 a0_0, .int .i64 a0_1] 48 (0, 0)) q22_26 hb) <| Aside0.mk (below_step q22_23 hb); clear BK909 HB; obtain ⟨BK909, HB⟩ := n_; (try clear hb)))
  go_ret
  exact ⟨(by first | rfl | (simp [errW_none, errW_some] <;> rfl) | (simp [*, errW_none, errW_some] <;> rfl)), q22_23⟩
def spec_Join.l0 : Nat → List ByteArray → ByteArray → List Int → Int → Option (ByteArray)
 | 0, _, _, _, _ => none
 | k + 1, x0, x1, x5, x6 => if x6 < (x0.length : Int) then (if x6 > 0 then (if x5.length + x1.size < 140737488355328 then ((some (x5 ++ bytesOf x1 : List Int)).bind fun y916 => (if 0 ≤ x6 then (if y916.length + (rdOf ByteArray.empty x0 x6).size < 140737488355328 then ((some (y916 ++ bytesOf (rdOf ByteArray.empty x0 x6) : List Int)).bind fun y920 => (if (y920.length : Int) > 1048576 then (some (⟨#[]⟩ : ByteArray)) else (spec_Join.l0 k x0 x1 y920 (wrap64 (x6 + 1))))) else (none)) else (none))) else (none)) else (if 0 ≤ x6 then (if x5.length + (rdOf ByteArray.empty x0 x6).size < 140737488355328 then ((some (x5 ++ bytesOf (rdOf ByteArray.empty x0 x6) : List Int)).bind fun y924 => (if (y924.length : Int) > 1048576 then (some (⟨#[]⟩ : ByteArray)) else (spec_Join.l0 k x0 x1 y924 (wrap64 (x6 + 1))))) else (none)) else (none))) else (some (strOfNums x5))
def spec_Join.f (k : Nat) (l0 : List ByteArray) (a1 : ByteArray) : Option (ByteArray) := spec_Join.l0 k l0 a1 (([] : List Int)) 0
theorem spec_Join.calls (k : Nat) (A0 : Option Addr) (c0 : Nat) (l0 : List ByteArray) (a1 : ByteArray) (r : ByteArray) (w : World) (hr0 : Kd.C Kd.string w A0 l0.length l0) (hc0 : l0.length ≤ c0) (h : spec_Join.f k l0 a1 = some r) :
  Calls Tryz.prog 186 #[.slice A0 l0.length c0, .string a1] w fun e w' => e = .returned (.string r) ∧ Below w.heap.size w w' := by
 have HR0 := Aside0.mk hr0; have HC0 := Aside0.mk hc0; clear hr0 hc0; have HB := Aside0.mk (Below.refl w.heap.size w); have H := h; clear h; unfold spec_Join.f at H; obtain ⟨y913, hy_⟩ : ∃ y_ : List Int, y_ = (([] : List Int)) := ⟨_, rfl⟩
 replace H : (spec_Join.l0 k l0 a1 y913 0) = some r := rH_
 have Ny913 := Aside0.mk hy_; clear hy_; have H' := Aside0.mk H; clear H
 go_enter Tryz.func186, Tryz.ntmps186
 go_wp2_with ((with_reducible refine gw_ rfl ?_); (refine rl_ (Kd.int .u8) 5 7 ?_; intro v914 w3 ho4 hb hg_ hnew_; clear hg_ hnew_; (first | rw [← Ny913.out] at ho4 | (simp only [Int.reduceToNat] at ho4; rw [← Ny913.out] at ho4)); have n_ := ac_ (Kd.R_lower ho4 (below_size s1_)) <| Aside0.mk (below_step s1_ hb); clear HB; obtain ⟨HO915, HB⟩ := n_; clear hb ho4))
 go_loopg [5, 6] k (fun kq v5 v6 w' => ∃ (x5_1 : List Int) (x6_1 : Int), v6 = .int .i64 x6_1 ∧ Aside0 (spec_Join.l0 kq l0 a1 x5_1 x6_1 = some r) ∧ Aside0 (kq ≤ k) ∧ Aside0 (Kd.R (Kd.int .u8) 5 w' w.heap.size (fun _ => True) v5 x5_1) ∧ Aside0 (Below w.heap.size w w'))
 case atStart => exact ⟨(y913), (0), s3_, H', ⟨Nat.le_refl _⟩, ⟨(by (with_reducible repeat (first | apply Kd.R_alloc | apply Kd.R_drewN | apply Kd.R_drew)); exact HO915.out)⟩, ⟨s1_⟩⟩
 case round =>
  clear H'
  try clear c1
  try clear p2
  obtain ⟨x5_1, x6_1, rfl, HA, HK1, HO_5, HB⟩ := hrel
  cases gk with
  | zero => exact absurd HA.out (by simp [spec_Join.l0])
  | succ k1 =>
   have H := HA.out; clear HA
   simp only [spec_Join.l0] at H
   by_cases c5 : x6_1 < (l0.length : Int)
   ·
    rw [if_pos c5] at H; have c5b0 : decide (x6_1 < (l0.length : Int)) = true := decide_eq_true c5; clear c5
    by_cases c6 : x6_1 > 0
    ·
     rw [if_pos c6] at H; have c6b0 : decide (0 < x6_1) = true := decide_eq_true c6; clear c6
     by_cases c7 : x5_1.length + a1.size < 140737488355328
     ·
      rw [if_pos c7] at H; have LMc7 := Aside0.mk c7; clear c7; obtain ⟨y916, hy_⟩ : ∃ y_ : List Int, y_ = (x5_1 ++ bytesOf a1) := ⟨_, rfl⟩
      replace H : (if 0 ≤ x6_1 then (if y916.length + (rdOf ByteArray.empty l0 x6_1).size < 140737488355328 then ((some (y916 ++ bytesOf (rdOf ByteArray.empty l0 x6_1) : List Int)).bind fun y920 => (if (y920.length : Int) > 1048576 then (some (⟨#[]⟩ : ByteArray)) else (spec_Join.l0 k1 l0 a1 y920 (wrap64 (x6_1 + 1))))) else (none)) else (none)) = some r := rH_
      have Ny916 := Aside0.mk hy_; clear hy_
      by_cases c8 : 0 ≤ x6_1
      ·
       rw [if_pos c8] at H; have c8b0 : decide (0 ≤ x6_1) = true := decide_eq_true c8; clear c8
       by_cases c9 : y916.length + (rdOf ByteArray.empty l0 x6_1).size < 140737488355328
       ·
        rw [if_pos c9] at H; have LMc9 := Aside0.mk c9; clear c9; obtain ⟨y920, hy_⟩ : ∃ y_ : List Int, y_ = (y916 ++ bytesOf (rdOf ByteArray.empty l0 x6_1)) := ⟨_, rfl⟩
        replace H : (if (y920.length : Int) > 1048576 then (some (⟨#[]⟩ : ByteArray)) else (spec_Join.l0 k1 l0 a1 y920 (wrap64 (x6_1 + 1)))) = some r := rH_
        have Ny920 := Aside0.mk hy_; clear hy_
        by_cases c10 : (y920.length : Int) > 1048576
        ·
         rw [if_pos c10] at H; have c10b0 : decide (1048576 < (y920.length : Int)) = true := decide_eq_true c10
         have c10b1 : decide (1048576 < y920.length) = true := decide_eq_true (by omega)
         clear c10; obtain rfl := Option.some.inj H
         go_wp2_with (first | (at_builtin; refine print_append_str (w0 := w) w.heap.size rfl (.tmp 16) _ 22 9 5 rfl Tryz.underlying22 Tryz.underlying9 info5 u5 x5_1 a1 rfl rfl ?aO ?aB ?aS ?aL ?_; (case aB => exact s1_); (case aO => exact (Kd.own_of_R s13_)); (case aS => exact (below_size s1_)); (case aL => have := LMc7.out; omega); intro v917 w11 ho0 hb hg; have ho := Kd.R_of_own (h1 := fun _ => rfl) (ok := fun _ => True) ho0 (fun _ _ => trivial); clear ho0; have hat := True.intro; rw [← Ny916.out] at ho; change Kd.R (Kd.int .u8) 5 w11 w.heap.size (fun _ => True) v917 y916 at ho; have n_ := ac_ (hb) <| Aside0.mk (ho); clear HB HO_5; obtain ⟨HB, HO918⟩ := n_; clear ho hb hg hat; have p919 : 0 ≤ (x6_1 : Int) := of_decide_eq_true s4_; have q919 : x6_1 < (l0.length : Int) := of_decide_eq_true s4_; obtain ⟨ad919, e919, hx919_0⟩ := Kd.at_string HR0.out x6_1 p919 q919; cases e919; replace hx919_0 := (HB.out.cell (World.block_lt_of_cell? w _ hx919_0)).trans hx919_0; replace p919 := eq_true p919; replace q919 := eq_true q919) | (at_builtin; refine print_append_str (w0 := w) w.heap.size rfl (.tmp 19) _ 22 9 5 rfl Tryz.underlying22 Tryz.underlying9 info5 v917 y916 (rdOf ByteArray.empty l0 x6_1) rfl rfl ?aO ?aB ?aS ?aL ?_; (case aB => exact s1_); (case aO => exact (Kd.own_of_R (by (with_reducible repeat (first | apply Kd.R_alloc | apply Kd.R_drewN | apply Kd.R_drew)); exact HO918.out))); (case aS => exact (below_size s1_)); (case aL => have := LMc9.out; omega); intro v921 w12 ho0 hb hg; have ho := Kd.R_of_own (h1 := fun _ => rfl) (ok := fun _ => True) ho0 (fun _ _ => trivial); clear ho0; have hat := True.intro; rw [← Ny920.out] at ho; change Kd.R (Kd.int .u8) 5 w12 w.heap.size (fun _ => True) v921 y920 at ho; have n_ := ac_ (hb) <| Aside0.mk (ho); clear HB HO918; obtain ⟨HB, HO922⟩ := n_; clear ho hb hg hat; obtain ⟨Ao13, co13, eo13⟩ := Kd.R_slice HO922.out; subst eo13))
         go_ret
         exact ⟨s2_, s1_⟩
        ·
         rw [if_neg c10] at H; have c10b0 : decide (1048576 < (y920.length : Int)) = false := decide_eq_false c10
         have c10b1 : decide (1048576 < y920.length) = false := decide_eq_false (by omega)
         clear c10; have H' := Aside0.mk H; clear H
         go_wp2_with (first | (at_builtin; refine print_append_str (w0 := w) w.heap.size rfl (.tmp 16) _ 22 9 5 rfl Tryz.underlying22 Tryz.underlying9 info5 u5 x5_1 a1 rfl rfl ?aO ?aB ?aS ?aL ?_; (case aB => exact s1_); (case aO => exact (Kd.own_of_R s13_)); (case aS => exact (below_size s1_)); (case aL => have := LMc7.out; omega); intro v917 w14 ho0 hb hg; have ho := Kd.R_of_own (h1 := fun _ => rfl) (ok := fun _ => True) ho0 (fun _ _ => trivial); clear ho0; have hat := True.intro; rw [← Ny916.out] at ho; change Kd.R (Kd.int .u8) 5 w14 w.heap.size (fun _ => True) v917 y916 at ho; have n_ := ac_ (hb) <| Aside0.mk (ho); clear HB HO_5; obtain ⟨HB, HO918⟩ := n_; clear ho hb hg hat; have p919 : 0 ≤ (x6_1 : Int) := of_decide_eq_true s4_; have q919 : x6_1 < (l0.length : Int) := of_decide_eq_true s4_; obtain ⟨ad919, e919, hx919_0⟩ := Kd.at_string HR0.out x6_1 p919 q919; cases e919; replace hx919_0 := (HB.out.cell (World.block_lt_of_cell? w _ hx919_0)).trans hx919_0; replace p919 := eq_true p919; replace q919 := eq_true q919) | (at_builtin; refine print_append_str (w0 := w) w.heap.size rfl (.tmp 19) _ 22 9 5 rfl Tryz.underlying22 Tryz.underlying9 info5 v917 y916 (rdOf ByteArray.empty l0 x6_1) rfl rfl ?aO ?aB ?aS ?aL ?_; (case aB => exact s1_); (case aO => exact (Kd.own_of_R (by (with_reducible repeat (first | apply Kd.R_alloc | apply Kd.R_drewN | apply Kd.R_drew)); exact HO918.out))); (case aS => exact (below_size s1_)); (case aL => have := LMc9.out; omega); intro v921 w15 ho0 hb hg; have ho := Kd.R_of_own (h1 := fun _ => rfl) (ok := fun _ => True) ho0 (fun _ _ => trivial); clear ho0; have hat := True.intro; rw [← Ny920.out] at ho; change Kd.R (Kd.int .u8) 5 w15 w.heap.size (fun _ => True) v921 y920 at ho; have n_ := ac_ (hb) <| Aside0.mk (ho); clear HB HO918; obtain ⟨HB, HO922⟩ := n_; clear ho hb hg hat; obtain ⟨Ao16, co16, eo16⟩ := Kd.R_slice HO922.out; subst eo16))
         go_roundg k1
         case measure => have := HK1.out; omega
         case rel => exact ⟨(y920), (wrap64 (x6_1 + 1)), s3_, H', ⟨by have := HK1.out; omega⟩, ⟨(by (with_reducible repeat (first | apply Kd.R_alloc | apply Kd.R_drewN | apply Kd.R_drew)); exact HO922.out)⟩, ⟨s1_⟩⟩
       ·
        rw [if_neg c9] at H
        exact absurd H (by simp)
      ·
       rw [if_neg c8] at H
       exact absurd H (by simp)
     ·
      rw [if_neg c7] at H
      exact absurd H (by simp)
    ·
     rw [if_neg c6] at H; have c6b0 : decide (0 < x6_1) = false := decide_eq_false c6; clear c6
     by_cases c17 : 0 ≤ x6_1
     ·
      rw [if_pos c17] at H; have c17b0 : decide (0 ≤ x6_1) = true := decide_eq_true c17; clear c17
      by_cases c18 : x5_1.length + (rdOf ByteArray.empty l0 x6_1).size < 140737488355328
      ·
       rw [if_pos c18] at H; have LMc18 := Aside0.mk c18; clear c18; obtain ⟨y924, hy_⟩ : ∃ y_ : List Int, y_ = (x5_1 ++ bytesOf (rdOf ByteArray.empty l0 x6_1)) := ⟨_, rfl⟩
       replace H : (if (y924.length : Int) > 1048576 then (some (⟨#[]⟩ : ByteArray)) else (spec_Join.l0 k1 l0 a1 y924 (wrap64 (x6_1 + 1)))) = some r := rH_
       have Ny924 := Aside0.mk hy_; clear hy_
       by_cases c19 : (y924.length : Int) > 1048576
       ·
        rw [if_pos c19] at H; have c19b0 : decide (1048576 < (y924.length : Int)) = true := decide_eq_true c19
        have c19b1 : decide (1048576 < y924.length) = true := decide_eq_true (by omega)
        clear c19; obtain rfl := Option.some.inj H; have p923 : 0 ≤ (x6_1 : Int) := of_decide_eq_true s4_; have q923 : x6_1 < (l0.length : Int) := of_decide_eq_true s4_; obtain ⟨ad923, e923, hx923_0⟩ := Kd.at_string HR0.out x6_1 p923 q923
        cases e923
        replace hx923_0 := (HB.out.cell (World.block_lt_of_cell? w _ hx923_0)).trans hx923_0; replace p923 := eq_true p923; replace q923 := eq_true q923
        go_wp2_with (first | (at_builtin; refine print_append_str (w0 := w) w.heap.size rfl (.tmp 19) _ 22 9 5 rfl Tryz.underlying22 Tryz.underlying9 info5 u5 x5_1 (rdOf ByteArray.empty l0 x6_1) rfl rfl ?aO ?aB ?aS ?aL ?_; (case aB => exact s1_); (case aO => exact (Kd.own_of_R s13_)); (case aS => exact (below_size s1_)); (case aL => have := LMc18.out; omega); intro v925 w20 ho0 hb hg; have ho := Kd.R_of_own (h1 := fun _ => rfl) (ok := fun _ => True) ho0 (fun _ _ => trivial); clear ho0; have hat := True.intro; rw [← Ny924.out] at ho; change Kd.R (Kd.int .u8) 5 w20 w.heap.size (fun _ => True) v925 y924 at ho; have n_ := ac_ (hb) <| Aside0.mk (ho); clear HB HO_5; obtain ⟨HB, HO926⟩ := n_; clear ho hb hg hat; obtain ⟨Ao21, co21, eo21⟩ := Kd.R_slice HO926.out; subst eo21))
        go_ret
        exact ⟨s2_, s1_⟩
       ·
        rw [if_neg c19] at H; have c19b0 : decide (1048576 < (y924.length : Int)) = false := decide_eq_false c19
        have c19b1 : decide (1048576 < y924.length) = false := decide_eq_false (by omega)
        clear c19; have H' := Aside0.mk H; clear H; have p923 : 0 ≤ (x6_1 : Int) := of_decide_eq_true s4_; have q923 : x6_1 < (l0.length : Int) := of_decide_eq_true s4_; obtain ⟨ad923, e923, hx923_0⟩ := Kd.at_string HR0.out x6_1 p923 q923
        cases e923
        replace hx923_0 := (HB.out.cell (World.block_lt_of_cell? w _ hx923_0)).trans hx923_0; replace p923 := eq_true p923; replace q923 := eq_true q923
        go_wp2_with (first | (at_builtin; refine print_append_str (w0 := w) w.heap.size rfl (.tmp 19) _ 22 9 5 rfl Tryz.underlying22 Tryz.underlying9 info5 u5 x5_1 (rdOf ByteArray.empty l0 x6_1) rfl rfl ?aO ?aB ?aS ?aL ?_; (case aB => exact s1_); (case aO => exact (Kd.own_of_R s13_)); (case aS => exact (below_size s1_)); (case aL => have := LMc18.out; omega); intro v925 w22 ho0 hb hg; have ho := Kd.R_of_own (h1 := fun _ => rfl) (ok := fun _ => True) ho0 (fun _ _ => trivial); clear ho0; have hat := True.intro; rw [← Ny924.out] at ho; change Kd.R (Kd.int .u8) 5 w22 w.heap.size (fun _ => True) v925 y924 at ho; have n_ := ac_ (hb) <| Aside0.mk (ho); clear HB HO_5; obtain ⟨HB, HO926⟩ := n_; clear ho hb hg hat; obtain ⟨Ao23, co23, eo23⟩ := Kd.R_slice HO926.out; subst eo23))
        go_roundg k1
        case measure => have := HK1.out; omega
        case rel => exact ⟨(y924), (wrap64 (x6_1 + 1)), s3_, H', ⟨by have := HK1.out; omega⟩, ⟨(by (with_reducible repeat (first | apply Kd.R_alloc | apply Kd.R_drewN | apply Kd.R_drew)); exact HO926.out)⟩, ⟨s1_⟩⟩
      ·
       rw [if_neg c18] at H
       exact absurd H (by simp)
     ·
      rw [if_neg c17] at H
      exact absurd H (by simp)
   ·
    rw [if_neg c5] at H; have c5b0 : decide (x6_1 < (l0.length : Int)) = false := decide_eq_false c5; clear c5; obtain rfl := Option.some.inj H; have hcv24 := own_string (P := Tryz.prog) Tryz.underlying22 Tryz.underlying5 Tryz.underlying9 (Kd.own_of_R HO_5.out)
    go_wp2
    go_ret
    exact ⟨s2_, s1_⟩
end Go.Proofs.YtafnamchckehmaaGreatDoor.Pr
