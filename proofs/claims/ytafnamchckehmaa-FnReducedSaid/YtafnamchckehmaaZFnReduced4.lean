/- What the law needs of the program's functions as plain functions, of the proofs that their calls answer so, and of plain laws: gathered by a program of this place (pack.py) out of its printed texts. No condition beyond what each statement says. -/
import Derived.Test.YtafnamchckehmaaZFnReduced2
import Derived.Test.YtafnamchckehmaaZFnReduced3
namespace Go.Proofs.Ytafnamchckehmaa.Pr
open Go.RowKit Go.Proofs.YtafnamchckehmaaW.PrintWords Go.Proofs.YtafnamchckehmaaW.PrintLast Go.Proofs.YtafnamchckehmaaW.PrintMore
attribute [local go_sem] max2_int min2_int max_two min_two max_three min_three max_four min_four
set_option linter.unusedVariables false
set_option linter.unusedSimpArgs false
theorem bnd3_ {α β : Type} {o : Option α} {f : α → Option β} {r : β} (h : o.bind f = some r) : ∃ a, Aside0 (o = some a) ∧ f a = some r := by
 obtain ⟨a, h1, h2⟩ := Option.bind_eq_some_iff.mp h
 exact ⟨a, ⟨h1⟩, h2⟩
theorem q3_1 {P : Prop} (h : P := by (with_reducible repeat (first | refine blk_drewN ?_ _ | refine blk_drew ?_ | refine blk_alloc ?_ _)); refine blk_put (cs := #[.int .i64 t179, .slice none 0 0]) ?_ 1 _ rfl; (with_reducible repeat (first | refine blk_drewN ?_ _ | refine blk_drew ?_ | refine blk_alloc ?_ _)); refine blk_put (cs := #[.int .i64 0, .slice none 0 0]) ?_ 0 _ rfl; (with_reducible repeat (first | refine blk_drewN ?_ _ | refine blk_drew ?_ | refine blk_alloc ?_ _)); exact BK178.out) : P := h
theorem q3_2 {P : Prop} (h : P := by (with_reducible repeat (first | refine blk_drewN ?_ _ | refine blk_drew ?_ | refine blk_alloc ?_ _)); refine blk_put (cs := #[.int .i64 t179, .slice none 0 0]) ?_ 1 _ rfl; (with_reducible repeat (first | refine blk_drewN ?_ _ | refine blk_drew ?_ | refine blk_alloc ?_ _)); refine blk_put (cs := #[.int .i64 0, .slice none 0 0]) ?_ 0 _ rfl; (with_reducible repeat (first | refine blk_drewN ?_ _ | refine blk_drew ?_ | refine blk_alloc ?_ _)); exact BK185.out) : P := h
theorem q3_3 {P : Prop} (h : P := by (with_reducible repeat (first | refine blk_drewN ?_ _ | refine blk_drew ?_ | refine blk_alloc ?_ _)); refine blk_far ?_ NB178_185.out _; (with_reducible repeat (first | refine blk_drewN ?_ _ | refine blk_drew ?_ | refine blk_alloc ?_ _)); refine blk_far ?_ NB178_185.out _; (with_reducible repeat (first | refine blk_drewN ?_ _ | refine blk_drew ?_ | refine blk_alloc ?_ _)); exact BK178.out) : P := h
theorem q3_4 {P : Prop} (h : P := by repeat (first | (with_reducible first | exact HI0.out | apply IsS67.alloc | apply IsS67.drewN | apply IsS67.drew | apply IsS67.set_1 | apply IsS67.set_2 | refine IsS67.far ?_ NB0_178.out _ | refine IsS67.far ?_ NB0_185.out _) | exact HI0.out)) : P := h
theorem q3_5 {P : Prop} (h : P := by repeat (first | (with_reducible first | exact HB.out | apply below_alloc | apply pw_below_drewN | apply below_drew1 | refine below_set ?_ (IsS67.ge HI0.out) | refine below_set ?_ GE178.out | refine below_set ?_ GE185.out) | exact HB.out)) : P := h
theorem q3_6 {P : Prop} (h : P := by repeat (first | (with_reducible first | exact HK.out | apply KeepBut.set_ | apply keep_drewN | apply keep_drew | apply keep_alloc | refine keep_far ?_ GW178.out _ | refine keep_far ?_ GW185.out _) | exact HK.out)) : P := h
theorem q3_7 {P : Prop} (h : P := by repeat (first | (with_reducible first | exact HI0.out | apply IsS67.alloc | apply IsS67.drewN | apply IsS67.drew | apply IsS67.set_1 | apply IsS67.set_2 | refine IsS67.far ?_ NB0_178.out _) | exact HI0.out)) : P := h
theorem q3_8 {P : Prop} (h : P := by repeat (first | (with_reducible first | exact HB.out | apply below_alloc | apply pw_below_drewN | apply below_drew1 | refine below_set ?_ (IsS67.ge HI0.out) | refine below_set ?_ GE178.out) | exact HB.out)) : P := h
theorem q3_9 {P : Prop} (h : P := by repeat (first | (with_reducible first | exact HK.out | apply KeepBut.set_ | apply keep_drewN | apply keep_drew | apply keep_alloc | refine keep_far ?_ GW178.out _) | exact HK.out)) : P := h
theorem q3_14 {P : Prop} (h : P := by (with_reducible repeat (first | refine blk_drewN ?_ _ | refine blk_drew ?_ | refine blk_alloc ?_ _)); exact BK178.out) : P := h
theorem q3_15 {P : Prop} (h : P := by (with_reducible repeat (first | refine blk_drewN ?_ _ | refine blk_drew ?_ | refine blk_alloc ?_ _)); exact BK185.out) : P := h
theorem q3_16 {P : Prop} (h : P := by (with_reducible repeat (first | apply Kd.R_alloc | apply Kd.R_drewN | apply Kd.R_drew)); exact HO182.out) : P := h
theorem q3_19 {P : Prop} (h : P := by decide) : P := h
def spec_l3Bent.l0 : Nat → List Int → Int → Int → Int → List Int → Option (Int × List Int × Int × Int)
 | 0, _, _, _, _, _ => none
 | k + 1, x1000, x1001, x1002, x186000, x186001 => if (x186001.length : Int) < 9 then (if x186001.length < 17592186044416 then (spec_l3Bent.l0 k x1000 x1001 x1002 x186000 (x186001 ++ [0])) else (none)) else (some (x186000, x186001, x1001, x1002))
def spec_l3Bent.f (k : Nat) (s0_0 : List Int) (s0_1 : Int) (s0_2 : Int) : Option (Int × List Int × Int × Int) := (spec_l3Draw.f k s0_0 s0_1 s0_2).bind fun bt179 => ((spec_l1Below.f s0_0 bt179.2.2.1 bt179.2.2.2 14).bind fun bt186 => (if bt186.1 = 0 then ((spec_l1PickInt.f s0_0 bt186.2.1 bt186.2.2 (([(-1), 0, 2, 7] : List Int))).bind fun bt192 => (some (bt192.1, bt179.2.1, bt192.2.1, bt192.2.2))) else (if bt186.1 = 1 then ((spec_l2Bent.f s0_0 bt186.2.1 bt186.2.2).bind fun bt195 => (if bt179.2.1.length < 17592186044416 then (some (bt179.1, (bt179.2.1 ++ [bt195.1]), bt195.2.1, bt195.2.2)) else (none))) else (if bt186.1 = 2 then (spec_l3Bent.l0 k s0_0 bt186.2.1 bt186.2.2 bt179.1 bt179.2.1) else (some (bt179.1, bt179.2.1, bt186.2.1, bt186.2.2))))))
def spec_l3Bent.T6 : Bool × List (List Nat × List Nat) := (true, [([], []), ([0], [0]), ([], []), ([2], [2]), ([3], [3]), ([1, 4, 3], [1, 4]), ([0, 1, 2, 3, 4, 5], []), ([6, 5, 5, 0, 1, 2, 3, 4, 5], [5, 6])])
def spec_l3Bent.B6 : List Nat := [0, 1, 0, 4, 12, 31, 63, 127]
theorem spec_l3Bent.tab6 : rtab .any (opsOf Try.f51 6) = spec_l3Bent.T6 := s8_
theorem spec_l3Bent.bits6 : waitsOk spec_l3Bent.T6.2 spec_l3Bent.B6 = true := s8_
set_option maxHeartbeats 8000000 in
set_option maxRecDepth 100000 in
theorem spec_l3Bent.calls (k : Nat) (g : Nat) (s0_0 : List Int) (s0_1 : Int) (s0_2 : Int) (r1 : Int) (r2 : List Int) (r3 : Int) (r4 : Int) (w0 w : World) (hI : IsS67 w0 w g s0_0 s0_1 s0_2) (hB : Below w0.heap.size w0 w) (h : spec_l3Bent.f k s0_0 s0_1 s0_2 = some (r1, r2, r3, r4)) :
  Calls Try.prog 51 #[.pointer (some ⟨g, 0, none⟩)] w fun e w' => ∃ v1_ : Value, e = .returned (.agg #[.int .i64 r1, v1_]) ∧ Kd.R (Kd.int .i64) 3 w' w.heap.size (fun _ => True) v1_ r2 ∧ IsS67 w0 w' g s0_0 r3 r4 ∧ Below w0.heap.size w0 w' ∧ KeepBut w w' g none := by
 have hu26 := Try.underlying26; have HI0 := Aside0.mk hI; have HK := Aside0.mk (KeepBut.refl w g none); have HL := Aside0.mk hB.size; clear hI; have HW0 := Aside0.mk hB.size; have HB := Aside0.mk hB; clear hB; have H := h; clear h; unfold spec_l3Bent.f at H; obtain ⟨⟨t179, t180, t183, t184⟩, A2, H⟩ := bnd3_ H; dsimp only at H; obtain ⟨⟨t186, t187, t188⟩, A3, H⟩ := bnd3_ H; dsimp only at H
 by_cases c4 : t186 = 0
 ·
  rw [if_pos c4] at H; have c4b0 : (t186 == 0) = true := beq_iff_eq.mpr c4; have c4b1 : (t186 != 0) = false := bne_eq_false_iff_eq.mpr c4; clear c4; obtain ⟨y189, hy189⟩ : ∃ y_ : List Int, y_ = (([(-1), 0, 2, 7] : List Int)) := ⟨_, rfl⟩
  replace H : ((spec_l1PickInt.f s0_0 t187 t188 y189).bind fun bt192 => (some (bt192.1, t180, bt192.2.1, bt192.2.2))) = some (r1, r2, r3, r4) := by first | (rw [hy189]; with_reducible exact H) | (have H2_ := (Option.bind_some _ _).symm.trans H; rw [hy189]; with_reducible exact H2_) | (have H2_ := (Option.bind_some _ _).symm.trans H; with_reducible exact H2_) | with_reducible exact H | (rw [hy189]; exact H) | exact H
  have Ny189 := Aside0.mk hy189; clear hy189; obtain ⟨⟨t192, t193, t194⟩, A5, H⟩ := bnd3_ H; dsimp only at H
  simp only [Option.some.injEq, Prod.mk.injEq] at H
  obtain ⟨rfl, rfl, rfl, rfl⟩ := H
  go_enter Try.func51, Try.ntmps51
  go_wp2_with (first | (refine be_ 2 #[.int .i64 0, .slice none 0 0] 26 ?_; intro gb178 hg w6 hbox hb; have n_ := ac_ (IsS67.below s5_ hb) <| ac_ (KeepBut.trans s6_ (KeepBut.of_below hb g none) (.inl rfl)) <| ac_ (below_step s10_ hb) <| ac_ (hbox) <| ac_ ((by rw [hg]; exact (keep_size (w := w) (g := g) (row := none) s6_) : w.heap.size ≤ gb178)) <| ac_ ((Nat.le_trans HW0.out (by rw [hg]; exact (keep_size (w := w) (g := g) (row := none) s6_) : w.heap.size ≤ gb178) : w0.heap.size ≤ gb178)) <| ac_ ((nl_ hg (IsS67.lt (show IsS67 w0 _ g s0_0 s0_1 s0_2 from s5_)))) <| Aside0.mk ((ng_ hg (IsS67.lt (show IsS67 w0 _ g s0_0 s0_1 s0_2 from s5_)))); clear HI0 HK HB; obtain ⟨HI0, HK, HB, BK178, GW178, GE178, NB0_178, NB178_0⟩ := n_; clear hb hbox hg) | (refine gL_ 81 5 Try.func81 #[.pointer (some ⟨g, 0, none⟩)] ?_; (with_reducible refine (spec_l3Draw.calls k g s0_0 s0_1 s0_2 t179 t180 t183 t184 w0 _ ?side1 ?side2 A2.out).mono ?_); (case side1 => exact q3_7); (case side2 => exact q3_8); rintro e w7 ⟨v181, rfl, ho0, hi, hb, hk⟩; refine ⟨_, rfl, ?_⟩; have n_ := ac_ (KeepBut.blk hk (g' := gb178) (o := .cells #[.int .i64 0, .slice none 0 0] 26 (0, 0)) q3_14 NB178_0.out (by simp)) <| ac_ (Kd.R_lower ho0 (keep_size (w := w) (g := g) (row := none) q3_9)) <| ac_ (KeepBut.trans q3_9 hk (.inl rfl)) <| ac_ (hb) <| Aside0.mk (hi); clear BK178 HK HB HI0; obtain ⟨BK178, HO182, HK, HB, HI0⟩ := n_; (try clear hb hk hi ho0)) | (refine be_ 3 #[.int .i64 0, .slice none 0 0] 26 ?_; intro gb185 hg w8 hbox hb; have n_ := ac_ (Kd.R_below q3_16 hb) <| ac_ (IsS67.below q3_7 hb) <| ac_ (blk_below (g := gb178) (o := .cells #[.int .i64 0, .slice none 0 0] 26 (0, 0)) q3_14 hb) <| ac_ (KeepBut.trans q3_9 (KeepBut.of_below hb g none) (.inl rfl)) <| ac_ (below_step q3_8 hb) <| ac_ (hbox) <| ac_ ((by rw [hg]; exact (keep_size (w := w) (g := g) (row := none) q3_9) : w.heap.size ≤ gb185)) <| ac_ ((Nat.le_trans HW0.out (by rw [hg]; exact (keep_size (w := w) (g := g) (row := none) q3_9) : w.heap.size ≤ gb185) : w0.heap.size ≤ gb185)) <| ac_ ((nl_ hg (blk_lt (g := gb178) (o := .cells #[.int .i64 0, .slice none 0 0] 26 (0, 0)) q3_14))) <| ac_ ((ng_ hg (blk_lt (g := gb178) (o := .cells #[.int .i64 0, .slice none 0 0] 26 (0, 0)) q3_14))) <| ac_ ((nl_ hg (IsS67.lt (show IsS67 w0 _ g s0_0 t183 t184 from q3_7)))) <| Aside0.mk ((ng_ hg (IsS67.lt (show IsS67 w0 _ g s0_0 t183 t184 from q3_7)))); clear HO182 HI0 BK178 HK HB; obtain ⟨HO182, HI0, BK178, HK, HB, BK185, GW185, GE185, NB178_185, NB185_178, NB0_185, NB185_0⟩ := n_; clear hb hbox hg; have hnb9 := NB185_178.out; have hnc9 := NB178_185.out; have hnb10 := NB185_0.out; have hnc10 := NB0_185.out; have hcz11_0 : w8.cell? ⟨gb185, 0, none⟩ = some (.int .i64 0) := (blk_cell BK185.out 0).trans rfl; have hcz11_1 : w8.cell? ⟨gb185, 1, none⟩ = some (.slice none 0 0) := (blk_cell BK185.out 1).trans rfl; have hfz11_0 := blk_frozen BK185.out 0; have hfz11_1 := blk_frozen BK185.out 1; obtain ⟨Ao12, co12, eo12⟩ := Kd.R_slice HO182.out; subst eo12) | (refine gL_ 78 7 Try.func78 #[.pointer (some ⟨g, 0, none⟩), .int .i64 14] ?_; (with_reducible refine (spec_l1Below.calls g s0_0 t183 t184 14 t186 t187 t188 w0 _ ?side1 ?side2 A3.out).mono ?_); (case side1 => exact q3_4); (case side2 => exact q3_5); rintro e w13 ⟨rfl, hi, hb, hk⟩; refine ⟨_, rfl, ?_⟩; have n_ := ac_ (KeepBut.blk hk (g' := gb178) (o := .cells #[.int .i64 0, .slice none 0 0] 26 (0, 0)) q3_3 NB178_0.out (by simp)) <| ac_ (Kd.R_mono (Kd.R_keep (IsS67.apart (show IsS67 w0 _ g s0_0 t183 t184 from q3_4) (by (with_reducible repeat (first | apply Kd.R_alloc | apply Kd.R_drewN | apply Kd.R_drew)); exact (Kd.R_mono (Kd.R_far (p := ⟨gb185, 1, none⟩) (Kd.R_far (p := ⟨gb185, 0, none⟩) (Kd.R_types HO182.out BK185.out q3_19) (fun _ hk => hk.2) (.int .i64 t179)) (fun _ hk => hk.2) (.slice Ao12 t180.length co12)) (fun _ h_ => h_.1))) q3_19) hk (fun _ h => h.2)) (fun _ h => h.1)) <| ac_ (KeepBut.blk hk (g' := gb185) (o := .cells #[.int .i64 t179, .slice Ao12 t180.length co12] 26 (0, 0)) q3_2 NB185_0.out (by simp)) <| ac_ (KeepBut.trans q3_6 hk (.inl rfl)) <| ac_ (hb) <| Aside0.mk (hi); clear BK178 HO182 BK185 HK HB HI0; obtain ⟨BK178, HO182, BK185, HK, HB, HI0⟩ := n_; (try clear hb hk hi)) | ((with_reducible refine gate_dst (N := 11) rfl ?_); refine Kd.R_lit (Kd.int .i64) _ 3 ?hg (N := 11) ?hd (xs := ([(-1), 0, 2, 7] : List Int)) (inner := [.int .i64 (-1), .int .i64 0, .int .i64 2, .int .i64 7]) (ok := fun _ => True) (okp := fun _ => True) ?hr ?hp (fun _ hk => hk) trivial (Below.refl _ _) (Nat.le_refl _) (by simp) ?_; (case hd => rfl); (case hg => rfl); (case hr => first | (go_simp; done) | (go_simp; rfl)); (case hp => exact (Reps.one (show Kd.M (Kd.int .i64) _ _ _ (-1) [.int .i64 (-1)] from rfl) (Reps.one (show Kd.M (Kd.int .i64) _ _ _ 0 [.int .i64 0] from rfl) (Reps.one (show Kd.M (Kd.int .i64) _ _ _ 2 [.int .i64 2] from rfl) (Reps.one (show Kd.M (Kd.int .i64) _ _ _ 7 [.int .i64 7] from rfl) (Reps.none _ _)))))); intro v190 w14 ho15 hb hg_ hnew_; clear hg_ hnew_; (first | rw [← Ny189.out] at ho15 | (simp only [Int.reduceToNat] at ho15; rw [← Ny189.out] at ho15)); have n_ := ac_ (Kd.R_elder' q3_16 (Kd.R_base ho15) hb) <| ac_ (Kd.R_lower (Kd.R_new' ho15 (Kd.R_lt q3_16)) (keep_size (w := w) (g := g) (row := none) q3_6)) <| ac_ (IsS67.below q3_4 hb) <| ac_ (blk_below (g := gb178) (o := .cells #[.int .i64 0, .slice none 0 0] 26 (0, 0)) q3_14 hb) <| ac_ (blk_below (g := gb185) (o := .cells #[.int .i64 t179, .slice Ao12 t180.length co12] 26 (0, 0)) q3_15 hb) <| ac_ (KeepBut.trans q3_6 (KeepBut.of_below hb g none) (.inl rfl)) <| Aside0.mk (below_step q3_5 hb); clear HO182 HI0 BK178 BK185 HK HB; obtain ⟨HO182, HO191, HI0, BK178, BK185, HK, HB⟩ := n_; clear hb ho15; obtain ⟨Ao16, co16, eo16⟩ := Kd.R_slice HO191.out; subst eo16) | (refine gL_ 82 12 Try.func82 #[.pointer (some ⟨g, 0, none⟩), .slice Ao16 y189.length co16] ?_; (with_reducible refine (spec_l1PickInt.calls g s0_0 t187 t188 _ _ y189 t192 t193 t194 w0 _ ?side1 ?side2 ?side3 ?side4 ?side5 A5.out).mono ?_); (case side1 => exact q3_4); (case side2 => exact q3_5); (case side3 => repeat (first | exact (Kd.R_reads' HO191.out).2.2 | (with_reducible refine Kd.C_alloc ?_ _) | (with_reducible refine Kd.C_drewN ?_ _) | (with_reducible refine Kd.C_drew ?_))); (case side4 => exact (Kd.R_reads' HO191.out).2.1); (case side5 => exact far_slice (IsS67.own_ne HI0.out HO191.out q3_19)); rintro e w17 ⟨rfl, hi, hb, hk⟩; refine ⟨_, rfl, ?_⟩; have n_ := ac_ (KeepBut.blk hk (g' := gb178) (o := .cells #[.int .i64 0, .slice none 0 0] 26 (0, 0)) q3_14 NB178_0.out (by simp)) <| ac_ (Kd.R_mono (Kd.R_keep (IsS67.apart (show IsS67 w0 _ g s0_0 t187 t188 from q3_4) q3_16 q3_19) hk (fun _ h => h.2)) (fun _ h => h.1)) <| ac_ (KeepBut.blk hk (g' := gb185) (o := .cells #[.int .i64 t179, .slice Ao12 t180.length co12] 26 (0, 0)) q3_15 NB185_0.out (by simp)) <| ac_ (Kd.R_mono (Kd.R_keep (IsS67.apart (show IsS67 w0 _ g s0_0 t187 t188 from q3_4) (by (with_reducible repeat (first | apply Kd.R_alloc | apply Kd.R_drewN | apply Kd.R_drew)); exact HO191.out) q3_19) hk (fun _ h => h.2)) (fun _ h => h.1)) <| ac_ (KeepBut.trans q3_6 hk (.inl rfl)) <| ac_ (hb) <| Aside0.mk (hi); clear BK178 HO182 BK185 HO191 HK HB HI0; obtain ⟨BK178, HO182, BK185, HO191, HK, HB, HI0⟩ := n_; (try clear hb hk hi); have hcz18_0 : w17.cell? ⟨gb185, 0, none⟩ = some (.int .i64 t179) := (blk_cell BK185.out 0).trans rfl; have hcz18_1 : w17.cell? ⟨gb185, 1, none⟩ = some (.slice Ao12 t180.length co12) := (blk_cell BK185.out 1).trans rfl; have hfz18_0 := blk_frozen BK185.out 0; have hfz18_1 := blk_frozen BK185.out 1; have hnb19 := NB178_0.out; have hnc19 := NB0_178.out; have hcz20_0 : w17.cell? ⟨gb178, 0, none⟩ = some (.int .i64 0) := (blk_cell BK178.out 0).trans rfl; have hcz20_1 : w17.cell? ⟨gb178, 1, none⟩ = some (.slice none 0 0) := (blk_cell BK178.out 1).trans rfl; have hfz20_0 := blk_frozen BK178.out 0; have hfz20_1 := blk_frozen BK178.out 1))
  refine bodyPost_ret (results_cell_row rfl _ _ gb178 26 #[.int .i64 t192, .slice Ao12 t180.length co12] (0, 0) _ rfl (by (with_reducible repeat (first | refine blk_drewN ?_ _ | refine blk_drew ?_ | refine blk_alloc ?_ _)); refine blk_put (cs := #[.int .i64 t192, .slice none 0 0]) ?_ 1 _ rfl; (with_reducible repeat (first | refine blk_drewN ?_ _ | refine blk_drew ?_ | refine blk_alloc ?_ _)); refine blk_put (cs := #[.int .i64 0, .slice none 0 0]) ?_ 0 _ rfl; (with_reducible repeat (first | refine blk_drewN ?_ _ | refine blk_drew ?_ | refine blk_alloc ?_ _)); refine blk_far ?_ NB178_185.out _; (with_reducible repeat (first | refine blk_drewN ?_ _ | refine blk_drew ?_ | refine blk_alloc ?_ _)); exact BK178.out) Try.underlying26 rfl s8_) rfl ?_
  exact ⟨_, s11_, (by (with_reducible repeat (first | apply Kd.R_alloc | apply Kd.R_drewN | apply Kd.R_drew)); exact Kd.R_mono (Kd.R_far (p := ⟨gb178, 1, none⟩) (Kd.R_far (p := ⟨gb178, 0, none⟩) (Kd.R_far (p := ⟨gb185, 0, none⟩) (Kd.R_types (Kd.R_types HO182.out BK185.out q3_19) BK178.out q3_19) (fun _ hk => hk.1.2) (.int .i64 t192)) (fun _ hk => hk.2) (.int .i64 t192)) (fun _ hk => hk.2) (.slice Ao12 t180.length co12)) (fun _ hk => trivial)), q3_4, q3_5, q3_6⟩
 ·
  rw [if_neg c4] at H; have c4b0 : (t186 == 0) = false := beq_eq_false_iff_ne.mpr c4; have c4b1 : (t186 != 0) = true := bne_iff_ne.mpr c4
  by_cases c21 : t186 = 1
  ·
   rw [if_pos c21] at H; have c21b0 : (t186 == 1) = true := beq_iff_eq.mpr c21; have c21b1 : (t186 != 1) = false := bne_eq_false_iff_eq.mpr c21; clear c21; obtain ⟨⟨t195, t196, t197⟩, A22, H⟩ := bnd3_ H; dsimp only at H
   by_cases c23 : t180.length < 17592186044416
   ·
    rw [if_pos c23] at H; have LMc23 := Aside0.mk c23; clear c23; obtain ⟨y198, hy198⟩ : ∃ y_ : List Int, y_ = (t180 ++ [t195]) := ⟨_, rfl⟩
    replace H : (some (t179, y198, t196, t197)) = some (r1, r2, r3, r4) := by first | (rw [hy198]; with_reducible exact H) | (have H2_ := (Option.bind_some _ _).symm.trans H; rw [hy198]; with_reducible exact H2_) | (have H2_ := (Option.bind_some _ _).symm.trans H; with_reducible exact H2_) | with_reducible exact H | (rw [hy198]; exact H) | exact H
    have Ny198 := Aside0.mk hy198; clear hy198
    simp only [Option.some.injEq, Prod.mk.injEq] at H
    obtain ⟨rfl, rfl, rfl, rfl⟩ := H
    go_enter Try.func51, Try.ntmps51
    try go_wp2_with (first | (refine be_ 2 #[.int .i64 0, .slice none 0 0] 26 ?_; intro gb178 hg w24 hbox hb; have n_ := ac_ (IsS67.below s5_ hb) <| ac_ (KeepBut.trans s6_ (KeepBut.of_below hb g none) (.inl rfl)) <| ac_ (below_step s10_ hb) <| ac_ (hbox) <| ac_ ((by rw [hg]; exact (keep_size (w := w) (g := g) (row := none) s6_) : w.heap.size ≤ gb178)) <| ac_ ((Nat.le_trans HW0.out (by rw [hg]; exact (keep_size (w := w) (g := g) (row := none) s6_) : w.heap.size ≤ gb178) : w0.heap.size ≤ gb178)) <| ac_ ((nl_ hg (IsS67.lt (show IsS67 w0 _ g s0_0 s0_1 s0_2 from s5_)))) <| Aside0.mk ((ng_ hg (IsS67.lt (show IsS67 w0 _ g s0_0 s0_1 s0_2 from s5_)))); clear HI0 HK HB; obtain ⟨HI0, HK, HB, BK178, GW178, GE178, NB0_178, NB178_0⟩ := n_; clear hb hbox hg) | (refine gL_ 81 5 Try.func81 #[.pointer (some ⟨g, 0, none⟩)] ?_; (with_reducible refine (spec_l3Draw.calls k g s0_0 s0_1 s0_2 t179 t180 t183 t184 w0 _ ?side1 ?side2 A2.out).mono ?_); (case side1 => exact q3_7); (case side2 => exact q3_8); rintro e w25 ⟨v181, rfl, ho0, hi, hb, hk⟩; refine ⟨_, rfl, ?_⟩; have n_ := ac_ (KeepBut.blk hk (g' := gb178) (o := .cells #[.int .i64 0, .slice none 0 0] 26 (0, 0)) q3_14 NB178_0.out (by simp)) <| ac_ (Kd.R_lower ho0 (keep_size (w := w) (g := g) (row := none) q3_9)) <| ac_ (KeepBut.trans q3_9 hk (.inl rfl)) <| ac_ (hb) <| Aside0.mk (hi); clear BK178 HK HB HI0; obtain ⟨BK178, HO182, HK, HB, HI0⟩ := n_; (try clear hb hk hi ho0)) | (refine be_ 3 #[.int .i64 0, .slice none 0 0] 26 ?_; intro gb185 hg w26 hbox hb; have n_ := ac_ (Kd.R_below q3_16 hb) <| ac_ (IsS67.below q3_7 hb) <| ac_ (blk_below (g := gb178) (o := .cells #[.int .i64 0, .slice none 0 0] 26 (0, 0)) q3_14 hb) <| ac_ (KeepBut.trans q3_9 (KeepBut.of_below hb g none) (.inl rfl)) <| ac_ (below_step q3_8 hb) <| ac_ (hbox) <| ac_ ((by rw [hg]; exact (keep_size (w := w) (g := g) (row := none) q3_9) : w.heap.size ≤ gb185)) <| ac_ ((Nat.le_trans HW0.out (by rw [hg]; exact (keep_size (w := w) (g := g) (row := none) q3_9) : w.heap.size ≤ gb185) : w0.heap.size ≤ gb185)) <| ac_ ((nl_ hg (blk_lt (g := gb178) (o := .cells #[.int .i64 0, .slice none 0 0] 26 (0, 0)) q3_14))) <| ac_ ((ng_ hg (blk_lt (g := gb178) (o := .cells #[.int .i64 0, .slice none 0 0] 26 (0, 0)) q3_14))) <| ac_ ((nl_ hg (IsS67.lt (show IsS67 w0 _ g s0_0 t183 t184 from q3_7)))) <| Aside0.mk ((ng_ hg (IsS67.lt (show IsS67 w0 _ g s0_0 t183 t184 from q3_7)))); clear HO182 HI0 BK178 HK HB; obtain ⟨HO182, HI0, BK178, HK, HB, BK185, GW185, GE185, NB178_185, NB185_178, NB0_185, NB185_0⟩ := n_; clear hb hbox hg; have hnb27 := NB185_178.out; have hnc27 := NB178_185.out; have hnb28 := NB185_0.out; have hnc28 := NB0_185.out; have hcz29_0 : w26.cell? ⟨gb185, 0, none⟩ = some (.int .i64 0) := (blk_cell BK185.out 0).trans rfl; have hcz29_1 : w26.cell? ⟨gb185, 1, none⟩ = some (.slice none 0 0) := (blk_cell BK185.out 1).trans rfl; have hfz29_0 := blk_frozen BK185.out 0; have hfz29_1 := blk_frozen BK185.out 1; obtain ⟨Ao30, co30, eo30⟩ := Kd.R_slice HO182.out; subst eo30) | (refine gL_ 78 7 Try.func78 #[.pointer (some ⟨g, 0, none⟩), .int .i64 14] ?_; (with_reducible refine (spec_l1Below.calls g s0_0 t183 t184 14 t186 t187 t188 w0 _ ?side1 ?side2 A3.out).mono ?_); (case side1 => exact q3_4); (case side2 => exact q3_5); rintro e w31 ⟨rfl, hi, hb, hk⟩; refine ⟨_, rfl, ?_⟩; have n_ := ac_ (KeepBut.blk hk (g' := gb178) (o := .cells #[.int .i64 0, .slice none 0 0] 26 (0, 0)) q3_3 NB178_0.out (by simp)) <| ac_ (Kd.R_mono (Kd.R_keep (IsS67.apart (show IsS67 w0 _ g s0_0 t183 t184 from q3_4) (by (with_reducible repeat (first | apply Kd.R_alloc | apply Kd.R_drewN | apply Kd.R_drew)); exact (Kd.R_mono (Kd.R_far (p := ⟨gb185, 1, none⟩) (Kd.R_far (p := ⟨gb185, 0, none⟩) (Kd.R_types HO182.out BK185.out q3_19) (fun _ hk => hk.2) (.int .i64 t179)) (fun _ hk => hk.2) (.slice Ao30 t180.length co30)) (fun _ h_ => h_.1))) q3_19) hk (fun _ h => h.2)) (fun _ h => h.1)) <| ac_ (KeepBut.blk hk (g' := gb185) (o := .cells #[.int .i64 t179, .slice Ao30 t180.length co30] 26 (0, 0)) q3_2 NB185_0.out (by simp)) <| ac_ (KeepBut.trans q3_6 hk (.inl rfl)) <| ac_ (hb) <| Aside0.mk (hi); clear BK178 HO182 BK185 HK HB HI0; obtain ⟨BK178, HO182, BK185, HK, HB, HI0⟩ := n_; (try clear hb hk hi)))
    have n0_ := Aside0.mk (Kd.R_drew HO182.out); have n1_ := Aside0.mk (blk_drew BK178.out); have n2_ := Aside0.mk (blk_drew BK185.out); have n3_ := Aside0.mk (IsS67.drew HI0.out); have n4_ := Aside0.mk (keep_drew HK.out); have n5_ := Aside0.mk (below_drew1 HB.out); clear HO182; clear BK178; clear BK185; clear HI0; clear HK; clear HB; have HO182 := n0_; have BK178 := n1_; have BK185 := n2_; have HI0 := n3_; have HK := n4_; have HB := n5_; clear n0_ n1_ n2_ n3_ n4_ n5_
    refine start_ (n := 8) (S := fun w' => w'.cell? ⟨gb185, 0, none⟩ = some (.int .i64 t179) ∧ w'.cell? ⟨gb185, 1, none⟩ = some (.slice Ao30 t180.length co30)) (ds := [7]) (tb_ 8 0) s8_ rfl rfl ⟨(blk_cell BK185.out 0).trans rfl, (blk_cell BK185.out 1).trans rfl⟩ (fun hHeld => ?_); refine with_tabW spec_l3Bent.tab6 spec_l3Bent.bits6 (fun HT_ HW_ => ?_)
    generalize w31.drew = w32 at HO182 BK178 BK185 HI0 HK HB hHeld ⊢
    refine pl_ 0 16 (tb_ 8 1) ?_; refine pl_ 2 18 (tb_ 8 5) ?_; refine tk_ 1 17 (tb_ 8 7) hHeld ?_
    refine on_ 3 19 (tb_ 8 15) (fun K hK => ?_)
    refine goes_ Try.func83 s8_ rfl #[.pointer (some ⟨g, 0, none⟩)] (by rfl) rfl rfl s0_ ?_
    with_reducible refine (spec_l2Bent.calls g s0_0 t187 t188 t195 t196 t197 w0 _ ?side1 ?side2 A22.out).mono ?_
    (case side1 => exact q3_4)
    (case side2 => exact q3_5)
    rintro e w33 ⟨rfl, hi, hb, hk⟩
    refine ⟨_, rfl, ?_⟩
    have n0_ := Aside0.mk (KeepBut.blk hk (g' := gb178) (o := .cells #[.int .i64 0, .slice none 0 0] 26 (0, 0)) q3_14 NB178_0.out (by simp))
    have n1_ := Aside0.mk (Kd.R_mono (Kd.R_keep (IsS67.apart (show IsS67 w0 _ g s0_0 t187 t188 from q3_4) q3_16 q3_19) hk (fun _ h => h.2)) (fun _ h => h.1))
    have n2_ := Aside0.mk (KeepBut.blk hk (g' := gb185) (o := .cells #[.int .i64 t179, .slice Ao30 t180.length co30] 26 (0, 0)) q3_15 NB185_0.out (by simp))
    have n3_ := Aside0.mk (KeepBut.trans q3_6 hk (.inl rfl)); have n4_ := Aside0.mk (hb); have n5_ := Aside0.mk (hi); clear BK178; clear HO182; clear BK185; clear HK; clear HB; clear HI0; have BK178 := n0_; have HO182 := n1_; have BK185 := n2_; have HK := n3_; have HB := n4_; have HI0 := n5_; clear n0_ n1_ n2_ n3_ n4_ n5_
    (try clear hb)
    (try clear hb2)
    (try clear hk)
    (try clear hi)
    refine hK.out _ _ ⟨(blk_cell BK185.out 0).trans rfl, (blk_cell BK185.out 1).trans rfl⟩ (fun hHeld => ?_)
    clear hK K
    refine norm_ (a' := ?_) ?_ ?_
    rotate_left
    ·
     show Act.put _ (some 19) _ = _
     simp only [Act.put, List.setIfInBounds_toArray, List.set_cons_zero, List.set_cons_succ, i64_w, i32_w]
     rfl
    refine on_ 4 20 (tb_ 8 31) (fun K hK => ?_)
    refine value_ (w1 := ?_) (v := ?_) (by rfl) rfl ?_ ?_
    rotate_left 2
    ·
     go_simp
     constructor
     ·
      rfl
     ·
      rfl
    refine hK.out _ _ ⟨(blk_cell (blk_alloc BK185.out _) 0).trans rfl, (blk_cell (blk_alloc BK185.out _) 1).trans rfl⟩ (fun hHeld => ?_)
    clear hK K
    refine norm_ (a' := ?_) ?_ ?_
    rotate_left
    ·
     show Act.put _ (some 20) _ = _
     simp only [Act.put, List.setIfInBounds_toArray, List.set_cons_zero, List.set_cons_succ, i64_w, i32_w]
     rfl
    refine on_ 5 21 (tb_ 8 63) (fun K hK => ?_)
    refine Kd.R_append_step (Kd.int .i64) w.heap.size (by rfl) (.tmp 17) (.tmp 20) 24 3 (.int .i64 0) 8 rfl Try.underlying24 info3 rfl q3_19 (by omega) (.slice Ao30 t180.length co30) t180 t195 [.int .i64 t195] (fun _ => True) (fun _ => False) rfl rfl ?aP (fun _ hk => hk.elim) ?aF ?aO (Below.refl _ _) ?aS ?aL ?_
    (case aP => exact rfl)
    (case aF => exact (fun _ _ => trivial))
    (case aO => exact q3_16)
    (case aS => exact (keep_size (w := w) (g := g) (row := none) q3_6))
    (case aL => have := LMc23.out; omega)
    intro v199 w34 ho hb hg hat
    rw [← Ny198.out] at ho; have n0_ := Aside0.mk (IsS67.grown q3_4 hg (IsS67.own_ne HI0.out HO182.out q3_19)); have n1_ := Aside0.mk (blk_grown (g := gb178) (o := .cells #[.int .i64 0, .slice none 0 0] 26 (0, 0)) q3_14 hg (Kd.R_ne HO182.out BK178.out q3_19)); have n2_ := Aside0.mk (blk_grown (g := gb185) (o := .cells #[.int .i64 t179, .slice Ao30 t180.length co30] 26 (0, 0)) q3_15 hg (Kd.R_ne HO182.out BK185.out q3_19)); have n3_ := Aside0.mk (below_weaken q3_5 HL.out hb); have n4_ := Aside0.mk (KeepBut.trans q3_6 (KeepBut.of_grown hg g) (Kd.R_base2 HO182.out)); have n5_ := Aside0.mk (ho); clear HI0; clear BK178; clear BK185; clear HB; clear HK; clear HO182; have HI0 := n0_; have BK178 := n1_; have BK185 := n2_; have HB := n3_; have HK := n4_; have HO200 := n5_; clear n0_ n1_ n2_ n3_ n4_ n5_; clear ho hb hg hat; obtain ⟨Ao35, co35, eo35⟩ := Kd.R_slice HO200.out
    (first | subst eo35 | (injection eo35 with f1_ f2_ f3_; have f4_ := f1_.symm; have f5_ := f3_.symm; clear f1_ f2_ f3_; subst f4_; subst f5_))
    refine hK.out _ _ ⟨(blk_cell BK185.out 0).trans rfl, (blk_cell BK185.out 1).trans rfl⟩ (fun hHeld => ?_)
    clear hK K
    refine norm_ (a' := ?_) ?_ ?_
    rotate_left
    ·
     show Act.put _ (some 21) _ = _
     simp only [Act.put, List.setIfInBounds_toArray, List.set_cons_zero, List.set_cons_succ, i64_w, i32_w]
     rfl
    refine pl_ 6 22 (tb_ 8 127) ?_
    refine last_ (i := 7) (N := none) (tb_ 8 255) rfl rfl (one_of HT_.out s8_) q3_19 (fun K hK => ?_)
    have hs36 : w34.cell? ⟨gb185, 1, none⟩ = some (.slice Ao30 t180.length co30) := (blk_cell BK185.out 1).trans rfl; have hfs36 := blk_frozen BK185.out 1; have hns36_0 := NB178_185.out; have hms36_0 := NB185_178.out
    refine skip_ (w1 := ?_) (by rfl) rfl ?_ ?_
    rotate_left
    ·
     go_simp
     rfl
    refine hK.out _ _ ?_
    clear hK K
    refine done_ (done_of HT_.out s8_) ?_
    have hcz37_0 : w34.cell? ⟨gb185, 0, none⟩ = some (.int .i64 t179) := (blk_cell BK185.out 0).trans rfl; have hcz37_1 : w34.cell? ⟨gb185, 1, none⟩ = some (.slice Ao30 t180.length co30) := (blk_cell BK185.out 1).trans rfl; have hfz37_0 := blk_frozen BK185.out 0; have hfz37_1 := blk_frozen BK185.out 1; have hnb38 := NB178_0.out; have hnc38 := NB0_178.out; have hcz39_0 : w34.cell? ⟨gb178, 0, none⟩ = some (.int .i64 0) := (blk_cell BK178.out 0).trans rfl; have hcz39_1 : w34.cell? ⟨gb178, 1, none⟩ = some (.slice none 0 0) := (blk_cell BK178.out 1).trans rfl; have hfz39_0 := blk_frozen BK178.out 0; have hfz39_1 := blk_frozen BK178.out 1
    try go_wp2
    refine bodyPost_ret (results_cell_row rfl _ _ gb178 26 #[.int .i64 t179, .slice Ao35 y198.length co35] (0, 0) _ rfl (by (with_reducible repeat (first | refine blk_drewN ?_ _ | refine blk_drew ?_ | refine blk_alloc ?_ _)); refine blk_put (cs := #[.int .i64 t179, .slice none 0 0]) ?_ 1 _ rfl; (with_reducible repeat (first | refine blk_drewN ?_ _ | refine blk_drew ?_ | refine blk_alloc ?_ _)); refine blk_put (cs := #[.int .i64 0, .slice none 0 0]) ?_ 0 _ rfl; (with_reducible repeat (first | refine blk_drewN ?_ _ | refine blk_drew ?_ | refine blk_alloc ?_ _)); refine blk_far ?_ NB178_185.out _; (with_reducible repeat (first | refine blk_drewN ?_ _ | refine blk_drew ?_ | refine blk_alloc ?_ _)); exact BK178.out) Try.underlying26 rfl s8_) rfl ?_
    exact ⟨_, s11_, (by (with_reducible repeat (first | apply Kd.R_alloc | apply Kd.R_drewN | apply Kd.R_drew)); exact Kd.R_mono (Kd.R_far (p := ⟨gb178, 1, none⟩) (Kd.R_far (p := ⟨gb178, 0, none⟩) (Kd.R_far (p := ⟨gb185, 1, none⟩) (Kd.R_types (Kd.R_types HO200.out BK185.out q3_19) BK178.out q3_19) (fun _ hk => hk.1.2) (.slice Ao35 y198.length co35)) (fun _ hk => hk.2) (.int .i64 t179)) (fun _ hk => hk.2) (.slice Ao35 y198.length co35)) (fun _ hk => trivial)), q3_4, q3_5, q3_6⟩
   ·
    rw [if_neg c23] at H
    exact absurd H (by simp)
  ·
   rw [if_neg c21] at H; have c21b0 : (t186 == 1) = false := beq_eq_false_iff_ne.mpr c21; have c21b1 : (t186 != 1) = true := bne_iff_ne.mpr c21
   by_cases c40 : t186 = 2
   ·
    rw [if_pos c40] at H; have c40b0 : (t186 == 2) = true := beq_iff_eq.mpr c40; have c40b1 : (t186 != 2) = false := bne_eq_false_iff_eq.mpr c40; clear c40; have H' := Aside0.mk H; clear H
    go_enter Try.func51, Try.ntmps51
    go_wp2_with (first | (refine be_ 2 #[.int .i64 0, .slice none 0 0] 26 ?_; intro gb178 hg w41 hbox hb; have n_ := ac_ (IsS67.below s5_ hb) <| ac_ (KeepBut.trans s6_ (KeepBut.of_below hb g none) (.inl rfl)) <| ac_ (below_step s10_ hb) <| ac_ (hbox) <| ac_ ((by rw [hg]; exact (keep_size (w := w) (g := g) (row := none) s6_) : w.heap.size ≤ gb178)) <| ac_ ((Nat.le_trans HW0.out (by rw [hg]; exact (keep_size (w := w) (g := g) (row := none) s6_) : w.heap.size ≤ gb178) : w0.heap.size ≤ gb178)) <| ac_ ((nl_ hg (IsS67.lt (show IsS67 w0 _ g s0_0 s0_1 s0_2 from s5_)))) <| Aside0.mk ((ng_ hg (IsS67.lt (show IsS67 w0 _ g s0_0 s0_1 s0_2 from s5_)))); clear HI0 HK HB; obtain ⟨HI0, HK, HB, BK178, GW178, GE178, NB0_178, NB178_0⟩ := n_; clear hb hbox hg) | (refine gL_ 81 5 Try.func81 #[.pointer (some ⟨g, 0, none⟩)] ?_; (with_reducible refine (spec_l3Draw.calls k g s0_0 s0_1 s0_2 t179 t180 t183 t184 w0 _ ?side1 ?side2 A2.out).mono ?_); (case side1 => exact q3_7); (case side2 => exact q3_8); rintro e w42 ⟨v181, rfl, ho0, hi, hb, hk⟩; refine ⟨_, rfl, ?_⟩; have n_ := ac_ (KeepBut.blk hk (g' := gb178) (o := .cells #[.int .i64 0, .slice none 0 0] 26 (0, 0)) q3_14 NB178_0.out (by simp)) <| ac_ (Kd.R_lower ho0 (keep_size (w := w) (g := g) (row := none) q3_9)) <| ac_ (KeepBut.trans q3_9 hk (.inl rfl)) <| ac_ (hb) <| Aside0.mk (hi); clear BK178 HK HB HI0; obtain ⟨BK178, HO182, HK, HB, HI0⟩ := n_; (try clear hb hk hi ho0)) | (refine be_ 3 #[.int .i64 0, .slice none 0 0] 26 ?_; intro gb185 hg w43 hbox hb; have n_ := ac_ (Kd.R_below q3_16 hb) <| ac_ (IsS67.below q3_7 hb) <| ac_ (blk_below (g := gb178) (o := .cells #[.int .i64 0, .slice none 0 0] 26 (0, 0)) q3_14 hb) <| ac_ (KeepBut.trans q3_9 (KeepBut.of_below hb g none) (.inl rfl)) <| ac_ (below_step q3_8 hb) <| ac_ (hbox) <| ac_ ((by rw [hg]; exact (keep_size (w := w) (g := g) (row := none) q3_9) : w.heap.size ≤ gb185)) <| ac_ ((Nat.le_trans HW0.out (by rw [hg]; exact (keep_size (w := w) (g := g) (row := none) q3_9) : w.heap.size ≤ gb185) : w0.heap.size ≤ gb185)) <| ac_ ((nl_ hg (blk_lt (g := gb178) (o := .cells #[.int .i64 0, .slice none 0 0] 26 (0, 0)) q3_14))) <| ac_ ((ng_ hg (blk_lt (g := gb178) (o := .cells #[.int .i64 0, .slice none 0 0] 26 (0, 0)) q3_14))) <| ac_ ((nl_ hg (IsS67.lt (show IsS67 w0 _ g s0_0 t183 t184 from q3_7)))) <| Aside0.mk ((ng_ hg (IsS67.lt (show IsS67 w0 _ g s0_0 t183 t184 from q3_7)))); clear HO182 HI0 BK178 HK HB; obtain ⟨HO182, HI0, BK178, HK, HB, BK185, GW185, GE185, NB178_185, NB185_178, NB0_185, NB185_0⟩ := n_; clear hb hbox hg; have hnb44 := NB185_178.out; have hnc44 := NB178_185.out; have hnb45 := NB185_0.out; have hnc45 := NB0_185.out; have hcz46_0 : w43.cell? ⟨gb185, 0, none⟩ = some (.int .i64 0) := (blk_cell BK185.out 0).trans rfl; have hcz46_1 : w43.cell? ⟨gb185, 1, none⟩ = some (.slice none 0 0) := (blk_cell BK185.out 1).trans rfl; have hfz46_0 := blk_frozen BK185.out 0; have hfz46_1 := blk_frozen BK185.out 1; obtain ⟨Ao47, co47, eo47⟩ := Kd.R_slice HO182.out; subst eo47) | (refine gL_ 78 7 Try.func78 #[.pointer (some ⟨g, 0, none⟩), .int .i64 14] ?_; (with_reducible refine (spec_l1Below.calls g s0_0 t183 t184 14 t186 t187 t188 w0 _ ?side1 ?side2 A3.out).mono ?_); (case side1 => exact q3_4); (case side2 => exact q3_5); rintro e w48 ⟨rfl, hi, hb, hk⟩; refine ⟨_, rfl, ?_⟩; have n_ := ac_ (KeepBut.blk hk (g' := gb178) (o := .cells #[.int .i64 0, .slice none 0 0] 26 (0, 0)) q3_3 NB178_0.out (by simp)) <| ac_ (Kd.R_mono (Kd.R_keep (IsS67.apart (show IsS67 w0 _ g s0_0 t183 t184 from q3_4) (by (with_reducible repeat (first | apply Kd.R_alloc | apply Kd.R_drewN | apply Kd.R_drew)); exact (Kd.R_mono (Kd.R_far (p := ⟨gb185, 1, none⟩) (Kd.R_far (p := ⟨gb185, 0, none⟩) (Kd.R_types HO182.out BK185.out q3_19) (fun _ hk => hk.2) (.int .i64 t179)) (fun _ hk => hk.2) (.slice Ao47 t180.length co47)) (fun _ h_ => h_.1))) q3_19) hk (fun _ h => h.2)) (fun _ h => h.1)) <| ac_ (KeepBut.blk hk (g' := gb185) (o := .cells #[.int .i64 t179, .slice Ao47 t180.length co47] 26 (0, 0)) q3_2 NB185_0.out (by simp)) <| ac_ (KeepBut.trans q3_6 hk (.inl rfl)) <| ac_ (hb) <| Aside0.mk (hi); clear BK178 HO182 BK185 HK HB HI0; obtain ⟨BK178, HO182, BK185, HK, HB, HI0⟩ := n_; (try clear hb hk hi)))
    go_loopg [] k (fun kq w' => ∃ (x186001_1 : List Int) (u186001 : Value), Aside0 (spec_l3Bent.l0 kq s0_0 t187 t188 t179 x186001_1 = some (r1, r2, r3, r4)) ∧ Aside0 (kq ≤ k) ∧ Aside0 (Kd.R (Kd.int .i64) 3 w' w.heap.size (fun _ => True) u186001 x186001_1) ∧ Aside0 (w'.heap[gb178]? = some (.cells #[.int .i64 0, (.slice none 0 0)] 26 (0, 0))) ∧ Aside0 (w'.heap[gb185]? = some (.cells #[.int .i64 t179, u186001] 26 (0, 0))) ∧ Aside0 (IsS67 w0 w' g s0_0 t187 t188) ∧ Aside0 (KeepBut w w' g none) ∧ Aside0 (Below w0.heap.size w0 w'))
    case atStart => exact ⟨(t180), (.slice Ao47 t180.length co47), H', ⟨Nat.le_refl _⟩, ⟨q3_16⟩, ⟨q3_14⟩, ⟨q3_15⟩, ⟨q3_4⟩, ⟨q3_6⟩, ⟨q3_5⟩⟩
    case round =>
     clear H'
     try clear c1
     try clear c2
     try clear p2
     try clear c3
     try clear c4
     try clear c4b0
     try clear c4b1
     try clear c5
     try clear c7
     try clear c8
     try clear c9
     try clear c10
     try clear c19
     try clear c21
     try clear c21b0
     try clear c21b1
     try clear c23
     try clear c27
     try clear c28
     try clear c38
     try clear c40
     try clear c40b0
     try clear c40b1
     try clear c44
     try clear c45
     try clear hcz11_0
     try clear hcz11_1
     try clear hcz18_0
     try clear hcz18_1
     try clear hcz20_0
     try clear hcz20_1
     try clear hcz29_0
     try clear hcz29_1
     try clear hcz37_0
     try clear hcz37_1
     try clear hcz39_0
     try clear hcz39_1
     try clear hcz46_0
     try clear hcz46_1
     try clear hfz11_0
     try clear hfz11_1
     try clear hfz18_0
     try clear hfz18_1
     try clear hfz20_0
     try clear hfz20_1
     try clear hfz29_0
     try clear hfz29_1
     try clear hfz37_0
     try clear hfz37_1
     try clear hfz39_0
     try clear hfz39_1
     try clear hfz46_0
     try clear hfz46_1
     obtain ⟨x186001_1, u186001, HA, HK1, HO_186001, BK178, BK185, HI0, HK, HB⟩ := hrel
     cases gk with
     | zero => exact absurd HA.out (by simp [spec_l3Bent.l0])
     | succ k1 =>
      have H := HA.out; clear HA
      simp only [spec_l3Bent.l0] at H
      by_cases c49 : (x186001_1.length : Int) < 9
      ·
       rw [if_pos c49] at H; have c49b0 : decide ((x186001_1.length : Int) < 9) = true := decide_eq_true c49
       have c49b1 : decide (x186001_1.length < 9) = true := decide_eq_true (by omega)
       clear c49
       by_cases c50 : x186001_1.length < 17592186044416
       ·
        rw [if_pos c50] at H; have LMc50 := Aside0.mk c50; clear c50; obtain ⟨y201, hy201⟩ : ∃ y_ : List Int, y_ = (x186001_1 ++ [0]) := ⟨_, rfl⟩
        replace H : (spec_l3Bent.l0 k1 s0_0 t187 t188 t179 y201) = some (r1, r2, r3, r4) := by first | (rw [hy201]; with_reducible exact H) | (have H2_ := (Option.bind_some _ _).symm.trans H; rw [hy201]; with_reducible exact H2_) | (have H2_ := (Option.bind_some _ _).symm.trans H; with_reducible exact H2_) | with_reducible exact H | (rw [hy201]; exact H) | exact H
        have Ny201 := Aside0.mk hy201; clear hy201; have H' := Aside0.mk H; clear H; have hnb51 := NB185_178.out; have hnc51 := NB178_185.out; have hnb52 := NB185_0.out; have hnc52 := NB0_185.out; have hcz53_0 : wr.cell? ⟨gb185, 0, none⟩ = some (.int .i64 t179) := (blk_cell BK185.out 0).trans rfl; have hcz53_1 : wr.cell? ⟨gb185, 1, none⟩ = some (u186001) := (blk_cell BK185.out 1).trans rfl; have hfz53_0 := blk_frozen BK185.out 0; have hfz53_1 := blk_frozen BK185.out 1; obtain ⟨Ao54, co54, eo54⟩ := Kd.R_slice HO_186001.out; subst eo54
        go_wp2_with (first | ((with_reducible refine gate_builtin (b := .append) (xs := #[.tmp 30, .tmp 31]) rfl ?_); at_builtin; refine Kd.R_append (Kd.int .i64) w.heap.size rfl (.tmp 30) (.tmp 31) 24 3 (.int .i64 0) 8 rfl Try.underlying24 info3 rfl q3_19 (by omega) (.slice Ao54 x186001_1.length co54) x186001_1 0 [.int .i64 0] (fun _ => True) (fun _ => False) rfl rfl ?aP (fun _ hk => hk.elim) ?aF ?aO (Below.refl _ _) ?aS ?aL ?_; (case aP => exact rfl); (case aF => exact (fun _ _ => trivial)); (case aO => exact (by (with_reducible repeat (first | apply Kd.R_alloc | apply Kd.R_drewN | apply Kd.R_drew)); exact HO_186001.out)); (case aS => exact (keep_size (w := w) (g := g) (row := none) q3_6)); (case aL => have := LMc50.out; omega); intro v202 w55 ho hb hg hat; rw [← Ny201.out] at ho; have n_ := ac_ (blk_grown (g := gb178) (o := .cells #[.int .i64 0, .slice none 0 0] 26 (0, 0)) q3_14 hg (Kd.R_ne HO_186001.out BK178.out q3_19)) <| ac_ (blk_grown (g := gb185) (o := .cells #[.int .i64 t179, .slice Ao54 x186001_1.length co54] 26 (0, 0)) q3_15 hg (Kd.R_ne HO_186001.out BK185.out q3_19)) <| ac_ (IsS67.grown q3_4 hg (IsS67.own_ne HI0.out HO_186001.out q3_19)) <| ac_ (below_weaken q3_5 HL.out hb) <| ac_ (KeepBut.trans q3_6 (KeepBut.of_grown hg g) (Kd.R_base2 HO_186001.out)) <| Aside0.mk (ho); clear BK178 BK185 HI0 HB HK HO_186001; obtain ⟨BK178, BK185, HI0, HB, HK, HO203⟩ := n_; clear ho hb hg hat; obtain ⟨Ao56, co56, eo56⟩ := Kd.R_slice HO203.out; subst eo56; have hcz57_0 : w55.cell? ⟨gb185, 0, none⟩ = some (.int .i64 t179) := (blk_cell BK185.out 0).trans rfl; have hcz57_1 : w55.cell? ⟨gb185, 1, none⟩ = some (.slice Ao54 x186001_1.length co54) := (blk_cell BK185.out 1).trans rfl; have hfz57_0 := blk_frozen BK185.out 0; have hfz57_1 := blk_frozen BK185.out 1))
        go_roundg k1
        case measure => have := HK1.out; omega
        case rel => exact ⟨(y201), (.slice Ao56 y201.length co56), H', ⟨by have := HK1.out; omega⟩, ⟨(by (with_reducible repeat (first | apply Kd.R_alloc | apply Kd.R_drewN | apply Kd.R_drew)); exact Kd.R_mono (Kd.R_far (p := ⟨gb185, 1, none⟩) (Kd.R_types HO203.out BK185.out q3_19) (fun _ hk => hk.2) (.slice Ao56 y201.length co56)) (fun _ hk => trivial))⟩, ⟨(by (with_reducible repeat (first | refine blk_drewN ?_ _ | refine blk_drew ?_ | refine blk_alloc ?_ _)); refine blk_far ?_ NB178_185.out _; (with_reducible repeat (first | refine blk_drewN ?_ _ | refine blk_drew ?_ | refine blk_alloc ?_ _)); exact BK178.out)⟩, ⟨(by (with_reducible repeat (first | refine blk_drewN ?_ _ | refine blk_drew ?_ | refine blk_alloc ?_ _)); refine blk_put (cs := #[.int .i64 t179, .slice Ao54 x186001_1.length co54]) ?_ 1 _ rfl; (with_reducible repeat (first | refine blk_drewN ?_ _ | refine blk_drew ?_ | refine blk_alloc ?_ _)); exact BK185.out)⟩, ⟨q3_4⟩, ⟨q3_6⟩, ⟨q3_5⟩⟩
       ·
        rw [if_neg c50] at H
        exact absurd H (by simp)
      ·
       rw [if_neg c49] at H; have c49b0 : decide ((x186001_1.length : Int) < 9) = false := decide_eq_false c49
       have c49b1 : decide (x186001_1.length < 9) = false := decide_eq_false (by omega)
       clear c49
       simp only [Option.some.injEq, Prod.mk.injEq] at H
       obtain ⟨rfl, rfl, rfl, rfl⟩ := H; have hnb58 := NB185_178.out; have hnc58 := NB178_185.out; have hnb59 := NB185_0.out; have hnc59 := NB0_185.out; have hcz60_0 : wr.cell? ⟨gb185, 0, none⟩ = some (.int .i64 t179) := (blk_cell BK185.out 0).trans rfl; have hcz60_1 : wr.cell? ⟨gb185, 1, none⟩ = some (u186001) := (blk_cell BK185.out 1).trans rfl; have hfz60_0 := blk_frozen BK185.out 0; have hfz60_1 := blk_frozen BK185.out 1; obtain ⟨Ao61, co61, eo61⟩ := Kd.R_slice HO_186001.out; subst eo61; have hnb62 := NB178_0.out; have hnc62 := NB0_178.out; have hcz63_0 : wr.cell? ⟨gb178, 0, none⟩ = some (.int .i64 0) := (blk_cell BK178.out 0).trans rfl; have hcz63_1 : wr.cell? ⟨gb178, 1, none⟩ = some (.slice none 0 0) := (blk_cell BK178.out 1).trans rfl; have hfz63_0 := blk_frozen BK178.out 0; have hfz63_1 := blk_frozen BK178.out 1
       go_wp2
       refine bodyPost_ret (results_cell_row rfl _ _ gb178 26 #[.int .i64 t179, .slice Ao61 x186001_1.length co61] (0, 0) _ rfl q3_1 Try.underlying26 rfl s8_) rfl ?_
       exact ⟨_, s11_, (by (with_reducible repeat (first | apply Kd.R_alloc | apply Kd.R_drewN | apply Kd.R_drew)); exact Kd.R_mono (Kd.R_far (p := ⟨gb178, 1, none⟩) (Kd.R_far (p := ⟨gb178, 0, none⟩) (Kd.R_types HO_186001.out BK178.out q3_19) (fun _ hk => hk.2) (.int .i64 t179)) (fun _ hk => hk.2) (.slice Ao61 x186001_1.length co61)) (fun _ hk => trivial)), q3_4, q3_5, q3_6⟩
   ·
    rw [if_neg c40] at H; have c40b0 : (t186 == 2) = false := beq_eq_false_iff_ne.mpr c40; have c40b1 : (t186 != 2) = true := bne_iff_ne.mpr c40
    simp only [Option.some.injEq, Prod.mk.injEq] at H
    obtain ⟨rfl, rfl, rfl, rfl⟩ := H
    go_enter Try.func51, Try.ntmps51
    go_wp2_with (first | (refine be_ 2 #[.int .i64 0, .slice none 0 0] 26 ?_; intro gb178 hg w64 hbox hb; have n_ := ac_ (IsS67.below s5_ hb) <| ac_ (KeepBut.trans s6_ (KeepBut.of_below hb g none) (.inl rfl)) <| ac_ (below_step s10_ hb) <| ac_ (hbox) <| ac_ ((by rw [hg]; exact (keep_size (w := w) (g := g) (row := none) s6_) : w.heap.size ≤ gb178)) <| ac_ ((Nat.le_trans HW0.out (by rw [hg]; exact (keep_size (w := w) (g := g) (row := none) s6_) : w.heap.size ≤ gb178) : w0.heap.size ≤ gb178)) <| ac_ ((nl_ hg (IsS67.lt (show IsS67 w0 _ g s0_0 s0_1 s0_2 from s5_)))) <| Aside0.mk ((ng_ hg (IsS67.lt (show IsS67 w0 _ g s0_0 s0_1 s0_2 from s5_)))); clear HI0 HK HB; obtain ⟨HI0, HK, HB, BK178, GW178, GE178, NB0_178, NB178_0⟩ := n_; clear hb hbox hg) | (refine gL_ 81 5 Try.func81 #[.pointer (some ⟨g, 0, none⟩)] ?_; (with_reducible refine (spec_l3Draw.calls k g s0_0 s0_1 s0_2 t179 t180 t183 t184 w0 _ ?side1 ?side2 A2.out).mono ?_); (case side1 => exact q3_7); (case side2 => exact q3_8); rintro e w65 ⟨v181, rfl, ho0, hi, hb, hk⟩; refine ⟨_, rfl, ?_⟩; have n_ := ac_ (KeepBut.blk hk (g' := gb178) (o := .cells #[.int .i64 0, .slice none 0 0] 26 (0, 0)) q3_14 NB178_0.out (by simp)) <| ac_ (Kd.R_lower ho0 (keep_size (w := w) (g := g) (row := none) q3_9)) <| ac_ (KeepBut.trans q3_9 hk (.inl rfl)) <| ac_ (hb) <| Aside0.mk (hi); clear BK178 HK HB HI0; obtain ⟨BK178, HO182, HK, HB, HI0⟩ := n_; (try clear hb hk hi ho0)) | (refine be_ 3 #[.int .i64 0, .slice none 0 0] 26 ?_; intro gb185 hg w66 hbox hb; have n_ := ac_ (Kd.R_below q3_16 hb) <| ac_ (IsS67.below q3_7 hb) <| ac_ (blk_below (g := gb178) (o := .cells #[.int .i64 0, .slice none 0 0] 26 (0, 0)) q3_14 hb) <| ac_ (KeepBut.trans q3_9 (KeepBut.of_below hb g none) (.inl rfl)) <| ac_ (below_step q3_8 hb) <| ac_ (hbox) <| ac_ ((by rw [hg]; exact (keep_size (w := w) (g := g) (row := none) q3_9) : w.heap.size ≤ gb185)) <| ac_ ((Nat.le_trans HW0.out (by rw [hg]; exact (keep_size (w := w) (g := g) (row := none) q3_9) : w.heap.size ≤ gb185) : w0.heap.size ≤ gb185)) <| ac_ ((nl_ hg (blk_lt (g := gb178) (o := .cells #[.int .i64 0, .slice none 0 0] 26 (0, 0)) q3_14))) <| ac_ ((ng_ hg (blk_lt (g := gb178) (o := .cells #[.int .i64 0, .slice none 0 0] 26 (0, 0)) q3_14))) <| ac_ ((nl_ hg (IsS67.lt (show IsS67 w0 _ g s0_0 t183 t184 from q3_7)))) <| Aside0.mk ((ng_ hg (IsS67.lt (show IsS67 w0 _ g s0_0 t183 t184 from q3_7)))); clear HO182 HI0 BK178 HK HB; obtain ⟨HO182, HI0, BK178, HK, HB, BK185, GW185, GE185, NB178_185, NB185_178, NB0_185, NB185_0⟩ := n_; clear hb hbox hg; have hnb67 := NB185_178.out; have hnc67 := NB178_185.out; have hnb68 := NB185_0.out; have hnc68 := NB0_185.out; have hcz69_0 : w66.cell? ⟨gb185, 0, none⟩ = some (.int .i64 0) := (blk_cell BK185.out 0).trans rfl; have hcz69_1 : w66.cell? ⟨gb185, 1, none⟩ = some (.slice none 0 0) := (blk_cell BK185.out 1).trans rfl; have hfz69_0 := blk_frozen BK185.out 0; have hfz69_1 := blk_frozen BK185.out 1; obtain ⟨Ao70, co70, eo70⟩ := Kd.R_slice HO182.out; subst eo70) | (refine gL_ 78 7 Try.func78 #[.pointer (some ⟨g, 0, none⟩), .int .i64 14] ?_; (with_reducible refine (spec_l1Below.calls g s0_0 t183 t184 14 t186 t187 t188 w0 _ ?side1 ?side2 A3.out).mono ?_); (case side1 => exact q3_4); (case side2 => exact q3_5); rintro e w71 ⟨rfl, hi, hb, hk⟩; refine ⟨_, rfl, ?_⟩; have n_ := ac_ (KeepBut.blk hk (g' := gb178) (o := .cells #[.int .i64 0, .slice none 0 0] 26 (0, 0)) q3_3 NB178_0.out (by simp)) <| ac_ (Kd.R_mono (Kd.R_keep (IsS67.apart (show IsS67 w0 _ g s0_0 t183 t184 from q3_4) (by (with_reducible repeat (first | apply Kd.R_alloc | apply Kd.R_drewN | apply Kd.R_drew)); exact (Kd.R_mono (Kd.R_far (p := ⟨gb185, 1, none⟩) (Kd.R_far (p := ⟨gb185, 0, none⟩) (Kd.R_types HO182.out BK185.out q3_19) (fun _ hk => hk.2) (.int .i64 t179)) (fun _ hk => hk.2) (.slice Ao70 t180.length co70)) (fun _ h_ => h_.1))) q3_19) hk (fun _ h => h.2)) (fun _ h => h.1)) <| ac_ (KeepBut.blk hk (g' := gb185) (o := .cells #[.int .i64 t179, .slice Ao70 t180.length co70] 26 (0, 0)) q3_2 NB185_0.out (by simp)) <| ac_ (KeepBut.trans q3_6 hk (.inl rfl)) <| ac_ (hb) <| Aside0.mk (hi); clear BK178 HO182 BK185 HK HB HI0; obtain ⟨BK178, HO182, BK185, HK, HB, HI0⟩ := n_; (try clear hb hk hi); have hcz72_0 : w71.cell? ⟨gb185, 0, none⟩ = some (.int .i64 t179) := (blk_cell BK185.out 0).trans rfl; have hcz72_1 : w71.cell? ⟨gb185, 1, none⟩ = some (.slice Ao70 t180.length co70) := (blk_cell BK185.out 1).trans rfl; have hfz72_0 := blk_frozen BK185.out 0; have hfz72_1 := blk_frozen BK185.out 1; have hnb73 := NB178_0.out; have hnc73 := NB0_178.out; have hcz74_0 : w71.cell? ⟨gb178, 0, none⟩ = some (.int .i64 0) := (blk_cell BK178.out 0).trans rfl; have hcz74_1 : w71.cell? ⟨gb178, 1, none⟩ = some (.slice none 0 0) := (blk_cell BK178.out 1).trans rfl; have hfz74_0 := blk_frozen BK178.out 0; have hfz74_1 := blk_frozen BK178.out 1))
    refine bodyPost_ret (results_cell_row rfl _ _ gb178 26 #[.int .i64 t179, .slice Ao70 t180.length co70] (0, 0) _ rfl q3_1 Try.underlying26 rfl s8_) rfl ?_
    exact ⟨_, s11_, (by (with_reducible repeat (first | apply Kd.R_alloc | apply Kd.R_drewN | apply Kd.R_drew)); exact Kd.R_mono (Kd.R_far (p := ⟨gb178, 1, none⟩) (Kd.R_far (p := ⟨gb178, 0, none⟩) (Kd.R_types HO182.out BK178.out q3_19) (fun _ hk => hk.2) (.int .i64 t179)) (fun _ hk => hk.2) (.slice Ao70 t180.length co70)) (fun _ hk => trivial)), q3_4, q3_5, q3_6⟩
theorem q3_20 {P : Prop} (h : P := by repeat (first | (with_reducible first | exact HBW.out | apply below_alloc | apply pw_below_drewN | apply below_drew1) | exact HBW.out)) : P := h
def spec_l1New.l0 : Nat → List Int → Int → Int → Option (List Int × Int × Int)
 | 0, _, _, _ => none
 | k + 1, x0, x3, x4 => if x4 < (x0.length : Int) then (if x4 < 4000 then (if 0 ≤ x4 then (spec_l1New.l0 k x0 (Go.bits .and .i64 (wrap64 ((wrap64 ((wrap64 (x3 * 131)) + (wrap64 (rd x0 x4)))) + 7)) 1073741823) (wrap64 (x4 + 1))) else (none)) else (some (x0, 0, x3))) else (some (x0, 0, x3))
def spec_l1New.f (k : Nat) (l0 : List Int) : Option (List Int × Int × Int) := spec_l1New.l0 k l0 (wrap64 (26583 + (l0.length : Int))) 0
set_option maxHeartbeats 8000000 in
set_option maxRecDepth 100000 in
theorem spec_l1New.calls (k : Nat) (A0 : Option Addr) (c0 : Nat) (l0 : List Int) (r1 : List Int) (r2 : Int) (r3 : Int) (w0 w : World) (hB : Below w0.heap.size w0 w) (hr0 : Kd.C (Kd.int .u8) w0 A0 l0.length l0) (hc0 : l0.length ≤ c0) (h : spec_l1New.f k l0 = some (r1, r2, r3)) :
  Calls Try.prog 52 #[.slice A0 l0.length c0] w fun e w' => ∃ g_ : Nat, e = .returned (.pointer (some ⟨g_, 0, none⟩)) ∧ IsS67 w0 w' g_ r1 r2 r3 ∧ Below w0.heap.size w0 w' ∧ Below w.heap.size w w' := by
 have hu67 := Try.underlying67; have HR0 := Aside0.mk hr0; have HC0 := Aside0.mk hc0; clear hr0 hc0; have HBW := Aside0.mk (Below.refl w.heap.size w); have HW0 := Aside0.mk hB.size; have HB := Aside0.mk hB; clear hB; have H := h; clear h; unfold spec_l1New.f at H; have H' := Aside0.mk H; clear H
 go_enter Try.func52, Try.ntmps52
 go_wp2
 go_loopg [3, 4] k (fun kq v3 v4 w' => ∃ (x3_1 : Int) (x4_1 : Int), v3 = .int .i64 x3_1 ∧ v4 = .int .i64 x4_1 ∧ Aside0 (spec_l1New.l0 kq l0 x3_1 x4_1 = some (r1, r2, r3)) ∧ Aside0 (kq ≤ k) ∧ Aside0 (Below w0.heap.size w0 w') ∧ Aside0 (Below w.heap.size w w'))
 case atStart => exact ⟨(wrap64 (26583 + (l0.length : Int))), (0), s2_, s2_, H', ⟨Nat.le_refl _⟩, ⟨s1_⟩, ⟨q3_20⟩⟩
 case round =>
  clear H'; obtain ⟨x3_1, x4_1, rfl, rfl, HA, HK1, HB, HBW⟩ := hrel
  cases gk with
  | zero => exact absurd HA.out (by simp [spec_l1New.l0])
  | succ k1 =>
   have H := HA.out; clear HA
   simp only [spec_l1New.l0] at H
   by_cases c2 : x4_1 < (l0.length : Int)
   ·
    rw [if_pos c2] at H; have c2b0 : decide (x4_1 < (l0.length : Int)) = true := decide_eq_true c2; clear c2
    by_cases c3 : x4_1 < 4000
    ·
     rw [if_pos c3] at H; have c3b0 : decide (x4_1 < 4000) = true := decide_eq_true c3; clear c3
     by_cases c4 : 0 ≤ x4_1
     ·
      rw [if_pos c4] at H; have c4b0 : decide (0 ≤ x4_1) = true := decide_eq_true c4; clear c4; have H' := Aside0.mk H; clear H
      have p204 : 0 ≤ (x4_1 : Int) := of_decide_eq_true (by first | (with_reducible assumption) | assumption)
      have q204 : x4_1 < (l0.length : Int) := of_decide_eq_true (by first | (with_reducible assumption) | assumption)
      obtain ⟨ad204, e204, hx204_0⟩ := Kd.at_int HR0.out x4_1 p204 q204
      cases e204
      replace hx204_0 := pw_cell_below HB.out hx204_0; replace p204 := eq_true p204; replace q204 := eq_true q204
      go_wp2
      go_roundg k1
      case measure => have := HK1.out; omega
      case rel => exact ⟨(Go.bits .and .i64 (wrap64 ((wrap64 ((wrap64 (x3_1 * 131)) + (wrap64 (rd l0 x4_1)))) + 7)) 1073741823), (wrap64 (x4_1 + 1)), s2_, s2_, H', ⟨by have := HK1.out; omega⟩, ⟨s1_⟩, ⟨q3_20⟩⟩
     ·
      rw [if_neg c4] at H
      exact absurd H (by simp)
    ·
     rw [if_neg c3] at H; have c3b0 : decide (x4_1 < 4000) = false := decide_eq_false c3; clear c3
     simp only [Option.some.injEq, Prod.mk.injEq] at H
     obtain ⟨rfl, rfl, rfl⟩ := H
     go_wp2_with (first | (refine be_ 31 #[.slice A0 l0.length c0, .int .i64 0, .int .i64 x3_1] 67 ?_; intro gb205 hg w5 hbox hb; have n_ := ac_ (below_step HBW.out hb) <| ac_ (below_step s1_ hb) <| ac_ (hbox) <| ac_ ((gz_ w hg q3_20)) <| Aside0.mk ((Nat.le_trans HW0.out (gz_ w hg q3_20) : w0.heap.size ≤ gb205)); clear HBW HB; obtain ⟨HBW, HB, BK205, GW205, GE205⟩ := n_; clear hb hbox hg))
     go_ret
     exact ⟨_, rfl, (show IsS67 w0 _ gb205 l0 0 x3_1 from ⟨_, _, (by (with_reducible repeat (first | refine blk_drewN ?_ _ | refine blk_drew ?_ | refine blk_alloc ?_ _)); exact BK205.out), GE205.out, HR0.out⟩), (by repeat (first | (with_reducible first | exact HB.out | apply below_alloc | apply pw_below_drewN | apply below_drew1 | refine below_set ?_ GE205.out) | exact HB.out)), (by repeat (first | (with_reducible first | exact HBW.out | apply below_alloc | apply pw_below_drewN | apply below_drew1 | refine below_set ?_ GW205.out) | exact HBW.out))⟩
   ·
    rw [if_neg c2] at H; have c2b0 : decide (x4_1 < (l0.length : Int)) = false := decide_eq_false c2; clear c2
    simp only [Option.some.injEq, Prod.mk.injEq] at H
    obtain ⟨rfl, rfl, rfl⟩ := H
    go_wp2_with (first | (refine be_ 31 #[.slice A0 l0.length c0, .int .i64 0, .int .i64 x3_1] 67 ?_; intro gb206 hg w6 hbox hb; have n_ := ac_ (below_step HBW.out hb) <| ac_ (below_step s1_ hb) <| ac_ (hbox) <| ac_ ((gz_ w hg q3_20)) <| Aside0.mk ((Nat.le_trans HW0.out (gz_ w hg q3_20) : w0.heap.size ≤ gb206)); clear HBW HB; obtain ⟨HBW, HB, BK206, GW206, GE206⟩ := n_; clear hb hbox hg))
    go_ret
    exact ⟨_, rfl, (show IsS67 w0 _ gb206 l0 0 x3_1 from ⟨_, _, (by (with_reducible repeat (first | refine blk_drewN ?_ _ | refine blk_drew ?_ | refine blk_alloc ?_ _)); exact BK206.out), GE206.out, HR0.out⟩), (by repeat (first | (with_reducible first | exact HB.out | apply below_alloc | apply pw_below_drewN | apply below_drew1 | refine below_set ?_ GE206.out) | exact HB.out)), (by repeat (first | (with_reducible first | exact HBW.out | apply below_alloc | apply pw_below_drewN | apply below_drew1 | refine below_set ?_ GW206.out) | exact HBW.out))⟩
theorem q3_23 {P : Prop} (h : P := by repeat (first | (with_reducible first | exact HB.out | apply below_alloc | apply pw_below_drewN | apply below_drew1 | refine below_set ?_ (IsS67.ge HI211.out) | refine below_set ?_ GE207.out) | exact HB.out)) : P := h
theorem q3_26 {P : Prop} (h : P := by (with_reducible repeat (first | refine blk_drewN ?_ _ | refine blk_drew ?_ | refine blk_alloc ?_ _)); exact BK207.out) : P := h
def spec_DrawReduceContext.f (k : Nat) (l0 : List Int) : Option (Int × List Int) := (spec_l1New.f k l0).bind fun bt208 => ((spec_l3Bent.f k bt208.1 bt208.2.1 bt208.2.2).bind fun bt212 => (some (bt212.1, bt212.2.1)))
set_option maxHeartbeats 8000000 in
set_option maxRecDepth 100000 in
theorem spec_DrawReduceContext.calls (k : Nat) (A0 : Option Addr) (c0 : Nat) (l0 : List Int) (r1 : Int) (r2 : List Int) (w : World) (hr0 : Kd.C (Kd.int .u8) w A0 l0.length l0) (hc0 : l0.length ≤ c0) (h : spec_DrawReduceContext.f k l0 = some (r1, r2)) :
  Calls Try.prog 22 #[.slice A0 l0.length c0] w fun e w' => ∃ v1_ : Value, e = .returned (.agg #[.int .i64 r1, v1_]) ∧ Kd.R (Kd.int .i64) 3 w' w.heap.size (fun _ => True) v1_ r2 ∧ Below w.heap.size w w' := by
 have hu26 := Try.underlying26; have HR0 := Aside0.mk hr0; have HC0 := Aside0.mk hc0; clear hr0 hc0; have HB := Aside0.mk (Below.refl w.heap.size w); have H := h; clear h; unfold spec_DrawReduceContext.f at H; obtain ⟨⟨t208, t209, t210⟩, A2, H⟩ := bnd3_ H; dsimp only at H; obtain ⟨⟨t212, t213, t216, t217⟩, A3, H⟩ := bnd3_ H; dsimp only at H
 simp only [Option.some.injEq, Prod.mk.injEq] at H
 obtain ⟨rfl, rfl⟩ := H
 go_enter Try.func22, Try.ntmps22
 go_wp2_with (first | (refine be_ 2 #[.int .i64 0, .slice none 0 0] 26 ?_; intro gb207 hg w4 hbox hb; have n_ := ac_ (below_step s1_ hb) <| ac_ (hbox) <| ac_ ((gz_ w hg s1_)) <| Aside0.mk ((gz_ w hg s1_)); clear HB; obtain ⟨HB, BK207, GW207, GE207⟩ := n_; clear hb hbox hg) | (refine gL_ 52 4 Try.func52 #[.slice A0 l0.length c0] ?_; (with_reducible refine (spec_l1New.calls k _ _ l0 t208 t209 t210 w _ ?side1 ?side2 ?side3 A2.out).mono ?_); (case side1 => repeat (first | (with_reducible first | exact HB.out | apply below_alloc | apply pw_below_drewN | apply below_drew1 | refine below_set ?_ GE207.out) | exact HB.out)); (case side2 => exact HR0.out); (case side3 => exact HC0.out); rintro e w5 ⟨g211, rfl, hi, hb, hb2⟩; refine ⟨_, rfl, ?_⟩; have n_ := ac_ (blk_below (g := gb207) (o := .cells #[.int .i64 0, .slice none 0 0] 26 (0, 0)) q3_26 hb2) <| ac_ (hb) <| ac_ (hi) <| ac_ (IsS67.ne_blk hi (blk_below (g := gb207) (o := .cells #[.int .i64 0, .slice none 0 0] 26 (0, 0)) q3_26 hb2) (by decide)) <| Aside0.mk (Ne.symm (IsS67.ne_blk hi (blk_below (g := gb207) (o := .cells #[.int .i64 0, .slice none 0 0] 26 (0, 0)) q3_26 hb2) (by decide))); clear BK207 HB; obtain ⟨BK207, HB, HI211, NB211_207, NB207_211⟩ := n_; (try clear hb hb2 hi)) | (refine gL_ 51 5 Try.func51 #[.pointer (some ⟨g211, 0, none⟩)] ?_; (with_reducible refine (spec_l3Bent.calls k g211 t208 t209 t210 t212 t213 t216 t217 w _ ?side1 ?side2 A3.out).mono ?_); (case side1 => repeat (first | (with_reducible first | exact HI211.out | apply IsS67.alloc | apply IsS67.drewN | apply IsS67.drew | apply IsS67.set_1 | apply IsS67.set_2 | refine IsS67.far ?_ NB211_207.out _) | exact HI211.out)); (case side2 => exact q3_23); rintro e w6 ⟨v214, rfl, ho0, hi, hb, hk⟩; refine ⟨_, rfl, ?_⟩; have n_ := ac_ (KeepBut.blk hk (g' := gb207) (o := .cells #[.int .i64 0, .slice none 0 0] 26 (0, 0)) q3_26 NB207_211.out (by simp)) <| ac_ (Kd.R_lower ho0 (below_size q3_23)) <| ac_ (hb) <| Aside0.mk (hi); clear BK207 HB HI211; obtain ⟨BK207, HO215, HB, HI211⟩ := n_; (try clear hb hk hi ho0); have hnb7 := NB207_211.out; have hnc7 := NB211_207.out; have hcz8_0 : w6.cell? ⟨gb207, 0, none⟩ = some (.int .i64 0) := (blk_cell BK207.out 0).trans rfl; have hcz8_1 : w6.cell? ⟨gb207, 1, none⟩ = some (.slice none 0 0) := (blk_cell BK207.out 1).trans rfl; have hfz8_0 := blk_frozen BK207.out 0; have hfz8_1 := blk_frozen BK207.out 1; obtain ⟨Ao9, co9, eo9⟩ := Kd.R_slice HO215.out; subst eo9))
 refine bodyPost_ret (results_cell_row rfl _ _ gb207 26 #[.int .i64 t212, .slice Ao9 t213.length co9] (0, 0) _ rfl (by (with_reducible repeat (first | refine blk_drewN ?_ _ | refine blk_drew ?_ | refine blk_alloc ?_ _)); refine blk_put (cs := #[.int .i64 t212, .slice none 0 0]) ?_ 1 _ rfl; (with_reducible repeat (first | refine blk_drewN ?_ _ | refine blk_drew ?_ | refine blk_alloc ?_ _)); refine blk_put (cs := #[.int .i64 0, .slice none 0 0]) ?_ 0 _ rfl; (with_reducible repeat (first | refine blk_drewN ?_ _ | refine blk_drew ?_ | refine blk_alloc ?_ _)); exact BK207.out) Try.underlying26 rfl (by kernel_rfl)) rfl ?_
 exact ⟨_, (by first | rfl | (simp [errW_none, errW_some] <;> rfl) | (simp [*, errW_none, errW_some] <;> rfl)), (by (with_reducible repeat (first | apply Kd.R_alloc | apply Kd.R_drewN | apply Kd.R_drew)); exact Kd.R_mono (Kd.R_far (p := ⟨gb207, 1, none⟩) (Kd.R_far (p := ⟨gb207, 0, none⟩) (Kd.R_types HO215.out BK207.out (by decide)) (fun _ hk => hk.2) (.int .i64 t212)) (fun _ hk => hk.2) (.slice Ao9 t213.length co9)) (fun _ hk => trivial)), q3_23⟩
def impl_within.f (a0 : Int) (a1 : Int) (a2 : Int) : Option (Bool) := if a1 ≤ a0 then (some (decide (a0 ≤ a2))) else (some false)
set_option maxHeartbeats 8000000 in
set_option maxRecDepth 100000 in
theorem impl_within.calls (a0 : Int) (a1 : Int) (a2 : Int) (r : Bool) (w : World) (h : impl_within.f a0 a1 a2 = some r) :
  Calls Try.prog 79 #[.int .i64 a0, .int .i64 a1, .int .i64 a2] w fun e w' => e = .returned (.bool r) ∧ Drawn0 w w' := by
 have H := h; clear h; unfold impl_within.f at H
 by_cases c4 : a1 ≤ a0
 ·
  rw [if_pos c4] at H; have c4b0 : decide (a1 ≤ a0) = true := decide_eq_true c4; clear c4; obtain rfl := Option.some.inj H
  go_enter Try.func79, Try.ntmps79
  go_wp2
  go_ret
  exact ⟨(by first | rfl | (simp; done) | (simp [*]; done) | (simp [i64_w, i32_w]; done)), (by repeat (first | exact Drawn0.refl _ | apply Drawn0.step))⟩
 ·
  rw [if_neg c4] at H; have c4b0 : decide (a1 ≤ a0) = false := decide_eq_false c4; clear c4; obtain rfl := Option.some.inj H
  go_enter Try.func79, Try.ntmps79
  go_wp2
  go_ret
  exact ⟨(by first | rfl | (simp; done) | (simp [*]; done) | (simp [i64_w, i32_w]; done)), (by repeat (first | exact Drawn0.refl _ | apply Drawn0.step))⟩
end Go.Proofs.Ytafnamchckehmaa.Pr
