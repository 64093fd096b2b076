/- What the law needs of the program's functions as plain functions, of the proofs that their calls answer so, and of plain laws: gathered by a program of this place (pack.py) out of its printed texts. No condition beyond what each statement says. -/
import Derived.Test.YtafnamchckehmaaGreatDoorZFnModels2
import Derived.Test.YtafnamchckehmaaGreatDoorZFnModels3
import Derived.Test.YtafnamchckehmaaGreatDoorZFnModels4
import Derived.Test.YtafnamchckehmaaGreatDoorZFnModels5
namespace Go.Proofs.YtafnamchckehmaaGreatDoor.Pr
open Go.RowKit Go.Proofs.YtafnamchckehmaaGreatDoorW.PrintWords Go.Proofs.YtafnamchckehmaaGreatDoorW.PrintLast Go.Proofs.YtafnamchckehmaaGreatDoorW.PrintMore
attribute [local go_sem] max2_int min2_int max_two min_two max_three min_three max_four min_four
set_option linter.unusedVariables false
set_option linter.unusedSimpArgs false
theorem bnd5_ {α β : Type} {o : Option α} {f : α → Option β} {r : β} (h : o.bind f = some r) : ∃ a, Aside0 (o = some a) ∧ f a = some r := by
 obtain ⟨a, h1, h2⟩ := Option.bind_eq_some_iff.mp h
 exact ⟨a, ⟨h1⟩, h2⟩
def spec_l9Draw.l0 : Nat → Int → List (S48) → Int → Int → List Int → Int → Int → Option ((List (S48)) × Int × Int)
 | 0, _, _, _, _, _, _, _ => none
 | k + 1, x1, x5, x6, x7, x1000, x1001, x1002 => if x7 < x6 then ((spec_l9Make.f x1000 x1001 x1002 x1).bind fun bt155 => (if x5.length < 8796093022208 then (spec_l9Draw.l0 k x1 (x5 ++ [(⟨bt155.1, bt155.2.1⟩ : S48)]) x6 (wrap64 (x7 + 1)) x1000 bt155.2.2.1 bt155.2.2.2) else (none))) else (some (x5, x1001, x1002))
def spec_l9Draw.f (k : Nat) (s0_0 : List Int) (s0_1 : Int) (s0_2 : Int) (a1 : Int) : Option ((List (S48)) × Int × Int) := (spec_l1Below.f s0_0 s0_1 s0_2 5).bind fun bt152 => (spec_l9Draw.l0 k a1 (([] : List (S48))) bt152.1 0 s0_0 bt152.2.1 bt152.2.2)
set_option maxHeartbeats 40000000 in
set_option maxRecDepth 100000 in
theorem spec_l9Draw.calls (k : Nat) (g : Nat) (s0_0 : List Int) (s0_1 : Int) (s0_2 : Int) (a1 : Int) (r1 : List (S48)) (r2 : Int) (r3 : Int) (w0 w : World) (hI : IsS152 w0 w g s0_0 s0_1 s0_2) (hB : Below w0.heap.size w0 w) (h : spec_l9Draw.f k s0_0 s0_1 s0_2 a1 = some (r1, r2, r3)) :
  Calls Tryz.prog 179 #[.pointer (some ⟨g, 0, none⟩), .int .i64 a1] w fun e w' => ∃ v0_ : Value, e = .returned (v0_) ∧ Kd.R k48 48 w' w.heap.size (fun _ => True) v0_ r1 ∧ IsS152 w0 w' g s0_0 r2 r3 ∧ Below w0.heap.size w0 w' ∧ KeepBut w w' g none := by
 have HI0 := Aside0.mk hI; have HK := Aside0.mk (KeepBut.refl w g none); have HL := Aside0.mk hB.size; clear hI; have HW0 := Aside0.mk hB.size; have HB := Aside0.mk hB; clear hB; have H := h; clear h; unfold spec_l9Draw.f at H; obtain ⟨y149, hy149⟩ : ∃ y_ : List (S48), y_ = (([] : List (S48))) := ⟨_, rfl⟩
 replace H : ((spec_l1Below.f s0_0 s0_1 s0_2 5).bind fun bt152 => (spec_l9Draw.l0 k a1 y149 bt152.1 0 s0_0 bt152.2.1 bt152.2.2)) = some (r1, r2, r3) := by first | (rw [hy149]; with_reducible exact H) | (have H2_ := (Option.bind_some _ _).symm.trans H; rw [hy149]; with_reducible exact H2_) | (have H2_ := (Option.bind_some _ _).symm.trans H; with_reducible exact H2_) | with_reducible exact H | (rw [hy149]; exact H) | exact H
 have Ny149 := Aside0.mk hy149; clear hy149; obtain ⟨⟨t152, t153, t154⟩, A3, H⟩ := bnd5_ H; dsimp only at H; have H' := Aside0.mk H; clear H
 go_enter Tryz.func179, Tryz.ntmps179
 go_wp2_with (first | ((with_reducible refine gate_dst (N := 8) rfl ?_); refine Kd.R_lit k48 _ 48 ?hg (N := 8) ?hd (xs := ([] : List (S48))) (inner := []) (ok := fun _ => True) (okp := fun _ => True) ?hr ?hp (fun _ hk => hk) trivial (Below.refl _ _) (Nat.le_refl _) (by simp) ?_; (case hd => rfl); (case hg => rfl); (case hr => first | (go_simp; done) | (go_simp; rfl)); (case hp => exact (Reps.none _ _)); intro v150 w4 ho5 hb hg_ hnew_; clear hg_ hnew_; (first | rw [← Ny149.out] at ho5 | (simp only [Int.reduceToNat] at ho5; rw [← Ny149.out] at ho5)); have n_ := ac_ (Kd.R_lower ho5 (keep_size (w := w) (g := g) (row := none) s6_)) <| ac_ (IsS152.below s5_ hb) <| ac_ (KeepBut.trans s6_ (KeepBut.of_below hb g none) (.inl rfl)) <| Aside0.mk (below_step s8_ hb); clear HI0 HK HB; obtain ⟨HO151, HI0, HK, HB⟩ := n_; clear hb ho5) | (refine gL_ 146 10 Tryz.func146 #[.pointer (some ⟨g, 0, none⟩), .int .i64 5] ?_; (with_reducible refine (spec_l1Below.calls g s0_0 s0_1 s0_2 5 t152 t153 t154 w0 _ ?side1 ?side2 A3.out).mono ?_); (case side1 => exact s5_); (case side2 => exact s8_); rintro e w6 ⟨rfl, hi, hb, hk⟩; refine ⟨_, rfl, ?_⟩; have n_ := ac_ (Kd.R_mono (Kd.R_keep (IsS152.apart (show IsS152 w0 _ g s0_0 s0_1 s0_2 from s5_) (by (with_reducible repeat (first | apply Kd.R_alloc | apply Kd.R_drewN | apply Kd.R_drew)); exact HO151.out) (by decide)) hk (fun _ h => h.2)) (fun _ h => h.1)) <| ac_ (KeepBut.trans s6_ hk (.inl rfl)) <| ac_ (hb) <| Aside0.mk (hi); clear HO151 HK HB HI0; obtain ⟨HO151, HK, HB, HI0⟩ := n_; (try clear hb hk hi)))
 go_loopg [5, 7] k (fun kq v5 v7 w' => ∃ (x5_1 : List (S48)) (x7_1 : Int) (x1001_1 : Int) (x1002_1 : Int), v7 = .int .i64 x7_1 ∧ Aside0 (spec_l9Draw.l0 kq a1 x5_1 t152 x7_1 s0_0 x1001_1 x1002_1 = some (r1, r2, r3)) ∧ Aside0 (kq ≤ k) ∧ Aside0 (Kd.R k48 48 w' w.heap.size (fun _ => True) v5 x5_1) ∧ Aside0 (IsS152 w0 w' g s0_0 x1001_1 x1002_1) ∧ Aside0 (KeepBut w w' g none) ∧ Aside0 (Below w0.heap.size w0 w'))
 case atStart => exact ⟨(y149), (0), (t153), (t154), (by first | rfl | (simp; done) | (simp [*]; done) | (simp [i64_w, i32_w]; done)), H', ⟨Nat.le_refl _⟩, ⟨(by (with_reducible repeat (first | apply Kd.R_alloc | apply Kd.R_drewN | apply Kd.R_drew)); exact HO151.out)⟩, ⟨s5_⟩, ⟨s6_⟩, ⟨s8_⟩⟩
 case round =>
  clear H'
  try clear c1
  try clear p2
  obtain ⟨x5_1, x7_1, x1001_1, x1002_1, rfl, HA, HK1, HO_5, HI0, HK, HB⟩ := hrel
  cases gk with
  | zero => exact absurd HA.out (by simp [spec_l9Draw.l0])
  | succ k1 =>
   have H := HA.out; clear HA
   simp only [spec_l9Draw.l0] at H
   by_cases c7 : x7_1 < t152
   ·
    rw [if_pos c7] at H; have c7b0 : decide (x7_1 < t152) = true := decide_eq_true c7; clear c7; obtain ⟨⟨t155, t156, t157, t158⟩, A8, H⟩ := bnd5_ H; dsimp only at H
    by_cases c9 : x5_1.length < 8796093022208
    ·
     rw [if_pos c9] at H; have LMc9 := Aside0.mk c9; clear c9; obtain ⟨y159, hy159⟩ : ∃ y_ : List (S48), y_ = (x5_1 ++ [(⟨t155, t156⟩ : S48)]) := ⟨_, rfl⟩
     replace H : (spec_l9Draw.l0 k1 a1 y159 t152 (wrap64 (x7_1 + 1)) s0_0 t157 t158) = some (r1, r2, r3) := by first | (rw [hy159]; with_reducible exact H) | (have H2_ := (Option.bind_some _ _).symm.trans H; rw [hy159]; with_reducible exact H2_) | (have H2_ := (Option.bind_some _ _).symm.trans H; with_reducible exact H2_) | with_reducible exact H | (rw [hy159]; exact H) | exact H
     have Ny159 := Aside0.mk hy159; clear hy159; have H' := Aside0.mk H; clear H
     go_wp2_with (first | (refine gL_ 172 19 Tryz.func172 #[.pointer (some ⟨g, 0, none⟩), .int .i64 a1] ?_; (with_reducible refine (spec_l9Make.calls g s0_0 x1001_1 x1002_1 a1 t155 t156 t157 t158 w0 _ ?side1 ?side2 A8.out).mono ?_); (case side1 => exact s5_); (case side2 => exact s8_); rintro e w10 ⟨rfl, hi, hb, hk⟩; refine ⟨_, rfl, ?_⟩; have n_ := ac_ (Kd.R_mono (Kd.R_keep (IsS152.apart (show IsS152 w0 _ g s0_0 x1001_1 x1002_1 from s5_) s15_ (by decide)) hk (fun _ h => h.2)) (fun _ h => h.1)) <| ac_ (KeepBut.trans s6_ hk (.inl rfl)) <| ac_ (hb) <| Aside0.mk (hi); clear HO_5 HK HB HI0; obtain ⟨HO_5, HK, HB, HI0⟩ := n_; (try clear hb hk hi)) | ((with_reducible refine gate_builtin (b := .append) (xs := #[.tmp 16, .tmp 20]) rfl ?_); at_builtin; refine Kd.R_append k48 w.heap.size rfl (.tmp 16) (.tmp 20) 24 48 (.agg #[(.int .i64 0), (.int .i64 0)]) 16 rfl Tryz.underlying24 info48 rfl (by decide) (by omega) u5 x5_1 (⟨t155, t156⟩ : S48) [.int .i64 t155, .int .i64 t156] (fun _ => True) (fun _ => False) rfl rfl ?aP (fun _ hk => hk.elim) ?aF ?aO (Below.refl _ _) ?aS ?aL ?_; (case aP => exact k48_mkM _ _ _ (⟨t155, t156⟩ : S48)); (case aF => exact (fun _ _ => trivial)); (case aO => exact s15_); (case aS => exact (keep_size (w := w) (g := g) (row := none) s6_)); (case aL => have := LMc9.out; omega); intro v160 w11 ho hb hg hat; rw [← Ny159.out] at ho; have n_ := ac_ (IsS152.grown s5_ hg (IsS152.own_ne HI0.out HO_5.out (by decide))) <| ac_ (below_weaken s8_ HL.out hb) <| ac_ (KeepBut.trans s6_ (KeepBut.of_grown hg g) (Kd.R_base2 HO_5.out)) <| Aside0.mk (ho); clear HI0 HB HK HO_5; obtain ⟨HI0, HB, HK, HO161⟩ := n_; clear ho hb hg hat))
     go_roundg k1
     case measure => have := HK1.out; omega
     case rel => exact ⟨(y159), (wrap64 (x7_1 + 1)), (t157), (t158), (by first | rfl | (simp; done) | (simp [*]; done) | (simp [i64_w, i32_w]; done)), H', ⟨by have := HK1.out; omega⟩, ⟨(by (with_reducible repeat (first | apply Kd.R_alloc | apply Kd.R_drewN | apply Kd.R_drew)); exact HO161.out)⟩, ⟨s5_⟩, ⟨s6_⟩, ⟨s8_⟩⟩
    ·
     rw [if_neg c9] at H
     exact absurd H (by simp)
   ·
    rw [if_neg c7] at H; have c7b0 : decide (x7_1 < t152) = false := decide_eq_false c7; clear c7
    simp only [Option.some.injEq, Prod.mk.injEq] at H
    obtain ⟨rfl, rfl, rfl⟩ := H
    go_wp2
    go_ret
    exact ⟨_, (by first | rfl | (simp [errW_none, errW_some] <;> rfl) | (simp [*, errW_none, errW_some] <;> rfl)), s15_, s5_, s8_, s6_⟩
theorem q5_10 {P : Prop} (h : P := by (with_reducible repeat (first | apply Kd.R_alloc | apply Kd.R_drewN | apply Kd.R_drew)); exact HO164.out) : P := h
def spec_l9Bent.f (k : Nat) (s0_0 : List Int) (s0_1 : Int) (s0_2 : Int) (a1 : Int) : Option ((List (S48)) × Int × Int) := (spec_l9Draw.f k s0_0 s0_1 s0_2 a1).bind fun bt162 => ((spec_l1Once.f s0_0 bt162.2.1 bt162.2.2 10).bind fun bt167 => (if bt167.1 = true then ((spec_l2Bent.f s0_0 bt167.2.1 bt167.2.2).bind fun bt170 => ((spec_l2Bent.f s0_0 bt170.2.1 bt170.2.2).bind fun bt173 => (if bt162.1.length < 8796093022208 then (some ((bt162.1 ++ [(⟨bt170.1, bt173.1⟩ : S48)]), bt173.2.1, bt173.2.2)) else (none)))) else (some (bt162.1, bt167.2.1, bt167.2.2))))
set_option maxHeartbeats 40000000 in
set_option maxRecDepth 100000 in
theorem spec_l9Bent.calls (k : Nat) (g : Nat) (s0_0 : List Int) (s0_1 : Int) (s0_2 : Int) (a1 : Int) (r1 : List (S48)) (r2 : Int) (r3 : Int) (w0 w : World) (hI : IsS152 w0 w g s0_0 s0_1 s0_2) (hB : Below w0.heap.size w0 w) (h : spec_l9Bent.f k s0_0 s0_1 s0_2 a1 = some (r1, r2, r3)) :
  Calls Tryz.prog 148 #[.pointer (some ⟨g, 0, none⟩), .int .i64 a1] w fun e w' => ∃ v0_ : Value, e = .returned (v0_) ∧ Kd.R k48 48 w' w.heap.size (fun _ => True) v0_ r1 ∧ IsS152 w0 w' g s0_0 r2 r3 ∧ Below w0.heap.size w0 w' ∧ KeepBut w w' g none := by
 have hu48 := Tryz.underlying48; have HI0 := Aside0.mk hI; have HK := Aside0.mk (KeepBut.refl w g none); have HL := Aside0.mk hB.size; clear hI; have HW0 := Aside0.mk hB.size; have HB := Aside0.mk hB; clear hB; have H := h; clear h; unfold spec_l9Bent.f at H; obtain ⟨⟨t162, t165, t166⟩, A3, H⟩ := bnd5_ H; dsimp only at H; obtain ⟨⟨t167, t168, t169⟩, A4, H⟩ := bnd5_ H; dsimp only at H
 by_cases c5 : t167 = true
 ·
  subst c5; rw [if_pos rfl] at H; obtain ⟨⟨t170, t171, t172⟩, A6, H⟩ := bnd5_ H; dsimp only at H; obtain ⟨⟨t173, t174, t175⟩, A7, H⟩ := bnd5_ H; dsimp only at H
  by_cases c8 : t162.length < 8796093022208
  ·
   rw [if_pos c8] at H; have LMc8 := Aside0.mk c8; clear c8; obtain ⟨y176, hy176⟩ : ∃ y_ : List (S48), y_ = (t162 ++ [(⟨t170, t173⟩ : S48)]) := ⟨_, rfl⟩
   replace H : (some (y176, t174, t175)) = some (r1, r2, r3) := by first | (rw [hy176]; with_reducible exact H) | (have H2_ := (Option.bind_some _ _).symm.trans H; rw [hy176]; with_reducible exact H2_) | (have H2_ := (Option.bind_some _ _).symm.trans H; with_reducible exact H2_) | with_reducible exact H | (rw [hy176]; exact H) | exact H
   have Ny176 := Aside0.mk hy176; clear hy176
   simp only [Option.some.injEq, Prod.mk.injEq] at H
   obtain ⟨rfl, rfl, rfl⟩ := H
   go_enter Tryz.func148, Tryz.ntmps148
   go_wp2_with (first | (refine gL_ 179 8 Tryz.func179 #[.pointer (some ⟨g, 0, none⟩), .int .i64 a1] ?_; (with_reducible refine (spec_l9Draw.calls k g s0_0 s0_1 s0_2 a1 t162 t165 t166 w0 _ ?side1 ?side2 A3.out).mono ?_); (case side1 => exact s5_); (case side2 => exact s8_); rintro e w9 ⟨v163, rfl, ho0, hi, hb, hk⟩; refine ⟨_, rfl, ?_⟩; have n_ := ac_ (Kd.R_lower ho0 (keep_size (w := w) (g := g) (row := none) s6_)) <| ac_ (KeepBut.trans s6_ hk (.inl rfl)) <| ac_ (hb) <| Aside0.mk (hi); clear HK HB HI0; obtain ⟨HO164, HK, HB, HI0⟩ := n_; (try clear hb hk hi ho0)) | (refine gL_ 145 10 Tryz.func145 #[.pointer (some ⟨g, 0, none⟩), .int .i64 10] ?_; (with_reducible refine (spec_l1Once.calls g s0_0 t165 t166 10 true t168 t169 w0 _ ?side1 ?side2 A4.out).mono ?_); (case side1 => exact s5_); (case side2 => exact s8_); rintro e w10 ⟨rfl, hi, hb, hk⟩; refine ⟨_, rfl, ?_⟩; have n_ := ac_ (Kd.R_mono (Kd.R_keep (IsS152.apart (show IsS152 w0 _ g s0_0 t165 t166 from s5_) q5_10 (by decide)) hk (fun _ h => h.2)) (fun _ h => h.1)) <| ac_ (KeepBut.trans s6_ hk (.inl rfl)) <| ac_ (hb) <| Aside0.mk (hi); clear HO164 HK HB HI0; obtain ⟨HO164, HK, HB, HI0⟩ := n_; (try clear hb hk hi)) | (refine gL_ 176 13 Tryz.func176 #[.pointer (some ⟨g, 0, none⟩)] ?_; (with_reducible refine (spec_l2Bent.calls g s0_0 t168 t169 t170 t171 t172 w0 _ ?side1 ?side2 A6.out).mono ?_); (case side1 => exact s5_); (case side2 => exact s8_); rintro e w11 ⟨rfl, hi, hb, hk⟩; refine ⟨_, rfl, ?_⟩; have n_ := ac_ (Kd.R_mono (Kd.R_keep (IsS152.apart (show IsS152 w0 _ g s0_0 t168 t169 from s5_) q5_10 (by decide)) hk (fun _ h => h.2)) (fun _ h => h.1)) <| ac_ (KeepBut.trans s6_ hk (.inl rfl)) <| ac_ (hb) <| Aside0.mk (hi); clear HO164 HK HB HI0; obtain ⟨HO164, HK, HB, HI0⟩ := n_; (try clear hb hk hi)) | (refine gL_ 176 15 Tryz.func176 #[.pointer (some ⟨g, 0, none⟩)] ?_; (with_reducible refine (spec_l2Bent.calls g s0_0 t171 t172 t173 t174 t175 w0 _ ?side1 ?side2 A7.out).mono ?_); (case side1 => exact s5_); (case side2 => exact s8_); rintro e w12 ⟨rfl, hi, hb, hk⟩; refine ⟨_, rfl, ?_⟩; have n_ := ac_ (Kd.R_mono (Kd.R_keep (IsS152.apart (show IsS152 w0 _ g s0_0 t171 t172 from s5_) q5_10 (by decide)) hk (fun _ h => h.2)) (fun _ h => h.1)) <| ac_ (KeepBut.trans s6_ hk (.inl rfl)) <| ac_ (hb) <| Aside0.mk (hi); clear HO164 HK HB HI0; obtain ⟨HO164, HK, HB, HI0⟩ := n_; (try clear hb hk hi)) | ((with_reducible refine gate_builtin (b := .append) (xs := #[.tmp 11, .tmp 17]) rfl ?_); at_builtin; refine Kd.R_append k48 w.heap.size rfl (.tmp 11) (.tmp 17) 24 48 (.agg #[(.int .i64 0), (.int .i64 0)]) 16 rfl Tryz.underlying24 info48 rfl (by decide) (by omega) v163 t162 (⟨t170, t173⟩ : S48) [.int .i64 t170, .int .i64 t173] (fun _ => True) (fun _ => False) rfl rfl ?aP (fun _ hk => hk.elim) ?aF ?aO (Below.refl _ _) ?aS ?aL ?_; (case aP => exact k48_mkM _ _ _ (⟨t170, t173⟩ : S48)); (case aF => exact (fun _ _ => trivial)); (case aO => exact q5_10); (case aS => exact (keep_size (w := w) (g := g) (row := none) s6_)); (case aL => have := LMc8.out; omega); intro v177 w13 ho hb hg hat; rw [← Ny176.out] at ho; have n_ := ac_ (IsS152.grown s5_ hg (IsS152.own_ne HI0.out HO164.out (by decide))) <| ac_ (below_weaken s8_ HL.out hb) <| ac_ (KeepBut.trans s6_ (KeepBut.of_grown hg g) (Kd.R_base2 HO164.out)) <| Aside0.mk (ho); clear HI0 HB HK HO164; obtain ⟨HI0, HB, HK, HO178⟩ := n_; clear ho hb hg hat))
   go_ret
   exact ⟨_, (by first | rfl | (simp [errW_none, errW_some] <;> rfl) | (simp [*, errW_none, errW_some] <;> rfl)), (by (with_reducible repeat (first | apply Kd.R_alloc | apply Kd.R_drewN | apply Kd.R_drew)); exact HO178.out), s5_, s8_, s6_⟩
  ·
   rw [if_neg c8] at H
   exact absurd H (by simp)
 ·
  replace c5 := Bool.eq_false_iff.mpr c5; subst c5
  rw [if_neg (show ¬ (false = true) by decide)] at H
  simp only [Option.some.injEq, Prod.mk.injEq] at H
  obtain ⟨rfl, rfl, rfl⟩ := H
  go_enter Tryz.func148, Tryz.ntmps148
  go_wp2_with (first | (refine gL_ 179 8 Tryz.func179 #[.pointer (some ⟨g, 0, none⟩), .int .i64 a1] ?_; (with_reducible refine (spec_l9Draw.calls k g s0_0 s0_1 s0_2 a1 t162 t165 t166 w0 _ ?side1 ?side2 A3.out).mono ?_); (case side1 => exact s5_); (case side2 => exact s8_); rintro e w14 ⟨v163, rfl, ho0, hi, hb, hk⟩; refine ⟨_, rfl, ?_⟩; have n_ := ac_ (Kd.R_lower ho0 (keep_size (w := w) (g := g) (row := none) s6_)) <| ac_ (KeepBut.trans s6_ hk (.inl rfl)) <| ac_ (hb) <| Aside0.mk (hi); clear HK HB HI0; obtain ⟨HO164, HK, HB, HI0⟩ := n_; (try clear hb hk hi ho0)) | (refine gL_ 145 10 Tryz.func145 #[.pointer (some ⟨g, 0, none⟩), .int .i64 10] ?_; (with_reducible refine (spec_l1Once.calls g s0_0 t165 t166 10 false t168 t169 w0 _ ?side1 ?side2 A4.out).mono ?_); (case side1 => exact s5_); (case side2 => exact s8_); rintro e w15 ⟨rfl, hi, hb, hk⟩; refine ⟨_, rfl, ?_⟩; have n_ := ac_ (Kd.R_mono (Kd.R_keep (IsS152.apart (show IsS152 w0 _ g s0_0 t165 t166 from s5_) q5_10 (by decide)) hk (fun _ h => h.2)) (fun _ h => h.1)) <| ac_ (KeepBut.trans s6_ hk (.inl rfl)) <| ac_ (hb) <| Aside0.mk (hi); clear HO164 HK HB HI0; obtain ⟨HO164, HK, HB, HI0⟩ := n_; (try clear hb hk hi)))
  go_ret
  exact ⟨_, (by first | rfl | (simp [errW_none, errW_some] <;> rfl) | (simp [*, errW_none, errW_some] <;> rfl)), q5_10, s5_, s8_, s6_⟩
theorem q5_11 {P : Prop} (h : P := by repeat (first | (with_reducible first | exact HI182.out | apply IsS152.alloc | apply IsS152.drewN | apply IsS152.drew | apply IsS152.set_1 | apply IsS152.set_2) | exact HI182.out)) : P := h
theorem q5_12 {P : Prop} (h : P := by repeat (first | (with_reducible first | exact HB.out | apply below_alloc | apply pw_below_drewN | apply below_drew1 | refine below_set ?_ (IsS152.ge HI182.out)) | exact HB.out)) : P := h
theorem q5_15 {P : Prop} (h : P := by (with_reducible repeat (first | apply Kd.R_alloc | apply Kd.R_drewN | apply Kd.R_drew)); exact HO188.out) : P := h
def spec_DrawAreRules.l0 : Nat → Int → List (S48) → Option (Int × (List (S48)))
 | 0, _, _ => none
 | k + 1, x5, x6 => if (x6.length : Int) < 41 then (if x6.length < 8796093022208 then (spec_DrawAreRules.l0 k x5 (x6 ++ [(⟨0, 0⟩ : S48)])) else (none)) else (some (x5, x6))
def spec_DrawAreRules.f (k : Nat) (l0 : List Int) : Option (Int × (List (S48))) := (spec_l1New.f k l0).bind fun bt179 => ((spec_l1Below.f bt179.1 bt179.2.1 bt179.2.2 6).bind fun bt183 => ((spec_l9Bent.f k bt179.1 bt183.2.1 bt183.2.2 bt183.1).bind fun bt186 => ((spec_l1Below.f bt179.1 bt186.2.1 bt186.2.2 12).bind fun bt191 => (if bt191.1 = 0 then ((spec_l1PickInt.f bt179.1 bt191.2.1 bt191.2.2 (([(-1), 7, 1] : List Int))).bind fun bt197 => (some (bt197.1, bt186.1))) else (if bt191.1 = 1 then (spec_DrawAreRules.l0 k bt183.1 bt186.1) else (some (bt183.1, bt186.1)))))))
set_option maxHeartbeats 40000000 in
set_option maxRecDepth 100000 in
theorem spec_DrawAreRules.calls (k : Nat) (A0 : Option Addr) (c0 : Nat) (l0 : List Int) (r1 : Int) (r2 : List (S48)) (w : World) (hr0 : Kd.C (Kd.int .u8) w A0 l0.length l0) (hc0 : l0.length ≤ c0) (h : spec_DrawAreRules.f k l0 = some (r1, r2)) :
  Calls Tryz.prog 72 #[.slice A0 l0.length c0] w fun e w' => ∃ v1_ : Value, e = .returned (.tuple #[.int .i64 r1, v1_]) ∧ Kd.R k48 48 w' w.heap.size (fun _ => True) v1_ r2 ∧ Below w.heap.size w w' := by
 have hu48 := Tryz.underlying48; have HR0 := Aside0.mk hr0; have HC0 := Aside0.mk hc0; clear hr0 hc0; have HB := Aside0.mk (Below.refl w.heap.size w); have H := h; clear h; unfold spec_DrawAreRules.f at H; obtain ⟨⟨t179, t180, t181⟩, A2, H⟩ := bnd5_ H; dsimp only at H; obtain ⟨⟨t183, t184, t185⟩, A3, H⟩ := bnd5_ H; dsimp only at H; obtain ⟨⟨t186, t189, t190⟩, A4, H⟩ := bnd5_ H; dsimp only at H; obtain ⟨⟨t191, t192, t193⟩, A5, H⟩ := bnd5_ H; dsimp only at H
 by_cases c6 : t191 = 0
 ·
  rw [if_pos c6] at H; have c6b0 : (t191 == 0) = true := beq_iff_eq.mpr c6; have c6b1 : (t191 != 0) = false := bne_eq_false_iff_eq.mpr c6; clear c6; obtain ⟨y194, hy194⟩ : ∃ y_ : List Int, y_ = (([(-1), 7, 1] : List Int)) := ⟨_, rfl⟩
  replace H : ((spec_l1PickInt.f t179 t192 t193 y194).bind fun bt197 => (some (bt197.1, t186))) = some (r1, r2) := by first | (rw [hy194]; with_reducible exact H) | (have H2_ := (Option.bind_some _ _).symm.trans H; rw [hy194]; with_reducible exact H2_) | (have H2_ := (Option.bind_some _ _).symm.trans H; with_reducible exact H2_) | with_reducible exact H | (rw [hy194]; exact H) | exact H
  have Ny194 := Aside0.mk hy194; clear hy194; obtain ⟨⟨t197, t198, t199⟩, A7, H⟩ := bnd5_ H; dsimp only at H
  simp only [Option.some.injEq, Prod.mk.injEq] at H
  obtain ⟨rfl, rfl⟩ := H
  go_enter Tryz.func72, Tryz.ntmps72
  go_wp2_with (first | (refine gL_ 144 8 Tryz.func144 #[.slice A0 l0.length c0] ?_; (with_reducible refine (spec_l1New.calls k _ _ l0 t179 t180 t181 w _ ?side1 ?side2 ?side3 A2.out).mono ?_); (case side1 => exact s1_); (case side2 => exact HR0.out); (case side3 => exact HC0.out); rintro e w8 ⟨g182, rfl, hi, hb, hb2⟩; refine ⟨_, rfl, ?_⟩; have n_ := ac_ (hb) <| Aside0.mk (hi); clear HB; obtain ⟨HB, HI182⟩ := n_; (try clear hb hb2 hi)) | (refine gL_ 146 10 Tryz.func146 #[.pointer (some ⟨g182, 0, none⟩), .int .i64 6] ?_; (with_reducible refine (spec_l1Below.calls g182 t179 t180 t181 6 t183 t184 t185 w _ ?side1 ?side2 A3.out).mono ?_); (case side1 => exact q5_11); (case side2 => exact q5_12); rintro e w9 ⟨rfl, hi, hb, hk⟩; refine ⟨_, rfl, ?_⟩; have n_ := ac_ (hb) <| Aside0.mk (hi); clear HB HI182; obtain ⟨HB, HI182⟩ := n_; (try clear hb hk hi)) | (refine gL_ 148 13 Tryz.func148 #[.pointer (some ⟨g182, 0, none⟩), .int .i64 t183] ?_; (with_reducible refine (spec_l9Bent.calls k g182 t179 t184 t185 t183 t186 t189 t190 w _ ?side1 ?side2 A4.out).mono ?_); (case side1 => exact q5_11); (case side2 => exact q5_12); rintro e w10 ⟨v187, rfl, ho0, hi, hb, hk⟩; refine ⟨_, rfl, ?_⟩; have n_ := ac_ (Kd.R_lower ho0 (below_size q5_12)) <| ac_ (hb) <| Aside0.mk (hi); clear HB HI182; obtain ⟨HO188, HB, HI182⟩ := n_; (try clear hb hk hi ho0)) | (refine gL_ 146 15 Tryz.func146 #[.pointer (some ⟨g182, 0, none⟩), .int .i64 12] ?_; (with_reducible refine (spec_l1Below.calls g182 t179 t189 t190 12 t191 t192 t193 w _ ?side1 ?side2 A5.out).mono ?_); (case side1 => exact q5_11); (case side2 => exact q5_12); rintro e w11 ⟨rfl, hi, hb, hk⟩; refine ⟨_, rfl, ?_⟩; have n_ := ac_ (Kd.R_mono (Kd.R_keep (IsS152.apart (show IsS152 w _ g182 t179 t189 t190 from q5_11) q5_15 (by decide)) hk (fun _ h => h.2)) (fun _ h => h.1)) <| ac_ (hb) <| Aside0.mk (hi); clear HO188 HB HI182; obtain ⟨HO188, HB, HI182⟩ := n_; (try clear hb hk hi)) | ((with_reducible refine gate_dst (N := 19) rfl ?_); refine Kd.R_lit (Kd.int .i64) _ 3 ?hg (N := 19) ?hd (xs := ([(-1), 7, 1] : List Int)) (inner := [.int .i64 (-1), .int .i64 7, .int .i64 1]) (ok := fun _ => True) (okp := fun _ => True) ?hr ?hp (fun _ hk => hk) trivial (Below.refl _ _) (Nat.le_refl _) (by simp) ?_; (case hd => rfl); (case hg => rfl); (case hr => first | (go_simp; done) | (go_simp; rfl)); (case hp => exact (Reps.one (show Kd.M (Kd.int .i64) _ _ _ (-1) [.int .i64 (-1)] from rfl) (Reps.one (show Kd.M (Kd.int .i64) _ _ _ 7 [.int .i64 7] from rfl) (Reps.one (show Kd.M (Kd.int .i64) _ _ _ 1 [.int .i64 1] from rfl) (Reps.none _ _))))); intro v195 w12 ho13 hb hg_ hnew_; clear hg_ hnew_; (first | rw [← Ny194.out] at ho13 | (simp only [Int.reduceToNat] at ho13; rw [← Ny194.out] at ho13)); have n_ := ac_ (Kd.R_below q5_15 hb) <| ac_ (Kd.R_lower ho13 (below_size q5_12)) <| ac_ (IsS152.below q5_11 hb) <| Aside0.mk (below_step q5_12 hb); clear HO188 HI182 HB; obtain ⟨HO188, HO196, HI182, HB⟩ := n_; clear hb ho13; obtain ⟨Ao14, co14, eo14⟩ := Kd.R_slice HO196.out; subst eo14) | (refine gL_ 147 20 Tryz.func147 #[.pointer (some ⟨g182, 0, none⟩), .slice Ao14 y194.length co14] ?_; (with_reducible refine (spec_l1PickInt.calls g182 t179 t192 t193 _ _ y194 t197 t198 t199 w _ ?side1 ?side2 ?side3 ?side4 ?side5 A7.out).mono ?_); (case side1 => exact q5_11); (case side2 => exact q5_12); (case side3 => repeat (first | exact (Kd.R_reads' HO196.out).2.2 | (with_reducible refine Kd.C_alloc ?_ _) | (with_reducible refine Kd.C_drewN ?_ _) | (with_reducible refine Kd.C_drew ?_))); (case side4 => exact (Kd.R_reads' HO196.out).2.1); (case side5 => exact far_slice (IsS152.own_ne HI182.out HO196.out (by decide))); rintro e w15 ⟨rfl, hi, hb, hk⟩; refine ⟨_, rfl, ?_⟩; have n_ := ac_ (Kd.R_mono (Kd.R_keep (IsS152.apart (show IsS152 w _ g182 t179 t192 t193 from q5_11) q5_15 (by decide)) hk (fun _ h => h.2)) (fun _ h => h.1)) <| ac_ (Kd.R_mono (Kd.R_keep (IsS152.apart (show IsS152 w _ g182 t179 t192 t193 from q5_11) (by (with_reducible repeat (first | apply Kd.R_alloc | apply Kd.R_drewN | apply Kd.R_drew)); exact HO196.out) (by decide)) hk (fun _ h => h.2)) (fun _ h => h.1)) <| ac_ (hb) <| Aside0.mk (hi); clear HO188 HO196 HB HI182; obtain ⟨HO188, HO196, HB, HI182⟩ := n_; (try clear hb hk hi)))
  go_ret2
  exact ⟨_, s7_, q5_15, q5_12⟩
 ·
  rw [if_neg c6] at H; have c6b0 : (t191 == 0) = false := beq_eq_false_iff_ne.mpr c6; have c6b1 : (t191 != 0) = true := bne_iff_ne.mpr c6
  by_cases c16 : t191 = 1
  ·
   rw [if_pos c16] at H; have c16b0 : (t191 == 1) = true := beq_iff_eq.mpr c16; have c16b1 : (t191 != 1) = false := bne_eq_false_iff_eq.mpr c16; clear c16; have H' := Aside0.mk H; clear H
   go_enter Tryz.func72, Tryz.ntmps72
   go_wp2_with (first | (refine gL_ 144 8 Tryz.func144 #[.slice A0 l0.length c0] ?_; (with_reducible refine (spec_l1New.calls k _ _ l0 t179 t180 t181 w _ ?side1 ?side2 ?side3 A2.out).mono ?_); (case side1 => exact s1_); (case side2 => exact HR0.out); (case side3 => exact HC0.out); rintro e w17 ⟨g182, rfl, hi, hb, hb2⟩; refine ⟨_, rfl, ?_⟩; have n_ := ac_ (hb) <| Aside0.mk (hi); clear HB; obtain ⟨HB, HI182⟩ := n_; (try clear hb hb2 hi)) | (refine gL_ 146 10 Tryz.func146 #[.pointer (some ⟨g182, 0, none⟩), .int .i64 6] ?_; (with_reducible refine (spec_l1Below.calls g182 t179 t180 t181 6 t183 t184 t185 w _ ?side1 ?side2 A3.out).mono ?_); (case side1 => exact q5_11); (case side2 => exact q5_12); rintro e w18 ⟨rfl, hi, hb, hk⟩; refine ⟨_, rfl, ?_⟩; have n_ := ac_ (hb) <| Aside0.mk (hi); clear HB HI182; obtain ⟨HB, HI182⟩ := n_; (try clear hb hk hi)) | (refine gL_ 148 13 Tryz.func148 #[.pointer (some ⟨g182, 0, none⟩), .int .i64 t183] ?_; (with_reducible refine (spec_l9Bent.calls k g182 t179 t184 t185 t183 t186 t189 t190 w _ ?side1 ?side2 A4.out).mono ?_); (case side1 => exact q5_11); (case side2 => exact q5_12); rintro e w19 ⟨v187, rfl, ho0, hi, hb, hk⟩; refine ⟨_, rfl, ?_⟩; have n_ := ac_ (Kd.R_lower ho0 (below_size q5_12)) <| ac_ (hb) <| Aside0.mk (hi); clear HB HI182; obtain ⟨HO188, HB, HI182⟩ := n_; (try clear hb hk hi ho0)) | (refine gL_ 146 15 Tryz.func146 #[.pointer (some ⟨g182, 0, none⟩), .int .i64 12] ?_; (with_reducible refine (spec_l1Below.calls g182 t179 t189 t190 12 t191 t192 t193 w _ ?side1 ?side2 A5.out).mono ?_); (case side1 => exact q5_11); (case side2 => exact q5_12); rintro e w20 ⟨rfl, hi, hb, hk⟩; refine ⟨_, rfl, ?_⟩; have n_ := ac_ (Kd.R_mono (Kd.R_keep (IsS152.apart (show IsS152 w _ g182 t179 t189 t190 from q5_11) q5_15 (by decide)) hk (fun _ h => h.2)) (fun _ h => h.1)) <| ac_ (hb) <| Aside0.mk (hi); clear HO188 HB HI182; obtain ⟨HO188, HB, HI182⟩ := n_; (try clear hb hk hi)))
   go_loopg [6] k (fun kq v6 w' => ∃ (x6_1 : List (S48)), Aside0 (spec_DrawAreRules.l0 kq t183 x6_1 = some (r1, r2)) ∧ Aside0 (kq ≤ k) ∧ Aside0 (Kd.R k48 48 w' w.heap.size (fun _ => True) v6 x6_1) ∧ Aside0 (Below w.heap.size w w'))
   case atStart => exact ⟨(t186), H', ⟨Nat.le_refl _⟩, ⟨q5_15⟩, ⟨q5_12⟩⟩
   case round =>
    clear H'
    try clear c1
    try clear p2
    try clear c6
    try clear c6b0
    try clear c6b1
    try clear c7
    try clear c14
    try clear c16
    try clear c16b0
    try clear c16b1
    obtain ⟨x6_1, HA, HK1, HO_6, HB⟩ := hrel
    cases gk with
    | zero => exact absurd HA.out (by simp [spec_DrawAreRules.l0])
    | succ k1 =>
     have H := HA.out; clear HA
     simp only [spec_DrawAreRules.l0] at H
     by_cases c21 : (x6_1.length : Int) < 41
     ·
      rw [if_pos c21] at H; have c21b0 : decide ((x6_1.length : Int) < 41) = true := decide_eq_true c21
      have c21b1 : decide (x6_1.length < 41) = true := decide_eq_true (by omega)
      clear c21
      by_cases c22 : x6_1.length < 8796093022208
      ·
       rw [if_pos c22] at H; have LMc22 := Aside0.mk c22; clear c22; obtain ⟨y200, hy200⟩ : ∃ y_ : List (S48), y_ = (x6_1 ++ [(⟨0, 0⟩ : S48)]) := ⟨_, rfl⟩
       replace H : (spec_DrawAreRules.l0 k1 t183 y200) = some (r1, r2) := by first | (rw [hy200]; with_reducible exact H) | (have H2_ := (Option.bind_some _ _).symm.trans H; rw [hy200]; with_reducible exact H2_) | (have H2_ := (Option.bind_some _ _).symm.trans H; with_reducible exact H2_) | with_reducible exact H | (rw [hy200]; exact H) | exact H
       have Ny200 := Aside0.mk hy200; clear hy200; have H' := Aside0.mk H; clear H; obtain ⟨Ao23, co23, eo23⟩ := Kd.R_slice HO_6.out; subst eo23
       go_wp2_with (first | ((with_reducible refine gate_builtin (b := .append) (xs := #[.tmp 26, .tmp 28]) rfl ?_); at_builtin; refine Kd.R_append k48 (w0 := w) w.heap.size rfl (.tmp 26) (.tmp 28) 24 48 (.agg #[(.int .i64 0), (.int .i64 0)]) 16 rfl Tryz.underlying24 info48 rfl (by decide) (by omega) (.slice Ao23 x6_1.length co23) x6_1 (⟨0, 0⟩ : S48) [.int .i64 0, .int .i64 0] (fun _ => True) (fun _ => False) rfl rfl ?aP (fun _ hk => hk.elim) ?aF ?aO ?aB ?aS ?aL ?_; (case aP => exact k48_mkM _ _ _ (⟨0, 0⟩ : S48)); (case aB => exact s1_); (case aF => exact (fun _ _ => trivial)); (case aO => exact (by (with_reducible repeat (first | apply Kd.R_alloc | apply Kd.R_drewN | apply Kd.R_drew)); exact HO_6.out)); (case aS => exact (below_size s1_)); (case aL => have := LMc22.out; omega); intro v201 w24 ho hb hg hat; rw [← Ny200.out] at ho; have n_ := ac_ (hb) <| Aside0.mk (ho); clear HB HO_6; obtain ⟨HB, HO202⟩ := n_; clear ho hb hg hat))
       go_roundg k1
       case measure => have := HK1.out; omega
       case rel => exact ⟨(y200), H', ⟨by have := HK1.out; omega⟩, ⟨(by (with_reducible repeat (first | apply Kd.R_alloc | apply Kd.R_drewN | apply Kd.R_drew)); exact HO202.out)⟩, ⟨s1_⟩⟩
      ·
       rw [if_neg c22] at H
       exact absurd H (by simp)
     ·
      rw [if_neg c21] at H; have c21b0 : decide ((x6_1.length : Int) < 41) = false := decide_eq_false c21
      have c21b1 : decide (x6_1.length < 41) = false := decide_eq_false (by omega)
      clear c21
      simp only [Option.some.injEq, Prod.mk.injEq] at H
      obtain ⟨rfl, rfl⟩ := H; obtain ⟨Ao25, co25, eo25⟩ := Kd.R_slice HO_6.out; subst eo25
      go_wp2
      go_ret2
      exact ⟨_, s7_, (by (with_reducible repeat (first | apply Kd.R_alloc | apply Kd.R_drewN | apply Kd.R_drew)); exact HO_6.out), s1_⟩
  ·
   rw [if_neg c16] at H; have c16b0 : (t191 == 1) = false := beq_eq_false_iff_ne.mpr c16; have c16b1 : (t191 != 1) = true := bne_iff_ne.mpr c16
   simp only [Option.some.injEq, Prod.mk.injEq] at H
   obtain ⟨rfl, rfl⟩ := H
   go_enter Tryz.func72, Tryz.ntmps72
   go_wp2_with (first | (refine gL_ 144 8 Tryz.func144 #[.slice A0 l0.length c0] ?_; (with_reducible refine (spec_l1New.calls k _ _ l0 t179 t180 t181 w _ ?side1 ?side2 ?side3 A2.out).mono ?_); (case side1 => exact s1_); (case side2 => exact HR0.out); (case side3 => exact HC0.out); rintro e w26 ⟨g182, rfl, hi, hb, hb2⟩; refine ⟨_, rfl, ?_⟩; have n_ := ac_ (hb) <| Aside0.mk (hi); clear HB; obtain ⟨HB, HI182⟩ := n_; (try clear hb hb2 hi)) | (refine gL_ 146 10 Tryz.func146 #[.pointer (some ⟨g182, 0, none⟩), .int .i64 6] ?_; (with_reducible refine (spec_l1Below.calls g182 t179 t180 t181 6 t183 t184 t185 w _ ?side1 ?side2 A3.out).mono ?_); (case side1 => exact q5_11); (case side2 => exact q5_12); rintro e w27 ⟨rfl, hi, hb, hk⟩; refine ⟨_, rfl, ?_⟩; have n_ := ac_ (hb) <| Aside0.mk (hi); clear HB HI182; obtain ⟨HB, HI182⟩ := n_; (try clear hb hk hi)) | (refine gL_ 148 13 Tryz.func148 #[.pointer (some ⟨g182, 0, none⟩), .int .i64 t183] ?_; (with_reducible refine (spec_l9Bent.calls k g182 t179 t184 t185 t183 t186 t189 t190 w _ ?side1 ?side2 A4.out).mono ?_); (case side1 => exact q5_11); (case side2 => exact q5_12); rintro e w28 ⟨v187, rfl, ho0, hi, hb, hk⟩; refine ⟨_, rfl, ?_⟩; have n_ := ac_ (Kd.R_lower ho0 (below_size q5_12)) <| ac_ (hb) <| Aside0.mk (hi); clear HB HI182; obtain ⟨HO188, HB, HI182⟩ := n_; (try clear hb hk hi ho0)) | (refine gL_ 146 15 Tryz.func146 #[.pointer (some ⟨g182, 0, none⟩), .int .i64 12] ?_; (with_reducible refine (spec_l1Below.calls g182 t179 t189 t190 12 t191 t192 t193 w _ ?side1 ?side2 A5.out).mono ?_); (case side1 => exact q5_11); (case side2 => exact q5_12); rintro e w29 ⟨rfl, hi, hb, hk⟩; refine ⟨_, rfl, ?_⟩; have n_ := ac_ (Kd.R_mono (Kd.R_keep (IsS152.apart (show IsS152 w _ g182 t179 t189 t190 from q5_11) q5_15 (by decide)) hk (fun _ h => h.2)) (fun _ h => h.1)) <| ac_ (hb) <| Aside0.mk (hi); clear HO188 HB HI182; obtain ⟨HO188, HB, HI182⟩ := n_; (try clear hb hk hi)))
   go_ret2
   exact ⟨_, s7_, q5_15, q5_12⟩
end Go.Proofs.YtafnamchckehmaaGreatDoor.Pr
namespace Go.Proofs.YtafnamchckehmaaGreatDoor.Pr
open Go.RowKit Go.Proofs.YtafnamchckehmaaGreatDoorW.PrintWords Go.Proofs.YtafnamchckehmaaGreatDoorW.PrintLast Go.Proofs.YtafnamchckehmaaGreatDoorW.PrintMore
attribute [local go_sem] max2_int min2_int max_two min_two max_three min_three max_four min_four
set_option linter.unusedVariables false
set_option linter.unusedSimpArgs false
theorem bnd24_ {α β : Type} {o : Option α} {f : α → Option β} {r : β} (h : o.bind f = some r) : ∃ a, Aside0 (o = some a) ∧ f a = some r := by
 obtain ⟨a, h1, h2⟩ := Option.bind_eq_some_iff.mp h
 exact ⟨a, ⟨h1⟩, h2⟩
def spec_DrawContextOfRules.f (k : Nat) (l0 : List Int) : Option (Int × (List (S48))) := (spec_DrawAreRules.f k l0).bind fun bt203 => (some (bt203.1, bt203.2))
set_option maxHeartbeats 40000000 in
set_option maxRecDepth 100000 in
theorem spec_DrawContextOfRules.calls (k : Nat) (A0 : Option Addr) (c0 : Nat) (l0 : List Int) (r1 : Int) (r2 : List (S48)) (w : World) (hr0 : Kd.C (Kd.int .u8) w A0 l0.length l0) (hc0 : l0.length ≤ c0) (h : spec_DrawContextOfRules.f k l0 = some (r1, r2)) :
  Calls Tryz.prog 10 #[.slice A0 l0.length c0] w fun e w' => ∃ v1_ : Value, e = .returned (.tuple #[.int .i64 r1, v1_]) ∧ Kd.R k48 48 w' w.heap.size (fun _ => True) v1_ r2 ∧ Below w.heap.size w w' := by
 have HR0 := Aside0.mk hr0; have HC0 := Aside0.mk hc0; clear hr0 hc0; have HB := Aside0.mk (Below.refl w.heap.size w); have H := h; clear h; unfold spec_DrawContextOfRules.f at H; obtain ⟨⟨t203, t204⟩, A2, H⟩ := bnd24_ H; dsimp only at H
 simp only [Option.some.injEq, Prod.mk.injEq] at H
 obtain ⟨rfl, rfl⟩ := H
 go_enter Tryz.func10, Tryz.ntmps10
 go_wp2_with (first | ((with_reducible refine gate_callee (f := 72) rfl ?_); refine goesL_ (some 8) rfl rfl Tryz.func72 (by kernel_rfl) rfl #[.slice A0 l0.length c0] rfl (by (try simp only [List.map_toArray, List.map_cons, List.map_nil]); first | done | rfl | (simp only [List.length_drop, List.length_take]; rfl)) ?_; (with_reducible refine (spec_DrawAreRules.calls k _ _ l0 t203 t204 _ ?side1 ?side2 A2.out).mono ?_); (case side1 => repeat (first | exact HR0.out | (with_reducible refine Kd.C_alloc ?_ _) | (with_reducible refine Kd.C_drewN ?_ _) | (with_reducible refine Kd.C_drew ?_))); (case side2 => exact HC0.out); rintro e w3 ⟨v205, rfl, ho0, hb⟩; refine ⟨_, rfl, ?_⟩; have n_ := ac_ (Kd.R_lower ho0 (below_size s1_)) <| Aside0.mk (below_step s1_ hb); clear HB; obtain ⟨HO206, HB⟩ := n_; (try clear hb ho0)))
 go_ret2
 exact ⟨_, (by first | rfl | (simp [errW_none, errW_some] <;> rfl) | (simp [*, errW_none, errW_some] <;> rfl)), (by (with_reducible repeat (first | apply Kd.R_alloc | apply Kd.R_drewN | apply Kd.R_drew)); exact HO206.out), s1_⟩
def impl_beyond.l0 : Nat → Int → Int → List Int → Int → Int → Option (Int)
 | 0, _, _, _, _, _ => none
 | k + 1, x1, x2, x9, x10, x11 => if x11 < x10 then (if 0 ≤ x11 then (if x11 < (x9.length : Int) then (if (rd x9 x11) = x1 then (impl_beyond.l0 k x1 x2 x9 x10 (wrap64 (x11 + 1))) else ((impl_inSet.f x1 (rd x9 x11)).bind fun t254 => (if t254 = true then (impl_beyond.l0 k x1 (Go.bits .and .i64 x2 (rd x9 x11)) x9 x10 (wrap64 (x11 + 1))) else (impl_beyond.l0 k x1 x2 x9 x10 (wrap64 (x11 + 1)))))) else (none)) else (none)) else (some x2)
def impl_beyond.f (k : Nat) (l0 : List Int) (a1 : Int) (a2 : Int) : Option (Int) := impl_beyond.l0 k a1 a2 l0 (l0.length : Int) 0
set_option maxHeartbeats 40000000 in
set_option maxRecDepth 100000 in
theorem impl_beyond.calls (k : Nat) (A0 : Option Addr) (c0 : Nat) (l0 : List Int) (a1 : Int) (a2 : Int) (r : Int) (w : World) (hr0 : Kd.C (Kd.int .i64) w A0 l0.length l0) (hc0 : l0.length ≤ c0) (h : impl_beyond.f k l0 a1 a2 = some r) :
  Calls Tryz.prog 209 #[.slice A0 l0.length c0, .int .i64 a1, .int .i64 a2] w fun e w' => e = .returned (.int .i64 r) ∧ Drawn0 w w' := by
 have HR0 := Aside0.mk hr0; have HC0 := Aside0.mk hc0; clear hr0 hc0; have H := h; clear h; unfold impl_beyond.f at H; have H' := Aside0.mk H; clear H
 go_enter Tryz.func209, Tryz.ntmps209
 go_wp2
 go_loopg [2, 11] k (fun kq v2 v11 w' => ∃ (x2_1 : Int) (x11_1 : Int), v2 = .int .i64 x2_1 ∧ v11 = .int .i64 x11_1 ∧ Aside0 (impl_beyond.l0 kq a1 x2_1 l0 (l0.length : Int) x11_1 = some r) ∧ Aside0 (kq ≤ k) ∧ Drawn0 w w')
 case atStart => exact ⟨(a2), (0), s2_, s2_, H', ⟨Nat.le_refl _⟩, s4_⟩
 case round =>
  clear H'
  try clear c2
  try clear p2
  obtain ⟨x2_1, x11_1, rfl, rfl, HA, HK1, ⟨m1, rfl⟩⟩ := hrel
  cases gk with
  | zero => exact absurd HA.out (by simp [impl_beyond.l0])
  | succ k1 =>
   have H := HA.out; clear HA
   simp only [impl_beyond.l0] at H
   by_cases c4 : x11_1 < (l0.length : Int)
   ·
    rw [if_pos c4] at H; have c4b0 : decide (x11_1 < (l0.length : Int)) = true := decide_eq_true c4; clear c4
    by_cases c5 : 0 ≤ x11_1
    ·
     rw [if_pos c5] at H; have c5b0 : decide (0 ≤ x11_1) = true := decide_eq_true c5; clear c5
     by_cases c6 : x11_1 < (l0.length : Int)
     ·
      rw [if_pos c6] at H; have c6b0 : decide (x11_1 < (l0.length : Int)) = true := decide_eq_true c6; clear c6
      by_cases c7 : (rd l0 x11_1) = a1
      ·
       rw [if_pos c7] at H; have c7b0 : ((rd l0 x11_1) == a1) = true := beq_iff_eq.mpr c7; have c7b1 : ((rd l0 x11_1) != a1) = false := bne_eq_false_iff_eq.mpr c7; clear c7; have H' := Aside0.mk H; clear H; have p253 : 0 ≤ (x11_1 : Int) := of_decide_eq_true s3_; have q253 : x11_1 < (l0.length : Int) := of_decide_eq_true s3_; obtain ⟨ad253, e253, hx253_0⟩ := Kd.at_int HR0.out x11_1 p253 q253
       cases e253
       replace p253 := eq_true p253; replace q253 := eq_true q253
       go_wp2
       go_roundg k1
       case measure => have := HK1.out; omega
       case rel => exact ⟨(x2_1), (wrap64 (x11_1 + 1)), s2_, s2_, H', ⟨by have := HK1.out; omega⟩, s4_⟩
      ·
       rw [if_neg c7] at H; have c7b0 : ((rd l0 x11_1) == a1) = false := beq_eq_false_iff_ne.mpr c7; have c7b1 : ((rd l0 x11_1) != a1) = true := bne_iff_ne.mpr c7; obtain ⟨t254, A8, H⟩ := bnd24_ H
       by_cases c9 : t254 = true
       ·
        subst c9; rw [if_pos rfl] at H; have H' := Aside0.mk H; clear H; have p253 : 0 ≤ (x11_1 : Int) := of_decide_eq_true s3_; have q253 : x11_1 < (l0.length : Int) := of_decide_eq_true s3_; obtain ⟨ad253, e253, hx253_0⟩ := Kd.at_int HR0.out x11_1 p253 q253
        cases e253
        replace p253 := eq_true p253; replace q253 := eq_true q253
        go_wp2_with (first | (go_at_call 141; (with_reducible refine (impl_inSet.calls a1 (rd l0 x11_1) true _ A8.out).mono ?_); rintro e w' ⟨rfl, ⟨nd, rfl⟩⟩))
        go_roundg k1
        case measure => have := HK1.out; omega
        case rel => exact ⟨(Go.bits .and .i64 x2_1 (rd l0 x11_1)), (wrap64 (x11_1 + 1)), s2_, s2_, H', ⟨by have := HK1.out; omega⟩, s4_⟩
       ·
        replace c9 := Bool.eq_false_iff.mpr c9; subst c9
        rw [if_neg (show ¬ (false = true) by decide)] at H
        have H' := Aside0.mk H; clear H; have p253 : 0 ≤ (x11_1 : Int) := of_decide_eq_true s3_; have q253 : x11_1 < (l0.length : Int) := of_decide_eq_true s3_; obtain ⟨ad253, e253, hx253_0⟩ := Kd.at_int HR0.out x11_1 p253 q253
        cases e253
        replace p253 := eq_true p253; replace q253 := eq_true q253
        go_wp2_with (first | (go_at_call 141; (with_reducible refine (impl_inSet.calls a1 (rd l0 x11_1) false _ A8.out).mono ?_); rintro e w' ⟨rfl, ⟨nd, rfl⟩⟩))
        go_roundg k1
        case measure => have := HK1.out; omega
        case rel => exact ⟨(x2_1), (wrap64 (x11_1 + 1)), s2_, s2_, H', ⟨by have := HK1.out; omega⟩, s4_⟩
     ·
      rw [if_neg c6] at H
      exact absurd H (by simp)
    ·
     rw [if_neg c5] at H
     exact absurd H (by simp)
   ·
    rw [if_neg c4] at H; have c4b0 : decide (x11_1 < (l0.length : Int)) = false := decide_eq_false c4; clear c4; obtain rfl := Option.some.inj H
    go_wp2
    go_ret
    exact ⟨s2_, s4_⟩
def impl_irreducible.l0 : Nat → Int → List Int → List Int → List Int → Int → Int → Option (List Int)
 | 0, _, _, _, _, _, _ => none
 | k + 1, x0, x1, x5, x9, x10, x11 => if x11 < x10 then (if 0 ≤ x11 then (if x11 < (x9.length : Int) then ((impl_FullSet.f x0).bind fun t259 => ((impl_beyond.f k x1 (rd x9 x11) t259).bind fun t260 => (if t260 = (rd x9 x11) then (impl_irreducible.l0 k x0 x1 x5 x9 x10 (wrap64 (x11 + 1))) else (if x5.length < 17592186044416 then (impl_irreducible.l0 k x0 x1 (x5 ++ [rd x9 x11]) x9 x10 (wrap64 (x11 + 1))) else (none))))) else (none)) else (none)) else (some x5)
def impl_irreducible.f (k : Nat) (a0 : Int) (l1 : List Int) : Option (List Int) := impl_irreducible.l0 k a0 l1 (([] : List Int)) l1 (l1.length : Int) 0
set_option maxHeartbeats 40000000 in
set_option maxRecDepth 100000 in
theorem impl_irreducible.calls (k : Nat) (a0 : Int) (A1 : Option Addr) (c1 : Nat) (l1 : List Int) (r : List Int) (w : World) (hr1 : Kd.C (Kd.int .i64) w A1 l1.length l1) (hc1 : l1.length ≤ c1) (h : impl_irreducible.f k a0 l1 = some r) :
  Calls Tryz.prog 123 #[.int .i64 a0, .slice A1 l1.length c1] w fun e w' => ∃ v0_ : Value, e = .returned (v0_) ∧ Kd.R (Kd.int .i64) 3 w' w.heap.size (fun _ => True) v0_ r ∧ Below w.heap.size w w' := by
 have HR1 := Aside0.mk hr1; have HC1 := Aside0.mk hc1; clear hr1 hc1; have HB := Aside0.mk (Below.refl w.heap.size w); have H := h; clear h; unfold impl_irreducible.f at H; obtain ⟨y255, hy255⟩ : ∃ y_ : List Int, y_ = (([] : List Int)) := ⟨_, rfl⟩
 replace H : (impl_irreducible.l0 k a0 l1 y255 l1 (l1.length : Int) 0) = some r := by first | (rw [hy255]; with_reducible exact H) | (have H2_ := (Option.bind_some _ _).symm.trans H; rw [hy255]; with_reducible exact H2_) | (have H2_ := (Option.bind_some _ _).symm.trans H; with_reducible exact H2_) | with_reducible exact H | (rw [hy255]; exact H) | exact H
 have Ny255 := Aside0.mk hy255; clear hy255; have H' := Aside0.mk H; clear H
 go_enter Tryz.func123, Tryz.ntmps123
 go_wp2_with (first | ((with_reducible refine gate_dst (N := 8) rfl ?_); refine Kd.R_lit (Kd.int .i64) _ 3 ?hg (N := 8) ?hd (xs := ([] : List Int)) (inner := []) (ok := fun _ => True) (okp := fun _ => True) ?hr ?hp (fun _ hk => hk) trivial (Below.refl _ _) (Nat.le_refl _) (by simp) ?_; (case hd => rfl); (case hg => rfl); (case hr => first | (go_simp; done) | (go_simp; rfl)); (case hp => exact (Reps.none _ _)); intro v256 w3 ho4 hb hg_ hnew_; clear hg_ hnew_; (first | rw [← Ny255.out] at ho4 | (simp only [Int.reduceToNat] at ho4; rw [← Ny255.out] at ho4)); have n_ := ac_ (Kd.R_lower ho4 (below_size s1_)) <| Aside0.mk (below_step s1_ hb); clear HB; obtain ⟨HO257, HB⟩ := n_; clear hb ho4))
 go_loopg [5, 11] k (fun kq v5 v11 w' => ∃ (x5_1 : List Int) (x11_1 : Int), v11 = .int .i64 x11_1 ∧ Aside0 (impl_irreducible.l0 kq a0 l1 x5_1 l1 (l1.length : Int) x11_1 = some r) ∧ Aside0 (kq ≤ k) ∧ Aside0 (Kd.R (Kd.int .i64) 3 w' w.heap.size (fun _ => True) v5 x5_1) ∧ Aside0 (Below w.heap.size w w'))
 case atStart => exact ⟨(y255), (0), s2_, H', ⟨Nat.le_refl _⟩, ⟨(by (with_reducible repeat (first | apply Kd.R_alloc | apply Kd.R_drewN | apply Kd.R_drew)); exact HO257.out)⟩, ⟨s1_⟩⟩
 case round =>
  clear H'
  try clear c1
  try clear p2
  obtain ⟨x5_1, x11_1, rfl, HA, HK1, HO_5, HB⟩ := hrel
  cases gk with
  | zero => exact absurd HA.out (by simp [impl_irreducible.l0])
  | succ k1 =>
   have H := HA.out; clear HA
   simp only [impl_irreducible.l0] at H
   by_cases c5 : x11_1 < (l1.length : Int)
   ·
    rw [if_pos c5] at H; have c5b0 : decide (x11_1 < (l1.length : Int)) = true := decide_eq_true c5; clear c5
    by_cases c6 : 0 ≤ x11_1
    ·
     rw [if_pos c6] at H; have c6b0 : decide (0 ≤ x11_1) = true := decide_eq_true c6; clear c6
     by_cases c7 : x11_1 < (l1.length : Int)
     ·
      rw [if_pos c7] at H; have c7b0 : decide (x11_1 < (l1.length : Int)) = true := decide_eq_true c7; clear c7; obtain ⟨t259, A8, H⟩ := bnd24_ H; obtain ⟨t260, A9, H⟩ := bnd24_ H
      by_cases c10 : t260 = (rd l1 x11_1)
      ·
       rw [if_pos c10] at H; have c10b0 : (t260 == (rd l1 x11_1)) = true := beq_iff_eq.mpr c10; have c10b1 : (t260 != (rd l1 x11_1)) = false := bne_eq_false_iff_eq.mpr c10; clear c10; have H' := Aside0.mk H; clear H; have p258 : 0 ≤ (x11_1 : Int) := of_decide_eq_true s3_; have q258 : x11_1 < (l1.length : Int) := of_decide_eq_true s3_; obtain ⟨ad258, e258, hx258_0⟩ := Kd.at_int HR1.out x11_1 p258 q258
       cases e258
       replace hx258_0 := (HB.out.cell (World.block_lt_of_cell? w _ hx258_0)).trans hx258_0; replace p258 := eq_true p258; replace q258 := eq_true q258
       go_wp2_with (first | (refine gL_ 129 18 Tryz.func129 #[.int .i64 a0] ?_; (with_reducible refine (impl_FullSet.calls a0 t259 _ A8.out).mono ?_); rintro e w' ⟨rfl, ⟨nd, rfl⟩⟩; refine ⟨_, rfl, ?_⟩) | (refine gL_ 209 19 Tryz.func209 #[.slice (some ad258) l1.length c1, .int .i64 (rd l1 x11_1), .int .i64 t259] ?_; (with_reducible refine (impl_beyond.calls k1 _ _ l1 (rd l1 x11_1) t259 t260 _ ?side1 ?side2 A9.out).mono ?_); (case side1 => exact s16_); (case side2 => exact HC1.out); rintro e w' ⟨rfl, ⟨nd, rfl⟩⟩; refine ⟨_, rfl, ?_⟩))
       go_roundg k1
       case measure => have := HK1.out; omega
       case rel => exact ⟨(x5_1), (wrap64 (x11_1 + 1)), s2_, H', ⟨by have := HK1.out; omega⟩, ⟨s15_⟩, ⟨s1_⟩⟩
      ·
       rw [if_neg c10] at H; have c10b0 : (t260 == (rd l1 x11_1)) = false := beq_eq_false_iff_ne.mpr c10; have c10b1 : (t260 != (rd l1 x11_1)) = true := bne_iff_ne.mpr c10
       by_cases c11 : x5_1.length < 17592186044416
       ·
        rw [if_pos c11] at H; have LMc11 := Aside0.mk c11; clear c11; obtain ⟨y261, hy261⟩ : ∃ y_ : List Int, y_ = (x5_1 ++ [rd l1 x11_1]) := ⟨_, rfl⟩
        replace H : (impl_irreducible.l0 k1 a0 l1 y261 l1 (l1.length : Int) (wrap64 (x11_1 + 1))) = some r := by first | (rw [hy261]; with_reducible exact H) | (have H2_ := (Option.bind_some _ _).symm.trans H; rw [hy261]; with_reducible exact H2_) | (have H2_ := (Option.bind_some _ _).symm.trans H; with_reducible exact H2_) | with_reducible exact H | (rw [hy261]; exact H) | exact H
        have Ny261 := Aside0.mk hy261; clear hy261; have H' := Aside0.mk H; clear H; have p258 : 0 ≤ (x11_1 : Int) := of_decide_eq_true s3_; have q258 : x11_1 < (l1.length : Int) := of_decide_eq_true s3_; obtain ⟨ad258, e258, hx258_0⟩ := Kd.at_int HR1.out x11_1 p258 q258
        cases e258
        replace hx258_0 := (HB.out.cell (World.block_lt_of_cell? w _ hx258_0)).trans hx258_0; replace p258 := eq_true p258; replace q258 := eq_true q258
        go_wp2_with (first | (refine gL_ 129 18 Tryz.func129 #[.int .i64 a0] ?_; (with_reducible refine (impl_FullSet.calls a0 t259 _ A8.out).mono ?_); rintro e w' ⟨rfl, ⟨nd, rfl⟩⟩; refine ⟨_, rfl, ?_⟩) | (refine gL_ 209 19 Tryz.func209 #[.slice (some ad258) l1.length c1, .int .i64 (rd l1 x11_1), .int .i64 t259] ?_; (with_reducible refine (impl_beyond.calls k1 _ _ l1 (rd l1 x11_1) t259 t260 _ ?side1 ?side2 A9.out).mono ?_); (case side1 => exact s16_); (case side2 => exact HC1.out); rintro e w' ⟨rfl, ⟨nd, rfl⟩⟩; refine ⟨_, rfl, ?_⟩) | ((with_reducible refine gate_builtin (b := .append) (xs := #[.tmp 22, .tmp 24]) rfl ?_); at_builtin; refine Kd.R_append (Kd.int .i64) (w0 := w) w.heap.size rfl (.tmp 22) (.tmp 24) 27 3 (.int .i64 0) 8 rfl Tryz.underlying27 info3 rfl (by decide) (by omega) u5 x5_1 (rd l1 x11_1) [.int .i64 (rd l1 x11_1)] (fun _ => True) (fun _ => False) rfl rfl ?aP (fun _ hk => hk.elim) ?aF ?aO ?aB ?aS ?aL ?_; (case aP => exact rfl); (case aB => exact s1_); (case aF => exact (fun _ _ => trivial)); (case aO => exact s15_); (case aS => exact (below_size s1_)); (case aL => have := LMc11.out; omega); intro v262 w12 ho hb hg hat; rw [← Ny261.out] at ho; have n_ := ac_ (hb) <| Aside0.mk (ho); clear HB HO_5; obtain ⟨HB, HO263⟩ := n_; clear ho hb hg hat))
        go_roundg k1
        case measure => have := HK1.out; omega
        case rel => exact ⟨(y261), (wrap64 (x11_1 + 1)), s2_, H', ⟨by have := HK1.out; omega⟩, ⟨(by (with_reducible repeat (first | apply Kd.R_alloc | apply Kd.R_drewN | apply Kd.R_drew)); exact HO263.out)⟩, ⟨s1_⟩⟩
       ·
        rw [if_neg c11] at H
        exact absurd H (by simp)
     ·
      rw [if_neg c7] at H
      exact absurd H (by simp)
    ·
     rw [if_neg c6] at H
     exact absurd H (by simp)
   ·
    rw [if_neg c5] at H; have c5b0 : decide (x11_1 < (l1.length : Int)) = false := decide_eq_false c5; clear c5; obtain rfl := Option.some.inj H
    go_wp2
    go_ret
    exact ⟨_, (by first | rfl | (simp [errW_none, errW_some] <;> rfl) | (simp [*, errW_none, errW_some] <;> rfl)), s15_, s1_⟩
theorem q24_11 {P : Prop} (h : P := by (with_reducible repeat (first | refine blk_drewN ?_ _ | refine blk_drew ?_ | refine blk_alloc ?_ _)); refine blk_put (cs := #[.int .i64 0, .slice none 0 0]) ?_ 1 _ rfl; (with_reducible repeat (first | refine blk_drewN ?_ _ | refine blk_drew ?_ | refine blk_alloc ?_ _)); refine blk_put (cs := #[.int .i64 0, .slice none 0 0]) ?_ 0 _ rfl; (with_reducible repeat (first | refine blk_drewN ?_ _ | refine blk_drew ?_ | refine blk_alloc ?_ _)); exact BK271.out) : P := h
theorem q24_12 {P : Prop} (h : P := by first | exact HK.out.1 | exact (show Kept w _ (fun k_ => P1_ k_) from by repeat (first | (with_reducible first | exact HK.out | apply Kept.alloc | apply Kept.drewN | apply Kept.drew) | exact HK.out)).1) : P := h
theorem q24_13 {P : Prop} (h : P := by repeat (first | (with_reducible first | exact HK.out | apply Kept.alloc | apply Kept.drewN | apply Kept.drew | refine Kept.setCell ?_ (.inr GW271.out) _) | exact HK.out)) : P := h
theorem q24_14 {P : Prop} (h : P := by repeat (first | (with_reducible first | exact HB.out | apply below_alloc | apply pw_below_drewN | apply below_drew1 | refine below_set ?_ GE271.out) | exact HB.out)) : P := h
theorem q24_17 {P : Prop} (h : P := by repeat (first | (with_reducible first | exact HK.out | apply Kept.alloc | apply Kept.drewN | apply Kept.drew) | exact HK.out)) : P := h
theorem q24_18 {P : Prop} (h : P := by (with_reducible repeat (first | apply Kd.R_alloc | apply Kd.R_drewN | apply Kd.R_drew)); exact HO1.out) : P := h
def impl_contextOf.f (a0 : Int) (l1 : List Int) (a2 : Bool) : Option (Int × List Int × Bool) := if a2 = true then (if (l1.length : Int) > 8 then (some (0, ([] : List Int), false)) else (some (a0, l1, true))) else (some (0, ([] : List Int), false))
set_option maxHeartbeats 40000000 in
set_option maxRecDepth 100000 in
theorem impl_contextOf.calls (a0 : Int) (P1_ : Nat → Prop) (u9000_ : Value) (l1 : List Int) (a2 : Bool) (r1 : Int) (r2 : List Int) (r3 : Bool) (w0 w : World) (hB : Below w0.heap.size w0 w) (ho1 : Kd.R (Kd.int .i64) 3 w w0.heap.size P1_ u9000_ l1) (h : impl_contextOf.f a0 l1 a2 = some (r1, r2, r3)) :
  Calls Tryz.prog 120 #[.int .i64 a0, u9000_, .bool a2] w fun e w' => ∃ v1_ : Value, e = .returned (.tuple #[.agg #[.int .i64 r1, v1_], .bool r3]) ∧ Kd.R (Kd.int .i64) 3 w' w0.heap.size (fun k_ => (P1_ k_ ∨ w.heap.size ≤ k_)) v1_ r2 ∧ Below w0.heap.size w0 w' ∧ Kept w w' (fun k_ => P1_ k_) := by
 have hu29 := Tryz.underlying29
 have HO1 := Aside0.mk (show Kd.R (Kd.int .i64) 3 w w0.heap.size (fun k_ => (P1_ k_ ∨ w.heap.size ≤ k_)) u9000_ l1 from Kd.R_mono ho1 (fun k_ hk => (.inl hk)))
 have HK := Aside0.mk (Kept.refl w (fun k_ => P1_ k_))
 have HW0 := Aside0.mk hB.size; have HB := Aside0.mk hB; clear hB; have H := h; clear h; unfold impl_contextOf.f at H
 by_cases c4 : a2 = true
 ·
  subst c4; rw [if_pos rfl] at H
  by_cases c5 : (l1.length : Int) > 8
  ·
   rw [if_pos c5] at H; have c5b0 : decide (8 < (l1.length : Int)) = true := decide_eq_true c5
   have c5b1 : decide (8 < l1.length) = true := decide_eq_true (by omega)
   clear c5
   simp only [Option.some.injEq, Prod.mk.injEq] at H
   obtain ⟨rfl, rfl, rfl⟩ := H
   go_enter Tryz.func120, Tryz.ntmps120
   go_wp2_with (first | ((with_reducible refine gate_dst (N := 6) rfl ?_); (try (refine gate_guard (by rfl) ?_; dsimp only)); refine box_event ?hg (N := 6) ?hd (cs := #[.int .i64 0, .slice none 0 0]) (t := 29) ?hr ?_; (case hd => rfl); (case hg => rfl); (case hr => first | (go_simp; done) | (go_simp; rfl)); intro gb271 hg w6 hbox hb; have n_ := ac_ (Kd.R_below q24_18 hb) <| ac_ (Kept.below (S := (fun k_ => P1_ k_)) q24_17 hb) <| ac_ (below_step s1_ hb) <| ac_ (hbox) <| ac_ ((by rw [hg]; exact q24_12 : w.heap.size ≤ gb271)) <| Aside0.mk ((by rw [hg]; exact (below_size s1_) : w0.heap.size ≤ gb271)); clear HO1 HK HB; obtain ⟨HO1, HK, HB, BK271, GW271, GE271⟩ := n_; clear hb hbox hg; obtain ⟨Ao7, co7, eo7⟩ := Kd.R_slice HO1.out; subst eo7; have hcz8_0 : w6.cell? ⟨gb271, 0, none⟩ = some (.int .i64 0) := (blk_cell BK271.out 0).trans rfl; have hcz8_1 : w6.cell? ⟨gb271, 1, none⟩ = some (.slice none 0 0) := (blk_cell BK271.out 1).trans rfl; have hfz8_0 := blk_frozen BK271.out 0; have hfz8_1 := blk_frozen BK271.out 1))
   refine bodyPost_ret (results_ct rfl _ _ gb271 29 #[.int .i64 0, .slice none 0 0] (0, 0) _ rfl q24_11 Tryz.underlying29 rfl (by kernel_rfl)) rfl ?_
   exact ⟨_, s7_, s18_, q24_14, q24_13⟩
  ·
   rw [if_neg c5] at H; have c5b0 : decide (8 < (l1.length : Int)) = false := decide_eq_false c5
   have c5b1 : decide (8 < l1.length) = false := decide_eq_false (by omega)
   clear c5
   simp only [Option.some.injEq, Prod.mk.injEq] at H
   obtain ⟨rfl, rfl, rfl⟩ := H
   go_enter Tryz.func120, Tryz.ntmps120
   go_wp2_with (first | ((with_reducible refine gate_dst (N := 6) rfl ?_); (try (refine gate_guard (by rfl) ?_; dsimp only)); refine box_event ?hg (N := 6) ?hd (cs := #[.int .i64 0, .slice none 0 0]) (t := 29) ?hr ?_; (case hd => rfl); (case hg => rfl); (case hr => first | (go_simp; done) | (go_simp; rfl)); intro gb271 hg w9 hbox hb; have n_ := ac_ (Kd.R_below q24_18 hb) <| ac_ (Kept.below (S := (fun k_ => P1_ k_)) q24_17 hb) <| ac_ (below_step s1_ hb) <| ac_ (hbox) <| ac_ ((by rw [hg]; exact q24_12 : w.heap.size ≤ gb271)) <| Aside0.mk ((by rw [hg]; exact (below_size s1_) : w0.heap.size ≤ gb271)); clear HO1 HK HB; obtain ⟨HO1, HK, HB, BK271, GW271, GE271⟩ := n_; clear hb hbox hg; obtain ⟨Ao10, co10, eo10⟩ := Kd.R_slice HO1.out; subst eo10; have hcz11_0 : w9.cell? ⟨gb271, 0, none⟩ = some (.int .i64 0) := (blk_cell BK271.out 0).trans rfl; have hcz11_1 : w9.cell? ⟨gb271, 1, none⟩ = some (.slice none 0 0) := (blk_cell BK271.out 1).trans rfl; have hfz11_0 := blk_frozen BK271.out 0; have hfz11_1 := blk_frozen BK271.out 1))
   refine bodyPost_ret (results_ct rfl _ _ gb271 29 #[.int .i64 a0, .slice Ao10 l1.length co10] (0, 0) _ rfl (by (with_reducible repeat (first | refine blk_drewN ?_ _ | refine blk_drew ?_ | refine blk_alloc ?_ _)); refine blk_put (cs := #[.int .i64 a0, .slice none 0 0]) ?_ 1 _ rfl; (with_reducible repeat (first | refine blk_drewN ?_ _ | refine blk_drew ?_ | refine blk_alloc ?_ _)); refine blk_put (cs := #[.int .i64 0, .slice none 0 0]) ?_ 0 _ rfl; (with_reducible repeat (first | refine blk_drewN ?_ _ | refine blk_drew ?_ | refine blk_alloc ?_ _)); exact BK271.out) Tryz.underlying29 rfl (by kernel_rfl)) rfl ?_
   exact ⟨_, s7_, (by (with_reducible repeat (first | apply Kd.R_alloc | apply Kd.R_drewN | apply Kd.R_drew)); exact Kd.R_mono (Kd.R_far (p := ⟨gb271, 1, none⟩) (Kd.R_far (p := ⟨gb271, 0, none⟩) (Kd.R_types HO1.out BK271.out (by decide)) (fun _ hk => hk.2) (.int .i64 a0)) (fun _ hk => hk.2) (.slice Ao10 l1.length co10)) (fun _ hk => hk.1)), q24_14, q24_13⟩
 ·
  replace c4 := Bool.eq_false_iff.mpr c4; subst c4
  rw [if_neg (show ¬ (false = true) by decide)] at H
  simp only [Option.some.injEq, Prod.mk.injEq] at H
  obtain ⟨rfl, rfl, rfl⟩ := H
  go_enter Tryz.func120, Tryz.ntmps120
  go_wp2_with (first | ((with_reducible refine gate_dst (N := 6) rfl ?_); (try (refine gate_guard (by rfl) ?_; dsimp only)); refine box_event ?hg (N := 6) ?hd (cs := #[.int .i64 0, .slice none 0 0]) (t := 29) ?hr ?_; (case hd => rfl); (case hg => rfl); (case hr => first | (go_simp; done) | (go_simp; rfl)); intro gb271 hg w12 hbox hb; have n_ := ac_ (Kd.R_below q24_18 hb) <| ac_ (Kept.below (S := (fun k_ => P1_ k_)) q24_17 hb) <| ac_ (below_step s1_ hb) <| ac_ (hbox) <| ac_ ((by rw [hg]; exact q24_12 : w.heap.size ≤ gb271)) <| Aside0.mk ((by rw [hg]; exact (below_size s1_) : w0.heap.size ≤ gb271)); clear HO1 HK HB; obtain ⟨HO1, HK, HB, BK271, GW271, GE271⟩ := n_; clear hb hbox hg; have hcz13_0 : w12.cell? ⟨gb271, 0, none⟩ = some (.int .i64 0) := (blk_cell BK271.out 0).trans rfl; have hcz13_1 : w12.cell? ⟨gb271, 1, none⟩ = some (.slice none 0 0) := (blk_cell BK271.out 1).trans rfl; have hfz13_0 := blk_frozen BK271.out 0; have hfz13_1 := blk_frozen BK271.out 1))
  refine bodyPost_ret (results_ct rfl _ _ gb271 29 #[.int .i64 0, .slice none 0 0] (0, 0) _ rfl q24_11 Tryz.underlying29 rfl (by kernel_rfl)) rfl ?_
  exact ⟨_, s7_, s18_, q24_14, q24_13⟩
def spec_l13Models.l0 : Nat → Int → List (S48) → List Int → Int → Option (List Int)
 | 0, _, _, _, _ => none
 | k + 1, x0, x1, x5, x6 => (spec_FullSet.f x0).bind fun t353 => (if x6 ≤ t353 then ((spec_l9Closed.f k x1 x6).bind fun t354 => (if t354 = x6 then (if x5.length < 17592186044416 then (spec_l13Models.l0 k x0 x1 (x5 ++ [x6]) (wrap64 (x6 + 1))) else (none)) else (spec_l13Models.l0 k x0 x1 x5 (wrap64 (x6 + 1))))) else ((spec_SortLectic.f k x5).bind fun t358 => (some t358)))
def spec_l13Models.f (k : Nat) (a0 : Int) (l1 : List (S48)) : Option (List Int) := spec_l13Models.l0 k a0 l1 (([] : List Int)) 0
set_option maxHeartbeats 40000000 in
set_option maxRecDepth 100000 in
theorem spec_l13Models.calls (k : Nat) (a0 : Int) (A1 : Option Addr) (c1 : Nat) (l1 : List (S48)) (r : List Int) (w : World) (hr1 : Kd.C k48 w A1 l1.length l1) (hc1 : l1.length ≤ c1) (h : spec_l13Models.f k a0 l1 = some r) :
  Calls Tryz.prog 122 #[.int .i64 a0, .slice A1 l1.length c1] w fun e w' => ∃ v0_ : Value, e = .returned (v0_) ∧ Kd.R (Kd.int .i64) 3 w' w.heap.size (fun _ => True) v0_ r ∧ Below w.heap.size w w' := by
 have HR1 := Aside0.mk hr1; have HC1 := Aside0.mk hc1; clear hr1 hc1; have HB := Aside0.mk (Below.refl w.heap.size w); have H := h; clear h; unfold spec_l13Models.f at H; obtain ⟨y350, hy350⟩ : ∃ y_ : List Int, y_ = (([] : List Int)) := ⟨_, rfl⟩
 replace H : (spec_l13Models.l0 k a0 l1 y350 0) = some r := by first | (rw [hy350]; with_reducible exact H) | (have H2_ := (Option.bind_some _ _).symm.trans H; rw [hy350]; with_reducible exact H2_) | (have H2_ := (Option.bind_some _ _).symm.trans H; with_reducible exact H2_) | with_reducible exact H | (rw [hy350]; exact H) | exact H
 have Ny350 := Aside0.mk hy350; clear hy350; have H' := Aside0.mk H; clear H
 go_enter Tryz.func122, Tryz.ntmps122
 go_wp2_with (first | ((with_reducible refine gate_dst (N := 7) rfl ?_); refine Kd.R_lit (Kd.int .i64) _ 3 ?hg (N := 7) ?hd (xs := ([] : List Int)) (inner := []) (ok := fun _ => True) (okp := fun _ => True) ?hr ?hp (fun _ hk => hk) trivial (Below.refl _ _) (Nat.le_refl _) (by simp) ?_; (case hd => rfl); (case hg => rfl); (case hr => first | (go_simp; done) | (go_simp; rfl)); (case hp => exact (Reps.none _ _)); intro v351 w3 ho4 hb hg_ hnew_; clear hg_ hnew_; (first | rw [← Ny350.out] at ho4 | (simp only [Int.reduceToNat] at ho4; rw [← Ny350.out] at ho4)); have n_ := ac_ (Kd.R_lower ho4 (below_size s1_)) <| Aside0.mk (below_step s1_ hb); clear HB; obtain ⟨HO352, HB⟩ := n_; clear hb ho4))
 go_loopg [5, 6] k (fun kq v5 v6 w' => ∃ (x5_1 : List Int) (x6_1 : Int), v6 = .int .i64 x6_1 ∧ Aside0 (spec_l13Models.l0 kq a0 l1 x5_1 x6_1 = some r) ∧ Aside0 (kq ≤ k) ∧ Aside0 (Kd.R (Kd.int .i64) 3 w' w.heap.size (fun _ => True) v5 x5_1) ∧ Aside0 (Below w.heap.size w w'))
 case atStart => exact ⟨(y350), (0), s2_, H', ⟨Nat.le_refl _⟩, ⟨(by (with_reducible repeat (first | apply Kd.R_alloc | apply Kd.R_drewN | apply Kd.R_drew)); exact HO352.out)⟩, ⟨s1_⟩⟩
 case round =>
  clear H'
  try clear c1
  try clear p2
  obtain ⟨x5_1, x6_1, rfl, HA, HK1, HO_5, HB⟩ := hrel
  cases gk with
  | zero => exact absurd HA.out (by simp [spec_l13Models.l0])
  | succ k1 =>
   have H := HA.out; clear HA
   simp only [spec_l13Models.l0] at H
   obtain ⟨t353, A5, H⟩ := bnd24_ H
   by_cases c6 : x6_1 ≤ t353
   ·
    rw [if_pos c6] at H; have c6b0 : decide (x6_1 ≤ t353) = true := decide_eq_true c6; clear c6; obtain ⟨t354, A7, H⟩ := bnd24_ H
    by_cases c8 : t354 = x6_1
    ·
     rw [if_pos c8] at H; have c8b0 : (t354 == x6_1) = true := beq_iff_eq.mpr c8; have c8b1 : (t354 != x6_1) = false := bne_eq_false_iff_eq.mpr c8; clear c8
     by_cases c9 : x5_1.length < 17592186044416
     ·
      rw [if_pos c9] at H; have LMc9 := Aside0.mk c9; clear c9; obtain ⟨y355, hy355⟩ : ∃ y_ : List Int, y_ = (x5_1 ++ [x6_1]) := ⟨_, rfl⟩
      replace H : (spec_l13Models.l0 k1 a0 l1 y355 (wrap64 (x6_1 + 1))) = some r := by first | (rw [hy355]; with_reducible exact H) | (have H2_ := (Option.bind_some _ _).symm.trans H; rw [hy355]; with_reducible exact H2_) | (have H2_ := (Option.bind_some _ _).symm.trans H; with_reducible exact H2_) | with_reducible exact H | (rw [hy355]; exact H) | exact H
      have Ny355 := Aside0.mk hy355; clear hy355; have H' := Aside0.mk H; clear H
      go_wp2_with (first | (refine gL_ 62 10 Tryz.func62 #[.int .i64 a0] ?_; (with_reducible refine (spec_FullSet.calls a0 t353 _ A5.out).mono ?_); rintro e w' ⟨rfl, ⟨nd, rfl⟩⟩; refine ⟨_, rfl, ?_⟩) | (refine gL_ 138 16 Tryz.func138 #[.slice A1 l1.length c1, .int .i64 x6_1] ?_; (with_reducible refine (spec_l9Closed.calls k1 _ _ l1 x6_1 t354 _ ?side1 ?side2 A7.out).mono ?_); (case side1 => exact s16_); (case side2 => exact HC1.out); rintro e w' ⟨rfl, ⟨nd, rfl⟩⟩; refine ⟨_, rfl, ?_⟩) | ((with_reducible refine gate_builtin (b := .append) (xs := #[.tmp 19, .tmp 21]) rfl ?_); at_builtin; refine Kd.R_append (Kd.int .i64) (w0 := w) w.heap.size rfl (.tmp 19) (.tmp 21) 27 3 (.int .i64 0) 8 rfl Tryz.underlying27 info3 rfl (by decide) (by omega) u5 x5_1 x6_1 [.int .i64 x6_1] (fun _ => True) (fun _ => False) rfl rfl ?aP (fun _ hk => hk.elim) ?aF ?aO ?aB ?aS ?aL ?_; (case aP => exact rfl); (case aB => exact s1_); (case aF => exact (fun _ _ => trivial)); (case aO => exact s15_); (case aS => exact (below_size s1_)); (case aL => have := LMc9.out; omega); intro v356 w10 ho hb hg hat; rw [← Ny355.out] at ho; have n_ := ac_ (hb) <| Aside0.mk (ho); clear HB HO_5; obtain ⟨HB, HO357⟩ := n_; clear ho hb hg hat))
      go_roundg k1
      case measure => have := HK1.out; omega
      case rel => exact ⟨(y355), (wrap64 (x6_1 + 1)), s2_, H', ⟨by have := HK1.out; omega⟩, ⟨(by (with_reducible repeat (first | apply Kd.R_alloc | apply Kd.R_drewN | apply Kd.R_drew)); exact HO357.out)⟩, ⟨s1_⟩⟩
     ·
      rw [if_neg c9] at H
      exact absurd H (by simp)
    ·
     rw [if_neg c8] at H; have c8b0 : (t354 == x6_1) = false := beq_eq_false_iff_ne.mpr c8; have c8b1 : (t354 != x6_1) = true := bne_iff_ne.mpr c8; have H' := Aside0.mk H; clear H
     go_wp2_with (first | (refine gL_ 62 10 Tryz.func62 #[.int .i64 a0] ?_; (with_reducible refine (spec_FullSet.calls a0 t353 _ A5.out).mono ?_); rintro e w' ⟨rfl, ⟨nd, rfl⟩⟩; refine ⟨_, rfl, ?_⟩) | (refine gL_ 138 16 Tryz.func138 #[.slice A1 l1.length c1, .int .i64 x6_1] ?_; (with_reducible refine (spec_l9Closed.calls k1 _ _ l1 x6_1 t354 _ ?side1 ?side2 A7.out).mono ?_); (case side1 => exact s16_); (case side2 => exact HC1.out); rintro e w' ⟨rfl, ⟨nd, rfl⟩⟩; refine ⟨_, rfl, ?_⟩))
     go_roundg k1
     case measure => have := HK1.out; omega
     case rel => exact ⟨(x5_1), (wrap64 (x6_1 + 1)), s2_, H', ⟨by have := HK1.out; omega⟩, ⟨s15_⟩, ⟨s1_⟩⟩
   ·
    rw [if_neg c6] at H; have c6b0 : decide (x6_1 ≤ t353) = false := decide_eq_false c6; clear c6; obtain ⟨t358, A11, H⟩ := bnd24_ H; obtain rfl := Option.some.inj H
    go_wp2_with (first | (refine gL_ 62 10 Tryz.func62 #[.int .i64 a0] ?_; (with_reducible refine (spec_FullSet.calls a0 t353 _ A5.out).mono ?_); rintro e w' ⟨rfl, ⟨nd, rfl⟩⟩; refine ⟨_, rfl, ?_⟩; obtain ⟨Ao12, co12, eo12⟩ := Kd.R_slice HO_5.out; subst eo12) | (refine gL_ 139 24 Tryz.func139 #[.slice Ao12 x5_1.length co12] ?_; (with_reducible refine (spec_SortLectic.calls k1 _ _ x5_1 t358 _ ?side1 ?side2 A11.out).mono ?_); (case side1 => repeat (first | exact (Kd.R_reads' HO_5.out).2.2 | (with_reducible refine Kd.C_alloc ?_ _) | (with_reducible refine Kd.C_drewN ?_ _) | (with_reducible refine Kd.C_drew ?_))); (case side2 => exact (Kd.R_reads' HO_5.out).2.1); rintro e w13 ⟨v359, rfl, ho0, hb⟩; refine ⟨_, rfl, ?_⟩; have n_ := ac_ (Kd.R_elder' s15_ (Kd.R_base ho0) hb) <| ac_ (Kd.R_lower (Kd.R_new' ho0 (Kd.R_lt s15_)) (below_size s1_)) <| Aside0.mk (below_step s1_ hb); clear HO_5 HB; obtain ⟨HO_5, HO360, HB⟩ := n_; (try clear hb ho0)))
    go_ret
    exact ⟨_, (by first | rfl | (simp [errW_none, errW_some] <;> rfl) | (simp [*, errW_none, errW_some] <;> rfl)), (by (with_reducible repeat (first | apply Kd.R_alloc | apply Kd.R_drewN | apply Kd.R_drew)); exact Kd.R_mono HO360.out (fun _ hk => trivial)), s1_⟩
def spec_ModelsOf.f (k : Nat) (a0 : Int) (l1 : List (S48)) : Option (List Int × Bool) := (spec_AreRules.f k a0 l1).bind fun t361 => (if t361 = true then ((spec_l13Models.f k a0 l1).bind fun t362 => (some (t362, true))) else (some ((([] : List Int)), false)))
set_option maxHeartbeats 40000000 in
set_option maxRecDepth 100000 in
theorem spec_ModelsOf.calls (k : Nat) (a0 : Int) (A1 : Option Addr) (c1 : Nat) (l1 : List (S48)) (r1 : List Int) (r2 : Bool) (w : World) (hr1 : Kd.C k48 w A1 l1.length l1) (hc1 : l1.length ≤ c1) (h : spec_ModelsOf.f k a0 l1 = some (r1, r2)) :
  Calls Tryz.prog 14 #[.int .i64 a0, .slice A1 l1.length c1] w fun e w' => ∃ v0_ : Value, e = .returned (.tuple #[v0_, .bool r2]) ∧ Kd.R (Kd.int .i64) 3 w' w.heap.size (fun _ => True) v0_ r1 ∧ Below w.heap.size w w' := by
 have HR1 := Aside0.mk hr1; have HC1 := Aside0.mk hc1; clear hr1 hc1; have HB := Aside0.mk (Below.refl w.heap.size w); have H := h; clear h; unfold spec_ModelsOf.f at H; obtain ⟨t361, A3, H⟩ := bnd24_ H
 by_cases c4 : t361 = true
 ·
  subst c4; rw [if_pos rfl] at H; obtain ⟨t362, A5, H⟩ := bnd24_ H
  simp only [Option.some.injEq, Prod.mk.injEq] at H
  obtain ⟨rfl, rfl⟩ := H
  go_enter Tryz.func14, Tryz.ntmps14
  go_wp2_with (first | (refine gL_ 82 8 Tryz.func82 #[.int .i64 a0, .slice A1 l1.length c1] ?_; (with_reducible refine (spec_AreRules.calls k a0 _ _ l1 true _ ?side1 ?side2 A3.out).mono ?_); (case side1 => exact s11_); (case side2 => exact HC1.out); rintro e w6 ⟨rfl, hb⟩; refine ⟨_, rfl, ?_⟩; have n_ := Aside0.mk (below_step s1_ hb); clear HB; have HB := n_; clear n_; (try clear hb)) | (refine gL_ 122 13 Tryz.func122 #[.int .i64 a0, .slice A1 l1.length c1] ?_; (with_reducible refine (spec_l13Models.calls k a0 _ _ l1 t362 _ ?side1 ?side2 A5.out).mono ?_); (case side1 => repeat (first | exact (Kd.C_below HR1.out HB.out) | (with_reducible refine Kd.C_alloc ?_ _) | (with_reducible refine Kd.C_drewN ?_ _) | (with_reducible refine Kd.C_drew ?_))); (case side2 => exact HC1.out); rintro e w7 ⟨v363, rfl, ho0, hb⟩; refine ⟨_, rfl, ?_⟩; have n_ := ac_ (Kd.R_lower ho0 (below_size s1_)) <| Aside0.mk (below_step s1_ hb); clear HB; obtain ⟨HO364, HB⟩ := n_; (try clear hb ho0)))
  go_ret2
  exact ⟨_, (by first | rfl | (simp [errW_none, errW_some] <;> rfl) | (simp [*, errW_none, errW_some] <;> rfl)), (by (with_reducible repeat (first | apply Kd.R_alloc | apply Kd.R_drewN | apply Kd.R_drew)); exact HO364.out), s1_⟩
 ·
  replace c4 := Bool.eq_false_iff.mpr c4; subst c4
  rw [if_neg (show ¬ (false = true) by decide)] at H
  obtain ⟨y365, hy365⟩ : ∃ y_ : List Int, y_ = (([] : List Int)) := ⟨_, rfl⟩
  replace H : (some (y365, false)) = some (r1, r2) := by first | (rw [hy365]; with_reducible exact H) | (have H2_ := (Option.bind_some _ _).symm.trans H; rw [hy365]; with_reducible exact H2_) | (have H2_ := (Option.bind_some _ _).symm.trans H; with_reducible exact H2_) | with_reducible exact H | (rw [hy365]; exact H) | exact H
  have Ny365 := Aside0.mk hy365; clear hy365
  simp only [Option.some.injEq, Prod.mk.injEq] at H
  obtain ⟨rfl, rfl⟩ := H
  go_enter Tryz.func14, Tryz.ntmps14
  go_wp2_with (first | (refine gL_ 82 8 Tryz.func82 #[.int .i64 a0, .slice A1 l1.length c1] ?_; (with_reducible refine (spec_AreRules.calls k a0 _ _ l1 false _ ?side1 ?side2 A3.out).mono ?_); (case side1 => exact s11_); (case side2 => exact HC1.out); rintro e w8 ⟨rfl, hb⟩; refine ⟨_, rfl, ?_⟩; have n_ := Aside0.mk (below_step s1_ hb); clear HB; have HB := n_; clear n_; (try clear hb)) | ((with_reducible refine gate_dst (N := 10) rfl ?_); refine Kd.R_lit (Kd.int .i64) _ 3 ?hg (N := 10) ?hd (xs := ([] : List Int)) (inner := []) (ok := fun _ => True) (okp := fun _ => True) ?hr ?hp (fun _ hk => hk) trivial (Below.refl _ _) (Nat.le_refl _) (by simp) ?_; (case hd => rfl); (case hg => rfl); (case hr => first | (go_simp; done) | (go_simp; rfl)); (case hp => exact (Reps.none _ _)); intro v366 w9 ho10 hb hg_ hnew_; clear hg_ hnew_; (first | rw [← Ny365.out] at ho10 | (simp only [Int.reduceToNat] at ho10; rw [← Ny365.out] at ho10)); have n_ := ac_ (Kd.R_lower ho10 (below_size s1_)) <| Aside0.mk (below_step s1_ hb); clear HB; obtain ⟨HO367, HB⟩ := n_; clear hb ho10))
  go_ret2
  exact ⟨_, (by first | rfl | (simp [errW_none, errW_some] <;> rfl) | (simp [*, errW_none, errW_some] <;> rfl)), (by (with_reducible repeat (first | apply Kd.R_alloc | apply Kd.R_drewN | apply Kd.R_drew)); exact HO367.out), s1_⟩
mutual
def spec_l13Irreducible.l0 : Nat → Int → List Int → List Int → Int → Option (List Int)
 | 0, _, _, _, _ => none
 | k + 1, x0, x1, x5, x6 => if x6 < (x1.length : Int) then ((spec_FullSet.f x0).bind fun t371 => (spec_l13Irreducible.l1 k x0 x1 x5 x6 t371 0)) else (some x5)
def spec_l13Irreducible.l1 : Nat → Int → List Int → List Int → Int → Int → Int → Option (List Int)
 | 0, _, _, _, _, _, _ => none
 | k + 1, x0, x1, x5, x6, x7, x8 => if x8 < (x1.length : Int) then (if 0 ≤ x8 then (if 0 ≤ x6 then (if x6 < (x1.length : Int) then (if (rd x1 x8) = (rd x1 x6) then (spec_l13Irreducible.l1 k x0 x1 x5 x6 x7 (wrap64 (x8 + 1))) else (if (Go.bits .and .i64 (rd x1 x8) (rd x1 x6)) = (rd x1 x6) then (spec_l13Irreducible.l1 k x0 x1 x5 x6 (Go.bits .and .i64 x7 (rd x1 x8)) (wrap64 (x8 + 1))) else (spec_l13Irreducible.l1 k x0 x1 x5 x6 x7 (wrap64 (x8 + 1))))) else (none)) else (none)) else (none)) else (if 0 ≤ x6 then (if x6 < (x1.length : Int) then (if x7 = (rd x1 x6) then (spec_l13Irreducible.l0 k x0 x1 x5 (wrap64 (x6 + 1))) else (if x5.length < 17592186044416 then (spec_l13Irreducible.l0 k x0 x1 (x5 ++ [rd x1 x6]) (wrap64 (x6 + 1))) else (none))) else (none)) else (none))
end
def spec_l13Irreducible.f (k : Nat) (a0 : Int) (l1 : List Int) : Option (List Int) := spec_l13Irreducible.l0 k a0 l1 (([] : List Int)) 0
set_option maxHeartbeats 40000000 in
set_option maxRecDepth 100000 in
theorem spec_l13Irreducible.calls (k : Nat) (a0 : Int) (A1 : Option Addr) (c1 : Nat) (l1 : List Int) (r : List Int) (w : World) (hr1 : Kd.C (Kd.int .i64) w A1 l1.length l1) (hc1 : l1.length ≤ c1) (h : spec_l13Irreducible.f k a0 l1 = some r) :
  Calls Tryz.prog 124 #[.int .i64 a0, .slice A1 l1.length c1] w fun e w' => ∃ v0_ : Value, e = .returned (v0_) ∧ Kd.R (Kd.int .i64) 3 w' w.heap.size (fun _ => True) v0_ r ∧ Below w.heap.size w w' := by
 have HR1 := Aside0.mk hr1; have HC1 := Aside0.mk hc1; clear hr1 hc1; have HB := Aside0.mk (Below.refl w.heap.size w); have H := h; clear h; unfold spec_l13Irreducible.f at H; obtain ⟨y368, hy368⟩ : ∃ y_ : List Int, y_ = (([] : List Int)) := ⟨_, rfl⟩
 replace H : (spec_l13Irreducible.l0 k a0 l1 y368 0) = some r := by first | (rw [hy368]; with_reducible exact H) | (have H2_ := (Option.bind_some _ _).symm.trans H; rw [hy368]; with_reducible exact H2_) | (have H2_ := (Option.bind_some _ _).symm.trans H; with_reducible exact H2_) | with_reducible exact H | (rw [hy368]; exact H) | exact H
 have Ny368 := Aside0.mk hy368; clear hy368; have H' := Aside0.mk H; clear H
 go_enter Tryz.func124, Tryz.ntmps124
 go_wp2_with (first | ((with_reducible refine gate_dst (N := 9) rfl ?_); refine Kd.R_lit (Kd.int .i64) _ 3 ?hg (N := 9) ?hd (xs := ([] : List Int)) (inner := []) (ok := fun _ => True) (okp := fun _ => True) ?hr ?hp (fun _ hk => hk) trivial (Below.refl _ _) (Nat.le_refl _) (by simp) ?_; (case hd => rfl); (case hg => rfl); (case hr => first | (go_simp; done) | (go_simp; rfl)); (case hp => exact (Reps.none _ _)); intro v369 w3 ho4 hb hg_ hnew_; clear hg_ hnew_; (first | rw [← Ny368.out] at ho4 | (simp only [Int.reduceToNat] at ho4; rw [← Ny368.out] at ho4)); have n_ := ac_ (Kd.R_lower ho4 (below_size s1_)) <| Aside0.mk (below_step s1_ hb); clear HB; obtain ⟨HO370, HB⟩ := n_; clear hb ho4))
 repeat (go_quiet (first | ((with_reducible refine gate_dst (N := 9) rfl ?_); refine Kd.R_lit (Kd.int .i64) _ 3 ?hg (N := 9) ?hd (xs := ([] : List Int)) (inner := []) (ok := fun _ => True) (okp := fun _ => True) ?hr ?hp (fun _ hk => hk) trivial (Below.refl _ _) (Nat.le_refl _) (by simp) ?_; (case hd => rfl); (case hg => rfl); (case hr => first | (go_simp; done) | (go_simp; rfl)); (case hp => exact (Reps.none _ _)); intro v369 w3 ho4 hb hg_ hnew_; clear hg_ hnew_; (first | rw [← Ny368.out] at ho4 | (simp only [Int.reduceToNat] at ho4; rw [← Ny368.out] at ho4)); have n_ := ac_ (Kd.R_lower ho4 (below_size s1_)) <| Aside0.mk (below_step s1_ hb); clear HB; obtain ⟨HO370, HB⟩ := n_; clear hb ho4)); try go_wp2_with (first | ((with_reducible refine gate_dst (N := 9) rfl ?_); refine Kd.R_lit (Kd.int .i64) _ 3 ?hg (N := 9) ?hd (xs := ([] : List Int)) (inner := []) (ok := fun _ => True) (okp := fun _ => True) ?hr ?hp (fun _ hk => hk) trivial (Below.refl _ _) (Nat.le_refl _) (by simp) ?_; (case hd => rfl); (case hg => rfl); (case hr => first | (go_simp; done) | (go_simp; rfl)); (case hp => exact (Reps.none _ _)); intro v369 w3 ho4 hb hg_ hnew_; clear hg_ hnew_; (first | rw [← Ny368.out] at ho4 | (simp only [Int.reduceToNat] at ho4; rw [← Ny368.out] at ho4)); have n_ := ac_ (Kd.R_lower ho4 (below_size s1_)) <| Aside0.mk (below_step s1_ hb); clear HB; obtain ⟨HO370, HB⟩ := n_; clear hb ho4)))
 go_loopg [5, 6] k (fun kq v5 v6 w' => ∃ (x5_1 : List Int) (x6_1 : Int), v6 = .int .i64 x6_1 ∧ Aside0 (spec_l13Irreducible.l0 kq a0 l1 x5_1 x6_1 = some r) ∧ Aside0 (kq ≤ k) ∧ Aside0 (Kd.R (Kd.int .i64) 3 w' w.heap.size (fun _ => True) v5 x5_1) ∧ Aside0 (Below w.heap.size w w'))
 case atStart => exact ⟨(y368), (0), s2_, H', ⟨Nat.le_refl _⟩, ⟨(by (with_reducible repeat (first | apply Kd.R_alloc | apply Kd.R_drewN | apply Kd.R_drew)); exact HO370.out)⟩, ⟨s1_⟩⟩
 case round =>
  clear H'
  try clear c1
  try clear p2
  obtain ⟨x5_1, x6_1, rfl, HA, HK1, HO_5, HB⟩ := hrel
  cases gk with
  | zero => exact absurd HA.out (by simp [spec_l13Irreducible.l0])
  | succ k1 =>
   have H := HA.out; clear HA
   simp only [spec_l13Irreducible.l0] at H
   by_cases c5 : x6_1 < (l1.length : Int)
   ·
    rw [if_pos c5] at H; have c5b0 : decide (x6_1 < (l1.length : Int)) = true := decide_eq_true c5; clear c5; obtain ⟨t371, A6, H⟩ := bnd24_ H; have H' := Aside0.mk H; clear H
    go_wp2_with (first | (go_at_call 62; (with_reducible refine (spec_FullSet.calls a0 t371 _ A6.out).mono ?_); rintro e w' ⟨rfl, ⟨nd, rfl⟩⟩; (try first | exact ⟨rfl, _, World.drewN_drewN _ _ _⟩ | exact ⟨rfl, _, Eq.trans (World.drewN_drewN _ _ _) (congrArg (World.drewN _) (Nat.add_assoc _ _ _))⟩)))
    repeat (go_quiet (first | (go_at_call 62; (with_reducible refine (spec_FullSet.calls a0 t371 _ A6.out).mono ?_); rintro e w' ⟨rfl, ⟨nd, rfl⟩⟩; (try first | exact ⟨rfl, _, World.drewN_drewN _ _ _⟩ | exact ⟨rfl, _, Eq.trans (World.drewN_drewN _ _ _) (congrArg (World.drewN _) (Nat.add_assoc _ _ _))⟩))); try go_wp2_with (first | (go_at_call 62; (with_reducible refine (spec_FullSet.calls a0 t371 _ A6.out).mono ?_); rintro e w' ⟨rfl, ⟨nd, rfl⟩⟩; (try first | exact ⟨rfl, _, World.drewN_drewN _ _ _⟩ | exact ⟨rfl, _, Eq.trans (World.drewN_drewN _ _ _) (congrArg (World.drewN _) (Nat.add_assoc _ _ _))⟩))))
    go_loopg [7, 8] k1 (fun kq v7 v8 w' => ∃ (x7_2 : Int) (x8_2 : Int), v7 = .int .i64 x7_2 ∧ v8 = .int .i64 x8_2 ∧ Aside0 (spec_l13Irreducible.l1 kq a0 l1 x5_1 x6_1 x7_2 x8_2 = some r) ∧ Aside0 (kq ≤ k1) ∧ Aside0 (Kd.R (Kd.int .i64) 3 w' w.heap.size (fun _ => True) u5 x5_1) ∧ Aside0 (Below w.heap.size w w'))
    case atStart => exact ⟨(t371), (0), s2_, s2_, H', ⟨Nat.le_refl _⟩, ⟨s15_⟩, ⟨s1_⟩⟩
    case round =>
     clear H'
     try clear c1
     try clear p2
     try clear c5
     try clear c5b0
     try clear p2
     obtain ⟨x7_2, x8_2, rfl, rfl, HA, HK2, HO_5, HB⟩ := hrel
     cases gk with
     | zero => exact absurd HA.out (by simp [spec_l13Irreducible.l1])
     | succ k2 =>
      have H := HA.out; clear HA
      simp only [spec_l13Irreducible.l1] at H
      by_cases c7 : x8_2 < (l1.length : Int)
      ·
       rw [if_pos c7] at H; have c7b0 : decide (x8_2 < (l1.length : Int)) = true := decide_eq_true c7; clear c7
       by_cases c8 : 0 ≤ x8_2
       ·
        rw [if_pos c8] at H; have c8b0 : decide (0 ≤ x8_2) = true := decide_eq_true c8; clear c8
        by_cases c9 : 0 ≤ x6_1
        ·
         rw [if_pos c9] at H; have c9b0 : decide (0 ≤ x6_1) = true := decide_eq_true c9; clear c9
         by_cases c10 : x6_1 < (l1.length : Int)
         ·
          rw [if_pos c10] at H; have c10b0 : decide (x6_1 < (l1.length : Int)) = true := decide_eq_true c10; clear c10
          by_cases c11 : (rd l1 x8_2) = (rd l1 x6_1)
          ·
           rw [if_pos c11] at H; have c11b0 : ((rd l1 x8_2) == (rd l1 x6_1)) = true := beq_iff_eq.mpr c11; have c11b1 : ((rd l1 x8_2) != (rd l1 x6_1)) = false := bne_eq_false_iff_eq.mpr c11; clear c11; have H' := Aside0.mk H; clear H; have p372 : 0 ≤ (x8_2 : Int) := of_decide_eq_true s3_; have q372 : x8_2 < (l1.length : Int) := of_decide_eq_true s3_; obtain ⟨ad372, e372, hx372_0⟩ := Kd.at_int HR1.out x8_2 p372 q372
           cases e372
           replace hx372_0 := (HB.out.cell (World.block_lt_of_cell? w _ hx372_0)).trans hx372_0; replace p372 := eq_true p372; replace q372 := eq_true q372; have p373 : 0 ≤ (x6_1 : Int) := of_decide_eq_true s3_; have q373 : x6_1 < (l1.length : Int) := of_decide_eq_true s3_; obtain ⟨ad373, e373, hx373_0⟩ := Kd.at_int HR1.out x6_1 p373 q373
           obtain rfl : ad372 = ad373 := (by injection e373)
           replace hx373_0 := (HB.out.cell (World.block_lt_of_cell? w _ hx373_0)).trans hx373_0; replace p373 := eq_true p373; replace q373 := eq_true q373
           go_wp2
           repeat (go_quiet (fail); try go_wp2)
           go_roundg k2
           case measure => have := HK1.out; have := HK2.out; omega
           case rel => exact ⟨(x7_2), (wrap64 (x8_2 + 1)), s2_, s2_, H', ⟨by have := HK1.out; have := HK2.out; omega⟩, ⟨s15_⟩, ⟨s1_⟩⟩
          ·
           rw [if_neg c11] at H; have c11b0 : ((rd l1 x8_2) == (rd l1 x6_1)) = false := beq_eq_false_iff_ne.mpr c11; have c11b1 : ((rd l1 x8_2) != (rd l1 x6_1)) = true := bne_iff_ne.mpr c11
           by_cases c12 : (Go.bits .and .i64 (rd l1 x8_2) (rd l1 x6_1)) = (rd l1 x6_1)
           ·
            rw [if_pos c12] at H; have c12b0 : ((Go.bits .and .i64 (rd l1 x8_2) (rd l1 x6_1)) == (rd l1 x6_1)) = true := beq_iff_eq.mpr c12; have c12b1 : ((Go.bits .and .i64 (rd l1 x8_2) (rd l1 x6_1)) != (rd l1 x6_1)) = false := bne_eq_false_iff_eq.mpr c12; clear c12; have H' := Aside0.mk H; clear H; have p372 : 0 ≤ (x8_2 : Int) := of_decide_eq_true s3_; have q372 : x8_2 < (l1.length : Int) := of_decide_eq_true s3_; obtain ⟨ad372, e372, hx372_0⟩ := Kd.at_int HR1.out x8_2 p372 q372
            cases e372
            replace hx372_0 := (HB.out.cell (World.block_lt_of_cell? w _ hx372_0)).trans hx372_0; replace p372 := eq_true p372; replace q372 := eq_true q372; have p373 : 0 ≤ (x6_1 : Int) := of_decide_eq_true s3_; have q373 : x6_1 < (l1.length : Int) := of_decide_eq_true s3_; obtain ⟨ad373, e373, hx373_0⟩ := Kd.at_int HR1.out x6_1 p373 q373
            obtain rfl : ad372 = ad373 := (by injection e373)
            replace hx373_0 := (HB.out.cell (World.block_lt_of_cell? w _ hx373_0)).trans hx373_0; replace p373 := eq_true p373; replace q373 := eq_true q373; have p374 : 0 ≤ (x8_2 : Int) := of_decide_eq_true s3_; have q374 : x8_2 < (l1.length : Int) := of_decide_eq_true s3_; obtain ⟨ad374, e374, hx374_0⟩ := Kd.at_int HR1.out x8_2 p374 q374
            obtain rfl : ad372 = ad374 := (by injection e374)
            replace hx374_0 := (HB.out.cell (World.block_lt_of_cell? w _ hx374_0)).trans hx374_0; replace p374 := eq_true p374; replace q374 := eq_true q374; have p375 : 0 ≤ (x6_1 : Int) := of_decide_eq_true s3_; have q375 : x6_1 < (l1.length : Int) := of_decide_eq_true s3_; obtain ⟨ad375, e375, hx375_0⟩ := Kd.at_int HR1.out x6_1 p375 q375
            obtain rfl : ad372 = ad375 := (by injection e375)
            replace hx375_0 := (HB.out.cell (World.block_lt_of_cell? w _ hx375_0)).trans hx375_0; replace p375 := eq_true p375; replace q375 := eq_true q375; have p376 : 0 ≤ (x6_1 : Int) := of_decide_eq_true s3_; have q376 : x6_1 < (l1.length : Int) := of_decide_eq_true s3_; obtain ⟨ad376, e376, hx376_0⟩ := Kd.at_int HR1.out x6_1 p376 q376
            obtain rfl : ad372 = ad376 := (by injection e376)
            replace hx376_0 := (HB.out.cell (World.block_lt_of_cell? w _ hx376_0)).trans hx376_0; replace p376 := eq_true p376; replace q376 := eq_true q376; have p377 : 0 ≤ (x8_2 : Int) := of_decide_eq_true s3_; have q377 : x8_2 < (l1.length : Int) := of_decide_eq_true s3_; obtain ⟨ad377, e377, hx377_0⟩ := Kd.at_int HR1.out x8_2 p377 q377
            obtain rfl : ad372 = ad377 := (by injection e377)
            replace hx377_0 := (HB.out.cell (World.block_lt_of_cell? w _ hx377_0)).trans hx377_0; replace p377 := eq_true p377; replace q377 := eq_true q377
            go_wp2
            repeat (go_quiet (fail); try go_wp2)
            go_roundg k2
            case measure => have := HK1.out; have := HK2.out; omega
            case rel => exact ⟨(Go.bits .and .i64 x7_2 (rd l1 x8_2)), (wrap64 (x8_2 + 1)), s2_, s2_, H', ⟨by have := HK1.out; have := HK2.out; omega⟩, ⟨s15_⟩, ⟨s1_⟩⟩
           ·
            rw [if_neg c12] at H; have c12b0 : ((Go.bits .and .i64 (rd l1 x8_2) (rd l1 x6_1)) == (rd l1 x6_1)) = false := beq_eq_false_iff_ne.mpr c12; have c12b1 : ((Go.bits .and .i64 (rd l1 x8_2) (rd l1 x6_1)) != (rd l1 x6_1)) = true := bne_iff_ne.mpr c12; have H' := Aside0.mk H; clear H; have p372 : 0 ≤ (x8_2 : Int) := of_decide_eq_true s3_; have q372 : x8_2 < (l1.length : Int) := of_decide_eq_true s3_; obtain ⟨ad372, e372, hx372_0⟩ := Kd.at_int HR1.out x8_2 p372 q372
            cases e372
            replace hx372_0 := (HB.out.cell (World.block_lt_of_cell? w _ hx372_0)).trans hx372_0; replace p372 := eq_true p372; replace q372 := eq_true q372; have p373 : 0 ≤ (x6_1 : Int) := of_decide_eq_true s3_; have q373 : x6_1 < (l1.length : Int) := of_decide_eq_true s3_; obtain ⟨ad373, e373, hx373_0⟩ := Kd.at_int HR1.out x6_1 p373 q373
            obtain rfl : ad372 = ad373 := (by injection e373)
            replace hx373_0 := (HB.out.cell (World.block_lt_of_cell? w _ hx373_0)).trans hx373_0; replace p373 := eq_true p373; replace q373 := eq_true q373; have p374 : 0 ≤ (x8_2 : Int) := of_decide_eq_true s3_; have q374 : x8_2 < (l1.length : Int) := of_decide_eq_true s3_; obtain ⟨ad374, e374, hx374_0⟩ := Kd.at_int HR1.out x8_2 p374 q374
            obtain rfl : ad372 = ad374 := (by injection e374)
            replace hx374_0 := (HB.out.cell (World.block_lt_of_cell? w _ hx374_0)).trans hx374_0; replace p374 := eq_true p374; replace q374 := eq_true q374; have p375 : 0 ≤ (x6_1 : Int) := of_decide_eq_true s3_; have q375 : x6_1 < (l1.length : Int) := of_decide_eq_true s3_; obtain ⟨ad375, e375, hx375_0⟩ := Kd.at_int HR1.out x6_1 p375 q375
            obtain rfl : ad372 = ad375 := (by injection e375)
            replace hx375_0 := (HB.out.cell (World.block_lt_of_cell? w _ hx375_0)).trans hx375_0; replace p375 := eq_true p375; replace q375 := eq_true q375; have p376 : 0 ≤ (x6_1 : Int) := of_decide_eq_true s3_; have q376 : x6_1 < (l1.length : Int) := of_decide_eq_true s3_; obtain ⟨ad376, e376, hx376_0⟩ := Kd.at_int HR1.out x6_1 p376 q376
            obtain rfl : ad372 = ad376 := (by injection e376)
            replace hx376_0 := (HB.out.cell (World.block_lt_of_cell? w _ hx376_0)).trans hx376_0; replace p376 := eq_true p376; replace q376 := eq_true q376
            go_wp2
            repeat (go_quiet (fail); try go_wp2)
            go_roundg k2
            case measure => have := HK1.out; have := HK2.out; omega
            case rel => exact ⟨(x7_2), (wrap64 (x8_2 + 1)), s2_, s2_, H', ⟨by have := HK1.out; have := HK2.out; omega⟩, ⟨s15_⟩, ⟨s1_⟩⟩
         ·
          rw [if_neg c10] at H
          exact absurd H (by simp)
        ·
         rw [if_neg c9] at H
         exact absurd H (by simp)
       ·
        rw [if_neg c8] at H
        exact absurd H (by simp)
      ·
       rw [if_neg c7] at H; have c7b0 : decide (x8_2 < (l1.length : Int)) = false := decide_eq_false c7; clear c7
       by_cases c13 : 0 ≤ x6_1
       ·
        rw [if_pos c13] at H; have c13b0 : decide (0 ≤ x6_1) = true := decide_eq_true c13; clear c13
        by_cases c14 : x6_1 < (l1.length : Int)
        ·
         rw [if_pos c14] at H; have c14b0 : decide (x6_1 < (l1.length : Int)) = true := decide_eq_true c14; clear c14
         by_cases c15 : x7_2 = (rd l1 x6_1)
         ·
          rw [if_pos c15] at H; have c15b0 : (x7_2 == (rd l1 x6_1)) = true := beq_iff_eq.mpr c15; have c15b1 : (x7_2 != (rd l1 x6_1)) = false := bne_eq_false_iff_eq.mpr c15; clear c15; have H' := Aside0.mk H; clear H; have p378 : 0 ≤ (x6_1 : Int) := of_decide_eq_true s3_; have q378 : x6_1 < (l1.length : Int) := of_decide_eq_true s3_; obtain ⟨ad378, e378, hx378_0⟩ := Kd.at_int HR1.out x6_1 p378 q378
          cases e378
          replace hx378_0 := (HB.out.cell (World.block_lt_of_cell? w _ hx378_0)).trans hx378_0; replace p378 := eq_true p378; replace q378 := eq_true q378
          go_wp2
          repeat (go_quiet (fail); try go_wp2)
          go_roundg k2
          case measure => have := HK1.out; have := HK2.out; omega
          case rel => exact ⟨(x5_1), (wrap64 (x6_1 + 1)), s2_, H', ⟨by have := HK1.out; have := HK2.out; omega⟩, ⟨s15_⟩, ⟨s1_⟩⟩
         ·
          rw [if_neg c15] at H; have c15b0 : (x7_2 == (rd l1 x6_1)) = false := beq_eq_false_iff_ne.mpr c15; have c15b1 : (x7_2 != (rd l1 x6_1)) = true := bne_iff_ne.mpr c15
          by_cases c16 : x5_1.length < 17592186044416
          ·
           rw [if_pos c16] at H; have LMc16 := Aside0.mk c16; clear c16; obtain ⟨y380, hy380⟩ : ∃ y_ : List Int, y_ = (x5_1 ++ [rd l1 x6_1]) := ⟨_, rfl⟩
           replace H : (spec_l13Irreducible.l0 k2 a0 l1 y380 (wrap64 (x6_1 + 1))) = some r := by first | (rw [hy380]; with_reducible exact H) | (have H2_ := (Option.bind_some _ _).symm.trans H; rw [hy380]; with_reducible exact H2_) | (have H2_ := (Option.bind_some _ _).symm.trans H; with_reducible exact H2_) | with_reducible exact H | (rw [hy380]; exact H) | exact H
           have Ny380 := Aside0.mk hy380; clear hy380; have H' := Aside0.mk H; clear H; have p378 : 0 ≤ (x6_1 : Int) := of_decide_eq_true s3_; have q378 : x6_1 < (l1.length : Int) := of_decide_eq_true s3_; obtain ⟨ad378, e378, hx378_0⟩ := Kd.at_int HR1.out x6_1 p378 q378
           cases e378
           replace hx378_0 := (HB.out.cell (World.block_lt_of_cell? w _ hx378_0)).trans hx378_0; replace p378 := eq_true p378; replace q378 := eq_true q378; have p379 : 0 ≤ (x6_1 : Int) := of_decide_eq_true s3_; have q379 : x6_1 < (l1.length : Int) := of_decide_eq_true s3_; obtain ⟨ad379, e379, hx379_0⟩ := Kd.at_int HR1.out x6_1 p379 q379
           obtain rfl : ad378 = ad379 := (by injection e379)
           replace hx379_0 := (HB.out.cell (World.block_lt_of_cell? w _ hx379_0)).trans hx379_0; replace p379 := eq_true p379; replace q379 := eq_true q379
           go_wp2_with (first | ((with_reducible refine gate_builtin (b := .append) (xs := #[.tmp 61, .tmp 66]) rfl ?_); at_builtin; refine Kd.R_append (Kd.int .i64) (w0 := w) w.heap.size rfl (.tmp 61) (.tmp 66) 27 3 (.int .i64 0) 8 rfl Tryz.underlying27 info3 rfl (by decide) (by omega) u5 x5_1 (rd l1 x6_1) [.int .i64 (rd l1 x6_1)] (fun _ => True) (fun _ => False) rfl rfl ?aP (fun _ hk => hk.elim) ?aF ?aO ?aB ?aS ?aL ?_; (case aP => exact rfl); (case aB => exact s1_); (case aF => exact (fun _ _ => trivial)); (case aO => exact s15_); (case aS => exact (below_size s1_)); (case aL => have := LMc16.out; omega); intro v381 w17 ho hb hg hat; rw [← Ny380.out] at ho; have n_ := ac_ (hb) <| Aside0.mk (ho); clear HB HO_5; obtain ⟨HB, HO382⟩ := n_; clear ho hb hg hat))
           repeat (go_quiet (first | ((with_reducible refine gate_builtin (b := .append) (xs := #[.tmp 61, .tmp 66]) rfl ?_); at_builtin; refine Kd.R_append (Kd.int .i64) (w0 := w) w.heap.size rfl (.tmp 61) (.tmp 66) 27 3 (.int .i64 0) 8 rfl Tryz.underlying27 info3 rfl (by decide) (by omega) u5 x5_1 (rd l1 x6_1) [.int .i64 (rd l1 x6_1)] (fun _ => True) (fun _ => False) rfl rfl ?aP (fun _ hk => hk.elim) ?aF ?aO ?aB ?aS ?aL ?_; (case aP => exact rfl); (case aB => exact s1_); (case aF => exact (fun _ _ => trivial)); (case aO => exact s15_); (case aS => exact (below_size s1_)); (case aL => have := LMc16.out; omega); intro v381 w17 ho hb hg hat; rw [← Ny380.out] at ho; have n_ := ac_ (hb) <| Aside0.mk (ho); clear HB HO_5; obtain ⟨HB, HO382⟩ := n_; clear ho hb hg hat)); try go_wp2_with (first | ((with_reducible refine gate_builtin (b := .append) (xs := #[.tmp 61, .tmp 66]) rfl ?_); at_builtin; refine Kd.R_append (Kd.int .i64) (w0 := w) w.heap.size rfl (.tmp 61) (.tmp 66) 27 3 (.int .i64 0) 8 rfl Tryz.underlying27 info3 rfl (by decide) (by omega) u5 x5_1 (rd l1 x6_1) [.int .i64 (rd l1 x6_1)] (fun _ => True) (fun _ => False) rfl rfl ?aP (fun _ hk => hk.elim) ?aF ?aO ?aB ?aS ?aL ?_; (case aP => exact rfl); (case aB => exact s1_); (case aF => exact (fun _ _ => trivial)); (case aO => exact s15_); (case aS => exact (below_size s1_)); (case aL => have := LMc16.out; omega); intro v381 w17 ho hb hg hat; rw [← Ny380.out] at ho; have n_ := ac_ (hb) <| Aside0.mk (ho); clear HB HO_5; obtain ⟨HB, HO382⟩ := n_; clear ho hb hg hat)))
           go_roundg k2
           case measure => have := HK1.out; have := HK2.out; omega
           case rel => exact ⟨(y380), (wrap64 (x6_1 + 1)), s2_, H', ⟨by have := HK1.out; have := HK2.out; omega⟩, ⟨(by (with_reducible repeat (first | apply Kd.R_alloc | apply Kd.R_drewN | apply Kd.R_drew)); exact HO382.out)⟩, ⟨s1_⟩⟩
          ·
           rw [if_neg c16] at H
           exact absurd H (by simp)
        ·
         rw [if_neg c14] at H
         exact absurd H (by simp)
       ·
        rw [if_neg c13] at H
        exact absurd H (by simp)
   ·
    rw [if_neg c5] at H; have c5b0 : decide (x6_1 < (l1.length : Int)) = false := decide_eq_false c5; clear c5; obtain rfl := Option.some.inj H
    go_wp2
    repeat (go_quiet (fail); try go_wp2)
    go_ret
    exact ⟨_, (by first | rfl | (simp [errW_none, errW_some] <;> rfl) | (simp [*, errW_none, errW_some] <;> rfl)), s15_, s1_⟩
theorem q24_35 {P : Prop} (h : P := by (with_reducible repeat (first | apply Kd.R_alloc | apply Kd.R_drewN | apply Kd.R_drew)); exact HO386.out) : P := h
def spec_IrreducibleModels.f (k : Nat) (a0 : Int) (l1 : List (S48)) : Option (List Int × Bool) := (spec_ModelsOf.f k a0 l1).bind fun bt383 => (if bt383.2 = true then ((spec_l13Irreducible.f k a0 bt383.1).bind fun t387 => (some (t387, true))) else (some ((([] : List Int)), false)))
set_option maxHeartbeats 40000000 in
set_option maxRecDepth 100000 in
theorem spec_IrreducibleModels.calls (k : Nat) (a0 : Int) (A1 : Option Addr) (c1 : Nat) (l1 : List (S48)) (r1 : List Int) (r2 : Bool) (w : World) (hr1 : Kd.C k48 w A1 l1.length l1) (hc1 : l1.length ≤ c1) (h : spec_IrreducibleModels.f k a0 l1 = some (r1, r2)) :
  Calls Tryz.prog 16 #[.int .i64 a0, .slice A1 l1.length c1] w fun e w' => ∃ v0_ : Value, e = .returned (.tuple #[v0_, .bool r2]) ∧ Kd.R (Kd.int .i64) 3 w' w.heap.size (fun _ => True) v0_ r1 ∧ Below w.heap.size w w' := by
 have HR1 := Aside0.mk hr1; have HC1 := Aside0.mk hc1; clear hr1 hc1; have HB := Aside0.mk (Below.refl w.heap.size w); have H := h; clear h; unfold spec_IrreducibleModels.f at H; obtain ⟨⟨t383, t384⟩, A3, H⟩ := bnd24_ H; dsimp only at H
 by_cases c4 : t384 = true
 ·
  subst c4; rw [if_pos rfl] at H; obtain ⟨t387, A5, H⟩ := bnd24_ H
  simp only [Option.some.injEq, Prod.mk.injEq] at H
  obtain ⟨rfl, rfl⟩ := H
  go_enter Tryz.func16, Tryz.ntmps16
  go_wp2_with (first | (refine gL_ 14 11 Tryz.func14 #[.int .i64 a0, .slice A1 l1.length c1] ?_; (with_reducible refine (spec_ModelsOf.calls k a0 _ _ l1 t383 true _ ?side1 ?side2 A3.out).mono ?_); (case side1 => exact s11_); (case side2 => exact HC1.out); rintro e w6 ⟨v385, rfl, ho0, hb⟩; refine ⟨_, rfl, ?_⟩; have n_ := ac_ (Kd.R_lower ho0 (below_size s1_)) <| Aside0.mk (below_step s1_ hb); clear HB; obtain ⟨HO386, HB⟩ := n_; (try clear hb ho0); obtain ⟨Ao7, co7, eo7⟩ := Kd.R_slice HO386.out; subst eo7) | (refine gL_ 124 19 Tryz.func124 #[.int .i64 a0, .slice Ao7 t383.length co7] ?_; (with_reducible refine (spec_l13Irreducible.calls k a0 _ _ t383 t387 _ ?side1 ?side2 A5.out).mono ?_); (case side1 => repeat (first | exact (Kd.R_reads' HO386.out).2.2 | (with_reducible refine Kd.C_alloc ?_ _) | (with_reducible refine Kd.C_drewN ?_ _) | (with_reducible refine Kd.C_drew ?_))); (case side2 => exact (Kd.R_reads' HO386.out).2.1); rintro e w8 ⟨v388, rfl, ho0, hb⟩; refine ⟨_, rfl, ?_⟩; have n_ := ac_ (Kd.R_elder' q24_35 (Kd.R_base ho0) hb) <| ac_ (Kd.R_lower (Kd.R_new' ho0 (Kd.R_lt q24_35)) (below_size s1_)) <| Aside0.mk (below_step s1_ hb); clear HO386 HB; obtain ⟨HO386, HO389, HB⟩ := n_; (try clear hb ho0)))
  go_ret2
  exact ⟨_, (by first | rfl | (simp [errW_none, errW_some] <;> rfl) | (simp [*, errW_none, errW_some] <;> rfl)), (by (with_reducible repeat (first | apply Kd.R_alloc | apply Kd.R_drewN | apply Kd.R_drew)); exact Kd.R_mono HO389.out (fun _ hk => trivial)), s1_⟩
 ·
  replace c4 := Bool.eq_false_iff.mpr c4; subst c4
  rw [if_neg (show ¬ (false = true) by decide)] at H
  obtain ⟨y390, hy390⟩ : ∃ y_ : List Int, y_ = (([] : List Int)) := ⟨_, rfl⟩
  replace H : (some (y390, false)) = some (r1, r2) := by first | (rw [hy390]; with_reducible exact H) | (have H2_ := (Option.bind_some _ _).symm.trans H; rw [hy390]; with_reducible exact H2_) | (have H2_ := (Option.bind_some _ _).symm.trans H; with_reducible exact H2_) | with_reducible exact H | (rw [hy390]; exact H) | exact H
  have Ny390 := Aside0.mk hy390; clear hy390
  simp only [Option.some.injEq, Prod.mk.injEq] at H
  obtain ⟨rfl, rfl⟩ := H
  go_enter Tryz.func16, Tryz.ntmps16
  go_wp2_with (first | (refine gL_ 14 11 Tryz.func14 #[.int .i64 a0, .slice A1 l1.length c1] ?_; (with_reducible refine (spec_ModelsOf.calls k a0 _ _ l1 t383 false _ ?side1 ?side2 A3.out).mono ?_); (case side1 => exact s11_); (case side2 => exact HC1.out); rintro e w9 ⟨v385, rfl, ho0, hb⟩; refine ⟨_, rfl, ?_⟩; have n_ := ac_ (Kd.R_lower ho0 (below_size s1_)) <| Aside0.mk (below_step s1_ hb); clear HB; obtain ⟨HO386, HB⟩ := n_; (try clear hb ho0)) | ((with_reducible refine gate_dst (N := 16) rfl ?_); refine Kd.R_lit (Kd.int .i64) _ 3 ?hg (N := 16) ?hd (xs := ([] : List Int)) (inner := []) (ok := fun _ => True) (okp := fun _ => True) ?hr ?hp (fun _ hk => hk) trivial (Below.refl _ _) (Nat.le_refl _) (by simp) ?_; (case hd => rfl); (case hg => rfl); (case hr => first | (go_simp; done) | (go_simp; rfl)); (case hp => exact (Reps.none _ _)); intro v391 w10 ho11 hb hg_ hnew_; clear hg_ hnew_; (first | rw [← Ny390.out] at ho11 | (simp only [Int.reduceToNat] at ho11; rw [← Ny390.out] at ho11)); have n_ := ac_ (Kd.R_elder' q24_35 (Kd.R_base ho11) hb) <| ac_ (Kd.R_lower (Kd.R_new' ho11 (Kd.R_lt q24_35)) (below_size s1_)) <| Aside0.mk (below_step s1_ hb); clear HO386 HB; obtain ⟨HO386, HO392, HB⟩ := n_; clear hb ho11))
  go_ret2
  exact ⟨_, (by first | rfl | (simp [errW_none, errW_some] <;> rfl) | (simp [*, errW_none, errW_some] <;> rfl)), (by (with_reducible repeat (first | apply Kd.R_alloc | apply Kd.R_drewN | apply Kd.R_drew)); exact Kd.R_mono HO392.out (fun _ hk => trivial)), s1_⟩
end Go.Proofs.YtafnamchckehmaaGreatDoor.Pr
