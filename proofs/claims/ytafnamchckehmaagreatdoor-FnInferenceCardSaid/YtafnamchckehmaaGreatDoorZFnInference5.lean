/- Functions of the program as plain functions, proofs that their calls answer so, and plain laws: what the law needs. No condition beyond what each statement says. -/
import Derived.Test.YtafnamchckehmaaGreatDoorZFnInference3
namespace Go.Proofs.YtafnamchckehmaaGreatDoor.Pr
set_option maxHeartbeats 40000000
set_option maxRecDepth 100000
open Go.RowKit Go.Proofs.YtafnamchckehmaaGreatDoorW.PrintWords Go.Proofs.YtafnamchckehmaaGreatDoorW.PrintLast Go.Proofs.YtafnamchckehmaaGreatDoorW.PrintMore
attribute [local go_sem] max2_int min2_int max_two min_two max_three min_three max_four min_four
set_option linter.unusedVariables false
set_option linter.unusedSimpArgs false
theorem bnd5_ {α β : Type} {o : Option α} {f : α → Option β} {r : β} (h : o.bind f = some r) : ∃ a, Aside0 (o = some a) ∧ f a = some r := by
 obtain ⟨a, h1, h2⟩ := Option.bind_eq_some_iff.mp h
 exact ⟨a, ⟨h1⟩, h2⟩
def spec_l9Draw.l0 : Nat → Int → List (S48) → Int → Int → List Int → Int → Int → Option ((List (S48)) × Int × Int)
 | 0, _, _, _, _, _, _, _ => none
 | k + 1, x1, x5, x6, x7, x1000, x1001, x1002 => if x7 < x6 then ((spec_l9Make.f x1000 x1001 x1002 x1).bind fun bt255 => (if x5.length < 8796093022208 then (spec_l9Draw.l0 k x1 (x5 ++ [(⟨bt255.1, bt255.2.1⟩ : S48)]) x6 (wrap64 (x7 + 1)) x1000 bt255.2.2.1 bt255.2.2.2) else (none))) else (some (x5, x1001, x1002))
def spec_l9Draw.f (k : Nat) (s0_0 : List Int) (s0_1 : Int) (s0_2 : Int) (a1 : Int) : Option ((List (S48)) × Int × Int) := (spec_l1Below.f s0_0 s0_1 s0_2 5).bind fun bt252 => (spec_l9Draw.l0 k a1 (([] : List (S48))) bt252.1 0 s0_0 bt252.2.1 bt252.2.2)
theorem spec_l9Draw.calls (k : Nat) (g : Nat) (s0_0 : List Int) (s0_1 : Int) (s0_2 : Int) (a1 : Int) (r1 : List (S48)) (r2 : Int) (r3 : Int) (w0 w : World) (hI : IsS152 w0 w g s0_0 s0_1 s0_2) (hB : Below w0.heap.size w0 w) (h : spec_l9Draw.f k s0_0 s0_1 s0_2 a1 = some (r1, r2, r3)) :
  Calls Tryz.prog 179 #[.pointer (some ⟨g, 0, none⟩), .int .i64 a1] w fun e w' => ∃ v0_ : Value, e = .returned (v0_) ∧ Kd.R k48 48 w' w.heap.size (fun _ => True) v0_ r1 ∧ IsS152 w0 w' g s0_0 r2 r3 ∧ Below w0.heap.size w0 w' ∧ KeepBut w w' g none := by
 have HI0 := Aside0.mk hI; have HK := Aside0.mk (KeepBut.refl w g none); have HL := Aside0.mk hB.size; clear hI; have HW0 := Aside0.mk hB.size; have HB := Aside0.mk hB; clear hB; have H := h; clear h; unfold spec_l9Draw.f at H; obtain ⟨y249, hy_⟩ : ∃ y_ : List (S48), y_ = (([] : List (S48))) := ⟨_, rfl⟩
 replace H : ((spec_l1Below.f s0_0 s0_1 s0_2 5).bind fun bt252 => (spec_l9Draw.l0 k a1 y249 bt252.1 0 s0_0 bt252.2.1 bt252.2.2)) = some (r1, r2, r3) := rH_
 have Ny249 := Aside0.mk hy_; clear hy_; obtain ⟨⟨t252, t253, t254⟩, A3, H⟩ := bnd5_ H; dsimp only at H; have H' := Aside0.mk H; clear H
 go_enter Tryz.func179, Tryz.ntmps179
 go_wp2_with ((with_reducible refine gw_ rfl ?_); first | (refine rl_ k48 48 8 ?_; intro v250 w4 ho5 hb hg_ hnew_; clear hg_ hnew_; (first | rw [← Ny249.out] at ho5 | (simp only [Int.reduceToNat] at ho5; rw [← Ny249.out] at ho5)); have n_ := ac_ (Kd.R_lower ho5 (keep_size (w := w) (g := g) (row := none) s9_)) <| ac_ (IsS152.below s8_ hb) <| ac_ (KeepBut.trans s9_ (KeepBut.of_below hb g none) (.inl rfl)) <| Aside0.mk (below_step s11_ hb); clear HI0 HK HB; obtain ⟨HO251, HI0, HK, HB⟩ := n_; clear hb ho5) | (refine gL_ 146 10 Tryz.func146 #[.pointer (some ⟨g, 0, none⟩), .int .i64 5] ?_; (with_reducible refine (spec_l1Below.calls g s0_0 s0_1 s0_2 5 t252 t253 t254 w0 _ ?side1 ?side2 A3.out).mono ?_); (case side1 => exact s8_); (case side2 => exact s11_); rintro e w6 ⟨rfl, hi, hb, hk⟩; refine ⟨_, rfl, ?_⟩; have n_ := ac_ (Kd.R_mono (Kd.R_keep (IsS152.apart (show IsS152 w0 _ g s0_0 s0_1 s0_2 from s8_) (by (with_reducible repeat (first | apply Kd.R_alloc | apply Kd.R_drewN | apply Kd.R_drew)); exact HO251.out) (by decide)) hk (fun _ h => h.2)) (fun _ h => h.1)) <| ac_ (KeepBut.trans s9_ hk (.inl rfl)) <| ac_ (hb) <| Aside0.mk (hi); clear HO251 HK HB HI0; obtain ⟨HO251, HK, HB, HI0⟩ := n_; (try clear hb hk hi)))
 go_loopg [5, 7] k (fun kq v5 v7 w' => ∃ (x5_1 : List (S48)) (x7_1 : Int) (x1001_1 : Int) (x1002_1 : Int), v7 = .int .i64 x7_1 ∧ Aside0 (spec_l9Draw.l0 kq a1 x5_1 t252 x7_1 s0_0 x1001_1 x1002_1 = some (r1, r2, r3)) ∧ Aside0 (kq ≤ k) ∧ Aside0 (Kd.R k48 48 w' w.heap.size (fun _ => True) v5 x5_1) ∧ Aside0 (IsS152 w0 w' g s0_0 x1001_1 x1002_1) ∧ Aside0 (KeepBut w w' g none) ∧ Aside0 (Below w0.heap.size w0 w'))
 case atStart => exact ⟨(y249), (0), (t253), (t254), rf_, H', ⟨Nat.le_refl _⟩, ⟨(by (with_reducible repeat (first | apply Kd.R_alloc | apply Kd.R_drewN | apply Kd.R_drew)); exact HO251.out)⟩, ⟨s8_⟩, ⟨s9_⟩, ⟨s11_⟩⟩
 case round =>
  clear H'
  try clear c1
  try clear p2
  obtain ⟨x5_1, x7_1, x1001_1, x1002_1, rfl, HA, HK1, HO_5, HI0, HK, HB⟩ := hrel
  cases gk with
  | zero => exact absurd HA.out (by simp [spec_l9Draw.l0])
  | succ k1 =>
   have H := HA.out; clear HA
   simp only [spec_l9Draw.l0] at H
   by_cases c7 : x7_1 < t252
   ·
    rw [if_pos c7] at H; have c7b0 : decide (x7_1 < t252) = true := decide_eq_true c7; clear c7; obtain ⟨⟨t255, t256, t257, t258⟩, A8, H⟩ := bnd5_ H; dsimp only at H
    by_cases c9 : x5_1.length < 8796093022208
    ·
     rw [if_pos c9] at H; have LMc9 := Aside0.mk c9; clear c9; obtain ⟨y259, hy_⟩ : ∃ y_ : List (S48), y_ = (x5_1 ++ [(⟨t255, t256⟩ : S48)]) := ⟨_, rfl⟩
     replace H : (spec_l9Draw.l0 k1 a1 y259 t252 (wrap64 (x7_1 + 1)) s0_0 t257 t258) = some (r1, r2, r3) := rH_
     have Ny259 := Aside0.mk hy_; clear hy_; have H' := Aside0.mk H; clear H
     go_wp2_with (first | ((with_reducible refine gw_ rfl ?_); (refine gL_ 172 19 Tryz.func172 #[.pointer (some ⟨g, 0, none⟩), .int .i64 a1] ?_; (with_reducible refine (spec_l9Make.calls g s0_0 x1001_1 x1002_1 a1 t255 t256 t257 t258 w0 _ ?side1 ?side2 A8.out).mono ?_); (case side1 => exact s8_); (case side2 => exact s11_); rintro e w10 ⟨rfl, hi, hb, hk⟩; refine ⟨_, rfl, ?_⟩; have n_ := ac_ (Kd.R_mono (Kd.R_keep (IsS152.apart (show IsS152 w0 _ g s0_0 x1001_1 x1002_1 from s8_) s17_ (by decide)) hk (fun _ h => h.2)) (fun _ h => h.1)) <| ac_ (KeepBut.trans s9_ hk (.inl rfl)) <| ac_ (hb) <| Aside0.mk (hi); clear HO_5 HK HB HI0; obtain ⟨HO_5, HK, HB, HI0⟩ := n_; (try clear hb hk hi))) | ((with_reducible refine gate_builtin (b := .append) (xs := #[.tmp 16, .tmp 20]) rfl ?_); at_builtin; refine Kd.R_append k48 w.heap.size rfl (.tmp 16) (.tmp 20) 24 48 (.agg #[(.int .i64 0), (.int .i64 0)]) 16 rfl Tryz.underlying24 info48 rfl (by decide) (by omega) u5 x5_1 (⟨t255, t256⟩ : S48) [.int .i64 t255, .int .i64 t256] (fun _ => True) (fun _ => False) rfl rfl ?aP (fun _ hk => hk.elim) ?aF ?aO (Below.refl _ _) ?aS ?aL ?_; (case aP => exact k48_mkM _ _ _ (⟨t255, t256⟩ : S48)); (case aF => exact (fun _ _ => trivial)); (case aO => exact s17_); (case aS => exact (keep_size (w := w) (g := g) (row := none) s9_)); (case aL => have := LMc9.out; omega); intro v260 w11 ho hb hg hat; rw [← Ny259.out] at ho; have n_ := ac_ (IsS152.grown s8_ hg (IsS152.own_ne HI0.out HO_5.out (by decide))) <| ac_ (below_weaken s11_ HL.out hb) <| ac_ (KeepBut.trans s9_ (KeepBut.of_grown hg g) (Kd.R_base2 HO_5.out)) <| Aside0.mk (ho); clear HI0 HB HK HO_5; obtain ⟨HI0, HB, HK, HO261⟩ := n_; clear ho hb hg hat))
     go_roundg k1
     case measure => have := HK1.out; omega
     case rel => exact ⟨(y259), (wrap64 (x7_1 + 1)), (t257), (t258), rf_, H', ⟨by have := HK1.out; omega⟩, ⟨(by (with_reducible repeat (first | apply Kd.R_alloc | apply Kd.R_drewN | apply Kd.R_drew)); exact HO261.out)⟩, ⟨s8_⟩, ⟨s9_⟩, ⟨s11_⟩⟩
    ·
     rw [if_neg c9] at H
     exact absurd H (by simp)
   ·
    rw [if_neg c7] at H; have c7b0 : decide (x7_1 < t252) = false := decide_eq_false c7; clear c7
    simp only [Option.some.injEq, Prod.mk.injEq] at H
    obtain ⟨rfl, rfl, rfl⟩ := H
    go_wp2
    go_ret
    exact ⟨_, (by first | rfl | (simp [errW_none, errW_some] <;> rfl) | (simp [*, errW_none, errW_some] <;> rfl)), s17_, s8_, s11_, s9_⟩
theorem q5_10 {P : Prop} (h : P := by (with_reducible repeat (first | apply Kd.R_alloc | apply Kd.R_drewN | apply Kd.R_drew)); exact HO264.out) : P := h
def spec_l9Bent.f (k : Nat) (s0_0 : List Int) (s0_1 : Int) (s0_2 : Int) (a1 : Int) : Option ((List (S48)) × Int × Int) := (spec_l9Draw.f k s0_0 s0_1 s0_2 a1).bind fun bt262 => ((spec_l1Once.f s0_0 bt262.2.1 bt262.2.2 10).bind fun bt267 => (if bt267.1 = true then ((spec_l2Bent.f s0_0 bt267.2.1 bt267.2.2).bind fun bt270 => ((spec_l2Bent.f s0_0 bt270.2.1 bt270.2.2).bind fun bt273 => (if bt262.1.length < 8796093022208 then (some ((bt262.1 ++ [(⟨bt270.1, bt273.1⟩ : S48)]), bt273.2.1, bt273.2.2)) else (none)))) else (some (bt262.1, bt267.2.1, bt267.2.2))))
theorem spec_l9Bent.calls (k : Nat) (g : Nat) (s0_0 : List Int) (s0_1 : Int) (s0_2 : Int) (a1 : Int) (r1 : List (S48)) (r2 : Int) (r3 : Int) (w0 w : World) (hI : IsS152 w0 w g s0_0 s0_1 s0_2) (hB : Below w0.heap.size w0 w) (h : spec_l9Bent.f k s0_0 s0_1 s0_2 a1 = some (r1, r2, r3)) :
  Calls Tryz.prog 148 #[.pointer (some ⟨g, 0, none⟩), .int .i64 a1] w fun e w' => ∃ v0_ : Value, e = .returned (v0_) ∧ Kd.R k48 48 w' w.heap.size (fun _ => True) v0_ r1 ∧ IsS152 w0 w' g s0_0 r2 r3 ∧ Below w0.heap.size w0 w' ∧ KeepBut w w' g none := by
 have hu48 := Tryz.underlying48; have HI0 := Aside0.mk hI; have HK := Aside0.mk (KeepBut.refl w g none); have HL := Aside0.mk hB.size; clear hI; have HW0 := Aside0.mk hB.size; have HB := Aside0.mk hB; clear hB; have H := h; clear h; unfold spec_l9Bent.f at H; obtain ⟨⟨t262, t265, t266⟩, A3, H⟩ := bnd5_ H; dsimp only at H; obtain ⟨⟨t267, t268, t269⟩, A4, H⟩ := bnd5_ H; dsimp only at H
 by_cases c5 : t267 = true
 ·
  subst c5; rw [if_pos rfl] at H; obtain ⟨⟨t270, t271, t272⟩, A6, H⟩ := bnd5_ H; dsimp only at H; obtain ⟨⟨t273, t274, t275⟩, A7, H⟩ := bnd5_ H; dsimp only at H
  by_cases c8 : t262.length < 8796093022208
  ·
   rw [if_pos c8] at H; have LMc8 := Aside0.mk c8; clear c8; obtain ⟨y276, hy_⟩ : ∃ y_ : List (S48), y_ = (t262 ++ [(⟨t270, t273⟩ : S48)]) := ⟨_, rfl⟩
   replace H : (some (y276, t274, t275)) = some (r1, r2, r3) := rH_
   have Ny276 := Aside0.mk hy_; clear hy_
   simp only [Option.some.injEq, Prod.mk.injEq] at H
   obtain ⟨rfl, rfl, rfl⟩ := H
   go_enter Tryz.func148, Tryz.ntmps148
   go_wp2_with (first | ((with_reducible refine gw_ rfl ?_); first | (refine gL_ 179 8 Tryz.func179 #[.pointer (some ⟨g, 0, none⟩), .int .i64 a1] ?_; (with_reducible refine (spec_l9Draw.calls k g s0_0 s0_1 s0_2 a1 t262 t265 t266 w0 _ ?side1 ?side2 A3.out).mono ?_); (case side1 => exact s8_); (case side2 => exact s11_); rintro e w9 ⟨v263, rfl, ho0, hi, hb, hk⟩; refine ⟨_, rfl, ?_⟩; have n_ := ac_ (Kd.R_lower ho0 (keep_size (w := w) (g := g) (row := none) s9_)) <| ac_ (KeepBut.trans s9_ hk (.inl rfl)) <| ac_ (hb) <| Aside0.mk (hi); clear HK HB HI0; obtain ⟨HO264, HK, HB, HI0⟩ := n_; (try clear hb hk hi ho0)) | (refine gL_ 145 10 Tryz.func145 #[.pointer (some ⟨g, 0, none⟩), .int .i64 10] ?_; (with_reducible refine (spec_l1Once.calls g s0_0 t265 t266 10 true t268 t269 w0 _ ?side1 ?side2 A4.out).mono ?_); (case side1 => exact s8_); (case side2 => exact s11_); rintro e w10 ⟨rfl, hi, hb, hk⟩; refine ⟨_, rfl, ?_⟩; have n_ := ac_ (Kd.R_mono (Kd.R_keep (IsS152.apart (show IsS152 w0 _ g s0_0 t265 t266 from s8_) q5_10 (by decide)) hk (fun _ h => h.2)) (fun _ h => h.1)) <| ac_ (KeepBut.trans s9_ hk (.inl rfl)) <| ac_ (hb) <| Aside0.mk (hi); clear HO264 HK HB HI0; obtain ⟨HO264, HK, HB, HI0⟩ := n_; (try clear hb hk hi)) | (refine gL_ 176 13 Tryz.func176 #[.pointer (some ⟨g, 0, none⟩)] ?_; (with_reducible refine (spec_l2Bent.calls g s0_0 t268 t269 t270 t271 t272 w0 _ ?side1 ?side2 A6.out).mono ?_); (case side1 => exact s8_); (case side2 => exact s11_); rintro e w11 ⟨rfl, hi, hb, hk⟩; refine ⟨_, rfl, ?_⟩; have n_ := ac_ (Kd.R_mono (Kd.R_keep (IsS152.apart (show IsS152 w0 _ g s0_0 t268 t269 from s8_) q5_10 (by decide)) hk (fun _ h => h.2)) (fun _ h => h.1)) <| ac_ (KeepBut.trans s9_ hk (.inl rfl)) <| ac_ (hb) <| Aside0.mk (hi); clear HO264 HK HB HI0; obtain ⟨HO264, HK, HB, HI0⟩ := n_; (try clear hb hk hi)) | (refine gL_ 176 15 Tryz.func176 #[.pointer (some ⟨g, 0, none⟩)] ?_; (with_reducible refine (spec_l2Bent.calls g s0_0 t271 t272 t273 t274 t275 w0 _ ?side1 ?side2 A7.out).mono ?_); (case side1 => exact s8_); (case side2 => exact s11_); rintro e w12 ⟨rfl, hi, hb, hk⟩; refine ⟨_, rfl, ?_⟩; have n_ := ac_ (Kd.R_mono (Kd.R_keep (IsS152.apart (show IsS152 w0 _ g s0_0 t271 t272 from s8_) q5_10 (by decide)) hk (fun _ h => h.2)) (fun _ h => h.1)) <| ac_ (KeepBut.trans s9_ hk (.inl rfl)) <| ac_ (hb) <| Aside0.mk (hi); clear HO264 HK HB HI0; obtain ⟨HO264, HK, HB, HI0⟩ := n_; (try clear hb hk hi))) | ((with_reducible refine gate_builtin (b := .append) (xs := #[.tmp 11, .tmp 17]) rfl ?_); at_builtin; refine Kd.R_append k48 w.heap.size rfl (.tmp 11) (.tmp 17) 24 48 (.agg #[(.int .i64 0), (.int .i64 0)]) 16 rfl Tryz.underlying24 info48 rfl (by decide) (by omega) v263 t262 (⟨t270, t273⟩ : S48) [.int .i64 t270, .int .i64 t273] (fun _ => True) (fun _ => False) rfl rfl ?aP (fun _ hk => hk.elim) ?aF ?aO (Below.refl _ _) ?aS ?aL ?_; (case aP => exact k48_mkM _ _ _ (⟨t270, t273⟩ : S48)); (case aF => exact (fun _ _ => trivial)); (case aO => exact q5_10); (case aS => exact (keep_size (w := w) (g := g) (row := none) s9_)); (case aL => have := LMc8.out; omega); intro v277 w13 ho hb hg hat; rw [← Ny276.out] at ho; have n_ := ac_ (IsS152.grown s8_ hg (IsS152.own_ne HI0.out HO264.out (by decide))) <| ac_ (below_weaken s11_ HL.out hb) <| ac_ (KeepBut.trans s9_ (KeepBut.of_grown hg g) (Kd.R_base2 HO264.out)) <| Aside0.mk (ho); clear HI0 HB HK HO264; obtain ⟨HI0, HB, HK, HO278⟩ := n_; clear ho hb hg hat))
   go_ret
   exact ⟨_, (by first | rfl | (simp [errW_none, errW_some] <;> rfl) | (simp [*, errW_none, errW_some] <;> rfl)), (by (with_reducible repeat (first | apply Kd.R_alloc | apply Kd.R_drewN | apply Kd.R_drew)); exact HO278.out), s8_, s11_, s9_⟩
  ·
   rw [if_neg c8] at H
   exact absurd H (by simp)
 ·
  replace c5 := Bool.eq_false_iff.mpr c5; subst c5
  rw [if_neg (show ¬ (false = true) by decide)] at H
  simp only [Option.some.injEq, Prod.mk.injEq] at H
  obtain ⟨rfl, rfl, rfl⟩ := H
  go_enter Tryz.func148, Tryz.ntmps148
  go_wp2_with ((with_reducible refine gw_ rfl ?_); first | (refine gL_ 179 8 Tryz.func179 #[.pointer (some ⟨g, 0, none⟩), .int .i64 a1] ?_; (with_reducible refine (spec_l9Draw.calls k g s0_0 s0_1 s0_2 a1 t262 t265 t266 w0 _ ?side1 ?side2 A3.out).mono ?_); (case side1 => exact s8_); (case side2 => exact s11_); rintro e w14 ⟨v263, rfl, ho0, hi, hb, hk⟩; refine ⟨_, rfl, ?_⟩; have n_ := ac_ (Kd.R_lower ho0 (keep_size (w := w) (g := g) (row := none) s9_)) <| ac_ (KeepBut.trans s9_ hk (.inl rfl)) <| ac_ (hb) <| Aside0.mk (hi); clear HK HB HI0; obtain ⟨HO264, HK, HB, HI0⟩ := n_; (try clear hb hk hi ho0)) | (refine gL_ 145 10 Tryz.func145 #[.pointer (some ⟨g, 0, none⟩), .int .i64 10] ?_; (with_reducible refine (spec_l1Once.calls g s0_0 t265 t266 10 false t268 t269 w0 _ ?side1 ?side2 A4.out).mono ?_); (case side1 => exact s8_); (case side2 => exact s11_); rintro e w15 ⟨rfl, hi, hb, hk⟩; refine ⟨_, rfl, ?_⟩; have n_ := ac_ (Kd.R_mono (Kd.R_keep (IsS152.apart (show IsS152 w0 _ g s0_0 t265 t266 from s8_) q5_10 (by decide)) hk (fun _ h => h.2)) (fun _ h => h.1)) <| ac_ (KeepBut.trans s9_ hk (.inl rfl)) <| ac_ (hb) <| Aside0.mk (hi); clear HO264 HK HB HI0; obtain ⟨HO264, HK, HB, HI0⟩ := n_; (try clear hb hk hi)))
  go_ret
  exact ⟨_, (by first | rfl | (simp [errW_none, errW_some] <;> rfl) | (simp [*, errW_none, errW_some] <;> rfl)), q5_10, s8_, s11_, s9_⟩
theorem q5_11 {P : Prop} (h : P := by (with_reducible repeat (first | refine blk_drewN ?_ _ | refine blk_drew ?_ | refine blk_alloc ?_ _)); refine blk_put (cs := #[.int .i64 t289, .int .i64 0]) ?_ 1 _ rfl; (with_reducible repeat (first | refine blk_drewN ?_ _ | refine blk_drew ?_ | refine blk_alloc ?_ _)); refine blk_put (cs := #[.int .i64 0, .int .i64 0]) ?_ 0 _ rfl; (with_reducible repeat (first | refine blk_drewN ?_ _ | refine blk_drew ?_ | refine blk_alloc ?_ _)); exact BK279.out) : P := h
theorem q5_12 {P : Prop} (h : P := by (with_reducible repeat (first | refine blk_drewN ?_ _ | refine blk_drew ?_ | refine blk_alloc ?_ _)); refine blk_put (cs := #[.int .i64 t289, .int .i64 0]) ?_ 1 _ rfl; (with_reducible repeat (first | refine blk_drewN ?_ _ | refine blk_drew ?_ | refine blk_alloc ?_ _)); refine blk_put (cs := #[.int .i64 0, .int .i64 0]) ?_ 0 _ rfl; (with_reducible repeat (first | refine blk_drewN ?_ _ | refine blk_drew ?_ | refine blk_alloc ?_ _)); exact BK293.out) : P := h
theorem q5_13 {P : Prop} (h : P := by (with_reducible repeat (first | refine blk_drewN ?_ _ | refine blk_drew ?_ | refine blk_alloc ?_ _)); refine blk_far ?_ NB279_293.out _; (with_reducible repeat (first | refine blk_drewN ?_ _ | refine blk_drew ?_ | refine blk_alloc ?_ _)); refine blk_far ?_ NB279_293.out _; (with_reducible repeat (first | refine blk_drewN ?_ _ | refine blk_drew ?_ | refine blk_alloc ?_ _)); exact BK279.out) : P := h
theorem q5_14 {P : Prop} (h : P := by (with_reducible repeat (first | apply Kd.R_alloc | apply Kd.R_drewN | apply Kd.R_drew)); exact (Kd.R_mono (Kd.R_far (p := ⟨gb293, 1, none⟩) (Kd.R_far (p := ⟨gb293, 0, none⟩) (Kd.R_mono HO286.out (fun k_ hk => (⟨hk, hk.2⟩ : _ ∧ k_ ≠ gb293))) (fun _ hk => hk.2) (.int .i64 t289)) (fun _ hk => hk.2) (.int .i64 t290)) (fun _ h_ => h_.1))) : P := h
theorem q5_15 {P : Prop} (h : P := by repeat (first | (with_reducible first | exact HI283.out | apply IsS152.alloc | apply IsS152.drewN | apply IsS152.drew | apply IsS152.set_1 | apply IsS152.set_2 | refine IsS152.far ?_ NB283_279.out _ | refine IsS152.far ?_ NB283_293.out _) | exact HI283.out)) : P := h
theorem q5_16 {P : Prop} (h : P := by repeat (first | (with_reducible first | exact HB.out | apply below_alloc | apply pw_below_drewN | apply below_drew1 | refine below_set ?_ (IsS152.ge HI283.out) | refine below_set ?_ GE279.out | refine below_set ?_ GE293.out) | exact HB.out)) : P := h
theorem q5_17 {P : Prop} (h : P := by repeat (first | (with_reducible first | exact HI283.out | apply IsS152.alloc | apply IsS152.drewN | apply IsS152.drew | apply IsS152.set_1 | apply IsS152.set_2 | refine IsS152.far ?_ NB283_279.out _) | exact HI283.out)) : P := h
theorem q5_18 {P : Prop} (h : P := by repeat (first | (with_reducible first | exact HB.out | apply below_alloc | apply pw_below_drewN | apply below_drew1 | refine below_set ?_ (IsS152.ge HI283.out) | refine below_set ?_ GE279.out) | exact HB.out)) : P := h
theorem q5_19 {P : Prop} (h : P := by repeat (first | (with_reducible first | exact HB.out | apply below_alloc | apply pw_below_drewN | apply below_drew1 | refine below_set ?_ GE279.out) | exact HB.out)) : P := h
theorem q5_22 {P : Prop} (h : P := by (with_reducible repeat (first | refine blk_drewN ?_ _ | refine blk_drew ?_ | refine blk_alloc ?_ _)); exact BK279.out) : P := h
theorem q5_23 {P : Prop} (h : P := by (with_reducible repeat (first | apply Kd.R_alloc | apply Kd.R_drewN | apply Kd.R_drew)); exact HO286.out) : P := h
def spec_DrawFollows.f (k : Nat) (l0 : List Int) : Option ((List (S48)) × Int × Int) := (spec_l1New.f k l0).bind fun bt280 => ((spec_l9Bent.f k bt280.1 bt280.2.1 bt280.2.2 5).bind fun bt284 => ((spec_l9Make.f bt280.1 bt284.2.1 bt284.2.2 5).bind fun bt289 => ((spec_l1Once.f bt280.1 bt289.2.2.1 bt289.2.2.2 3).bind fun bt294 => (if bt294.1 = true then ((spec_ClosedBy.f k bt284.1 bt289.1).bind fun t297 => (some (bt284.1, bt289.1, t297))) else (some (bt284.1, bt289.1, bt289.2.1))))))
theorem spec_DrawFollows.calls (k : Nat) (A0 : Option Addr) (c0 : Nat) (l0 : List Int) (r1 : List (S48)) (r2 : Int) (r3 : Int) (w : World) (hr0 : Kd.C (Kd.int .u8) w A0 l0.length l0) (hc0 : l0.length ≤ c0) (h : spec_DrawFollows.f k l0 = some (r1, r2, r3)) :
  Calls Tryz.prog 67 #[.slice A0 l0.length c0] w fun e w' => ∃ v0_ : Value, e = .returned (.tuple #[v0_, .agg #[.int .i64 r2, .int .i64 r3]]) ∧ Kd.R k48 48 w' w.heap.size (fun _ => True) v0_ r1 ∧ Below w.heap.size w w' := by
 have hu48 := Tryz.underlying48; have HR0 := Aside0.mk hr0; have HC0 := Aside0.mk hc0; clear hr0 hc0; have HB := Aside0.mk (Below.refl w.heap.size w); have H := h; clear h; unfold spec_DrawFollows.f at H; obtain ⟨⟨t280, t281, t282⟩, A2, H⟩ := bnd5_ H; dsimp only at H; obtain ⟨⟨t284, t287, t288⟩, A3, H⟩ := bnd5_ H; dsimp only at H; obtain ⟨⟨t289, t290, t291, t292⟩, A4, H⟩ := bnd5_ H; dsimp only at H; obtain ⟨⟨t294, t295, t296⟩, A5, H⟩ := bnd5_ H; dsimp only at H
 by_cases c6 : t294 = true
 ·
  subst c6; rw [if_pos rfl] at H; obtain ⟨t297, A7, H⟩ := bnd5_ H
  simp only [Option.some.injEq, Prod.mk.injEq] at H
  obtain ⟨rfl, rfl, rfl⟩ := H
  go_enter Tryz.func67, Tryz.ntmps67
  try go_wp2_with ((with_reducible refine gw_ rfl ?_); first | (refine be_ 3 #[.int .i64 0, .int .i64 0] 48 ?_; intro gb279 hg w8 hbox hb; have n_ := ac_ (below_step s1_ hb) <| ac_ (hbox) <| ac_ ((gz_ w hg s1_)) <| Aside0.mk ((gz_ w hg s1_)); clear HB; obtain ⟨HB, BK279, GW279, GE279⟩ := n_; clear hb hbox hg) | (refine gL_ 144 8 Tryz.func144 #[.slice A0 l0.length c0] ?_; (with_reducible refine (spec_l1New.calls k _ _ l0 t280 t281 t282 w _ ?side1 ?side2 ?side3 A2.out).mono ?_); (case side1 => exact q5_19); (case side2 => exact HR0.out); (case side3 => exact HC0.out); rintro e w9 ⟨g283, rfl, hi, hb, hb2⟩; refine ⟨_, rfl, ?_⟩; have n_ := ac_ (blk_below (g := gb279) (o := .cells #[.int .i64 0, .int .i64 0] 48 (0, 0)) q5_22 hb2) <| ac_ (hb) <| ac_ (hi) <| ac_ (IsS152.ne_blk hi (blk_below (g := gb279) (o := .cells #[.int .i64 0, .int .i64 0] 48 (0, 0)) q5_22 hb2) (by decide)) <| Aside0.mk (Ne.symm (IsS152.ne_blk hi (blk_below (g := gb279) (o := .cells #[.int .i64 0, .int .i64 0] 48 (0, 0)) q5_22 hb2) (by decide))); clear BK279 HB; obtain ⟨BK279, HB, HI283, NB283_279, NB279_283⟩ := n_; (try clear hb hb2 hi)) | (refine gL_ 148 10 Tryz.func148 #[.pointer (some ⟨g283, 0, none⟩), .int .i64 5] ?_; (with_reducible refine (spec_l9Bent.calls k g283 t280 t281 t282 5 t284 t287 t288 w _ ?side1 ?side2 A3.out).mono ?_); (case side1 => exact q5_17); (case side2 => exact q5_18); rintro e w10 ⟨v285, rfl, ho0, hi, hb, hk⟩; refine ⟨_, rfl, ?_⟩; have n_ := ac_ (KeepBut.blk hk (g' := gb279) (o := .cells #[.int .i64 0, .int .i64 0] 48 (0, 0)) q5_22 NB279_283.out (by simp)) <| ac_ (Kd.R_lower (Kd.R_newB ho0 (g := gb279) (o := .cells #[.int .i64 0, .int .i64 0] 48 (0, 0)) q5_22) (below_size q5_18)) <| ac_ (hb) <| Aside0.mk (hi); clear BK279 HB HI283; obtain ⟨BK279, HO286, HB, HI283⟩ := n_; (try clear hb hk hi ho0)) | (refine gL_ 172 12 Tryz.func172 #[.pointer (some ⟨g283, 0, none⟩), .int .i64 5] ?_; (with_reducible refine (spec_l9Make.calls g283 t280 t287 t288 5 t289 t290 t291 t292 w _ ?side1 ?side2 A4.out).mono ?_); (case side1 => exact q5_17); (case side2 => exact q5_18); rintro e w11 ⟨rfl, hi, hb, hk⟩; refine ⟨_, rfl, ?_⟩; have n_ := ac_ (KeepBut.blk hk (g' := gb279) (o := .cells #[.int .i64 0, .int .i64 0] 48 (0, 0)) q5_22 NB279_283.out (by simp)) <| ac_ (Kd.R_mono (Kd.R_keep (IsS152.apart (show IsS152 w _ g283 t280 t287 t288 from q5_17) q5_23 (by decide)) hk (fun _ h => h.2)) (fun _ h => h.1)) <| ac_ (hb) <| Aside0.mk (hi); clear BK279 HO286 HB HI283; obtain ⟨BK279, HO286, HB, HI283⟩ := n_; (try clear hb hk hi)) | (refine be_ 6 #[.int .i64 0, .int .i64 0] 48 ?_; intro gb293 hg w12 hbox hb; have n_ := ac_ (Kd.R_below (Kd.R_elderB q5_23 gb293 (Nat.le_of_eq hg.symm)) hb) <| ac_ (blk_below (g := gb279) (o := .cells #[.int .i64 0, .int .i64 0] 48 (0, 0)) q5_22 hb) <| ac_ (IsS152.below q5_17 hb) <| ac_ (below_step q5_18 hb) <| ac_ (hbox) <| ac_ ((gz_ w hg q5_18)) <| ac_ ((gz_ w hg q5_18)) <| ac_ ((nl_ hg (blk_lt (g := gb279) (o := .cells #[.int .i64 0, .int .i64 0] 48 (0, 0)) q5_22))) <| ac_ ((ng_ hg (blk_lt (g := gb279) (o := .cells #[.int .i64 0, .int .i64 0] 48 (0, 0)) q5_22))) <| ac_ ((nl_ hg (IsS152.lt (show IsS152 w _ g283 t280 t291 t292 from q5_17)))) <| Aside0.mk ((ng_ hg (IsS152.lt (show IsS152 w _ g283 t280 t291 t292 from q5_17)))); clear HO286 BK279 HI283 HB; obtain ⟨HO286, BK279, HI283, HB, BK293, GW293, GE293, NB279_293, NB293_279, NB283_293, NB293_283⟩ := n_; clear hb hbox hg; have hnb13 := NB293_279.out; have hnc13 := NB279_293.out; have hnb14 := NB293_283.out; have hnc14 := NB283_293.out; have hcz15_0 : w12.cell? ⟨gb293, 0, none⟩ = some (.int .i64 0) := (blk_cell BK293.out 0).trans rfl; have hcz15_1 : w12.cell? ⟨gb293, 1, none⟩ = some (.int .i64 0) := (blk_cell BK293.out 1).trans rfl; have hfz15_0 := blk_frozen BK293.out 0; have hfz15_1 := blk_frozen BK293.out 1) | (refine gL_ 145 14 Tryz.func145 #[.pointer (some ⟨g283, 0, none⟩), .int .i64 3] ?_; (with_reducible refine (spec_l1Once.calls g283 t280 t291 t292 3 true t295 t296 w _ ?side1 ?side2 A5.out).mono ?_); (case side1 => exact q5_15); (case side2 => exact q5_16); rintro e w16 ⟨rfl, hi, hb, hk⟩; refine ⟨_, rfl, ?_⟩; have n_ := ac_ (KeepBut.blk hk (g' := gb279) (o := .cells #[.int .i64 0, .int .i64 0] 48 (0, 0)) q5_13 NB279_283.out (by simp)) <| ac_ (Kd.R_mono (Kd.R_keep (IsS152.apart (show IsS152 w _ g283 t280 t291 t292 from q5_15) q5_14 (by decide)) hk (fun _ h => h.2)) (fun _ h => h.1)) <| ac_ (KeepBut.blk hk (g' := gb293) (o := .cells #[.int .i64 t289, .int .i64 t290] 48 (0, 0)) q5_12 NB293_283.out (by simp)) <| ac_ (hb) <| Aside0.mk (hi); clear BK279 HO286 BK293 HB HI283; obtain ⟨BK279, HO286, BK293, HB, HI283⟩ := n_; (try clear hb hk hi); have hcz17_0 : w16.cell? ⟨gb293, 0, none⟩ = some (.int .i64 t289) := (blk_cell BK293.out 0).trans rfl; have hcz17_1 : w16.cell? ⟨gb293, 1, none⟩ = some (.int .i64 t290) := (blk_cell BK293.out 1).trans rfl; have hfz17_0 := blk_frozen BK293.out 0; have hfz17_1 := blk_frozen BK293.out 1; obtain ⟨Ao18, co18, eo18⟩ := Kd.R_slice HO286.out; subst eo18) | (refine gL_ 63 18 Tryz.func63 #[.slice Ao18 t284.length co18, .int .i64 t289] ?_; (with_reducible refine (spec_ClosedBy.calls k _ _ t284 t289 t297 _ ?side1 ?side2 A7.out).mono ?_); (case side1 => repeat (first | exact (Kd.R_reads' HO286.out).2.2 | (with_reducible refine Kd.C_alloc ?_ _) | (with_reducible refine Kd.C_drewN ?_ _) | (with_reducible refine Kd.C_drew ?_))); (case side2 => exact (Kd.R_reads' HO286.out).2.1); rintro e w19 ⟨rfl, hb⟩; refine ⟨_, rfl, ?_⟩; have n_ := ac_ (Kd.R_below q5_23 hb) <| ac_ (blk_below (g := gb279) (o := .cells #[.int .i64 0, .int .i64 0] 48 (0, 0)) q5_22 hb) <| ac_ (IsS152.below q5_15 hb) <| ac_ (blk_below (g := gb293) (o := .cells #[.int .i64 t289, .int .i64 t290] 48 (0, 0)) (by (with_reducible repeat (first | refine blk_drewN ?_ _ | refine blk_drew ?_ | refine blk_alloc ?_ _)); exact BK293.out) hb) <| Aside0.mk (below_step q5_16 hb); clear HO286 BK279 HI283 BK293 HB; obtain ⟨HO286, BK279, HI283, BK293, HB⟩ := n_; (try clear hb); have hcz20_0 : w19.cell? ⟨gb293, 0, none⟩ = some (.int .i64 t289) := (blk_cell BK293.out 0).trans rfl; have hcz20_1 : w19.cell? ⟨gb293, 1, none⟩ = some (.int .i64 t290) := (blk_cell BK293.out 1).trans rfl; have hfz20_0 := blk_frozen BK293.out 0; have hfz20_1 := blk_frozen BK293.out 1))
  have n0_ : Aside0 (Kd.R k48 48 (w19.setCell ⟨gb293, 1, none⟩ (.int .i64 t297)) w.heap.size (fun k_ => k_ ≠ gb279 ∧ k_ ≠ gb293) (.slice Ao18 t284.length co18) t284) := ⟨by (with_reducible repeat (first | apply Kd.R_alloc | apply Kd.R_drewN | apply Kd.R_drew)); exact Kd.R_mono (Kd.R_far (p := ⟨gb293, 1, none⟩) (Kd.R_mono HO286.out (fun k_ hk => (⟨hk, hk.2⟩ : _ ∧ k_ ≠ gb293))) (fun _ hk => hk.2) (.int .i64 t297)) (fun _ hk => ⟨hk.1.1.2, hk.1.2⟩)⟩
  have n1_ : Aside0 ((w19.setCell ⟨gb293, 1, none⟩ (.int .i64 t297)).heap[gb279]? = some (.cells #[.int .i64 0, .int .i64 0] 48 (0, 0))) := ⟨by (with_reducible repeat (first | refine blk_drewN ?_ _ | refine blk_drew ?_ | refine blk_alloc ?_ _)); refine blk_far ?_ NB279_293.out _; (with_reducible repeat (first | refine blk_drewN ?_ _ | refine blk_drew ?_ | refine blk_alloc ?_ _)); exact BK279.out⟩
  have n2_ : Aside0 ((w19.setCell ⟨gb293, 1, none⟩ (.int .i64 t297)).heap[gb293]? = some (.cells #[.int .i64 t289, .int .i64 t297] 48 (0, 0))) := ⟨by (with_reducible repeat (first | refine blk_drewN ?_ _ | refine blk_drew ?_ | refine blk_alloc ?_ _)); refine blk_put (cs := #[.int .i64 t289, .int .i64 t290]) ?_ 1 _ rfl; (with_reducible repeat (first | refine blk_drewN ?_ _ | refine blk_drew ?_ | refine blk_alloc ?_ _)); exact BK293.out⟩
  have n3_ : Aside0 (IsS152 w (w19.setCell ⟨gb293, 1, none⟩ (.int .i64 t297)) g283 t280 t295 t296) := ⟨by repeat (first | (with_reducible first | exact HI283.out | apply IsS152.alloc | apply IsS152.drewN | apply IsS152.drew | apply IsS152.set_1 | apply IsS152.set_2 | refine IsS152.far ?_ NB283_279.out _ | refine IsS152.far ?_ NB283_293.out _) | exact HI283.out)⟩
  have n4_ : Aside0 (Below w.heap.size w (w19.setCell ⟨gb293, 1, none⟩ (.int .i64 t297))) := ⟨by repeat (first | (with_reducible first | exact HB.out | apply below_alloc | apply pw_below_drewN | apply below_drew1 | refine below_set ?_ (IsS152.ge HI283.out) | refine below_set ?_ GE279.out | refine below_set ?_ GE293.out) | exact HB.out)⟩
  (try clear HO286)
  (try clear BK279)
  (try clear BK293)
  (try clear HI283)
  (try clear HB)
  generalize (w19.setCell ⟨gb293, 1, none⟩ (.int .i64 t297)) = w21 at n0_ n1_ n2_ n3_ n4_ ⊢
  have HO286 := n0_; have BK279 := n1_; have BK293 := n2_; have HI283 := n3_; have HB := n4_; clear n0_ n1_ n2_ n3_ n4_; have n0_ := Aside0.mk (Kd.R_drew HO286.out); have n1_ := Aside0.mk (blk_drew BK279.out); have n2_ := Aside0.mk (blk_drew BK293.out); have n3_ := Aside0.mk (IsS152.drew HI283.out); have n4_ := Aside0.mk (below_drew1 HB.out); clear HO286; clear BK279; clear BK293; clear HI283; clear HB; have HO286 := n0_; have BK279 := n1_; have BK293 := n2_; have HI283 := n3_; have HB := n4_; clear n0_ n1_ n2_ n3_ n4_
  refine start_ (n := 4) (S := fun w' => w'.cell? ⟨gb293, 0, none⟩ = some (.int .i64 t289) ∧ w'.cell? ⟨gb293, 1, none⟩ = some (.int .i64 t297)) (ds := []) (tb_ 4 0) s10_ rfl rfl ⟨(blk_cell BK293.out 0).trans rfl, (blk_cell BK293.out 1).trans rfl⟩ (fun hHeld => ?_)
  generalize w21.drew = w22 at HO286 BK279 BK293 HI283 HB hHeld ⊢
  refine pl_ 0 20 (tb_ 4 1) ?_; refine pl_ 2 2 (tb_ 4 5) ?_
  refine take_ (i := 1) (N := some 21) (v := ?_) (a' := ?_) (tb_ 4 7) rfl rfl s10_ (fun _ _ _ h => h) (Or.inl ⟨by rfl, ?_⟩) hHeld ?_ ?_
  rotate_left
  ·
   rintro w' ⟨s0, s1⟩
   go_simp; with_reducible rfl
  rotate_left
  ·
   simp only [Act.put, List.setIfInBounds_toArray, List.set_cons_zero, List.set_cons_succ, i64_w, i32_w]
   rfl
  refine one_ (i := 3) (N := none) (tb_ 4 15) rfl rfl s10_ (by decide) (fun K hK => ?_)
  have hs23 : w22.cell? ⟨gb279, 0, none⟩ = some (.int .i64 0) := (blk_cell BK279.out 0).trans rfl; have hfs23 := blk_frozen BK279.out 0; have hns23_1 := NB293_279.out; have hms23_1 := NB279_293.out; have hs24 : w22.cell? ⟨gb279, 1, none⟩ = some (.int .i64 0) := (blk_cell BK279.out 1).trans rfl; have hfs24 := blk_frozen BK279.out 1; have hns24_1 := NB293_279.out; have hms24_1 := NB279_293.out
  refine skip_ (w1 := ?_) (by rfl) rfl ?_ ?_
  rotate_left
  ·
   go_simp
   rfl
  refine hK.out _ _ ⟨((cell_far (p := ⟨gb279, _, none⟩) NB293_279.out _).trans (((cell_far (p := ⟨gb279, _, none⟩) NB293_279.out _).trans (hHeld.1)))), ((cell_far (p := ⟨gb279, _, none⟩) NB293_279.out _).trans (((cell_far (p := ⟨gb279, _, none⟩) NB293_279.out _).trans (hHeld.2))))⟩ (fun hHeld => ?_)
  clear hK K
  refine done_ s10_ ?_
  try go_wp2
  refine bodyPost_ret (results_tc rfl _ _ gb279 48 #[.int .i64 t289, .int .i64 t297] (0, 0) _ rfl q5_11 Tryz.underlying48 rfl s10_) rfl ?_
  exact ⟨_, (by first | rfl | (simp [errW_none, errW_some] <;> rfl) | (simp [*, errW_none, errW_some] <;> rfl)), (by (with_reducible repeat (first | apply Kd.R_alloc | apply Kd.R_drewN | apply Kd.R_drew)); exact Kd.R_mono (Kd.R_far (p := ⟨gb279, 1, none⟩) (Kd.R_far (p := ⟨gb279, 0, none⟩) (Kd.R_mono HO286.out (fun k_ hk => (⟨hk, hk.1⟩ : _ ∧ k_ ≠ gb279))) (fun _ hk => hk.2) (.int .i64 t289)) (fun _ hk => hk.2) (.int .i64 t297)) (fun _ hk => trivial)), q5_16⟩
 ·
  replace c6 := Bool.eq_false_iff.mpr c6; subst c6
  rw [if_neg (show ¬ (false = true) by decide)] at H
  simp only [Option.some.injEq, Prod.mk.injEq] at H
  obtain ⟨rfl, rfl, rfl⟩ := H
  go_enter Tryz.func67, Tryz.ntmps67
  try go_wp2_with ((with_reducible refine gw_ rfl ?_); first | (refine be_ 3 #[.int .i64 0, .int .i64 0] 48 ?_; intro gb279 hg w25 hbox hb; have n_ := ac_ (below_step s1_ hb) <| ac_ (hbox) <| ac_ ((gz_ w hg s1_)) <| Aside0.mk ((gz_ w hg s1_)); clear HB; obtain ⟨HB, BK279, GW279, GE279⟩ := n_; clear hb hbox hg) | (refine gL_ 144 8 Tryz.func144 #[.slice A0 l0.length c0] ?_; (with_reducible refine (spec_l1New.calls k _ _ l0 t280 t281 t282 w _ ?side1 ?side2 ?side3 A2.out).mono ?_); (case side1 => exact q5_19); (case side2 => exact HR0.out); (case side3 => exact HC0.out); rintro e w26 ⟨g283, rfl, hi, hb, hb2⟩; refine ⟨_, rfl, ?_⟩; have n_ := ac_ (blk_below (g := gb279) (o := .cells #[.int .i64 0, .int .i64 0] 48 (0, 0)) q5_22 hb2) <| ac_ (hb) <| ac_ (hi) <| ac_ (IsS152.ne_blk hi (blk_below (g := gb279) (o := .cells #[.int .i64 0, .int .i64 0] 48 (0, 0)) q5_22 hb2) (by decide)) <| Aside0.mk (Ne.symm (IsS152.ne_blk hi (blk_below (g := gb279) (o := .cells #[.int .i64 0, .int .i64 0] 48 (0, 0)) q5_22 hb2) (by decide))); clear BK279 HB; obtain ⟨BK279, HB, HI283, NB283_279, NB279_283⟩ := n_; (try clear hb hb2 hi)) | (refine gL_ 148 10 Tryz.func148 #[.pointer (some ⟨g283, 0, none⟩), .int .i64 5] ?_; (with_reducible refine (spec_l9Bent.calls k g283 t280 t281 t282 5 t284 t287 t288 w _ ?side1 ?side2 A3.out).mono ?_); (case side1 => exact q5_17); (case side2 => exact q5_18); rintro e w27 ⟨v285, rfl, ho0, hi, hb, hk⟩; refine ⟨_, rfl, ?_⟩; have n_ := ac_ (KeepBut.blk hk (g' := gb279) (o := .cells #[.int .i64 0, .int .i64 0] 48 (0, 0)) q5_22 NB279_283.out (by simp)) <| ac_ (Kd.R_lower (Kd.R_newB ho0 (g := gb279) (o := .cells #[.int .i64 0, .int .i64 0] 48 (0, 0)) q5_22) (below_size q5_18)) <| ac_ (hb) <| Aside0.mk (hi); clear BK279 HB HI283; obtain ⟨BK279, HO286, HB, HI283⟩ := n_; (try clear hb hk hi ho0)) | (refine gL_ 172 12 Tryz.func172 #[.pointer (some ⟨g283, 0, none⟩), .int .i64 5] ?_; (with_reducible refine (spec_l9Make.calls g283 t280 t287 t288 5 t289 t290 t291 t292 w _ ?side1 ?side2 A4.out).mono ?_); (case side1 => exact q5_17); (case side2 => exact q5_18); rintro e w28 ⟨rfl, hi, hb, hk⟩; refine ⟨_, rfl, ?_⟩; have n_ := ac_ (KeepBut.blk hk (g' := gb279) (o := .cells #[.int .i64 0, .int .i64 0] 48 (0, 0)) q5_22 NB279_283.out (by simp)) <| ac_ (Kd.R_mono (Kd.R_keep (IsS152.apart (show IsS152 w _ g283 t280 t287 t288 from q5_17) q5_23 (by decide)) hk (fun _ h => h.2)) (fun _ h => h.1)) <| ac_ (hb) <| Aside0.mk (hi); clear BK279 HO286 HB HI283; obtain ⟨BK279, HO286, HB, HI283⟩ := n_; (try clear hb hk hi)) | (refine be_ 6 #[.int .i64 0, .int .i64 0] 48 ?_; intro gb293 hg w29 hbox hb; have n_ := ac_ (Kd.R_below (Kd.R_elderB q5_23 gb293 (Nat.le_of_eq hg.symm)) hb) <| ac_ (blk_below (g := gb279) (o := .cells #[.int .i64 0, .int .i64 0] 48 (0, 0)) q5_22 hb) <| ac_ (IsS152.below q5_17 hb) <| ac_ (below_step q5_18 hb) <| ac_ (hbox) <| ac_ ((gz_ w hg q5_18)) <| ac_ ((gz_ w hg q5_18)) <| ac_ ((nl_ hg (blk_lt (g := gb279) (o := .cells #[.int .i64 0, .int .i64 0] 48 (0, 0)) q5_22))) <| ac_ ((ng_ hg (blk_lt (g := gb279) (o := .cells #[.int .i64 0, .int .i64 0] 48 (0, 0)) q5_22))) <| ac_ ((nl_ hg (IsS152.lt (show IsS152 w _ g283 t280 t291 t292 from q5_17)))) <| Aside0.mk ((ng_ hg (IsS152.lt (show IsS152 w _ g283 t280 t291 t292 from q5_17)))); clear HO286 BK279 HI283 HB; obtain ⟨HO286, BK279, HI283, HB, BK293, GW293, GE293, NB279_293, NB293_279, NB283_293, NB293_283⟩ := n_; clear hb hbox hg; have hnb30 := NB293_279.out; have hnc30 := NB279_293.out; have hnb31 := NB293_283.out; have hnc31 := NB283_293.out; have hcz32_0 : w29.cell? ⟨gb293, 0, none⟩ = some (.int .i64 0) := (blk_cell BK293.out 0).trans rfl; have hcz32_1 : w29.cell? ⟨gb293, 1, none⟩ = some (.int .i64 0) := (blk_cell BK293.out 1).trans rfl; have hfz32_0 := blk_frozen BK293.out 0; have hfz32_1 := blk_frozen BK293.out 1) | (refine gL_ 145 14 Tryz.func145 #[.pointer (some ⟨g283, 0, none⟩), .int .i64 3] ?_; (with_reducible refine (spec_l1Once.calls g283 t280 t291 t292 3 false t295 t296 w _ ?side1 ?side2 A5.out).mono ?_); (case side1 => exact q5_15); (case side2 => exact q5_16); rintro e w33 ⟨rfl, hi, hb, hk⟩; refine ⟨_, rfl, ?_⟩; have n_ := ac_ (KeepBut.blk hk (g' := gb279) (o := .cells #[.int .i64 0, .int .i64 0] 48 (0, 0)) q5_13 NB279_283.out (by simp)) <| ac_ (Kd.R_mono (Kd.R_keep (IsS152.apart (show IsS152 w _ g283 t280 t291 t292 from q5_15) q5_14 (by decide)) hk (fun _ h => h.2)) (fun _ h => h.1)) <| ac_ (KeepBut.blk hk (g' := gb293) (o := .cells #[.int .i64 t289, .int .i64 t290] 48 (0, 0)) q5_12 NB293_283.out (by simp)) <| ac_ (hb) <| Aside0.mk (hi); clear BK279 HO286 BK293 HB HI283; obtain ⟨BK279, HO286, BK293, HB, HI283⟩ := n_; (try clear hb hk hi)))
  have n0_ := Aside0.mk (Kd.R_drew HO286.out); have n1_ := Aside0.mk (blk_drew BK279.out); have n2_ := Aside0.mk (blk_drew BK293.out); have n3_ := Aside0.mk (IsS152.drew HI283.out); have n4_ := Aside0.mk (below_drew1 HB.out); clear HO286; clear BK279; clear BK293; clear HI283; clear HB; have HO286 := n0_; have BK279 := n1_; have BK293 := n2_; have HI283 := n3_; have HB := n4_; clear n0_ n1_ n2_ n3_ n4_
  refine start_ (n := 4) (S := fun w' => w'.cell? ⟨gb293, 0, none⟩ = some (.int .i64 t289) ∧ w'.cell? ⟨gb293, 1, none⟩ = some (.int .i64 t290)) (ds := []) (tb_ 4 0) s10_ rfl rfl ⟨(blk_cell BK293.out 0).trans rfl, (blk_cell BK293.out 1).trans rfl⟩ (fun hHeld => ?_)
  generalize w33.drew = w34 at HO286 BK279 BK293 HI283 HB hHeld ⊢
  refine pl_ 0 20 (tb_ 4 1) ?_; refine pl_ 2 2 (tb_ 4 5) ?_
  refine take_ (i := 1) (N := some 21) (v := ?_) (a' := ?_) (tb_ 4 7) rfl rfl s10_ (fun _ _ _ h => h) (Or.inl ⟨by rfl, ?_⟩) hHeld ?_ ?_
  rotate_left
  ·
   rintro w' ⟨s0, s1⟩
   go_simp; with_reducible rfl
  rotate_left
  ·
   simp only [Act.put, List.setIfInBounds_toArray, List.set_cons_zero, List.set_cons_succ, i64_w, i32_w]
   rfl
  refine one_ (i := 3) (N := none) (tb_ 4 15) rfl rfl s10_ (by decide) (fun K hK => ?_)
  have hs35 : w34.cell? ⟨gb279, 0, none⟩ = some (.int .i64 0) := (blk_cell BK279.out 0).trans rfl; have hfs35 := blk_frozen BK279.out 0; have hns35_1 := NB293_279.out; have hms35_1 := NB279_293.out; have hs36 : w34.cell? ⟨gb279, 1, none⟩ = some (.int .i64 0) := (blk_cell BK279.out 1).trans rfl; have hfs36 := blk_frozen BK279.out 1; have hns36_1 := NB293_279.out; have hms36_1 := NB279_293.out
  refine skip_ (w1 := ?_) (by rfl) rfl ?_ ?_
  rotate_left
  ·
   go_simp
   rfl
  refine hK.out _ _ ⟨((cell_far (p := ⟨gb279, _, none⟩) NB293_279.out _).trans (((cell_far (p := ⟨gb279, _, none⟩) NB293_279.out _).trans (hHeld.1)))), ((cell_far (p := ⟨gb279, _, none⟩) NB293_279.out _).trans (((cell_far (p := ⟨gb279, _, none⟩) NB293_279.out _).trans (hHeld.2))))⟩ (fun hHeld => ?_)
  clear hK K
  refine done_ s10_ ?_
  try go_wp2
  refine bodyPost_ret (results_tc rfl _ _ gb279 48 #[.int .i64 t289, .int .i64 t290] (0, 0) _ rfl q5_11 Tryz.underlying48 rfl s10_) rfl ?_
  exact ⟨_, (by first | rfl | (simp [errW_none, errW_some] <;> rfl) | (simp [*, errW_none, errW_some] <;> rfl)), (by (with_reducible repeat (first | apply Kd.R_alloc | apply Kd.R_drewN | apply Kd.R_drew)); exact Kd.R_mono (Kd.R_far (p := ⟨gb279, 1, none⟩) (Kd.R_far (p := ⟨gb279, 0, none⟩) (Kd.R_mono HO286.out (fun k_ hk => (⟨hk, hk.1.2⟩ : _ ∧ k_ ≠ gb279))) (fun _ hk => hk.2) (.int .i64 t289)) (fun _ hk => hk.2) (.int .i64 t290)) (fun _ hk => trivial)), q5_16⟩
theorem q5_25 {P : Prop} (h : P := by repeat (first | (with_reducible first | exact HB.out | apply below_alloc | apply pw_below_drewN | apply below_drew1 | refine below_set ?_ GE352.out) | exact HB.out)) : P := h
theorem q5_28 {P : Prop} (h : P := by (with_reducible repeat (first | refine blk_drewN ?_ _ | refine blk_drew ?_ | refine blk_alloc ?_ _)); exact BK352.out) : P := h
def spec_Respects.f (a0_0 : Int) (a0_1 : Int) (a1 : Int) : Option (Bool) := (spec_l9Rule.f 8 a0_0 a0_1).bind fun t353 => (if t353 = true then ((spec_IsSet.f 8 a1).bind fun t354 => (if t354 = true then (if (Go.bits .and .i64 a0_0 a1) = a0_0 then (some ((Go.bits .and .i64 a0_1 a1) == a0_1)) else (some true)) else (some false))) else (some false))
theorem spec_Respects.calls (a0_0 : Int) (a0_1 : Int) (a1 : Int) (r : Bool) (w : World) (h : spec_Respects.f a0_0 a0_1 a1 = some r) :
  Calls Tryz.prog 80 #[.agg #[.int .i64 a0_0, .int .i64 a0_1], .int .i64 a1] w fun e w' => e = .returned (.bool r) ∧ Below w.heap.size w w' := by
 have hu48 := Tryz.underlying48; have HB := Aside0.mk (Below.refl w.heap.size w); have H := h; clear h; unfold spec_Respects.f at H; obtain ⟨t353, A3, H⟩ := bnd5_ H
 by_cases c4 : t353 = true
 ·
  subst c4; rw [if_pos rfl] at H; obtain ⟨t354, A5, H⟩ := bnd5_ H
  by_cases c6 : t354 = true
  ·
   subst c6; rw [if_pos rfl] at H
   by_cases c7 : (Go.bits .and .i64 a0_0 a1) = a0_0
   ·
    rw [if_pos c7] at H; have c7b0 : ((Go.bits .and .i64 a0_0 a1) == a0_0) = true := beq_iff_eq.mpr c7; have c7b1 : ((Go.bits .and .i64 a0_0 a1) != a0_0) = false := bne_eq_false_iff_eq.mpr c7; clear c7; obtain rfl := Option.some.inj H
    go_enter Tryz.func80, Tryz.ntmps80
    go_wp2_with (first | ((with_reducible refine gw_ rfl ?_); first | (refine be_ 2 #[.int .i64 a0_0, .int .i64 a0_1] 48 ?_; intro gb352 hg w8 hbox hb; have n_ := ac_ (below_step s1_ hb) <| ac_ (hbox) <| ac_ ((gz_ w hg s1_)) <| Aside0.mk ((gz_ w hg s1_)); clear HB; obtain ⟨HB, BK352, GW352, GE352⟩ := n_; clear hb hbox hg; have hcz9_0 : w8.cell? ⟨gb352, 0, none⟩ = some (.int .i64 a0_0) := (blk_cell BK352.out 0).trans rfl; have hcz9_1 : w8.cell? ⟨gb352, 1, none⟩ = some (.int .i64 a0_1) := (blk_cell BK352.out 1).trans rfl; have hfz9_0 := blk_frozen BK352.out 0; have hfz9_1 := blk_frozen BK352.out 1) | (refine gL_ 157 6 Tryz.func157 #[.int .i64 8, .agg #[.int .i64 a0_0, .int .i64 a0_1]] ?_; (with_reducible refine (spec_l9Rule.calls 8 a0_0 a0_1 true _ A3.out).mono ?_); rintro e w10 ⟨rfl, hb⟩; refine ⟨_, rfl, ?_⟩; have n_ := ac_ (blk_below (g := gb352) (o := .cells #[.int .i64 a0_0, .int .i64 a0_1] 48 (0, 0)) q5_28 hb) <| Aside0.mk (below_step q5_25 hb); clear BK352 HB; obtain ⟨BK352, HB⟩ := n_; (try clear hb))) | (go_at_call 86; (with_reducible refine (spec_IsSet.calls 8 a1 true _ A5.out).mono ?_); rintro e w' ⟨rfl, ⟨nd, rfl⟩⟩; have hcz11_0 : w10.cell? ⟨gb352, 0, none⟩ = some (.int .i64 a0_0) := (blk_cell BK352.out 0).trans rfl; have hcz11_1 : w10.cell? ⟨gb352, 1, none⟩ = some (.int .i64 a0_1) := (blk_cell BK352.out 1).trans rfl; have hfz11_0 := blk_frozen BK352.out 0; have hfz11_1 := blk_frozen BK352.out 1))
    go_ret
    exact ⟨s4_, q5_25⟩
   ·
    rw [if_neg c7] at H; have c7b0 : ((Go.bits .and .i64 a0_0 a1) == a0_0) = false := beq_eq_false_iff_ne.mpr c7; have c7b1 : ((Go.bits .and .i64 a0_0 a1) != a0_0) = true := bne_iff_ne.mpr c7; obtain rfl := Option.some.inj H
    go_enter Tryz.func80, Tryz.ntmps80
    go_wp2_with (first | ((with_reducible refine gw_ rfl ?_); first | (refine be_ 2 #[.int .i64 a0_0, .int .i64 a0_1] 48 ?_; intro gb352 hg w12 hbox hb; have n_ := ac_ (below_step s1_ hb) <| ac_ (hbox) <| ac_ ((gz_ w hg s1_)) <| Aside0.mk ((gz_ w hg s1_)); clear HB; obtain ⟨HB, BK352, GW352, GE352⟩ := n_; clear hb hbox hg; have hcz13_0 : w12.cell? ⟨gb352, 0, none⟩ = some (.int .i64 a0_0) := (blk_cell BK352.out 0).trans rfl; have hcz13_1 : w12.cell? ⟨gb352, 1, none⟩ = some (.int .i64 a0_1) := (blk_cell BK352.out 1).trans rfl; have hfz13_0 := blk_frozen BK352.out 0; have hfz13_1 := blk_frozen BK352.out 1) | (refine gL_ 157 6 Tryz.func157 #[.int .i64 8, .agg #[.int .i64 a0_0, .int .i64 a0_1]] ?_; (with_reducible refine (spec_l9Rule.calls 8 a0_0 a0_1 true _ A3.out).mono ?_); rintro e w14 ⟨rfl, hb⟩; refine ⟨_, rfl, ?_⟩; have n_ := ac_ (blk_below (g := gb352) (o := .cells #[.int .i64 a0_0, .int .i64 a0_1] 48 (0, 0)) q5_28 hb) <| Aside0.mk (below_step q5_25 hb); clear BK352 HB; obtain ⟨BK352, HB⟩ := n_; (try clear hb))) | (go_at_call 86; (with_reducible refine (spec_IsSet.calls 8 a1 true _ A5.out).mono ?_); rintro e w' ⟨rfl, ⟨nd, rfl⟩⟩; have hcz15_0 : w14.cell? ⟨gb352, 0, none⟩ = some (.int .i64 a0_0) := (blk_cell BK352.out 0).trans rfl; have hcz15_1 : w14.cell? ⟨gb352, 1, none⟩ = some (.int .i64 a0_1) := (blk_cell BK352.out 1).trans rfl; have hfz15_0 := blk_frozen BK352.out 0; have hfz15_1 := blk_frozen BK352.out 1))
    go_ret
    exact ⟨s4_, q5_25⟩
  ·
   replace c6 := Bool.eq_false_iff.mpr c6; subst c6
   rw [if_neg (show ¬ (false = true) by decide)] at H
   obtain rfl := Option.some.inj H
   go_enter Tryz.func80, Tryz.ntmps80
   go_wp2_with (first | ((with_reducible refine gw_ rfl ?_); first | (refine be_ 2 #[.int .i64 a0_0, .int .i64 a0_1] 48 ?_; intro gb352 hg w16 hbox hb; have n_ := ac_ (below_step s1_ hb) <| ac_ (hbox) <| ac_ ((gz_ w hg s1_)) <| Aside0.mk ((gz_ w hg s1_)); clear HB; obtain ⟨HB, BK352, GW352, GE352⟩ := n_; clear hb hbox hg; have hcz17_0 : w16.cell? ⟨gb352, 0, none⟩ = some (.int .i64 a0_0) := (blk_cell BK352.out 0).trans rfl; have hcz17_1 : w16.cell? ⟨gb352, 1, none⟩ = some (.int .i64 a0_1) := (blk_cell BK352.out 1).trans rfl; have hfz17_0 := blk_frozen BK352.out 0; have hfz17_1 := blk_frozen BK352.out 1) | (refine gL_ 157 6 Tryz.func157 #[.int .i64 8, .agg #[.int .i64 a0_0, .int .i64 a0_1]] ?_; (with_reducible refine (spec_l9Rule.calls 8 a0_0 a0_1 true _ A3.out).mono ?_); rintro e w18 ⟨rfl, hb⟩; refine ⟨_, rfl, ?_⟩; have n_ := ac_ (blk_below (g := gb352) (o := .cells #[.int .i64 a0_0, .int .i64 a0_1] 48 (0, 0)) q5_28 hb) <| Aside0.mk (below_step q5_25 hb); clear BK352 HB; obtain ⟨BK352, HB⟩ := n_; (try clear hb))) | (go_at_call 86; (with_reducible refine (spec_IsSet.calls 8 a1 false _ A5.out).mono ?_); rintro e w' ⟨rfl, ⟨nd, rfl⟩⟩))
   go_ret
   exact ⟨s4_, q5_25⟩
 ·
  replace c4 := Bool.eq_false_iff.mpr c4; subst c4
  rw [if_neg (show ¬ (false = true) by decide)] at H
  obtain rfl := Option.some.inj H
  go_enter Tryz.func80, Tryz.ntmps80
  go_wp2_with ((with_reducible refine gw_ rfl ?_); first | (refine be_ 2 #[.int .i64 a0_0, .int .i64 a0_1] 48 ?_; intro gb352 hg w19 hbox hb; have n_ := ac_ (below_step s1_ hb) <| ac_ (hbox) <| ac_ ((gz_ w hg s1_)) <| Aside0.mk ((gz_ w hg s1_)); clear HB; obtain ⟨HB, BK352, GW352, GE352⟩ := n_; clear hb hbox hg; have hcz20_0 : w19.cell? ⟨gb352, 0, none⟩ = some (.int .i64 a0_0) := (blk_cell BK352.out 0).trans rfl; have hcz20_1 : w19.cell? ⟨gb352, 1, none⟩ = some (.int .i64 a0_1) := (blk_cell BK352.out 1).trans rfl; have hfz20_0 := blk_frozen BK352.out 0; have hfz20_1 := blk_frozen BK352.out 1) | (refine gL_ 157 6 Tryz.func157 #[.int .i64 8, .agg #[.int .i64 a0_0, .int .i64 a0_1]] ?_; (with_reducible refine (spec_l9Rule.calls 8 a0_0 a0_1 false _ A3.out).mono ?_); rintro e w21 ⟨rfl, hb⟩; refine ⟨_, rfl, ?_⟩; have n_ := ac_ (blk_below (g := gb352) (o := .cells #[.int .i64 a0_0, .int .i64 a0_1] 48 (0, 0)) q5_28 hb) <| Aside0.mk (below_step q5_25 hb); clear BK352 HB; obtain ⟨BK352, HB⟩ := n_; (try clear hb)))
  go_ret
  exact ⟨s4_, q5_25⟩
theorem bnd15_ {α β : Type} {o : Option α} {f : α → Option β} {r : β} (h : o.bind f = some r) : ∃ a, Aside0 (o = some a) ∧ f a = some r := by
 obtain ⟨a, h1, h2⟩ := Option.bind_eq_some_iff.mp h
 exact ⟨a, ⟨h1⟩, h2⟩
theorem q15_1 {P : Prop} (h : P := by repeat (first | (with_reducible first | exact HB.out | apply below_alloc | apply pw_below_drewN | apply below_drew1 | refine below_set ?_ GE298.out) | exact HB.out)) : P := h
theorem q15_3 {P : Prop} (h : P := by (with_reducible repeat (first | refine blk_drewN ?_ _ | refine blk_drew ?_ | refine blk_alloc ?_ _)); exact BK298.out) : P := h
def spec_DrawProofOf.f (k : Nat) (l0 : List Int) : Option ((List (S48)) × Int × Int) := (spec_DrawFollows.f k l0).bind fun bt299 => (some (bt299.1, bt299.2.1, bt299.2.2))
theorem spec_DrawProofOf.calls (k : Nat) (A0 : Option Addr) (c0 : Nat) (l0 : List Int) (r1 : List (S48)) (r2 : Int) (r3 : Int) (w : World) (hr0 : Kd.C (Kd.int .u8) w A0 l0.length l0) (hc0 : l0.length ≤ c0) (h : spec_DrawProofOf.f k l0 = some (r1, r2, r3)) :
  Calls Tryz.prog 29 #[.slice A0 l0.length c0] w fun e w' => ∃ v0_ : Value, e = .returned (.tuple #[v0_, .agg #[.int .i64 r2, .int .i64 r3]]) ∧ Kd.R k48 48 w' w.heap.size (fun _ => True) v0_ r1 ∧ Below w.heap.size w w' := by
 have hu48 := Tryz.underlying48; have HR0 := Aside0.mk hr0; have HC0 := Aside0.mk hc0; clear hr0 hc0; have HB := Aside0.mk (Below.refl w.heap.size w); have H := h; clear h; unfold spec_DrawProofOf.f at H; obtain ⟨⟨t299, t302, t303⟩, A2, H⟩ := bnd15_ H; dsimp only at H
 simp only [Option.some.injEq, Prod.mk.injEq] at H
 obtain ⟨rfl, rfl, rfl⟩ := H
 go_enter Tryz.func29, Tryz.ntmps29
 try go_wp2_with (first | ((with_reducible refine gw_ rfl ?_); first | (refine be_ 3 #[.int .i64 0, .int .i64 0] 48 ?_; intro gb298 hg w3 hbox hb; have n_ := ac_ (below_step s1_ hb) <| ac_ (hbox) <| ac_ ((gz_ w hg s1_)) <| Aside0.mk ((gz_ w hg s1_)); clear HB; obtain ⟨HB, BK298, GW298, GE298⟩ := n_; clear hb hbox hg) | (refine be_ 5 #[.int .i64 0, .int .i64 0] 48 ?_; intro gb304 hg w5 hbox hb; have n_ := ac_ (Kd.R_below (Kd.R_elderB (by (with_reducible repeat (first | apply Kd.R_alloc | apply Kd.R_drewN | apply Kd.R_drew)); exact HO301.out) gb304 (Nat.le_of_eq hg.symm)) hb) <| ac_ (blk_below (g := gb298) (o := .cells #[.int .i64 0, .int .i64 0] 48 (0, 0)) q15_3 hb) <| ac_ (below_step q15_1 hb) <| ac_ (hbox) <| ac_ ((gz_ w hg q15_1)) <| ac_ ((gz_ w hg q15_1)) <| ac_ ((nl_ hg (blk_lt (g := gb298) (o := .cells #[.int .i64 0, .int .i64 0] 48 (0, 0)) q15_3))) <| Aside0.mk ((ng_ hg (blk_lt (g := gb298) (o := .cells #[.int .i64 0, .int .i64 0] 48 (0, 0)) q15_3))); clear HO301 BK298 HB; obtain ⟨HO301, BK298, HB, BK304, GW304, GE304, NB298_304, NB304_298⟩ := n_; clear hb hbox hg; have hnb6 := NB304_298.out; have hnc6 := NB298_304.out; have hcz7_0 : w5.cell? ⟨gb304, 0, none⟩ = some (.int .i64 0) := (blk_cell BK304.out 0).trans rfl; have hcz7_1 : w5.cell? ⟨gb304, 1, none⟩ = some (.int .i64 0) := (blk_cell BK304.out 1).trans rfl; have hfz7_0 := blk_frozen BK304.out 0; have hfz7_1 := blk_frozen BK304.out 1)) | ((with_reducible refine gate_callee (f := 67) rfl ?_); refine goesL_ (some 8) rfl rfl Tryz.func67 (by kernel_rfl) rfl #[.slice A0 l0.length c0] rfl (by (try simp only [List.map_toArray, List.map_cons, List.map_nil]); first | done | rfl | (simp only [List.length_drop, List.length_take]; rfl)) ?_; (with_reducible refine (spec_DrawFollows.calls k _ _ l0 t299 t302 t303 _ ?side1 ?side2 A2.out).mono ?_); (case side1 => repeat (first | exact (Kd.C_below HR0.out HB.out) | (with_reducible refine Kd.C_alloc ?_ _) | (with_reducible refine Kd.C_drewN ?_ _) | (with_reducible refine Kd.C_drew ?_))); (case side2 => exact HC0.out); rintro e w4 ⟨v300, rfl, ho0, hb⟩; refine ⟨_, rfl, ?_⟩; have n_ := ac_ (Kd.R_lower (Kd.R_newB ho0 (g := gb298) (o := .cells #[.int .i64 0, .int .i64 0] 48 (0, 0)) q15_3) (below_size q15_1)) <| ac_ (blk_below (g := gb298) (o := .cells #[.int .i64 0, .int .i64 0] 48 (0, 0)) q15_3 hb) <| Aside0.mk (below_step q15_1 hb); clear BK298 HB; obtain ⟨HO301, BK298, HB⟩ := n_; (try clear hb ho0)))
 have n0_ : Aside0 (Kd.R k48 48 ((w5.setCell ⟨gb304, 0, none⟩ (.int .i64 t302)).setCell ⟨gb304, 1, none⟩ (.int .i64 t303)) w.heap.size (fun k_ => k_ ≠ gb298 ∧ k_ ≠ gb304) v300 t299) := ⟨by (with_reducible repeat (first | apply Kd.R_alloc | apply Kd.R_drewN | apply Kd.R_drew)); exact Kd.R_mono (Kd.R_far (p := ⟨gb304, 1, none⟩) (Kd.R_far (p := ⟨gb304, 0, none⟩) (Kd.R_mono HO301.out (fun k_ hk => (⟨hk, hk.2⟩ : _ ∧ k_ ≠ gb304))) (fun _ hk => hk.2) (.int .i64 t302)) (fun _ hk => hk.2) (.int .i64 t303)) (fun _ hk => ⟨hk.1.1.2, hk.1.2⟩)⟩
 have n1_ : Aside0 (((w5.setCell ⟨gb304, 0, none⟩ (.int .i64 t302)).setCell ⟨gb304, 1, none⟩ (.int .i64 t303)).heap[gb298]? = some (.cells #[.int .i64 0, .int .i64 0] 48 (0, 0))) := ⟨by (with_reducible repeat (first | refine blk_drewN ?_ _ | refine blk_drew ?_ | refine blk_alloc ?_ _)); refine blk_far ?_ NB298_304.out _; (with_reducible repeat (first | refine blk_drewN ?_ _ | refine blk_drew ?_ | refine blk_alloc ?_ _)); refine blk_far ?_ NB298_304.out _; (with_reducible repeat (first | refine blk_drewN ?_ _ | refine blk_drew ?_ | refine blk_alloc ?_ _)); exact BK298.out⟩
 have n2_ : Aside0 (((w5.setCell ⟨gb304, 0, none⟩ (.int .i64 t302)).setCell ⟨gb304, 1, none⟩ (.int .i64 t303)).heap[gb304]? = some (.cells #[.int .i64 t302, .int .i64 t303] 48 (0, 0))) := ⟨by (with_reducible repeat (first | refine blk_drewN ?_ _ | refine blk_drew ?_ | refine blk_alloc ?_ _)); refine blk_put (cs := #[.int .i64 t302, .int .i64 0]) ?_ 1 _ rfl; (with_reducible repeat (first | refine blk_drewN ?_ _ | refine blk_drew ?_ | refine blk_alloc ?_ _)); refine blk_put (cs := #[.int .i64 0, .int .i64 0]) ?_ 0 _ rfl; (with_reducible repeat (first | refine blk_drewN ?_ _ | refine blk_drew ?_ | refine blk_alloc ?_ _)); exact BK304.out⟩
 have n3_ : Aside0 (Below w.heap.size w ((w5.setCell ⟨gb304, 0, none⟩ (.int .i64 t302)).setCell ⟨gb304, 1, none⟩ (.int .i64 t303))) := ⟨by repeat (first | (with_reducible first | exact HB.out | apply below_alloc | apply pw_below_drewN | apply below_drew1 | refine below_set ?_ GE298.out | refine below_set ?_ GE304.out) | exact HB.out)⟩
 (try clear HO301)
 (try clear BK298)
 (try clear BK304)
 (try clear HB)
 generalize ((w5.setCell ⟨gb304, 0, none⟩ (.int .i64 t302)).setCell ⟨gb304, 1, none⟩ (.int .i64 t303)) = w8 at n0_ n1_ n2_ n3_ ⊢
 have HO301 := n0_; have BK298 := n1_; have BK304 := n2_; have HB := n3_; clear n0_ n1_ n2_ n3_; have n0_ := Aside0.mk (Kd.R_drew HO301.out); have n1_ := Aside0.mk (blk_drew BK298.out); have n2_ := Aside0.mk (blk_drew BK304.out); have n3_ := Aside0.mk (below_drew1 HB.out); clear HO301; clear BK298; clear BK304; clear HB; have HO301 := n0_; have BK298 := n1_; have BK304 := n2_; have HB := n3_; clear n0_ n1_ n2_ n3_
 refine start_ (n := 4) (S := fun w' => w'.cell? ⟨gb304, 0, none⟩ = some (.int .i64 t302) ∧ w'.cell? ⟨gb304, 1, none⟩ = some (.int .i64 t303)) (ds := []) (tb_ 4 0) (by kernel_rfl) rfl rfl ⟨(blk_cell BK304.out 0).trans rfl, (blk_cell BK304.out 1).trans rfl⟩ (fun hHeld => ?_)
 generalize w8.drew = w9 at HO301 BK298 BK304 HB hHeld ⊢
 refine pl_ 0 11 (tb_ 4 1) ?_; refine pl_ 2 2 (tb_ 4 5) ?_
 refine take_ (i := 1) (N := some 12) (v := ?_) (a' := ?_) (tb_ 4 7) rfl rfl (by kernel_rfl) (fun _ _ _ h => h) (Or.inl ⟨by rfl, ?_⟩) hHeld ?_ ?_
 rotate_left
 ·
  rintro w' ⟨s0, s1⟩
  go_simp; with_reducible rfl
 rotate_left
 ·
  simp only [Act.put, List.setIfInBounds_toArray, List.set_cons_zero, List.set_cons_succ, i64_w, i32_w]
  rfl
 refine one_ (i := 3) (N := none) (tb_ 4 15) rfl rfl (by kernel_rfl) (by decide) (fun K hK => ?_)
 have hs10 : w9.cell? ⟨gb298, 0, none⟩ = some (.int .i64 0) := (blk_cell BK298.out 0).trans rfl; have hfs10 := blk_frozen BK298.out 0; have hns10_1 := NB304_298.out; have hms10_1 := NB298_304.out; have hs11 : w9.cell? ⟨gb298, 1, none⟩ = some (.int .i64 0) := (blk_cell BK298.out 1).trans rfl; have hfs11 := blk_frozen BK298.out 1; have hns11_1 := NB304_298.out; have hms11_1 := NB298_304.out
 refine skip_ (w1 := ?_) (by rfl) rfl ?_ ?_
 rotate_left
 ·
  go_simp
  rfl
 refine hK.out _ _ ⟨((cell_far (p := ⟨gb298, _, none⟩) NB304_298.out _).trans (((cell_far (p := ⟨gb298, _, none⟩) NB304_298.out _).trans (hHeld.1)))), ((cell_far (p := ⟨gb298, _, none⟩) NB304_298.out _).trans (((cell_far (p := ⟨gb298, _, none⟩) NB304_298.out _).trans (hHeld.2))))⟩ (fun hHeld => ?_)
 clear hK K
 refine done_ (by kernel_rfl) ?_
 try go_wp2
 refine bodyPost_ret (results_tc rfl _ _ gb298 48 #[.int .i64 t302, .int .i64 t303] (0, 0) _ rfl (by (with_reducible repeat (first | refine blk_drewN ?_ _ | refine blk_drew ?_ | refine blk_alloc ?_ _)); refine blk_put (cs := #[.int .i64 t302, .int .i64 0]) ?_ 1 _ rfl; (with_reducible repeat (first | refine blk_drewN ?_ _ | refine blk_drew ?_ | refine blk_alloc ?_ _)); refine blk_put (cs := #[.int .i64 0, .int .i64 0]) ?_ 0 _ rfl; (with_reducible repeat (first | refine blk_drewN ?_ _ | refine blk_drew ?_ | refine blk_alloc ?_ _)); exact BK298.out) Tryz.underlying48 rfl (by kernel_rfl)) rfl ?_
 exact ⟨_, (by first | rfl | (simp [errW_none, errW_some] <;> rfl) | (simp [*, errW_none, errW_some] <;> rfl)), (by (with_reducible repeat (first | apply Kd.R_alloc | apply Kd.R_drewN | apply Kd.R_drew)); exact Kd.R_mono (Kd.R_far (p := ⟨gb298, 1, none⟩) (Kd.R_far (p := ⟨gb298, 0, none⟩) (Kd.R_mono HO301.out (fun k_ hk => (⟨hk, hk.1⟩ : _ ∧ k_ ≠ gb298))) (fun _ hk => hk.2) (.int .i64 t302)) (fun _ hk => hk.2) (.int .i64 t303)) (fun _ hk => trivial)), (by repeat (first | (with_reducible first | exact HB.out | apply below_alloc | apply pw_below_drewN | apply below_drew1 | refine below_set ?_ GE298.out | refine below_set ?_ GE304.out) | exact HB.out))⟩
theorem q15_5 {P : Prop} (h : P := by repeat (first | (with_reducible first | exact HB.out | apply below_alloc | apply pw_below_drewN | apply below_drew1 | refine below_set ?_ GE355.out) | exact HB.out)) : P := h
theorem q15_8 {P : Prop} (h : P := by (with_reducible repeat (first | refine blk_drewN ?_ _ | refine blk_drew ?_ | refine blk_alloc ?_ _)); exact BK355.out) : P := h
theorem q15_9 {P : Prop} (h : P := by (with_reducible repeat (first | apply Kd.R_alloc | apply Kd.R_drewN | apply Kd.R_drew)); exact HO358.out) : P := h
mutual
def spec_ProofOf.l0 : Nat → List (S48) → List (S110) → Int → Int → Int → Option ((List (S110)) × Bool)
 | 0, _, _, _, _, _ => none
 | k + 1, x0, x6, x7, x356000, x356001 => if (Go.bits .and .i64 x7 x356001) = x356001 then (some (x6, true)) else (spec_ProofOf.l1 k x0 x6 x7 0 x356000 x356001)
def spec_ProofOf.l1 : Nat → List (S48) → List (S110) → Int → Int → Int → Int → Option ((List (S110)) × Bool)
 | 0, _, _, _, _, _, _ => none
 | k + 1, x0, x6, x7, x8, x356000, x356001 => if 0 ≤ x8 then (if x8 < (x0.length : Int) then ((spec_Respects.f ((rd_T48 x0 x8).f0) ((rd_T48 x0 x8).f1) x7).bind fun t361 => (if t361 = true then (spec_ProofOf.l1 k x0 x6 x7 (wrap64 (x8 + 1)) x356000 x356001) else (if x6.length < 8796093022208 then (spec_ProofOf.l0 k x0 (x6 ++ [(⟨x8, Go.bits .or .i64 x7 ((rd_T48 x0 x8).f1)⟩ : S110)]) (Go.bits .or .i64 x7 ((rd_T48 x0 x8).f1)) x356000 x356001) else (none)))) else (none)) else (none)
end
def spec_ProofOf.f (k : Nat) (l0 : List (S48)) (a1_0 : Int) (a1_1 : Int) : Option ((List (S110)) × Bool) := (some (([] : List (S110)) : List (S110))).bind fun y356 => ((spec_Follows.f k l0 a1_0 a1_1).bind fun t359 => (if t359 = true then (spec_ProofOf.l0 k l0 y356 a1_0 a1_0 a1_1) else (some (y356, false))))
theorem spec_ProofOf.calls (k : Nat) (A0 : Option Addr) (c0 : Nat) (l0 : List (S48)) (a1_0 : Int) (a1_1 : Int) (r1 : List (S110)) (r2 : Bool) (w : World) (hr0 : Kd.C k48 w A0 l0.length l0) (hc0 : l0.length ≤ c0) (h : spec_ProofOf.f k l0 a1_0 a1_1 = some (r1, r2)) :
  Calls Tryz.prog 31 #[.slice A0 l0.length c0, .agg #[.int .i64 a1_0, .int .i64 a1_1]] w fun e w' => ∃ v0_ : Value, e = .returned (.tuple #[v0_, .bool r2]) ∧ Kd.R k110 110 w' w.heap.size (fun _ => True) v0_ r1 ∧ Below w.heap.size w w' := by
 have hu48 := Tryz.underlying48; have hu110 := Tryz.underlying110; have HR0 := Aside0.mk hr0; have HC0 := Aside0.mk hc0; clear hr0 hc0; have HB := Aside0.mk (Below.refl w.heap.size w); have H := h; clear h; unfold spec_ProofOf.f at H; obtain ⟨y356, hy_⟩ : ∃ y_ : List (S110), y_ = (([] : List (S110))) := ⟨_, rfl⟩
 replace H : ((spec_Follows.f k l0 a1_0 a1_1).bind fun t359 => (if t359 = true then (spec_ProofOf.l0 k l0 y356 a1_0 a1_0 a1_1) else (some (y356, false)))) = some (r1, r2) := rH_
 have Ny356 := Aside0.mk hy_; clear hy_; obtain ⟨t359, A3, H⟩ := bnd15_ H
 by_cases c4 : t359 = true
 ·
  subst c4; rw [if_pos rfl] at H; have H' := Aside0.mk H; clear H
  go_enter Tryz.func31, Tryz.ntmps31
  go_wp2_with ((with_reducible refine gw_ rfl ?_); first | (refine be_ 3 #[.int .i64 a1_0, .int .i64 a1_1] 48 ?_; intro gb355 hg w5 hbox hb; have n_ := ac_ (below_step s1_ hb) <| ac_ (hbox) <| ac_ ((gz_ w hg s1_)) <| Aside0.mk ((gz_ w hg s1_)); clear HB; obtain ⟨HB, BK355, GW355, GE355⟩ := n_; clear hb hbox hg) | (refine rl_ k110 110 9 ?_; intro v357 w6 ho7 hb hg_ hnew_; clear hg_ hnew_; (first | rw [← Ny356.out] at ho7 | (simp only [Int.reduceToNat] at ho7; rw [← Ny356.out] at ho7)); have n_ := ac_ (Kd.R_lower ho7 (below_size q15_5)) <| ac_ (blk_below (g := gb355) (o := .cells #[.int .i64 a1_0, .int .i64 a1_1] 48 (0, 0)) q15_8 hb) <| Aside0.mk (below_step q15_5 hb); clear BK355 HB; obtain ⟨HO358, BK355, HB⟩ := n_; clear hb ho7; have hcz8_0 : w6.cell? ⟨gb355, 0, none⟩ = some (.int .i64 a1_0) := (blk_cell BK355.out 0).trans rfl; have hcz8_1 : w6.cell? ⟨gb355, 1, none⟩ = some (.int .i64 a1_1) := (blk_cell BK355.out 1).trans rfl; have hfz8_0 := blk_frozen BK355.out 0; have hfz8_1 := blk_frozen BK355.out 1) | (refine gL_ 49 12 Tryz.func49 #[.slice A0 l0.length c0, .agg #[.int .i64 a1_0, .int .i64 a1_1]] ?_; (with_reducible refine (spec_Follows.calls k _ _ l0 a1_0 a1_1 true _ ?side1 ?side2 A3.out).mono ?_); (case side1 => exact s5_); (case side2 => exact HC0.out); rintro e w9 ⟨rfl, hb⟩; refine ⟨_, rfl, ?_⟩; have n_ := ac_ (Kd.R_below q15_9 hb) <| ac_ (blk_below (g := gb355) (o := .cells #[.int .i64 a1_0, .int .i64 a1_1] 48 (0, 0)) q15_8 hb) <| Aside0.mk (below_step q15_5 hb); clear HO358 BK355 HB; obtain ⟨HO358, BK355, HB⟩ := n_; (try clear hb); have hcz10_0 : w9.cell? ⟨gb355, 0, none⟩ = some (.int .i64 a1_0) := (blk_cell BK355.out 0).trans rfl; have hcz10_1 : w9.cell? ⟨gb355, 1, none⟩ = some (.int .i64 a1_1) := (blk_cell BK355.out 1).trans rfl; have hfz10_0 := blk_frozen BK355.out 0; have hfz10_1 := blk_frozen BK355.out 1))
  go_loopg [6, 7] k (fun kq v6 v7 w' => ∃ (x6_1 : List (S110)) (x7_1 : Int), v7 = .int .i64 x7_1 ∧ Aside0 (spec_ProofOf.l0 kq l0 x6_1 x7_1 a1_0 a1_1 = some (r1, r2)) ∧ Aside0 (kq ≤ k) ∧ Aside0 (Kd.R k110 110 w' w.heap.size (fun _ => True) v6 x6_1) ∧ Aside0 (w'.heap[gb355]? = some (.cells #[.int .i64 a1_0, .int .i64 a1_1] 48 (0, 0))) ∧ Aside0 (Below w.heap.size w w'))
  case atStart => exact ⟨(y356), (a1_0), s2_, H', ⟨Nat.le_refl _⟩, ⟨q15_9⟩, ⟨q15_8⟩, ⟨q15_5⟩⟩
  case round =>
   clear H'
   try clear p2
   try clear c3
   try clear c4
   try clear hcz10_0
   try clear hcz10_1
   try clear hcz8_0
   try clear hcz8_1
   try clear hfz10_0
   try clear hfz10_1
   try clear hfz8_0
   try clear hfz8_1
   obtain ⟨x6_1, x7_1, rfl, HA, HK1, HO_6, BK355, HB⟩ := hrel
   cases gk with
   | zero => exact absurd HA.out (by simp [spec_ProofOf.l0])
   | succ k1 =>
    have H := HA.out; clear HA
    simp only [spec_ProofOf.l0] at H
    by_cases c11 : (Go.bits .and .i64 x7_1 a1_1) = a1_1
    ·
     rw [if_pos c11] at H; have c11b0 : ((Go.bits .and .i64 x7_1 a1_1) == a1_1) = true := beq_iff_eq.mpr c11; have c11b1 : ((Go.bits .and .i64 x7_1 a1_1) != a1_1) = false := bne_eq_false_iff_eq.mpr c11; clear c11
     simp only [Option.some.injEq, Prod.mk.injEq] at H
     obtain ⟨rfl, rfl⟩ := H; have hcz12_0 : wr.cell? ⟨gb355, 0, none⟩ = some (.int .i64 a1_0) := (blk_cell BK355.out 0).trans rfl; have hcz12_1 : wr.cell? ⟨gb355, 1, none⟩ = some (.int .i64 a1_1) := (blk_cell BK355.out 1).trans rfl; have hfz12_0 := blk_frozen BK355.out 0; have hfz12_1 := blk_frozen BK355.out 1
     go_wp2
     go_ret2
     exact ⟨_, (by first | rfl | (simp [errW_none, errW_some] <;> rfl) | (simp [*, errW_none, errW_some] <;> rfl)), s15_, q15_5⟩
    ·
     rw [if_neg c11] at H; have c11b0 : ((Go.bits .and .i64 x7_1 a1_1) == a1_1) = false := beq_eq_false_iff_ne.mpr c11; have c11b1 : ((Go.bits .and .i64 x7_1 a1_1) != a1_1) = true := bne_iff_ne.mpr c11; have H' := Aside0.mk H; clear H; have hcz13_0 : wr.cell? ⟨gb355, 0, none⟩ = some (.int .i64 a1_0) := (blk_cell BK355.out 0).trans rfl; have hcz13_1 : wr.cell? ⟨gb355, 1, none⟩ = some (.int .i64 a1_1) := (blk_cell BK355.out 1).trans rfl; have hfz13_0 := blk_frozen BK355.out 0; have hfz13_1 := blk_frozen BK355.out 1
     go_wp2
     go_loopg [8] k1 (fun kq v8 w' => ∃ (x8_2 : Int), v8 = .int .i64 x8_2 ∧ Aside0 (spec_ProofOf.l1 kq l0 x6_1 x7_1 x8_2 a1_0 a1_1 = some (r1, r2)) ∧ Aside0 (kq ≤ k1) ∧ Aside0 (Kd.R k110 110 w' w.heap.size (fun _ => True) u6 x6_1) ∧ Aside0 (w'.heap[gb355]? = some (.cells #[.int .i64 a1_0, .int .i64 a1_1] 48 (0, 0))) ∧ Aside0 (Below w.heap.size w w'))
     case atStart => exact ⟨(0), s2_, H', ⟨Nat.le_refl _⟩, ⟨s15_⟩, ⟨q15_8⟩, ⟨q15_5⟩⟩
     case round =>
      clear H'
      try clear c1
      try clear p2
      try clear c3
      try clear c4
      try clear c11
      try clear c11b0
      try clear c11b1
      try clear hcz10_0
      try clear hcz10_1
      try clear hcz12_0
      try clear hcz12_1
      try clear hcz13_0
      try clear hcz13_1
      try clear hcz8_0
      try clear hcz8_1
      try clear hfz10_0
      try clear hfz10_1
      try clear hfz12_0
      try clear hfz12_1
      try clear hfz13_0
      try clear hfz13_1
      try clear hfz8_0
      try clear hfz8_1
      try clear p2
      obtain ⟨x8_2, rfl, HA, HK2, HO_6, BK355, HB⟩ := hrel
      cases gk with
      | zero => exact absurd HA.out (by simp [spec_ProofOf.l1])
      | succ k2 =>
       have H := HA.out; clear HA
       simp only [spec_ProofOf.l1] at H
       by_cases c14 : 0 ≤ x8_2
       ·
        rw [if_pos c14] at H; have c14b0 : decide (0 ≤ x8_2) = true := decide_eq_true c14; clear c14
        by_cases c15 : x8_2 < (l0.length : Int)
        ·
         rw [if_pos c15] at H; have c15b0 : decide (x8_2 < (l0.length : Int)) = true := decide_eq_true c15; clear c15; obtain ⟨t361, A16, H⟩ := bnd15_ H
         by_cases c17 : t361 = true
         ·
          subst c17; rw [if_pos rfl] at H; have H' := Aside0.mk H; clear H; have p360 : 0 ≤ (x8_2 : Int) := of_decide_eq_true s3_; have q360 : x8_2 < (l0.length : Int) := of_decide_eq_true s3_; obtain ⟨ad360, e360, hx360_0, hx360_1⟩ := at_T48 HR0.out x8_2 p360 q360
          cases e360
          replace hx360_0 := (HB.out.cell (World.block_lt_of_cell? w _ hx360_0)).trans hx360_0; replace hx360_1 := (HB.out.cell (World.block_lt_of_cell? w _ hx360_1)).trans hx360_1; replace p360 := eq_true p360; replace q360 := eq_true q360
          go_wp2_with ((with_reducible refine gw_ rfl ?_); (refine gL_ 80 29 Tryz.func80 #[.agg #[.int .i64 ((rd_T48 l0 x8_2).f0), .int .i64 ((rd_T48 l0 x8_2).f1)], .int .i64 x7_1] ?_; (with_reducible refine (spec_Respects.calls ((rd_T48 l0 x8_2).f0) ((rd_T48 l0 x8_2).f1) x7_1 true _ A16.out).mono ?_); rintro e w18 ⟨rfl, hb⟩; refine ⟨_, rfl, ?_⟩; have n_ := ac_ (Kd.R_below s15_ hb) <| ac_ (blk_below (g := gb355) (o := .cells #[.int .i64 a1_0, .int .i64 a1_1] 48 (0, 0)) q15_8 hb) <| Aside0.mk (below_step q15_5 hb); clear HO_6 BK355 HB; obtain ⟨HO_6, BK355, HB⟩ := n_; (try clear hb)))
          go_roundg k2
          case measure => have := HK1.out; have := HK2.out; omega
          case rel => exact ⟨(wrap64 (x8_2 + 1)), s2_, H', ⟨by have := HK1.out; have := HK2.out; omega⟩, ⟨s15_⟩, ⟨q15_8⟩, ⟨q15_5⟩⟩
         ·
          replace c17 := Bool.eq_false_iff.mpr c17; subst c17
          rw [if_neg (show ¬ (false = true) by decide)] at H
          by_cases c19 : x6_1.length < 8796093022208
          ·
           rw [if_pos c19] at H; have LMc19 := Aside0.mk c19; clear c19; obtain ⟨y363, hy_⟩ : ∃ y_ : List (S110), y_ = (x6_1 ++ [(⟨x8_2, Go.bits .or .i64 x7_1 ((rd_T48 l0 x8_2).f1)⟩ : S110)]) := ⟨_, rfl⟩
           replace H : (spec_ProofOf.l0 k2 l0 y363 (Go.bits .or .i64 x7_1 ((rd_T48 l0 x8_2).f1)) a1_0 a1_1) = some (r1, r2) := rH_
           have Ny363 := Aside0.mk hy_; clear hy_; have H' := Aside0.mk H; clear H; have p360 : 0 ≤ (x8_2 : Int) := of_decide_eq_true s3_; have q360 : x8_2 < (l0.length : Int) := of_decide_eq_true s3_; obtain ⟨ad360, e360, hx360_0, hx360_1⟩ := at_T48 HR0.out x8_2 p360 q360
           cases e360
           replace hx360_0 := (HB.out.cell (World.block_lt_of_cell? w _ hx360_0)).trans hx360_0; replace hx360_1 := (HB.out.cell (World.block_lt_of_cell? w _ hx360_1)).trans hx360_1; replace p360 := eq_true p360; replace q360 := eq_true q360
           go_wp2_with (first | ((with_reducible refine gw_ rfl ?_); (refine gL_ 80 29 Tryz.func80 #[.agg #[.int .i64 ((rd_T48 l0 x8_2).f0), .int .i64 ((rd_T48 l0 x8_2).f1)], .int .i64 x7_1] ?_; (with_reducible refine (spec_Respects.calls ((rd_T48 l0 x8_2).f0) ((rd_T48 l0 x8_2).f1) x7_1 false _ A16.out).mono ?_); rintro e w20 ⟨rfl, hb⟩; refine ⟨_, rfl, ?_⟩; have n_ := ac_ (Kd.R_below s15_ hb) <| ac_ (blk_below (g := gb355) (o := .cells #[.int .i64 a1_0, .int .i64 a1_1] 48 (0, 0)) q15_8 hb) <| Aside0.mk (below_step q15_5 hb); clear HO_6 BK355 HB; obtain ⟨HO_6, BK355, HB⟩ := n_; (try clear hb); have p362 : 0 ≤ (x8_2 : Int) := of_decide_eq_true s3_; have q362 : x8_2 < (l0.length : Int) := of_decide_eq_true s3_; obtain ⟨ad362, e362, hx362_0, hx362_1⟩ := at_T48 HR0.out x8_2 p362 q362; obtain rfl : ad360 = ad362 := (by injection e362); replace hx362_0 := (HB.out.cell (World.block_lt_of_cell? w _ hx362_0)).trans hx362_0; replace hx362_1 := (HB.out.cell (World.block_lt_of_cell? w _ hx362_1)).trans hx362_1; replace p362 := eq_true p362; replace q362 := eq_true q362)) | ((with_reducible refine gate_builtin (b := .append) (xs := #[.tmp 39, .tmp 43]) rfl ?_); at_builtin; refine Kd.R_append k110 (w0 := w) w.heap.size rfl (.tmp 39) (.tmp 43) 51 110 (.agg #[(.int .i64 0), (.int .i64 0)]) 16 rfl Tryz.underlying51 info110 rfl (by decide) (by omega) u6 x6_1 (⟨x8_2, Go.bits .or .i64 x7_1 ((rd_T48 l0 x8_2).f1)⟩ : S110) [.int .i64 x8_2, .int .i64 (Go.bits .or .i64 x7_1 ((rd_T48 l0 x8_2).f1))] (fun _ => True) (fun _ => False) rfl rfl ?aP (fun _ hk => hk.elim) ?aF ?aO ?aB ?aS ?aL ?_; (case aP => exact k110_mkM _ _ _ (⟨x8_2, Go.bits .or .i64 x7_1 ((rd_T48 l0 x8_2).f1)⟩ : S110)); (case aB => exact q15_5); (case aF => exact (fun _ _ => trivial)); (case aO => exact s15_); (case aS => exact (below_size q15_5)); (case aL => have := LMc19.out; omega); intro v364 w21 ho hb hg hat; rw [← Ny363.out] at ho; have n_ := ac_ (blk_grown (g := gb355) (o := .cells #[.int .i64 a1_0, .int .i64 a1_1] 48 (0, 0)) q15_8 hg (Kd.R_ne HO_6.out BK355.out (by decide))) <| ac_ (hb) <| Aside0.mk (ho); clear BK355 HB HO_6; obtain ⟨BK355, HB, HO365⟩ := n_; clear ho hb hg hat))
           go_roundg k2
           case measure => have := HK1.out; have := HK2.out; omega
           case rel => exact ⟨(y363), (Go.bits .or .i64 x7_1 ((rd_T48 l0 x8_2).f1)), s2_, H', ⟨by have := HK1.out; have := HK2.out; omega⟩, ⟨(by (with_reducible repeat (first | apply Kd.R_alloc | apply Kd.R_drewN | apply Kd.R_drew)); exact HO365.out)⟩, ⟨q15_8⟩, ⟨q15_5⟩⟩
          ·
           rw [if_neg c19] at H
           exact absurd H (by simp)
        ·
         rw [if_neg c15] at H
         exact absurd H (by simp)
       ·
        rw [if_neg c14] at H
        exact absurd H (by simp)
 ·
  replace c4 := Bool.eq_false_iff.mpr c4; subst c4
  rw [if_neg (show ¬ (false = true) by decide)] at H
  simp only [Option.some.injEq, Prod.mk.injEq] at H
  obtain ⟨rfl, rfl⟩ := H
  go_enter Tryz.func31, Tryz.ntmps31
  go_wp2_with ((with_reducible refine gw_ rfl ?_); first | (refine be_ 3 #[.int .i64 a1_0, .int .i64 a1_1] 48 ?_; intro gb355 hg w22 hbox hb; have n_ := ac_ (below_step s1_ hb) <| ac_ (hbox) <| ac_ ((gz_ w hg s1_)) <| Aside0.mk ((gz_ w hg s1_)); clear HB; obtain ⟨HB, BK355, GW355, GE355⟩ := n_; clear hb hbox hg) | (refine rl_ k110 110 9 ?_; intro v357 w23 ho24 hb hg_ hnew_; clear hg_ hnew_; (first | rw [← Ny356.out] at ho24 | (simp only [Int.reduceToNat] at ho24; rw [← Ny356.out] at ho24)); have n_ := ac_ (Kd.R_lower ho24 (below_size q15_5)) <| ac_ (blk_below (g := gb355) (o := .cells #[.int .i64 a1_0, .int .i64 a1_1] 48 (0, 0)) q15_8 hb) <| Aside0.mk (below_step q15_5 hb); clear BK355 HB; obtain ⟨HO358, BK355, HB⟩ := n_; clear hb ho24; have hcz25_0 : w23.cell? ⟨gb355, 0, none⟩ = some (.int .i64 a1_0) := (blk_cell BK355.out 0).trans rfl; have hcz25_1 : w23.cell? ⟨gb355, 1, none⟩ = some (.int .i64 a1_1) := (blk_cell BK355.out 1).trans rfl; have hfz25_0 := blk_frozen BK355.out 0; have hfz25_1 := blk_frozen BK355.out 1) | (refine gL_ 49 12 Tryz.func49 #[.slice A0 l0.length c0, .agg #[.int .i64 a1_0, .int .i64 a1_1]] ?_; (with_reducible refine (spec_Follows.calls k _ _ l0 a1_0 a1_1 false _ ?side1 ?side2 A3.out).mono ?_); (case side1 => exact s5_); (case side2 => exact HC0.out); rintro e w26 ⟨rfl, hb⟩; refine ⟨_, rfl, ?_⟩; have n_ := ac_ (Kd.R_below q15_9 hb) <| ac_ (blk_below (g := gb355) (o := .cells #[.int .i64 a1_0, .int .i64 a1_1] 48 (0, 0)) q15_8 hb) <| Aside0.mk (below_step q15_5 hb); clear HO358 BK355 HB; obtain ⟨HO358, BK355, HB⟩ := n_; (try clear hb)))
  go_ret2
  exact ⟨_, (by first | rfl | (simp [errW_none, errW_some] <;> rfl) | (simp [*, errW_none, errW_some] <;> rfl)), q15_9, q15_5⟩
theorem bnd6_ {α β : Type} {o : Option α} {f : α → Option β} {r : β} (h : o.bind f = some r) : ∃ a, Aside0 (o = some a) ∧ f a = some r := by
 obtain ⟨a, h1, h2⟩ := Option.bind_eq_some_iff.mp h
 exact ⟨a, ⟨h1⟩, h2⟩
theorem q6_1 {P : Prop} (h : P := by repeat (first | (with_reducible first | exact HI433.out | apply IsS152.alloc | apply IsS152.drewN | apply IsS152.drew | apply IsS152.set_1 | apply IsS152.set_2) | exact HI433.out)) : P := h
theorem q6_2 {P : Prop} (h : P := by repeat (first | (with_reducible first | exact HB.out | apply below_alloc | apply pw_below_drewN | apply below_drew1 | refine below_set ?_ (IsS152.ge HI433.out)) | exact HB.out)) : P := h
theorem q6_5 {P : Prop} (h : P := by (with_reducible repeat (first | apply Kd.R_alloc | apply Kd.R_drewN | apply Kd.R_drew)); exact HO439.out) : P := h
def spec_DrawAreRules.l0 : Nat → Int → List (S48) → Option (Int × (List (S48)))
 | 0, _, _ => none
 | k + 1, x5, x6 => if (x6.length : Int) < 41 then (if x6.length < 8796093022208 then (spec_DrawAreRules.l0 k x5 (x6 ++ [(⟨0, 0⟩ : S48)])) else (none)) else (some (x5, x6))
def spec_DrawAreRules.f (k : Nat) (l0 : List Int) : Option (Int × (List (S48))) := (spec_l1New.f k l0).bind fun bt430 => ((spec_l1Below.f bt430.1 bt430.2.1 bt430.2.2 6).bind fun bt434 => ((spec_l9Bent.f k bt430.1 bt434.2.1 bt434.2.2 bt434.1).bind fun bt437 => ((spec_l1Below.f bt430.1 bt437.2.1 bt437.2.2 12).bind fun bt442 => (if bt442.1 = 0 then ((spec_l1PickInt.f bt430.1 bt442.2.1 bt442.2.2 (([(-1), 7, 1] : List Int))).bind fun bt448 => (some (bt448.1, bt437.1))) else (if bt442.1 = 1 then (spec_DrawAreRules.l0 k bt434.1 bt437.1) else (some (bt434.1, bt437.1)))))))
theorem spec_DrawAreRules.calls (k : Nat) (A0 : Option Addr) (c0 : Nat) (l0 : List Int) (r1 : Int) (r2 : List (S48)) (w : World) (hr0 : Kd.C (Kd.int .u8) w A0 l0.length l0) (hc0 : l0.length ≤ c0) (h : spec_DrawAreRules.f k l0 = some (r1, r2)) :
  Calls Tryz.prog 72 #[.slice A0 l0.length c0] w fun e w' => ∃ v1_ : Value, e = .returned (.tuple #[.int .i64 r1, v1_]) ∧ Kd.R k48 48 w' w.heap.size (fun _ => True) v1_ r2 ∧ Below w.heap.size w w' := by
 have hu48 := Tryz.underlying48; have HR0 := Aside0.mk hr0; have HC0 := Aside0.mk hc0; clear hr0 hc0; have HB := Aside0.mk (Below.refl w.heap.size w); have H := h; clear h; unfold spec_DrawAreRules.f at H; obtain ⟨⟨t430, t431, t432⟩, A2, H⟩ := bnd6_ H; dsimp only at H; obtain ⟨⟨t434, t435, t436⟩, A3, H⟩ := bnd6_ H; dsimp only at H; obtain ⟨⟨t437, t440, t441⟩, A4, H⟩ := bnd6_ H; dsimp only at H; obtain ⟨⟨t442, t443, t444⟩, A5, H⟩ := bnd6_ H; dsimp only at H
 by_cases c6 : t442 = 0
 ·
  rw [if_pos c6] at H; have c6b0 : (t442 == 0) = true := beq_iff_eq.mpr c6; have c6b1 : (t442 != 0) = false := bne_eq_false_iff_eq.mpr c6; clear c6; obtain ⟨y445, hy_⟩ : ∃ y_ : List Int, y_ = (([(-1), 7, 1] : List Int)) := ⟨_, rfl⟩
  replace H : ((spec_l1PickInt.f t430 t443 t444 y445).bind fun bt448 => (some (bt448.1, t437))) = some (r1, r2) := rH_
  have Ny445 := Aside0.mk hy_; clear hy_; obtain ⟨⟨t448, t449, t450⟩, A7, H⟩ := bnd6_ H; dsimp only at H
  simp only [Option.some.injEq, Prod.mk.injEq] at H
  obtain ⟨rfl, rfl⟩ := H
  go_enter Tryz.func72, Tryz.ntmps72
  go_wp2_with (first | ((with_reducible refine gw_ rfl ?_); first | (refine gL_ 144 8 Tryz.func144 #[.slice A0 l0.length c0] ?_; (with_reducible refine (spec_l1New.calls k _ _ l0 t430 t431 t432 w _ ?side1 ?side2 ?side3 A2.out).mono ?_); (case side1 => exact s1_); (case side2 => exact HR0.out); (case side3 => exact HC0.out); rintro e w8 ⟨g433, rfl, hi, hb, hb2⟩; refine ⟨_, rfl, ?_⟩; have n_ := ac_ (hb) <| Aside0.mk (hi); clear HB; obtain ⟨HB, HI433⟩ := n_; (try clear hb hb2 hi)) | (refine gL_ 146 10 Tryz.func146 #[.pointer (some ⟨g433, 0, none⟩), .int .i64 6] ?_; (with_reducible refine (spec_l1Below.calls g433 t430 t431 t432 6 t434 t435 t436 w _ ?side1 ?side2 A3.out).mono ?_); (case side1 => exact q6_1); (case side2 => exact q6_2); rintro e w9 ⟨rfl, hi, hb, hk⟩; refine ⟨_, rfl, ?_⟩; have n_ := ac_ (hb) <| Aside0.mk (hi); clear HB HI433; obtain ⟨HB, HI433⟩ := n_; (try clear hb hk hi)) | (refine gL_ 148 13 Tryz.func148 #[.pointer (some ⟨g433, 0, none⟩), .int .i64 t434] ?_; (with_reducible refine (spec_l9Bent.calls k g433 t430 t435 t436 t434 t437 t440 t441 w _ ?side1 ?side2 A4.out).mono ?_); (case side1 => exact q6_1); (case side2 => exact q6_2); rintro e w10 ⟨v438, rfl, ho0, hi, hb, hk⟩; refine ⟨_, rfl, ?_⟩; have n_ := ac_ (Kd.R_lower ho0 (below_size q6_2)) <| ac_ (hb) <| Aside0.mk (hi); clear HB HI433; obtain ⟨HO439, HB, HI433⟩ := n_; (try clear hb hk hi ho0)) | (refine gL_ 146 15 Tryz.func146 #[.pointer (some ⟨g433, 0, none⟩), .int .i64 12] ?_; (with_reducible refine (spec_l1Below.calls g433 t430 t440 t441 12 t442 t443 t444 w _ ?side1 ?side2 A5.out).mono ?_); (case side1 => exact q6_1); (case side2 => exact q6_2); rintro e w11 ⟨rfl, hi, hb, hk⟩; refine ⟨_, rfl, ?_⟩; have n_ := ac_ (Kd.R_mono (Kd.R_keep (IsS152.apart (show IsS152 w _ g433 t430 t440 t441 from q6_1) q6_5 (by decide)) hk (fun _ h => h.2)) (fun _ h => h.1)) <| ac_ (hb) <| Aside0.mk (hi); clear HO439 HB HI433; obtain ⟨HO439, HB, HI433⟩ := n_; (try clear hb hk hi)) | (refine gL_ 147 20 Tryz.func147 #[.pointer (some ⟨g433, 0, none⟩), .slice Ao14 y445.length co14] ?_; (with_reducible refine (spec_l1PickInt.calls g433 t430 t443 t444 _ _ y445 t448 t449 t450 w _ ?side1 ?side2 ?side3 ?side4 ?side5 A7.out).mono ?_); (case side1 => exact q6_1); (case side2 => exact q6_2); (case side3 => repeat (first | exact (Kd.R_reads' HO447.out).2.2 | (with_reducible refine Kd.C_alloc ?_ _) | (with_reducible refine Kd.C_drewN ?_ _) | (with_reducible refine Kd.C_drew ?_))); (case side4 => exact (Kd.R_reads' HO447.out).2.1); (case side5 => exact far_slice (IsS152.own_ne HI433.out HO447.out (by decide))); rintro e w15 ⟨rfl, hi, hb, hk⟩; refine ⟨_, rfl, ?_⟩; have n_ := ac_ (Kd.R_mono (Kd.R_keep (IsS152.apart (show IsS152 w _ g433 t430 t443 t444 from q6_1) q6_5 (by decide)) hk (fun _ h => h.2)) (fun _ h => h.1)) <| ac_ (Kd.R_mono (Kd.R_keep (IsS152.apart (show IsS152 w _ g433 t430 t443 t444 from q6_1) (by (with_reducible repeat (first | apply Kd.R_alloc | apply Kd.R_drewN | apply Kd.R_drew)); exact HO447.out) (by decide)) hk (fun _ h => h.2)) (fun _ h => h.1)) <| ac_ (hb) <| Aside0.mk (hi); clear HO439 HO447 HB HI433; obtain ⟨HO439, HO447, HB, HI433⟩ := n_; (try clear hb hk hi))) | ((with_reducible refine gate_dst (N := 19) rfl ?_); refine Kd.R_lit (Kd.int .i64) _ 3 ?hg (N := 19) ?hd (xs := ([(-1), 7, 1] : List Int)) (inner := [.int .i64 (-1), .int .i64 7, .int .i64 1]) (ok := fun _ => True) (okp := fun _ => True) ?hr ?hp (fun _ hk => hk) trivial (Below.refl _ _) (Nat.le_refl _) (by simp) ?_; (case hd => rfl); (case hg => rfl); (case hr => first | (go_simp; done) | (go_simp; rfl)); (case hp => exact (Reps.one (show Kd.M (Kd.int .i64) _ _ _ (-1) [.int .i64 (-1)] from rfl) (Reps.one (show Kd.M (Kd.int .i64) _ _ _ 7 [.int .i64 7] from rfl) (Reps.one (show Kd.M (Kd.int .i64) _ _ _ 1 [.int .i64 1] from rfl) (Reps.none _ _))))); intro v446 w12 ho13 hb hg_ hnew_; clear hg_ hnew_; (first | rw [← Ny445.out] at ho13 | (simp only [Int.reduceToNat] at ho13; rw [← Ny445.out] at ho13)); have n_ := ac_ (Kd.R_below q6_5 hb) <| ac_ (Kd.R_lower ho13 (below_size q6_2)) <| ac_ (IsS152.below q6_1 hb) <| Aside0.mk (below_step q6_2 hb); clear HO439 HI433 HB; obtain ⟨HO439, HO447, HI433, HB⟩ := n_; clear hb ho13; obtain ⟨Ao14, co14, eo14⟩ := Kd.R_slice HO447.out; subst eo14))
  go_ret2
  exact ⟨_, s4_, q6_5, q6_2⟩
 ·
  rw [if_neg c6] at H; have c6b0 : (t442 == 0) = false := beq_eq_false_iff_ne.mpr c6; have c6b1 : (t442 != 0) = true := bne_iff_ne.mpr c6
  by_cases c16 : t442 = 1
  ·
   rw [if_pos c16] at H; have c16b0 : (t442 == 1) = true := beq_iff_eq.mpr c16; have c16b1 : (t442 != 1) = false := bne_eq_false_iff_eq.mpr c16; clear c16; have H' := Aside0.mk H; clear H
   go_enter Tryz.func72, Tryz.ntmps72
   go_wp2_with ((with_reducible refine gw_ rfl ?_); first | (refine gL_ 144 8 Tryz.func144 #[.slice A0 l0.length c0] ?_; (with_reducible refine (spec_l1New.calls k _ _ l0 t430 t431 t432 w _ ?side1 ?side2 ?side3 A2.out).mono ?_); (case side1 => exact s1_); (case side2 => exact HR0.out); (case side3 => exact HC0.out); rintro e w17 ⟨g433, rfl, hi, hb, hb2⟩; refine ⟨_, rfl, ?_⟩; have n_ := ac_ (hb) <| Aside0.mk (hi); clear HB; obtain ⟨HB, HI433⟩ := n_; (try clear hb hb2 hi)) | (refine gL_ 146 10 Tryz.func146 #[.pointer (some ⟨g433, 0, none⟩), .int .i64 6] ?_; (with_reducible refine (spec_l1Below.calls g433 t430 t431 t432 6 t434 t435 t436 w _ ?side1 ?side2 A3.out).mono ?_); (case side1 => exact q6_1); (case side2 => exact q6_2); rintro e w18 ⟨rfl, hi, hb, hk⟩; refine ⟨_, rfl, ?_⟩; have n_ := ac_ (hb) <| Aside0.mk (hi); clear HB HI433; obtain ⟨HB, HI433⟩ := n_; (try clear hb hk hi)) | (refine gL_ 148 13 Tryz.func148 #[.pointer (some ⟨g433, 0, none⟩), .int .i64 t434] ?_; (with_reducible refine (spec_l9Bent.calls k g433 t430 t435 t436 t434 t437 t440 t441 w _ ?side1 ?side2 A4.out).mono ?_); (case side1 => exact q6_1); (case side2 => exact q6_2); rintro e w19 ⟨v438, rfl, ho0, hi, hb, hk⟩; refine ⟨_, rfl, ?_⟩; have n_ := ac_ (Kd.R_lower ho0 (below_size q6_2)) <| ac_ (hb) <| Aside0.mk (hi); clear HB HI433; obtain ⟨HO439, HB, HI433⟩ := n_; (try clear hb hk hi ho0)) | (refine gL_ 146 15 Tryz.func146 #[.pointer (some ⟨g433, 0, none⟩), .int .i64 12] ?_; (with_reducible refine (spec_l1Below.calls g433 t430 t440 t441 12 t442 t443 t444 w _ ?side1 ?side2 A5.out).mono ?_); (case side1 => exact q6_1); (case side2 => exact q6_2); rintro e w20 ⟨rfl, hi, hb, hk⟩; refine ⟨_, rfl, ?_⟩; have n_ := ac_ (Kd.R_mono (Kd.R_keep (IsS152.apart (show IsS152 w _ g433 t430 t440 t441 from q6_1) q6_5 (by decide)) hk (fun _ h => h.2)) (fun _ h => h.1)) <| ac_ (hb) <| Aside0.mk (hi); clear HO439 HB HI433; obtain ⟨HO439, HB, HI433⟩ := n_; (try clear hb hk hi)))
   go_loopg [6] k (fun kq v6 w' => ∃ (x6_1 : List (S48)), Aside0 (spec_DrawAreRules.l0 kq t434 x6_1 = some (r1, r2)) ∧ Aside0 (kq ≤ k) ∧ Aside0 (Kd.R k48 48 w' w.heap.size (fun _ => True) v6 x6_1) ∧ Aside0 (Below w.heap.size w w'))
   case atStart => exact ⟨(t437), H', ⟨Nat.le_refl _⟩, ⟨q6_5⟩, ⟨q6_2⟩⟩
   case round =>
    clear H'
    try clear c1
    try clear p2
    try clear c6
    try clear c6b0
    try clear c6b1
    try clear c7
    try clear c14
    try clear c16
    try clear c16b0
    try clear c16b1
    obtain ⟨x6_1, HA, HK1, HO_6, HB⟩ := hrel
    cases gk with
    | zero => exact absurd HA.out (by simp [spec_DrawAreRules.l0])
    | succ k1 =>
     have H := HA.out; clear HA
     simp only [spec_DrawAreRules.l0] at H
     by_cases c21 : (x6_1.length : Int) < 41
     ·
      rw [if_pos c21] at H; have c21b0 : decide ((x6_1.length : Int) < 41) = true := decide_eq_true c21
      have c21b1 : decide (x6_1.length < 41) = true := decide_eq_true (by omega)
      clear c21
      by_cases c22 : x6_1.length < 8796093022208
      ·
       rw [if_pos c22] at H; have LMc22 := Aside0.mk c22; clear c22; obtain ⟨y451, hy_⟩ : ∃ y_ : List (S48), y_ = (x6_1 ++ [(⟨0, 0⟩ : S48)]) := ⟨_, rfl⟩
       replace H : (spec_DrawAreRules.l0 k1 t434 y451) = some (r1, r2) := rH_
       have Ny451 := Aside0.mk hy_; clear hy_; have H' := Aside0.mk H; clear H; obtain ⟨Ao23, co23, eo23⟩ := Kd.R_slice HO_6.out; subst eo23
       go_wp2_with (first | ((with_reducible refine gate_builtin (b := .append) (xs := #[.tmp 26, .tmp 28]) rfl ?_); at_builtin; refine Kd.R_append k48 (w0 := w) w.heap.size rfl (.tmp 26) (.tmp 28) 24 48 (.agg #[(.int .i64 0), (.int .i64 0)]) 16 rfl Tryz.underlying24 info48 rfl (by decide) (by omega) (.slice Ao23 x6_1.length co23) x6_1 (⟨0, 0⟩ : S48) [.int .i64 0, .int .i64 0] (fun _ => True) (fun _ => False) rfl rfl ?aP (fun _ hk => hk.elim) ?aF ?aO ?aB ?aS ?aL ?_; (case aP => exact k48_mkM _ _ _ (⟨0, 0⟩ : S48)); (case aB => exact s1_); (case aF => exact (fun _ _ => trivial)); (case aO => exact (by (with_reducible repeat (first | apply Kd.R_alloc | apply Kd.R_drewN | apply Kd.R_drew)); exact HO_6.out)); (case aS => exact (below_size s1_)); (case aL => have := LMc22.out; omega); intro v452 w24 ho hb hg hat; rw [← Ny451.out] at ho; have n_ := ac_ (hb) <| Aside0.mk (ho); clear HB HO_6; obtain ⟨HB, HO453⟩ := n_; clear ho hb hg hat))
       go_roundg k1
       case measure => have := HK1.out; omega
       case rel => exact ⟨(y451), H', ⟨by have := HK1.out; omega⟩, ⟨(by (with_reducible repeat (first | apply Kd.R_alloc | apply Kd.R_drewN | apply Kd.R_drew)); exact HO453.out)⟩, ⟨s1_⟩⟩
      ·
       rw [if_neg c22] at H
       exact absurd H (by simp)
     ·
      rw [if_neg c21] at H; have c21b0 : decide ((x6_1.length : Int) < 41) = false := decide_eq_false c21
      have c21b1 : decide (x6_1.length < 41) = false := decide_eq_false (by omega)
      clear c21
      simp only [Option.some.injEq, Prod.mk.injEq] at H
      obtain ⟨rfl, rfl⟩ := H; obtain ⟨Ao25, co25, eo25⟩ := Kd.R_slice HO_6.out; subst eo25
      go_wp2
      go_ret2
      exact ⟨_, s4_, (by (with_reducible repeat (first | apply Kd.R_alloc | apply Kd.R_drewN | apply Kd.R_drew)); exact HO_6.out), s1_⟩
  ·
   rw [if_neg c16] at H; have c16b0 : (t442 == 1) = false := beq_eq_false_iff_ne.mpr c16; have c16b1 : (t442 != 1) = true := bne_iff_ne.mpr c16
   simp only [Option.some.injEq, Prod.mk.injEq] at H
   obtain ⟨rfl, rfl⟩ := H
   go_enter Tryz.func72, Tryz.ntmps72
   go_wp2_with ((with_reducible refine gw_ rfl ?_); first | (refine gL_ 144 8 Tryz.func144 #[.slice A0 l0.length c0] ?_; (with_reducible refine (spec_l1New.calls k _ _ l0 t430 t431 t432 w _ ?side1 ?side2 ?side3 A2.out).mono ?_); (case side1 => exact s1_); (case side2 => exact HR0.out); (case side3 => exact HC0.out); rintro e w26 ⟨g433, rfl, hi, hb, hb2⟩; refine ⟨_, rfl, ?_⟩; have n_ := ac_ (hb) <| Aside0.mk (hi); clear HB; obtain ⟨HB, HI433⟩ := n_; (try clear hb hb2 hi)) | (refine gL_ 146 10 Tryz.func146 #[.pointer (some ⟨g433, 0, none⟩), .int .i64 6] ?_; (with_reducible refine (spec_l1Below.calls g433 t430 t431 t432 6 t434 t435 t436 w _ ?side1 ?side2 A3.out).mono ?_); (case side1 => exact q6_1); (case side2 => exact q6_2); rintro e w27 ⟨rfl, hi, hb, hk⟩; refine ⟨_, rfl, ?_⟩; have n_ := ac_ (hb) <| Aside0.mk (hi); clear HB HI433; obtain ⟨HB, HI433⟩ := n_; (try clear hb hk hi)) | (refine gL_ 148 13 Tryz.func148 #[.pointer (some ⟨g433, 0, none⟩), .int .i64 t434] ?_; (with_reducible refine (spec_l9Bent.calls k g433 t430 t435 t436 t434 t437 t440 t441 w _ ?side1 ?side2 A4.out).mono ?_); (case side1 => exact q6_1); (case side2 => exact q6_2); rintro e w28 ⟨v438, rfl, ho0, hi, hb, hk⟩; refine ⟨_, rfl, ?_⟩; have n_ := ac_ (Kd.R_lower ho0 (below_size q6_2)) <| ac_ (hb) <| Aside0.mk (hi); clear HB HI433; obtain ⟨HO439, HB, HI433⟩ := n_; (try clear hb hk hi ho0)) | (refine gL_ 146 15 Tryz.func146 #[.pointer (some ⟨g433, 0, none⟩), .int .i64 12] ?_; (with_reducible refine (spec_l1Below.calls g433 t430 t440 t441 12 t442 t443 t444 w _ ?side1 ?side2 A5.out).mono ?_); (case side1 => exact q6_1); (case side2 => exact q6_2); rintro e w29 ⟨rfl, hi, hb, hk⟩; refine ⟨_, rfl, ?_⟩; have n_ := ac_ (Kd.R_mono (Kd.R_keep (IsS152.apart (show IsS152 w _ g433 t430 t440 t441 from q6_1) q6_5 (by decide)) hk (fun _ h => h.2)) (fun _ h => h.1)) <| ac_ (hb) <| Aside0.mk (hi); clear HO439 HB HI433; obtain ⟨HO439, HB, HI433⟩ := n_; (try clear hb hk hi)))
   go_ret2
   exact ⟨_, s4_, q6_5, q6_2⟩
def impl_ElementsOf.l0 : Nat → Int → List Int → Int → Option (List Int)
 | 0, _, _, _ => none
 | k + 1, x0, x3, x6 => if x6 < 8 then ((impl_HasElement.f x0 x6).bind fun t492 => (if t492 = true then (if x3.length < 17592186044416 then (impl_ElementsOf.l0 k x0 (x3 ++ [x6]) (wrap64 (x6 + 1))) else (none)) else (impl_ElementsOf.l0 k x0 x3 (wrap64 (x6 + 1))))) else (some x3)
def impl_ElementsOf.f (k : Nat) (a0 : Int) : Option (List Int) := impl_ElementsOf.l0 k a0 (([] : List Int)) 0
theorem impl_ElementsOf.calls (k : Nat) (a0 : Int) (r : List Int) (w : World) (h : impl_ElementsOf.f k a0 = some r) :
  Calls Tryz.prog 155 #[.int .i64 a0] w fun e w' => ∃ v0_ : Value, e = .returned (v0_) ∧ Kd.R (Kd.int .i64) 3 w' w.heap.size (fun _ => True) v0_ r ∧ Below w.heap.size w w' := by
 have HB := Aside0.mk (Below.refl w.heap.size w); have H := h; clear h; unfold impl_ElementsOf.f at H; obtain ⟨y489, hy_⟩ : ∃ y_ : List Int, y_ = (([] : List Int)) := ⟨_, rfl⟩
 replace H : (impl_ElementsOf.l0 k a0 y489 0) = some r := rH_
 have Ny489 := Aside0.mk hy_; clear hy_; have H' := Aside0.mk H; clear H
 go_enter Tryz.func155, Tryz.ntmps155
 go_wp2_with ((with_reducible refine gw_ rfl ?_); (refine rl_ (Kd.int .i64) 3 5 ?_; intro v490 w2 ho3 hb hg_ hnew_; clear hg_ hnew_; (first | rw [← Ny489.out] at ho3 | (simp only [Int.reduceToNat] at ho3; rw [← Ny489.out] at ho3)); have n_ := ac_ (Kd.R_lower ho3 (below_size s1_)) <| Aside0.mk (below_step s1_ hb); clear HB; obtain ⟨HO491, HB⟩ := n_; clear hb ho3))
 go_loopg [3, 6] k (fun kq v3 v6 w' => ∃ (x3_1 : List Int) (x6_1 : Int), v6 = .int .i64 x6_1 ∧ Aside0 (impl_ElementsOf.l0 kq a0 x3_1 x6_1 = some r) ∧ Aside0 (kq ≤ k) ∧ Aside0 (Kd.R (Kd.int .i64) 3 w' w.heap.size (fun _ => True) v3 x3_1) ∧ Aside0 (Below w.heap.size w w'))
 case atStart => exact ⟨(y489), (0), s2_, H', ⟨Nat.le_refl _⟩, ⟨(by (with_reducible repeat (first | apply Kd.R_alloc | apply Kd.R_drewN | apply Kd.R_drew)); exact HO491.out)⟩, ⟨s1_⟩⟩
 case round =>
  clear H'
  try clear c1
  try clear p2
  obtain ⟨x3_1, x6_1, rfl, HA, HK1, HO_3, HB⟩ := hrel
  cases gk with
  | zero => exact absurd HA.out (by simp [impl_ElementsOf.l0])
  | succ k1 =>
   have H := HA.out; clear HA
   simp only [impl_ElementsOf.l0] at H
   by_cases c4 : x6_1 < 8
   ·
    rw [if_pos c4] at H; have c4b0 : decide (x6_1 < 8) = true := decide_eq_true c4; clear c4; obtain ⟨t492, A5, H⟩ := bnd6_ H
    by_cases c6 : t492 = true
    ·
     subst c6; rw [if_pos rfl] at H
     by_cases c7 : x3_1.length < 17592186044416
     ·
      rw [if_pos c7] at H; have LMc7 := Aside0.mk c7; clear c7; obtain ⟨y493, hy_⟩ : ∃ y_ : List Int, y_ = (x3_1 ++ [x6_1]) := ⟨_, rfl⟩
      replace H : (impl_ElementsOf.l0 k1 a0 y493 (wrap64 (x6_1 + 1))) = some r := rH_
      have Ny493 := Aside0.mk hy_; clear hy_; have H' := Aside0.mk H; clear H
      go_wp2_with (first | ((with_reducible refine gw_ rfl ?_); (refine gL_ 212 11 Tryz.func212 #[.int .i64 a0, .int .i64 x6_1] ?_; (with_reducible refine (impl_HasElement.calls a0 x6_1 true _ A5.out).mono ?_); rintro e w' ⟨rfl, ⟨nd, rfl⟩⟩; refine ⟨_, rfl, ?_⟩)) | ((with_reducible refine gate_builtin (b := .append) (xs := #[.tmp 12, .tmp 14]) rfl ?_); at_builtin; refine Kd.R_append (Kd.int .i64) (w0 := w) w.heap.size rfl (.tmp 12) (.tmp 14) 27 3 (.int .i64 0) 8 rfl Tryz.underlying27 info3 rfl (by decide) (by omega) u3 x3_1 x6_1 [.int .i64 x6_1] (fun _ => True) (fun _ => False) rfl rfl ?aP (fun _ hk => hk.elim) ?aF ?aO ?aB ?aS ?aL ?_; (case aP => exact rfl); (case aB => exact s1_); (case aF => exact (fun _ _ => trivial)); (case aO => exact s12_); (case aS => exact (below_size s1_)); (case aL => have := LMc7.out; omega); intro v494 w8 ho hb hg hat; rw [← Ny493.out] at ho; have n_ := ac_ (hb) <| Aside0.mk (ho); clear HB HO_3; obtain ⟨HB, HO495⟩ := n_; clear ho hb hg hat))
      go_roundg k1
      case measure => have := HK1.out; omega
      case rel => exact ⟨(y493), (wrap64 (x6_1 + 1)), s2_, H', ⟨by have := HK1.out; omega⟩, ⟨(by (with_reducible repeat (first | apply Kd.R_alloc | apply Kd.R_drewN | apply Kd.R_drew)); exact HO495.out)⟩, ⟨s1_⟩⟩
     ·
      rw [if_neg c7] at H
      exact absurd H (by simp)
    ·
     replace c6 := Bool.eq_false_iff.mpr c6; subst c6
     rw [if_neg (show ¬ (false = true) by decide)] at H
     have H' := Aside0.mk H; clear H
     go_wp2_with ((with_reducible refine gw_ rfl ?_); (refine gL_ 212 11 Tryz.func212 #[.int .i64 a0, .int .i64 x6_1] ?_; (with_reducible refine (impl_HasElement.calls a0 x6_1 false _ A5.out).mono ?_); rintro e w' ⟨rfl, ⟨nd, rfl⟩⟩; refine ⟨_, rfl, ?_⟩))
     go_roundg k1
     case measure => have := HK1.out; omega
     case rel => exact ⟨(x3_1), (wrap64 (x6_1 + 1)), s2_, H', ⟨by have := HK1.out; omega⟩, ⟨s12_⟩, ⟨s1_⟩⟩
   ·
    rw [if_neg c4] at H; have c4b0 : decide (x6_1 < 8) = false := decide_eq_false c4; clear c4; obtain rfl := Option.some.inj H
    go_wp2
    go_ret
    exact ⟨_, (by first | rfl | (simp [errW_none, errW_some] <;> rfl) | (simp [*, errW_none, errW_some] <;> rfl)), s12_, s1_⟩
end Go.Proofs.YtafnamchckehmaaGreatDoor.Pr
