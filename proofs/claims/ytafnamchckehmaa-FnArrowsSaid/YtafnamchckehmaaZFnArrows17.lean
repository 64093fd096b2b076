/- What the law needs of the program's functions as plain functions, of the proofs that their calls answer so, and of plain laws: gathered by a program of this place (pack.py) out of its printed texts. No condition beyond what each statement says. -/
import Derived.Test.YtafnamchckehmaaZFnArrows2
import Derived.Test.YtafnamchckehmaaZFnArrows6
import Derived.Test.YtafnamchckehmaaZFnArrows12
import Derived.Test.YtafnamchckehmaaZFnArrows11
import Derived.Test.YtafnamchckehmaaZFnArrows16
namespace Go.Proofs.Ytafnamchckehmaa.Pr
open Go.RowKit Go.Proofs.YtafnamchckehmaaW.PrintWords Go.Proofs.YtafnamchckehmaaW.PrintLast Go.Proofs.YtafnamchckehmaaW.PrintMore
attribute [local go_sem] max2_int min2_int max_two min_two max_three min_three max_four min_four   -- for this text's walks alone
set_option linter.unusedVariables false
set_option linter.unusedSimpArgs false
theorem put10_ {P : Prop} (h : P := by simp only [Act.put, List.setIfInBounds_toArray, List.set_cons_zero, List.set_cons_succ, i64_w, i32_w]; rfl) : P := h
theorem q10_1 {P : Prop} (h : P := by repeat (first | exact (Kd.C_below HR0_1.out HB.out) | (with_reducible refine Kd.C_alloc ?_ _) | (with_reducible refine Kd.C_drewN ?_ _) | (with_reducible refine Kd.C_drew ?_))) : P := h
theorem q10_2 {P : Prop} (h : P := by repeat (first | (with_reducible first | exact HB.out | apply below_alloc | apply pw_below_drewN | apply below_drew1 | refine below_set ?_ GE298.out) | exact HB.out)) : P := h
theorem q10_3 {P : Prop} (h : P := by (try simp only [List.map_toArray, List.map_cons, List.map_nil]); first | done | rfl | (simp only [List.length_drop, List.length_take]; rfl)) : P := h
theorem q10_4 {P : Prop} (h : P := by repeat (first | (with_reducible first | exact HB.out | apply below_alloc | apply pw_below_drewN | apply below_drew1) | exact HB.out)) : P := h
theorem q10_5 {P : Prop} (h : P := by (with_reducible repeat (first | refine blk_drewN ?_ _ | refine blk_drew ?_ | refine blk_alloc ?_ _)); exact BK298.out) : P := h
def impl_DoubleArrows.f (k : Nat) (a0_0 : Int) (l0_1 : List Int) (a1 : Int) : Option (Int) := (impl_DownArrows.f k a0_0 l0_1 a1).bind fun t299 => ((impl_UpArrows.f a0_0 l0_1 a1).bind fun t300 => (some (Go.bits .and .i64 t299 t300)))
def impl_DoubleArrows.T1 : Bool × List (List Nat × List Nat) := (true, [([], []), ([], []), ([0, 1], [0, 1]), ([], []), ([], []), ([3, 4, 2], [3, 4]), ([2, 5], [2, 5]), ([6, 5, 0, 1, 2, 3, 4, 5, 6], [6])])
def impl_DoubleArrows.B1 : List Nat := [0, 0, 3, 0, 0, 31, 63, 127]
theorem impl_DoubleArrows.tab1 : rtab .any (opsOf Try.f12 1) = impl_DoubleArrows.T1 := by kernel_rfl
theorem impl_DoubleArrows.bits1 : waitsOk impl_DoubleArrows.T1.2 impl_DoubleArrows.B1 = true := by kernel_rfl
set_option maxHeartbeats 8000000 in
set_option maxRecDepth 100000 in
theorem impl_DoubleArrows.calls (k : Nat) (a0_0 : Int) (A0_1 : Option Addr) (c0_1 : Nat) (l0_1 : List Int) (a1 : Int) (r : Int) (w : World) (hr0_1 : Kd.C (Kd.int .i64) w A0_1 l0_1.length l0_1) (hc0_1 : l0_1.length ≤ c0_1) (h : impl_DoubleArrows.f k a0_0 l0_1 a1 = some r) :
  Calls Try.prog 12 #[.agg #[.int .i64 a0_0, .slice A0_1 l0_1.length c0_1], .int .i64 a1] w fun e w' => e = .returned (.int .i64 r) ∧ Below w.heap.size w w' := by
 have hu26 := Try.underlying26
 have HR0_1 := Aside0.mk hr0_1
 have HC0_1 := Aside0.mk hc0_1
 clear hr0_1 hc0_1
 have HB := Aside0.mk (Below.refl w.heap.size w)
 have H : ((impl_DownArrows.f k a0_0 l0_1 a1).bind fun t299 => ((impl_UpArrows.f a0_0 l0_1 a1).bind fun t300 => (some (Go.bits .and .i64 t299 t300)))) = some r := h
 clear h
 replace H := Option.bind_eq_some_iff.mp H
 obtain ⟨t299, A30, H⟩ := H
 replace H : ((impl_UpArrows.f a0_0 l0_1 a1).bind fun t300 => (some (Go.bits .and .i64 t299 t300))) = some r := H
 have A3 := Aside0.mk A30
 clear A30
 replace H := Option.bind_eq_some_iff.mp H
 obtain ⟨t300, A40, H⟩ := H
 replace H : (some (Go.bits .and .i64 t299 t300)) = some r := H
 have A4 := Aside0.mk A40
 clear A40
 obtain rfl := Option.some.inj H
 go_enter Try.func12, Try.ntmps12
 try go_wp2_with (first | ((with_reducible refine gate_dst (N := 2) rfl ?_); refine box_event ?hg (N := 2) ?hd (cs := #[.int .i64 a0_0, .slice A0_1 l0_1.length c0_1]) (t := 26) ?hr ?_; (case hd => rfl); (case hg => rfl); (case hr => first | (go_simp; done) | (go_simp; rfl)); intro gb298 hg w5 hbox hb; have n0_ := Aside0.mk (below_step q10_4 hb); have n1_ := Aside0.mk (hbox); have n2_ := Aside0.mk ((by rw [hg]; exact (below_size q10_4) : w.heap.size ≤ gb298)); have n3_ := Aside0.mk ((by rw [hg]; exact (below_size q10_4) : w.heap.size ≤ gb298)); clear HB; have HB := n0_; have BK298 := n1_; have GW298 := n2_; have GE298 := n3_; clear n0_ n1_ n2_ n3_; clear hb hbox hg))
 have n0_ := Aside0.mk (blk_drew BK298.out)
 have n1_ := Aside0.mk (below_drew1 HB.out)
 clear BK298
 clear HB
 have BK298 := n0_
 have HB := n1_
 clear n0_ n1_
 refine start_ (n := 8) (S := fun w' => w'.cell? ⟨gb298, 0, none⟩ = some (.int .i64 a0_0) ∧ w'.cell? ⟨gb298, 1, none⟩ = some (.slice A0_1 l0_1.length c0_1)) (ds := []) #[false, false, false, false, false, false, false, false] (by kernel_rfl) rfl rfl ⟨(blk_cell BK298.out 0).trans rfl, (blk_cell BK298.out 1).trans rfl⟩ (fun hHeld => ?_); refine with_tabW impl_DoubleArrows.tab1 impl_DoubleArrows.bits1 (fun HT_ HW_ => ?_)
 generalize w5.drew = w6 at BK298 HB hHeld ⊢
 refine pure_ (i := 1) (N := some 6) (v := ?_) (a' := ?_) #[false, true, false, false, false, false, false, false] rfl rfl (any_of HT_.out (by kernel_rfl)) (fun _ _ _ h => h) (Or.inl ⟨by rfl, ?_⟩) ?_ ?_
 rotate_left
 ·
  intro w'
  go_simp
  with_reducible rfl
 rotate_left
 ·
  exact put10_
 refine pure_ (i := 4) (N := some 9) (v := ?_) (a' := ?_) #[false, true, false, false, true, false, false, false] rfl rfl (any_of HT_.out (by kernel_rfl)) (fun _ _ _ h => h) (Or.inl ⟨by rfl, ?_⟩) ?_ ?_
 rotate_left
 ·
  intro w'
  go_simp
  with_reducible rfl
 rotate_left
 ·
  exact put10_
 refine take_ (i := 0) (N := some 5) (v := ?_) (a' := ?_) #[true, true, false, false, true, false, false, false] rfl rfl (take_ofW HT_.out HW_.out (by kernel_rfl)) (fun _ _ _ h => h) (Or.inl ⟨by rfl, ?_⟩) hHeld ?_ ?_
 rotate_left
 ·
  rintro w' ⟨s0, s1⟩
  go_simp
  with_reducible rfl
 rotate_left
 ·
  exact put10_
 refine take_ (i := 3) (N := some 8) (v := ?_) (a' := ?_) #[true, true, false, true, true, false, false, false] rfl rfl (take_ofW HT_.out HW_.out (by kernel_rfl)) (fun _ _ _ h => h) (Or.inl ⟨by rfl, ?_⟩) hHeld ?_ ?_
 rotate_left
 ·
  rintro w' ⟨s0, s1⟩
  go_simp
  with_reducible rfl
 rotate_left
 ·
  exact put10_
 refine one_ (i := 2) (N := some 7) #[true, true, true, true, true, false, false, false] rfl rfl (one_of HT_.out (by kernel_rfl)) (by decide) (fun K hK => ?_)
 refine goes_ Try.func7 (by kernel_rfl) rfl #[.agg #[.int .i64 a0_0, .slice A0_1 l0_1.length c0_1], .int .i64 a1] (by rfl) rfl rfl q10_3 ?_
 with_reducible refine (impl_DownArrows.calls k a0_0 _ _ l0_1 a1 t299 _ ?side1 ?side2 A3.out).mono ?_
 (case side1 => exact q10_1)
 (case side2 => exact HC0_1.out)
 rintro e w7 ⟨rfl, hb⟩
 refine ⟨_, rfl, ?_⟩
 have n0_ := Aside0.mk (blk_below (g := gb298) (o := .cells #[.int .i64 a0_0, .slice A0_1 l0_1.length c0_1] 26 (0, 0)) q10_5 hb)
 have n1_ := Aside0.mk (below_step q10_2 hb)
 clear BK298
 clear HB
 have BK298 := n0_
 have HB := n1_
 clear n0_ n1_
 (try clear hb)
 (try clear hb2)
 (try clear hk)
 (try clear hi)
 refine hK.out _ _ ⟨(blk_cell BK298.out 0).trans rfl, (blk_cell BK298.out 1).trans rfl⟩ (fun hHeld => ?_)
 clear hK K
 refine norm_ (a' := ?_) ?_ ?_
 rotate_left
 ·
  show Act.put _ (some 7) _ = _
  exact put10_
 refine one_ (i := 5) (N := some 10) #[true, true, true, true, true, true, false, false] rfl rfl (one_of HT_.out (by kernel_rfl)) (by decide) (fun K hK => ?_)
 refine goes_ Try.func8 (by kernel_rfl) rfl #[.agg #[.int .i64 a0_0, .slice A0_1 l0_1.length c0_1], .int .i64 a1] (by rfl) rfl rfl q10_3 ?_
 with_reducible refine (impl_UpArrows.calls a0_0 _ _ l0_1 a1 t300 _ ?side1 ?side2 A4.out).mono ?_
 (case side1 => exact q10_1)
 (case side2 => exact HC0_1.out)
 rintro e w8 ⟨rfl, hb⟩
 refine ⟨_, rfl, ?_⟩
 have n0_ := Aside0.mk (blk_below (g := gb298) (o := .cells #[.int .i64 a0_0, .slice A0_1 l0_1.length c0_1] 26 (0, 0)) q10_5 hb)
 have n1_ := Aside0.mk (below_step q10_2 hb)
 clear BK298
 clear HB
 have BK298 := n0_
 have HB := n1_
 clear n0_ n1_
 (try clear hb)
 (try clear hb2)
 (try clear hk)
 (try clear hi)
 refine hK.out _ _ ⟨(blk_cell BK298.out 0).trans rfl, (blk_cell BK298.out 1).trans rfl⟩ (fun hHeld => ?_)
 clear hK K
 refine norm_ (a' := ?_) ?_ ?_
 rotate_left
 ·
  show Act.put _ (some 10) _ = _
  exact put10_
 refine pure_ (i := 6) (N := some 11) (v := ?_) (a' := ?_) #[true, true, true, true, true, true, true, false] rfl rfl (any_of HT_.out (by kernel_rfl)) (fun _ _ _ h => h) (Or.inl ⟨by rfl, ?_⟩) ?_ ?_
 rotate_left
 ·
  intro w'
  go_simp
  with_reducible rfl
 rotate_left
 ·
  exact put10_
 refine pure_ (i := 7) (N := some 4) (v := ?_) (a' := ?_) #[true, true, true, true, true, true, true, true] rfl rfl (any_of HT_.out (by kernel_rfl)) (fun _ _ _ h => h) (Or.inl ⟨by rfl, ?_⟩) ?_ ?_
 rotate_left
 ·
  intro w'
  go_simp
  with_reducible rfl
 rotate_left
 ·
  exact put10_
 refine done_ (done_of HT_.out (by kernel_rfl)) ?_
 try go_wp2
 go_ret
 exact ⟨by first | rfl | (simp [errW_none, errW_some] <;> rfl) | (simp [*, errW_none, errW_some] <;> rfl), by repeat (first | (with_reducible first | exact HB.out | apply below_alloc | apply pw_below_drewN | apply below_drew1 | refine below_set ?_ GE298.out) | exact HB.out)⟩
theorem q10_6 {P : Prop} (h : P := by repeat (first | exact (Kd.C_below HR0_1.out HB.out) | (with_reducible refine Kd.C_alloc ?_ _) | (with_reducible refine Kd.C_drewN ?_ _) | (with_reducible refine Kd.C_drew ?_))) : P := h
theorem q10_7 {P : Prop} (h : P := by repeat (first | (with_reducible first | exact HB.out | apply below_alloc | apply pw_below_drewN | apply below_drew1 | refine below_set ?_ GE303.out) | exact HB.out)) : P := h
theorem q10_8 {P : Prop} (h : P := by (try simp only [List.map_toArray, List.map_cons, List.map_nil]); first | done | rfl | (simp only [List.length_drop, List.length_take]; rfl)) : P := h
theorem q10_9 {P : Prop} (h : P := by repeat (first | (with_reducible first | exact HB.out | apply below_alloc | apply pw_below_drewN | apply below_drew1) | exact HB.out)) : P := h
theorem q10_10 {P : Prop} (h : P := by (with_reducible repeat (first | refine blk_drewN ?_ _ | refine blk_drew ?_ | refine blk_alloc ?_ _)); exact BK303.out) : P := h
theorem q10_11 {P : Prop} (h : P := by (with_reducible repeat (first | apply Kd.R_alloc | apply Kd.R_drewN | apply Kd.R_drew)); exact HO_3.out) : P := h
theorem q10_12 {P : Prop} (h : P := by first | rfl | (simp; done) | (simp [*]; done) | (simp [i64_w, i32_w]; done)) : P := h
theorem q10_13 {P : Prop} (h : P := by rw [if_neg (show ¬ (false = true) by decide)] at H; exact H) : P := h
theorem q10_14 {P : Prop} (h : P := by rw [if_pos rfl] at H; exact H) : P := h
theorem q10_15 {P : Prop} (h : P := by kernel_rfl) : P := h
mutual
def impl_ArrowText.l0 : Nat → List ByteArray → List Int → Int → Int → Int → List Int → Option (List ByteArray)
 | 0, _, _, _, _, _, _ => none
 | k + 1, x3, x15, x16, x17, x304000, x304001 => if x17 < x16 then (if 0 ≤ x17 then (if x17 < (x15.length : Int) then ((impl_DownArrows.f k x304000 x304001 x17).bind fun t309 => ((impl_UpArrows.f x304000 x304001 x17).bind fun t310 => (impl_ArrowText.l1 k x3 (rd x15 x17) t309 t310 (⟨#[]⟩ : ByteArray) x15 x16 x17 x304000 0 x304000 x304001))) else (none)) else (none)) else (some x3)
def impl_ArrowText.l1 : Nat → List ByteArray → Int → Int → Int → ByteArray → List Int → Int → Int → Int → Int → Int → List Int → Option (List ByteArray)
 | 0, _, _, _, _, _, _, _, _, _, _, _, _ => none
 | k + 1, x3, x5, x6, x7, x8, x15, x16, x17, x29, x30, x304000, x304001 => if x30 < x29 then ((impl_HasElement.f x5 x30).bind fun t314 => (if t314 = true then (if x8.size + 1 ≤ 9223372036854775807 then (impl_ArrowText.l1 k x3 x5 x6 x7 (x8 ++ (⟨#[120]⟩ : ByteArray)) x15 x16 x17 x29 (wrap64 (x30 + 1)) x304000 x304001) else (none)) else ((impl_HasElement.f (Go.bits .and .i64 x6 x7) x30).bind fun t315 => (if t315 = true then (if x8.size + 1 ≤ 9223372036854775807 then (impl_ArrowText.l1 k x3 x5 x6 x7 (x8 ++ (⟨#[42]⟩ : ByteArray)) x15 x16 x17 x29 (wrap64 (x30 + 1)) x304000 x304001) else (none)) else ((impl_HasElement.f x6 x30).bind fun t316 => (if t316 = true then (if x8.size + 1 ≤ 9223372036854775807 then (impl_ArrowText.l1 k x3 x5 x6 x7 (x8 ++ (⟨#[118]⟩ : ByteArray)) x15 x16 x17 x29 (wrap64 (x30 + 1)) x304000 x304001) else (none)) else ((impl_HasElement.f x7 x30).bind fun t317 => (if t317 = true then (if x8.size + 1 ≤ 9223372036854775807 then (impl_ArrowText.l1 k x3 x5 x6 x7 (x8 ++ (⟨#[94]⟩ : ByteArray)) x15 x16 x17 x29 (wrap64 (x30 + 1)) x304000 x304001) else (none)) else (if x8.size + 1 ≤ 9223372036854775807 then (impl_ArrowText.l1 k x3 x5 x6 x7 (x8 ++ (⟨#[46]⟩ : ByteArray)) x15 x16 x17 x29 (wrap64 (x30 + 1)) x304000 x304001) else (none)))))))))) else (if x3.length < 8796093022208 then (impl_ArrowText.l0 k (x3 ++ [x8]) x15 x16 (wrap64 (x17 + 1)) x304000 x304001) else (none))
end
def impl_ArrowText.f (k : Nat) (a0_0 : Int) (l0_1 : List Int) : Option (List ByteArray) := (impl_IsContext.f a0_0 l0_1).bind fun t304 => (if t304 = true then (impl_ArrowText.l0 k (([] : List ByteArray)) l0_1 (l0_1.length : Int) 0 a0_0 l0_1) else (some ([] : List ByteArray)))
def impl_ArrowText.T7 : Bool × List (List Nat × List Nat) := (true, [([], []), ([], []), ([0, 1], [0, 1]), ([], []), ([], []), ([3, 4, 2], [3, 4]), ([2, 5, 0, 1, 2], [2]), ([5, 6, 0, 1, 2, 3, 4, 5, 6], [5]), ([7, 0, 1, 2, 3, 4, 5, 6, 7], [])])
def impl_ArrowText.B7 : List Nat := [0, 0, 3, 0, 0, 31, 63, 127, 255]
theorem impl_ArrowText.tab7 : rtab .any (opsOf Try.f14 7) = impl_ArrowText.T7 := q10_15
theorem impl_ArrowText.bits7 : waitsOk impl_ArrowText.T7.2 impl_ArrowText.B7 = true := q10_15
set_option maxHeartbeats 8000000 in
set_option maxRecDepth 100000 in
theorem impl_ArrowText.calls (k : Nat) (a0_0 : Int) (A0_1 : Option Addr) (c0_1 : Nat) (l0_1 : List Int) (r : List ByteArray) (w : World) (hr0_1 : Kd.C (Kd.int .i64) w A0_1 l0_1.length l0_1) (hc0_1 : l0_1.length ≤ c0_1) (h : impl_ArrowText.f k a0_0 l0_1 = some r) :
  Calls Try.prog 14 #[.agg #[.int .i64 a0_0, .slice A0_1 l0_1.length c0_1]] w fun e w' => ∃ v0_ : Value, e = .returned (v0_) ∧ Kd.R Kd.string 9 w' w.heap.size (fun _ => True) v0_ r ∧ Below w.heap.size w w' := by
 have hu26 := Try.underlying26
 have HR0_1 := Aside0.mk hr0_1
 have HC0_1 := Aside0.mk hc0_1
 clear hr0_1 hc0_1
 have HB := Aside0.mk (Below.refl w.heap.size w)
 have H : ((impl_IsContext.f a0_0 l0_1).bind fun t304 => (if t304 = true then (impl_ArrowText.l0 k (([] : List ByteArray)) l0_1 (l0_1.length : Int) 0 a0_0 l0_1) else (some ([] : List ByteArray)))) = some r := h
 clear h
 replace H := Option.bind_eq_some_iff.mp H
 obtain ⟨t304, A20, H⟩ := H
 replace H : (if t304 = true then (impl_ArrowText.l0 k (([] : List ByteArray)) l0_1 (l0_1.length : Int) 0 a0_0 l0_1) else (some ([] : List ByteArray))) = some r := H
 have A2 := Aside0.mk A20
 clear A20
 by_cases c3 : t304 = true
 ·
  subst c3
  have H1 : (impl_ArrowText.l0 k (([] : List ByteArray)) l0_1 (l0_1.length : Int) 0 a0_0 l0_1) = some r := q10_14
  clear H
  have H := H1
  clear H1
  obtain ⟨y305, hy305⟩ : ∃ y_ : List ByteArray, y_ = (([] : List ByteArray)) := ⟨_, rfl⟩
  replace H : (impl_ArrowText.l0 k y305 l0_1 (l0_1.length : Int) 0 a0_0 l0_1) = some r := by first | (rw [hy305]; with_reducible exact H) | (have H2_ := (Option.bind_some _ _).symm.trans H; rw [hy305]; with_reducible exact H2_) | (have H2_ := (Option.bind_some _ _).symm.trans H; with_reducible exact H2_) | with_reducible exact H | (rw [hy305]; exact H) | exact H
  have Ny305 := Aside0.mk hy305
  clear hy305
  have H' := Aside0.mk H
  clear H
  go_enter Try.func14, Try.ntmps14
  go_wp2_with (first | ((with_reducible refine gate_dst (N := 1) rfl ?_); refine box_event ?hg (N := 1) ?hd (cs := #[.int .i64 a0_0, .slice A0_1 l0_1.length c0_1]) (t := 26) ?hr ?_; (case hd => rfl); (case hg => rfl); (case hr => first | (go_simp; done) | (go_simp; rfl)); intro gb303 hg w4 hbox hb; have n0_ := Aside0.mk (below_step q10_9 hb); have n1_ := Aside0.mk (hbox); have n2_ := Aside0.mk ((by rw [hg]; exact (below_size q10_9) : w.heap.size ≤ gb303)); have n3_ := Aside0.mk ((by rw [hg]; exact (below_size q10_9) : w.heap.size ≤ gb303)); clear HB; have HB := n0_; have BK303 := n1_; have GW303 := n2_; have GE303 := n3_; clear n0_ n1_ n2_ n3_; clear hb hbox hg; have hcz5_0 : w4.cell? ⟨gb303, 0, none⟩ = some (.int .i64 a0_0) := (blk_cell BK303.out 0).trans rfl; have hcz5_1 : w4.cell? ⟨gb303, 1, none⟩ = some (.slice A0_1 l0_1.length c0_1) := (blk_cell BK303.out 1).trans rfl; have hfz5_0 := blk_frozen BK303.out 0; have hfz5_1 := blk_frozen BK303.out 1) | ((with_reducible refine gate_callee (f := 56) rfl ?_); refine goesL_ (some 11) rfl rfl Try.func56 q10_15 rfl #[.agg #[.int .i64 a0_0, .slice A0_1 l0_1.length c0_1]] rfl q10_8 ?_; (with_reducible refine (impl_IsContext.calls a0_0 _ _ l0_1 true _ ?side1 ?side2 A2.out).mono ?_); (case side1 => exact q10_6); (case side2 => exact HC0_1.out); rintro e w6 ⟨rfl, hb⟩; refine ⟨_, rfl, ?_⟩; have n0_ := Aside0.mk (blk_below (g := gb303) (o := .cells #[.int .i64 a0_0, .slice A0_1 l0_1.length c0_1] 26 (0, 0)) q10_10 hb); have n1_ := Aside0.mk (below_step q10_7 hb); clear BK303; clear HB; have BK303 := n0_; have HB := n1_; clear n0_ n1_; (try clear hb); (try clear hb2); (try clear hk); (try clear hi)) | ((with_reducible refine gate_dst (N := 13) rfl ?_); refine Kd.R_lit Kd.string _ 9 ?hg (N := 13) ?hd (xs := ([] : List ByteArray)) (inner := []) (ok := fun _ => True) (okp := fun _ => True) ?hr ?hp (fun _ hk => hk) trivial (Below.refl _ _) (Nat.le_refl _) (by simp) ?_; (case hd => rfl); (case hg => rfl); (case hr => first | (go_simp; done) | (go_simp; rfl)); (case hp => exact (Reps.none _ _)); intro v306 w7 ho8 hb hg_ hnew_; clear hg_ hnew_; (first | rw [← Ny305.out] at ho8 | (simp only [Int.reduceToNat] at ho8; rw [← Ny305.out] at ho8)); have n0_ := Aside0.mk (Kd.R_lower ho8 (below_size q10_7)); have n1_ := Aside0.mk (blk_below (g := gb303) (o := .cells #[.int .i64 a0_0, .slice A0_1 l0_1.length c0_1] 26 (0, 0)) q10_10 hb); have n2_ := Aside0.mk (below_step q10_7 hb); clear BK303; clear HB; have HO307 := n0_; have BK303 := n1_; have HB := n2_; clear n0_ n1_ n2_; clear hb ho8; have hcz9_0 : w7.cell? ⟨gb303, 0, none⟩ = some (.int .i64 a0_0) := (blk_cell BK303.out 0).trans rfl; have hcz9_1 : w7.cell? ⟨gb303, 1, none⟩ = some (.slice A0_1 l0_1.length c0_1) := (blk_cell BK303.out 1).trans rfl; have hfz9_0 := blk_frozen BK303.out 0; have hfz9_1 := blk_frozen BK303.out 1))
  go_loopg [3, 17] k (fun kq v3 v17 w' => ∃ (x3_1 : List ByteArray) (x17_1 : Int), v17 = .int .i64 x17_1 ∧ Aside0 (impl_ArrowText.l0 kq x3_1 l0_1 (l0_1.length : Int) x17_1 a0_0 l0_1 = some r) ∧ Aside0 (kq ≤ k) ∧ Aside0 (Kd.R Kd.string 9 w' w.heap.size (fun _ => True) v3 x3_1) ∧ Aside0 (w'.heap[gb303]? = some (.cells #[.int .i64 a0_0, (.slice A0_1 l0_1.length c0_1)] 26 (0, 0))) ∧ Aside0 (Below w.heap.size w w'))
  case atStart => exact ⟨(y305), (0), q10_12, H', ⟨Nat.le_refl _⟩, ⟨by (with_reducible repeat (first | apply Kd.R_alloc | apply Kd.R_drewN | apply Kd.R_drew)); exact HO307.out⟩, ⟨by (with_reducible repeat (first | refine blk_drewN ?_ _ | refine blk_drew ?_ | refine blk_alloc ?_ _)); exact BK303.out⟩, ⟨by repeat (first | (with_reducible first | exact HB.out | apply below_alloc | apply pw_below_drewN | apply below_drew1 | refine below_set ?_ GE303.out) | exact HB.out)⟩⟩
  case round =>
   clear H'
   try clear c1
   try clear p2
   try clear c3
   try clear c5
   try clear hcz5_0
   try clear hcz5_1
   try clear hcz9_0
   try clear hcz9_1
   try clear hfz5_0
   try clear hfz5_1
   try clear hfz9_0
   try clear hfz9_1
   obtain ⟨x3_1, x17_1, rfl, HA, HK1, HO_3, BK303, HB⟩ := hrel
   cases gk with
   | zero => exact absurd HA.out (by simp [impl_ArrowText.l0])
   | succ k1 =>
    have H := HA.out
    clear HA
    simp only [impl_ArrowText.l0] at H
    by_cases c10 : x17_1 < (l0_1.length : Int)
    ·
     rw [if_pos c10] at H
     have c10b0 : decide (x17_1 < (l0_1.length : Int)) = true := decide_eq_true c10
     clear c10
     by_cases c11 : 0 ≤ x17_1
     ·
      rw [if_pos c11] at H
      have c11b0 : decide (0 ≤ x17_1) = true := decide_eq_true c11
      clear c11
      by_cases c12 : x17_1 < (l0_1.length : Int)
      ·
       rw [if_pos c12] at H
       have c12b0 : decide (x17_1 < (l0_1.length : Int)) = true := decide_eq_true c12
       clear c12
       replace H := Option.bind_eq_some_iff.mp H
       obtain ⟨t309, A130, H⟩ := H
       replace H : ((impl_UpArrows.f a0_0 l0_1 x17_1).bind fun t310 => (impl_ArrowText.l1 k1 x3_1 (rd l0_1 x17_1) t309 t310 (⟨#[]⟩ : ByteArray) l0_1 (l0_1.length : Int) x17_1 a0_0 0 a0_0 l0_1)) = some r := H
       have A13 := Aside0.mk A130
       clear A130
       replace H := Option.bind_eq_some_iff.mp H
       obtain ⟨t310, A140, H⟩ := H
       replace H : (impl_ArrowText.l1 k1 x3_1 (rd l0_1 x17_1) t309 t310 (⟨#[]⟩ : ByteArray) l0_1 (l0_1.length : Int) x17_1 a0_0 0 a0_0 l0_1) = some r := H
       have A14 := Aside0.mk A140
       clear A140
       have H' := Aside0.mk H
       clear H
       have p308 : 0 ≤ (x17_1 : Int) := of_decide_eq_true (by first | (with_reducible assumption) | assumption)
       have q308 : x17_1 < (l0_1.length : Int) := of_decide_eq_true (by first | (with_reducible assumption) | assumption)
       obtain ⟨ad308, e308, hx308_0⟩ := Kd.at_int HR0_1.out x17_1 p308 q308
       cases e308
       replace hx308_0 := (HB.out.cell (World.block_lt_of_cell? w _ hx308_0)).trans hx308_0
       replace p308 := eq_true p308
       replace q308 := eq_true q308
       try go_wp2
       have n0_ := Aside0.mk (Kd.R_drew HO_3.out)
       have n1_ := Aside0.mk (blk_drew BK303.out)
       have n2_ := Aside0.mk (below_drew1 HB.out)
       clear HO_3
       clear BK303
       clear HB
       have HO_3 := n0_
       have BK303 := n1_
       have HB := n2_
       clear n0_ n1_ n2_
       refine start_ (n := 9) (S := fun w' => w'.cell? ⟨gb303, 0, none⟩ = some (.int .i64 a0_0) ∧ w'.cell? ⟨gb303, 1, none⟩ = some (.slice (some ad308) l0_1.length c0_1)) (ds := []) #[false, false, false, false, false, false, false, false, false] q10_15 rfl rfl ⟨(blk_cell BK303.out 0).trans rfl, (blk_cell BK303.out 1).trans rfl⟩ (fun hHeld => ?_); refine with_tabW impl_ArrowText.tab7 impl_ArrowText.bits7 (fun HT_ HW_ => ?_)
       generalize wr.drew = w15 at HO_3 BK303 HB hHeld ⊢
       refine pure_ (i := 1) (N := some 23) (v := ?_) (a' := ?_) #[false, true, false, false, false, false, false, false, false] rfl rfl (any_of HT_.out q10_15) (fun _ _ _ h => h) (Or.inl ⟨by rfl, ?_⟩) ?_ ?_
       rotate_left
       ·
        intro w'
        go_simp
        with_reducible rfl
       rotate_left
       ·
        exact put10_
       refine pure_ (i := 4) (N := some 26) (v := ?_) (a' := ?_) #[false, true, false, false, true, false, false, false, false] rfl rfl (any_of HT_.out q10_15) (fun _ _ _ h => h) (Or.inl ⟨by rfl, ?_⟩) ?_ ?_
       rotate_left
       ·
        intro w'
        go_simp
        with_reducible rfl
       rotate_left
       ·
        exact put10_
       refine take_ (i := 0) (N := some 22) (v := ?_) (a' := ?_) #[true, true, false, false, true, false, false, false, false] rfl rfl (take_ofW HT_.out HW_.out q10_15) (fun _ _ _ h => h) (Or.inl ⟨by rfl, ?_⟩) hHeld ?_ ?_
       rotate_left
       ·
        rintro w' ⟨s0, s1⟩
        go_simp
        with_reducible rfl
       rotate_left
       ·
        exact put10_
       refine take_ (i := 3) (N := some 25) (v := ?_) (a' := ?_) #[true, true, false, true, true, false, false, false, false] rfl rfl (take_ofW HT_.out HW_.out q10_15) (fun _ _ _ h => h) (Or.inl ⟨by rfl, ?_⟩) hHeld ?_ ?_
       rotate_left
       ·
        rintro w' ⟨s0, s1⟩
        go_simp
        with_reducible rfl
       rotate_left
       ·
        exact put10_
       refine one_ (i := 2) (N := some 24) #[true, true, true, true, true, false, false, false, false] rfl rfl (one_of HT_.out q10_15) (by decide) (fun K hK => ?_)
       refine goes_ Try.func7 q10_15 rfl #[.agg #[.int .i64 a0_0, .slice (some ad308) l0_1.length c0_1], .int .i64 x17_1] (by rfl) rfl rfl q10_8 ?_
       with_reducible refine (impl_DownArrows.calls k1 a0_0 _ _ l0_1 x17_1 t309 _ ?side1 ?side2 A13.out).mono ?_
       (case side1 => exact q10_6)
       (case side2 => exact HC0_1.out)
       rintro e w16 ⟨rfl, hb⟩
       refine ⟨_, rfl, ?_⟩
       have n0_ := Aside0.mk (Kd.R_below q10_11 hb)
       have n1_ := Aside0.mk (blk_below (g := gb303) (o := .cells #[.int .i64 a0_0, .slice (some ad308) l0_1.length c0_1] 26 (0, 0)) q10_10 hb)
       have n2_ := Aside0.mk (below_step q10_7 hb)
       clear HO_3
       clear BK303
       clear HB
       have HO_3 := n0_
       have BK303 := n1_
       have HB := n2_
       clear n0_ n1_ n2_
       (try clear hb)
       (try clear hb2)
       (try clear hk)
       (try clear hi)
       refine hK.out _ _ ⟨(blk_cell BK303.out 0).trans rfl, (blk_cell BK303.out 1).trans rfl⟩ (fun hHeld => ?_)
       clear hK K
       refine norm_ (a' := ?_) ?_ ?_
       rotate_left
       ·
        show Act.put _ (some 24) _ = _
        exact put10_
       refine one_ (i := 5) (N := some 27) #[true, true, true, true, true, true, false, false, false] rfl rfl (one_of HT_.out q10_15) (by decide) (fun K hK => ?_)
       refine goes_ Try.func8 q10_15 rfl #[.agg #[.int .i64 a0_0, .slice (some ad308) l0_1.length c0_1], .int .i64 x17_1] (by rfl) rfl rfl q10_8 ?_
       with_reducible refine (impl_UpArrows.calls a0_0 _ _ l0_1 x17_1 t310 _ ?side1 ?side2 A14.out).mono ?_
       (case side1 => exact q10_6)
       (case side2 => exact HC0_1.out)
       rintro e w17 ⟨rfl, hb⟩
       refine ⟨_, rfl, ?_⟩
       have n0_ := Aside0.mk (Kd.R_below q10_11 hb)
       have n1_ := Aside0.mk (blk_below (g := gb303) (o := .cells #[.int .i64 a0_0, .slice (some ad308) l0_1.length c0_1] 26 (0, 0)) q10_10 hb)
       have n2_ := Aside0.mk (below_step q10_7 hb)
       clear HO_3
       clear BK303
       clear HB
       have HO_3 := n0_
       have BK303 := n1_
       have HB := n2_
       clear n0_ n1_ n2_
       (try clear hb)
       (try clear hb2)
       (try clear hk)
       (try clear hi)
       refine hK.out _ _ ⟨(blk_cell BK303.out 0).trans rfl, (blk_cell BK303.out 1).trans rfl⟩ (fun hHeld => ?_)
       clear hK K
       refine norm_ (a' := ?_) ?_ ?_
       rotate_left
       ·
        show Act.put _ (some 27) _ = _
        exact put10_
       refine pure_ (i := 6) (N := some 6) (v := ?_) (a' := ?_) #[true, true, true, true, true, true, true, false, false] rfl rfl (any_of HT_.out q10_15) (fun _ _ _ h => h) (Or.inl ⟨by rfl, ?_⟩) ?_ ?_
       rotate_left
       ·
        intro w'
        go_simp
        with_reducible rfl
       rotate_left
       ·
        exact put10_
       refine pure_ (i := 7) (N := some 7) (v := ?_) (a' := ?_) #[true, true, true, true, true, true, true, true, false] rfl rfl (any_of HT_.out q10_15) (fun _ _ _ h => h) (Or.inl ⟨by rfl, ?_⟩) ?_ ?_
       rotate_left
       ·
        intro w'
        go_simp
        with_reducible rfl
       rotate_left
       ·
        exact put10_
       refine pure_ (i := 8) (N := some 8) (v := ?_) (a' := ?_) #[true, true, true, true, true, true, true, true, true] rfl rfl (any_of HT_.out q10_15) (fun _ _ _ h => h) (Or.inl ⟨by rfl, ?_⟩) ?_ ?_
       rotate_left
       ·
        intro w'
        go_simp
        with_reducible rfl
       rotate_left
       ·
        exact put10_
       refine done_ (done_of HT_.out q10_15) ?_
       have hcz18_0 : w17.cell? ⟨gb303, 0, none⟩ = some (.int .i64 a0_0) := (blk_cell BK303.out 0).trans rfl
       have hcz18_1 : w17.cell? ⟨gb303, 1, none⟩ = some (.slice (some ad308) l0_1.length c0_1) := (blk_cell BK303.out 1).trans rfl
       have hfz18_0 := blk_frozen BK303.out 0
       have hfz18_1 := blk_frozen BK303.out 1
       try go_wp2
       go_loopg [8, 30] k1 (fun kq v8 v30 w' => ∃ (x8_2 : ByteArray) (x30_2 : Int), v8 = .string x8_2 ∧ v30 = .int .i64 x30_2 ∧ Aside0 (impl_ArrowText.l1 kq x3_1 (rd l0_1 x17_1) t309 t310 x8_2 l0_1 (l0_1.length : Int) x17_1 a0_0 x30_2 a0_0 l0_1 = some r) ∧ Aside0 (kq ≤ k1) ∧ Aside0 (Kd.R Kd.string 9 w' w.heap.size (fun _ => True) u3 x3_1) ∧ Aside0 (w'.heap[gb303]? = some (.cells #[.int .i64 a0_0, (.slice (some ad308) l0_1.length c0_1)] 26 (0, 0))) ∧ Aside0 (Below w.heap.size w w'))
       case atStart => exact ⟨((⟨#[]⟩ : ByteArray)), (0), q10_12, q10_12, H', ⟨Nat.le_refl _⟩, ⟨by (with_reducible repeat (first | apply Kd.R_alloc | apply Kd.R_drewN | apply Kd.R_drew)); exact HO_3.out⟩, ⟨by (with_reducible repeat (first | refine blk_drewN ?_ _ | refine blk_drew ?_ | refine blk_alloc ?_ _)); exact BK303.out⟩, ⟨by repeat (first | (with_reducible first | exact HB.out | apply below_alloc | apply pw_below_drewN | apply below_drew1 | refine below_set ?_ GE303.out) | exact HB.out)⟩⟩
       case round =>
        clear H'
        try clear c1
        try clear p2
        try clear c3
        try clear p3
        try clear q3
        try clear hx3
        try clear c5
        try clear c7
        try clear c8
        try clear c10
        try clear c10b0
        try clear c11
        try clear c11b0
        try clear c12
        try clear c12b0
        try clear c14
        try clear hcz18_0
        try clear hcz18_1
        try clear hcz5_0
        try clear hcz5_1
        try clear hcz9_0
        try clear hcz9_1
        try clear hfz18_0
        try clear hfz18_1
        try clear hfz5_0
        try clear hfz5_1
        try clear hfz9_0
        try clear hfz9_1
        try clear hx308_0
        try clear p2
        try clear p308
        try clear q308
        obtain ⟨x8_2, x30_2, rfl, rfl, HA, HK2, HO_3, BK303, HB⟩ := hrel
        cases gk with
        | zero => exact absurd HA.out (by simp [impl_ArrowText.l1])
        | succ k2 =>
         have H := HA.out
         clear HA
         simp only [impl_ArrowText.l1] at H
         by_cases c19 : x30_2 < a0_0
         ·
          rw [if_pos c19] at H
          have c19b0 : decide (x30_2 < a0_0) = true := decide_eq_true c19
          clear c19
          replace H := Option.bind_eq_some_iff.mp H
          obtain ⟨t314, A200, H⟩ := H
          replace H : (if t314 = true then (if x8_2.size + 1 ≤ 9223372036854775807 then (impl_ArrowText.l1 k2 x3_1 (rd l0_1 x17_1) t309 t310 (x8_2 ++ (⟨#[120]⟩ : ByteArray)) l0_1 (l0_1.length : Int) x17_1 a0_0 (wrap64 (x30_2 + 1)) a0_0 l0_1) else (none)) else ((impl_HasElement.f (Go.bits .and .i64 t309 t310) x30_2).bind fun t315 => (if t315 = true then (if x8_2.size + 1 ≤ 9223372036854775807 then (impl_ArrowText.l1 k2 x3_1 (rd l0_1 x17_1) t309 t310 (x8_2 ++ (⟨#[42]⟩ : ByteArray)) l0_1 (l0_1.length : Int) x17_1 a0_0 (wrap64 (x30_2 + 1)) a0_0 l0_1) else (none)) else ((impl_HasElement.f t309 x30_2).bind fun t316 => (if t316 = true then (if x8_2.size + 1 ≤ 9223372036854775807 then (impl_ArrowText.l1 k2 x3_1 (rd l0_1 x17_1) t309 t310 (x8_2 ++ (⟨#[118]⟩ : ByteArray)) l0_1 (l0_1.length : Int) x17_1 a0_0 (wrap64 (x30_2 + 1)) a0_0 l0_1) else (none)) else ((impl_HasElement.f t310 x30_2).bind fun t317 => (if t317 = true then (if x8_2.size + 1 ≤ 9223372036854775807 then (impl_ArrowText.l1 k2 x3_1 (rd l0_1 x17_1) t309 t310 (x8_2 ++ (⟨#[94]⟩ : ByteArray)) l0_1 (l0_1.length : Int) x17_1 a0_0 (wrap64 (x30_2 + 1)) a0_0 l0_1) else (none)) else (if x8_2.size + 1 ≤ 9223372036854775807 then (impl_ArrowText.l1 k2 x3_1 (rd l0_1 x17_1) t309 t310 (x8_2 ++ (⟨#[46]⟩ : ByteArray)) l0_1 (l0_1.length : Int) x17_1 a0_0 (wrap64 (x30_2 + 1)) a0_0 l0_1) else (none))))))))) = some r := H
          have A20 := Aside0.mk A200
          clear A200
          by_cases c21 : t314 = true
          ·
           subst c21
           have H1 : (if x8_2.size + 1 ≤ 9223372036854775807 then (impl_ArrowText.l1 k2 x3_1 (rd l0_1 x17_1) t309 t310 (x8_2 ++ (⟨#[120]⟩ : ByteArray)) l0_1 (l0_1.length : Int) x17_1 a0_0 (wrap64 (x30_2 + 1)) a0_0 l0_1) else (none)) = some r := q10_14
           clear H
           have H := H1
           clear H1
           by_cases c22 : x8_2.size + 1 ≤ 9223372036854775807
           ·
            rw [if_pos c22] at H
            have c22b0 := eq_true c22
            have c22b1 : decide (x8_2.size + 1 ≤ 9223372036854775807) = true := decide_eq_true c22
            try have c22b2 : (9223372036854775807 < x8_2.size + 1) = False := eq_false (Nat.not_lt.2 c22)
            have H' := Aside0.mk H
            clear H
            go_wp2_with (first | ((with_reducible refine gate_callee (f := 50) rfl ?_); refine goesL_ (some 38) rfl rfl Try.func50 q10_15 rfl #[.int .i64 (rd l0_1 x17_1), .int .i64 x30_2] rfl q10_8 ?_; (with_reducible refine (impl_HasElement.calls (rd l0_1 x17_1) x30_2 true _ A20.out).mono ?_); rintro e w' ⟨rfl, ⟨nd, rfl⟩⟩; refine ⟨_, rfl, ?_⟩))
            go_roundg k2
            case measure => have := HK1.out; have := HK2.out; omega
            case rel => exact ⟨(x8_2 ++ (⟨#[120]⟩ : ByteArray)), (wrap64 (x30_2 + 1)), q10_12, q10_12, H', ⟨by have := HK1.out; have := HK2.out; omega⟩, ⟨by (with_reducible repeat (first | apply Kd.R_alloc | apply Kd.R_drewN | apply Kd.R_drew)); exact HO_3.out⟩, ⟨by (with_reducible repeat (first | refine blk_drewN ?_ _ | refine blk_drew ?_ | refine blk_alloc ?_ _)); exact BK303.out⟩, ⟨by repeat (first | (with_reducible first | exact HB.out | apply below_alloc | apply pw_below_drewN | apply below_drew1 | refine below_set ?_ GE303.out) | exact HB.out)⟩⟩
           ·
            rw [if_neg c22] at H
            exact absurd H (by simp)
          ·
           replace c21 := Bool.eq_false_iff.mpr c21
           subst c21
           have H1 : ((impl_HasElement.f (Go.bits .and .i64 t309 t310) x30_2).bind fun t315 => (if t315 = true then (if x8_2.size + 1 ≤ 9223372036854775807 then (impl_ArrowText.l1 k2 x3_1 (rd l0_1 x17_1) t309 t310 (x8_2 ++ (⟨#[42]⟩ : ByteArray)) l0_1 (l0_1.length : Int) x17_1 a0_0 (wrap64 (x30_2 + 1)) a0_0 l0_1) else (none)) else ((impl_HasElement.f t309 x30_2).bind fun t316 => (if t316 = true then (if x8_2.size + 1 ≤ 9223372036854775807 then (impl_ArrowText.l1 k2 x3_1 (rd l0_1 x17_1) t309 t310 (x8_2 ++ (⟨#[118]⟩ : ByteArray)) l0_1 (l0_1.length : Int) x17_1 a0_0 (wrap64 (x30_2 + 1)) a0_0 l0_1) else (none)) else ((impl_HasElement.f t310 x30_2).bind fun t317 => (if t317 = true then (if x8_2.size + 1 ≤ 9223372036854775807 then (impl_ArrowText.l1 k2 x3_1 (rd l0_1 x17_1) t309 t310 (x8_2 ++ (⟨#[94]⟩ : ByteArray)) l0_1 (l0_1.length : Int) x17_1 a0_0 (wrap64 (x30_2 + 1)) a0_0 l0_1) else (none)) else (if x8_2.size + 1 ≤ 9223372036854775807 then (impl_ArrowText.l1 k2 x3_1 (rd l0_1 x17_1) t309 t310 (x8_2 ++ (⟨#[46]⟩ : ByteArray)) l0_1 (l0_1.length : Int) x17_1 a0_0 (wrap64 (x30_2 + 1)) a0_0 l0_1) else (none)))))))) = some r := q10_13
           clear H
           have H := H1
           clear H1
           replace H := Option.bind_eq_some_iff.mp H
           obtain ⟨t315, A230, H⟩ := H
           replace H : (if t315 = true then (if x8_2.size + 1 ≤ 9223372036854775807 then (impl_ArrowText.l1 k2 x3_1 (rd l0_1 x17_1) t309 t310 (x8_2 ++ (⟨#[42]⟩ : ByteArray)) l0_1 (l0_1.length : Int) x17_1 a0_0 (wrap64 (x30_2 + 1)) a0_0 l0_1) else (none)) else ((impl_HasElement.f t309 x30_2).bind fun t316 => (if t316 = true then (if x8_2.size + 1 ≤ 9223372036854775807 then (impl_ArrowText.l1 k2 x3_1 (rd l0_1 x17_1) t309 t310 (x8_2 ++ (⟨#[118]⟩ : ByteArray)) l0_1 (l0_1.length : Int) x17_1 a0_0 (wrap64 (x30_2 + 1)) a0_0 l0_1) else (none)) else ((impl_HasElement.f t310 x30_2).bind fun t317 => (if t317 = true then (if x8_2.size + 1 ≤ 9223372036854775807 then (impl_ArrowText.l1 k2 x3_1 (rd l0_1 x17_1) t309 t310 (x8_2 ++ (⟨#[94]⟩ : ByteArray)) l0_1 (l0_1.length : Int) x17_1 a0_0 (wrap64 (x30_2 + 1)) a0_0 l0_1) else (none)) else (if x8_2.size + 1 ≤ 9223372036854775807 then (impl_ArrowText.l1 k2 x3_1 (rd l0_1 x17_1) t309 t310 (x8_2 ++ (⟨#[46]⟩ : ByteArray)) l0_1 (l0_1.length : Int) x17_1 a0_0 (wrap64 (x30_2 + 1)) a0_0 l0_1) else (none))))))) = some r := H
           have A23 := Aside0.mk A230
           clear A230
           by_cases c24 : t315 = true
           ·
            subst c24
            have H1 : (if x8_2.size + 1 ≤ 9223372036854775807 then (impl_ArrowText.l1 k2 x3_1 (rd l0_1 x17_1) t309 t310 (x8_2 ++ (⟨#[42]⟩ : ByteArray)) l0_1 (l0_1.length : Int) x17_1 a0_0 (wrap64 (x30_2 + 1)) a0_0 l0_1) else (none)) = some r := q10_14
            clear H
            have H := H1
            clear H1
            by_cases c25 : x8_2.size + 1 ≤ 9223372036854775807
            ·
             rw [if_pos c25] at H
             have c25b0 := eq_true c25
             have c25b1 : decide (x8_2.size + 1 ≤ 9223372036854775807) = true := decide_eq_true c25
             try have c25b2 : (9223372036854775807 < x8_2.size + 1) = False := eq_false (Nat.not_lt.2 c25)
             have H' := Aside0.mk H
             clear H
             go_wp2_with (first | ((with_reducible refine gate_callee (f := 50) rfl ?_); refine goesL_ (some 38) rfl rfl Try.func50 q10_15 rfl #[.int .i64 (rd l0_1 x17_1), .int .i64 x30_2] rfl q10_8 ?_; (with_reducible refine (impl_HasElement.calls (rd l0_1 x17_1) x30_2 false _ A20.out).mono ?_); rintro e w' ⟨rfl, ⟨nd, rfl⟩⟩; refine ⟨_, rfl, ?_⟩) | ((with_reducible refine gate_callee (f := 50) rfl ?_); refine goesL_ (some 46) rfl rfl Try.func50 q10_15 rfl #[.int .i64 (Go.bits .and .i64 t309 t310), .int .i64 x30_2] rfl q10_8 ?_; (with_reducible refine (impl_HasElement.calls (Go.bits .and .i64 t309 t310) x30_2 true _ A23.out).mono ?_); rintro e w' ⟨rfl, ⟨nd, rfl⟩⟩; refine ⟨_, rfl, ?_⟩))
             go_roundg k2
             case measure => have := HK1.out; have := HK2.out; omega
             case rel => exact ⟨(x8_2 ++ (⟨#[42]⟩ : ByteArray)), (wrap64 (x30_2 + 1)), q10_12, q10_12, H', ⟨by have := HK1.out; have := HK2.out; omega⟩, ⟨by (with_reducible repeat (first | apply Kd.R_alloc | apply Kd.R_drewN | apply Kd.R_drew)); exact HO_3.out⟩, ⟨by (with_reducible repeat (first | refine blk_drewN ?_ _ | refine blk_drew ?_ | refine blk_alloc ?_ _)); exact BK303.out⟩, ⟨by repeat (first | (with_reducible first | exact HB.out | apply below_alloc | apply pw_below_drewN | apply below_drew1 | refine below_set ?_ GE303.out) | exact HB.out)⟩⟩
            ·
             rw [if_neg c25] at H
             exact absurd H (by simp)
           ·
            replace c24 := Bool.eq_false_iff.mpr c24
            subst c24
            have H1 : ((impl_HasElement.f t309 x30_2).bind fun t316 => (if t316 = true then (if x8_2.size + 1 ≤ 9223372036854775807 then (impl_ArrowText.l1 k2 x3_1 (rd l0_1 x17_1) t309 t310 (x8_2 ++ (⟨#[118]⟩ : ByteArray)) l0_1 (l0_1.length : Int) x17_1 a0_0 (wrap64 (x30_2 + 1)) a0_0 l0_1) else (none)) else ((impl_HasElement.f t310 x30_2).bind fun t317 => (if t317 = true then (if x8_2.size + 1 ≤ 9223372036854775807 then (impl_ArrowText.l1 k2 x3_1 (rd l0_1 x17_1) t309 t310 (x8_2 ++ (⟨#[94]⟩ : ByteArray)) l0_1 (l0_1.length : Int) x17_1 a0_0 (wrap64 (x30_2 + 1)) a0_0 l0_1) else (none)) else (if x8_2.size + 1 ≤ 9223372036854775807 then (impl_ArrowText.l1 k2 x3_1 (rd l0_1 x17_1) t309 t310 (x8_2 ++ (⟨#[46]⟩ : ByteArray)) l0_1 (l0_1.length : Int) x17_1 a0_0 (wrap64 (x30_2 + 1)) a0_0 l0_1) else (none)))))) = some r := q10_13
            clear H
            have H := H1
            clear H1
            replace H := Option.bind_eq_some_iff.mp H
            obtain ⟨t316, A260, H⟩ := H
            replace H : (if t316 = true then (if x8_2.size + 1 ≤ 9223372036854775807 then (impl_ArrowText.l1 k2 x3_1 (rd l0_1 x17_1) t309 t310 (x8_2 ++ (⟨#[118]⟩ : ByteArray)) l0_1 (l0_1.length : Int) x17_1 a0_0 (wrap64 (x30_2 + 1)) a0_0 l0_1) else (none)) else ((impl_HasElement.f t310 x30_2).bind fun t317 => (if t317 = true then (if x8_2.size + 1 ≤ 9223372036854775807 then (impl_ArrowText.l1 k2 x3_1 (rd l0_1 x17_1) t309 t310 (x8_2 ++ (⟨#[94]⟩ : ByteArray)) l0_1 (l0_1.length : Int) x17_1 a0_0 (wrap64 (x30_2 + 1)) a0_0 l0_1) else (none)) else (if x8_2.size + 1 ≤ 9223372036854775807 then (impl_ArrowText.l1 k2 x3_1 (rd l0_1 x17_1) t309 t310 (x8_2 ++ (⟨#[46]⟩ : ByteArray)) l0_1 (l0_1.length : Int) x17_1 a0_0 (wrap64 (x30_2 + 1)) a0_0 l0_1) else (none))))) = some r := H
            have A26 := Aside0.mk A260
            clear A260
            by_cases c27 : t316 = true
            ·
             subst c27
             have H1 : (if x8_2.size + 1 ≤ 9223372036854775807 then (impl_ArrowText.l1 k2 x3_1 (rd l0_1 x17_1) t309 t310 (x8_2 ++ (⟨#[118]⟩ : ByteArray)) l0_1 (l0_1.length : Int) x17_1 a0_0 (wrap64 (x30_2 + 1)) a0_0 l0_1) else (none)) = some r := q10_14
             clear H
             have H := H1
             clear H1
             by_cases c28 : x8_2.size + 1 ≤ 9223372036854775807
             ·
              rw [if_pos c28] at H
              have c28b0 := eq_true c28
              have c28b1 : decide (x8_2.size + 1 ≤ 9223372036854775807) = true := decide_eq_true c28
              try have c28b2 : (9223372036854775807 < x8_2.size + 1) = False := eq_false (Nat.not_lt.2 c28)
              have H' := Aside0.mk H
              clear H
              go_wp2_with (first | ((with_reducible refine gate_callee (f := 50) rfl ?_); refine goesL_ (some 38) rfl rfl Try.func50 q10_15 rfl #[.int .i64 (rd l0_1 x17_1), .int .i64 x30_2] rfl q10_8 ?_; (with_reducible refine (impl_HasElement.calls (rd l0_1 x17_1) x30_2 false _ A20.out).mono ?_); rintro e w' ⟨rfl, ⟨nd, rfl⟩⟩; refine ⟨_, rfl, ?_⟩) | ((with_reducible refine gate_callee (f := 50) rfl ?_); refine goesL_ (some 46) rfl rfl Try.func50 q10_15 rfl #[.int .i64 (Go.bits .and .i64 t309 t310), .int .i64 x30_2] rfl q10_8 ?_; (with_reducible refine (impl_HasElement.calls (Go.bits .and .i64 t309 t310) x30_2 false _ A23.out).mono ?_); rintro e w' ⟨rfl, ⟨nd, rfl⟩⟩; refine ⟨_, rfl, ?_⟩) | ((with_reducible refine gate_callee (f := 50) rfl ?_); refine goesL_ (some 52) rfl rfl Try.func50 q10_15 rfl #[.int .i64 t309, .int .i64 x30_2] rfl q10_8 ?_; (with_reducible refine (impl_HasElement.calls t309 x30_2 true _ A26.out).mono ?_); rintro e w' ⟨rfl, ⟨nd, rfl⟩⟩; refine ⟨_, rfl, ?_⟩))
              go_roundg k2
              case measure => have := HK1.out; have := HK2.out; omega
              case rel => exact ⟨(x8_2 ++ (⟨#[118]⟩ : ByteArray)), (wrap64 (x30_2 + 1)), q10_12, q10_12, H', ⟨by have := HK1.out; have := HK2.out; omega⟩, ⟨by (with_reducible repeat (first | apply Kd.R_alloc | apply Kd.R_drewN | apply Kd.R_drew)); exact HO_3.out⟩, ⟨by (with_reducible repeat (first | refine blk_drewN ?_ _ | refine blk_drew ?_ | refine blk_alloc ?_ _)); exact BK303.out⟩, ⟨by repeat (first | (with_reducible first | exact HB.out | apply below_alloc | apply pw_below_drewN | apply below_drew1 | refine below_set ?_ GE303.out) | exact HB.out)⟩⟩
             ·
              rw [if_neg c28] at H
              exact absurd H (by simp)
            ·
             replace c27 := Bool.eq_false_iff.mpr c27
             subst c27
             have H1 : ((impl_HasElement.f t310 x30_2).bind fun t317 => (if t317 = true then (if x8_2.size + 1 ≤ 9223372036854775807 then (impl_ArrowText.l1 k2 x3_1 (rd l0_1 x17_1) t309 t310 (x8_2 ++ (⟨#[94]⟩ : ByteArray)) l0_1 (l0_1.length : Int) x17_1 a0_0 (wrap64 (x30_2 + 1)) a0_0 l0_1) else (none)) else (if x8_2.size + 1 ≤ 9223372036854775807 then (impl_ArrowText.l1 k2 x3_1 (rd l0_1 x17_1) t309 t310 (x8_2 ++ (⟨#[46]⟩ : ByteArray)) l0_1 (l0_1.length : Int) x17_1 a0_0 (wrap64 (x30_2 + 1)) a0_0 l0_1) else (none)))) = some r := q10_13
             clear H
             have H := H1
             clear H1
             replace H := Option.bind_eq_some_iff.mp H
             obtain ⟨t317, A290, H⟩ := H
             replace H : (if t317 = true then (if x8_2.size + 1 ≤ 9223372036854775807 then (impl_ArrowText.l1 k2 x3_1 (rd l0_1 x17_1) t309 t310 (x8_2 ++ (⟨#[94]⟩ : ByteArray)) l0_1 (l0_1.length : Int) x17_1 a0_0 (wrap64 (x30_2 + 1)) a0_0 l0_1) else (none)) else (if x8_2.size + 1 ≤ 9223372036854775807 then (impl_ArrowText.l1 k2 x3_1 (rd l0_1 x17_1) t309 t310 (x8_2 ++ (⟨#[46]⟩ : ByteArray)) l0_1 (l0_1.length : Int) x17_1 a0_0 (wrap64 (x30_2 + 1)) a0_0 l0_1) else (none))) = some r := H
             have A29 := Aside0.mk A290
             clear A290
             by_cases c30 : t317 = true
             ·
              subst c30
              have H1 : (if x8_2.size + 1 ≤ 9223372036854775807 then (impl_ArrowText.l1 k2 x3_1 (rd l0_1 x17_1) t309 t310 (x8_2 ++ (⟨#[94]⟩ : ByteArray)) l0_1 (l0_1.length : Int) x17_1 a0_0 (wrap64 (x30_2 + 1)) a0_0 l0_1) else (none)) = some r := q10_14
              clear H
              have H := H1
              clear H1
              by_cases c31 : x8_2.size + 1 ≤ 9223372036854775807
              ·
               rw [if_pos c31] at H
               have c31b0 := eq_true c31
               have c31b1 : decide (x8_2.size + 1 ≤ 9223372036854775807) = true := decide_eq_true c31
               try have c31b2 : (9223372036854775807 < x8_2.size + 1) = False := eq_false (Nat.not_lt.2 c31)
               have H' := Aside0.mk H
               clear H
               go_wp2_with (first | ((with_reducible refine gate_callee (f := 50) rfl ?_); refine goesL_ (some 38) rfl rfl Try.func50 q10_15 rfl #[.int .i64 (rd l0_1 x17_1), .int .i64 x30_2] rfl q10_8 ?_; (with_reducible refine (impl_HasElement.calls (rd l0_1 x17_1) x30_2 false _ A20.out).mono ?_); rintro e w' ⟨rfl, ⟨nd, rfl⟩⟩; refine ⟨_, rfl, ?_⟩) | ((with_reducible refine gate_callee (f := 50) rfl ?_); refine goesL_ (some 46) rfl rfl Try.func50 q10_15 rfl #[.int .i64 (Go.bits .and .i64 t309 t310), .int .i64 x30_2] rfl q10_8 ?_; (with_reducible refine (impl_HasElement.calls (Go.bits .and .i64 t309 t310) x30_2 false _ A23.out).mono ?_); rintro e w' ⟨rfl, ⟨nd, rfl⟩⟩; refine ⟨_, rfl, ?_⟩) | ((with_reducible refine gate_callee (f := 50) rfl ?_); refine goesL_ (some 52) rfl rfl Try.func50 q10_15 rfl #[.int .i64 t309, .int .i64 x30_2] rfl q10_8 ?_; (with_reducible refine (impl_HasElement.calls t309 x30_2 false _ A26.out).mono ?_); rintro e w' ⟨rfl, ⟨nd, rfl⟩⟩; refine ⟨_, rfl, ?_⟩) | ((with_reducible refine gate_callee (f := 50) rfl ?_); refine goesL_ (some 58) rfl rfl Try.func50 q10_15 rfl #[.int .i64 t310, .int .i64 x30_2] rfl q10_8 ?_; (with_reducible refine (impl_HasElement.calls t310 x30_2 true _ A29.out).mono ?_); rintro e w' ⟨rfl, ⟨nd, rfl⟩⟩; refine ⟨_, rfl, ?_⟩))
               go_roundg k2
               case measure => have := HK1.out; have := HK2.out; omega
               case rel => exact ⟨(x8_2 ++ (⟨#[94]⟩ : ByteArray)), (wrap64 (x30_2 + 1)), q10_12, q10_12, H', ⟨by have := HK1.out; have := HK2.out; omega⟩, ⟨by (with_reducible repeat (first | apply Kd.R_alloc | apply Kd.R_drewN | apply Kd.R_drew)); exact HO_3.out⟩, ⟨by (with_reducible repeat (first | refine blk_drewN ?_ _ | refine blk_drew ?_ | refine blk_alloc ?_ _)); exact BK303.out⟩, ⟨by repeat (first | (with_reducible first | exact HB.out | apply below_alloc | apply pw_below_drewN | apply below_drew1 | refine below_set ?_ GE303.out) | exact HB.out)⟩⟩
              ·
               rw [if_neg c31] at H
               exact absurd H (by simp)
             ·
              replace c30 := Bool.eq_false_iff.mpr c30
              subst c30
              have H1 : (if x8_2.size + 1 ≤ 9223372036854775807 then (impl_ArrowText.l1 k2 x3_1 (rd l0_1 x17_1) t309 t310 (x8_2 ++ (⟨#[46]⟩ : ByteArray)) l0_1 (l0_1.length : Int) x17_1 a0_0 (wrap64 (x30_2 + 1)) a0_0 l0_1) else (none)) = some r := q10_13
              clear H
              have H := H1
              clear H1
              by_cases c32 : x8_2.size + 1 ≤ 9223372036854775807
              ·
               rw [if_pos c32] at H
               have c32b0 := eq_true c32
               have c32b1 : decide (x8_2.size + 1 ≤ 9223372036854775807) = true := decide_eq_true c32
               try have c32b2 : (9223372036854775807 < x8_2.size + 1) = False := eq_false (Nat.not_lt.2 c32)
               have H' := Aside0.mk H
               clear H
               go_wp2_with (first | ((with_reducible refine gate_callee (f := 50) rfl ?_); refine goesL_ (some 38) rfl rfl Try.func50 q10_15 rfl #[.int .i64 (rd l0_1 x17_1), .int .i64 x30_2] rfl q10_8 ?_; (with_reducible refine (impl_HasElement.calls (rd l0_1 x17_1) x30_2 false _ A20.out).mono ?_); rintro e w' ⟨rfl, ⟨nd, rfl⟩⟩; refine ⟨_, rfl, ?_⟩) | ((with_reducible refine gate_callee (f := 50) rfl ?_); refine goesL_ (some 46) rfl rfl Try.func50 q10_15 rfl #[.int .i64 (Go.bits .and .i64 t309 t310), .int .i64 x30_2] rfl q10_8 ?_; (with_reducible refine (impl_HasElement.calls (Go.bits .and .i64 t309 t310) x30_2 false _ A23.out).mono ?_); rintro e w' ⟨rfl, ⟨nd, rfl⟩⟩; refine ⟨_, rfl, ?_⟩) | ((with_reducible refine gate_callee (f := 50) rfl ?_); refine goesL_ (some 52) rfl rfl Try.func50 q10_15 rfl #[.int .i64 t309, .int .i64 x30_2] rfl q10_8 ?_; (with_reducible refine (impl_HasElement.calls t309 x30_2 false _ A26.out).mono ?_); rintro e w' ⟨rfl, ⟨nd, rfl⟩⟩; refine ⟨_, rfl, ?_⟩) | ((with_reducible refine gate_callee (f := 50) rfl ?_); refine goesL_ (some 58) rfl rfl Try.func50 q10_15 rfl #[.int .i64 t310, .int .i64 x30_2] rfl q10_8 ?_; (with_reducible refine (impl_HasElement.calls t310 x30_2 false _ A29.out).mono ?_); rintro e w' ⟨rfl, ⟨nd, rfl⟩⟩; refine ⟨_, rfl, ?_⟩))
               go_roundg k2
               case measure => have := HK1.out; have := HK2.out; omega
               case rel => exact ⟨(x8_2 ++ (⟨#[46]⟩ : ByteArray)), (wrap64 (x30_2 + 1)), q10_12, q10_12, H', ⟨by have := HK1.out; have := HK2.out; omega⟩, ⟨by (with_reducible repeat (first | apply Kd.R_alloc | apply Kd.R_drewN | apply Kd.R_drew)); exact HO_3.out⟩, ⟨by (with_reducible repeat (first | refine blk_drewN ?_ _ | refine blk_drew ?_ | refine blk_alloc ?_ _)); exact BK303.out⟩, ⟨by repeat (first | (with_reducible first | exact HB.out | apply below_alloc | apply pw_below_drewN | apply below_drew1 | refine below_set ?_ GE303.out) | exact HB.out)⟩⟩
              ·
               rw [if_neg c32] at H
               exact absurd H (by simp)
         ·
          rw [if_neg c19] at H
          have c19b0 : decide (x30_2 < a0_0) = false := decide_eq_false c19
          clear c19
          by_cases c33 : x3_1.length < 8796093022208
          ·
           rw [if_pos c33] at H
           have LMc33 := Aside0.mk c33
           clear c33
           obtain ⟨y311, hy311⟩ : ∃ y_ : List ByteArray, y_ = (x3_1 ++ [x8_2]) := ⟨_, rfl⟩
           replace H : (impl_ArrowText.l0 k2 y311 l0_1 (l0_1.length : Int) (wrap64 (x17_1 + 1)) a0_0 l0_1) = some r := by first | (rw [hy311]; with_reducible exact H) | (have H2_ := (Option.bind_some _ _).symm.trans H; rw [hy311]; with_reducible exact H2_) | (have H2_ := (Option.bind_some _ _).symm.trans H; with_reducible exact H2_) | with_reducible exact H | (rw [hy311]; exact H) | exact H
           have Ny311 := Aside0.mk hy311
           clear hy311
           have H' := Aside0.mk H
           clear H
           go_wp2_with (first | ((with_reducible refine gate_builtin (b := .append) (xs := #[.tmp 62, .tmp 64]) rfl ?_); at_builtin; refine Kd.R_append Kd.string (w0 := w) w.heap.size rfl (.tmp 62) (.tmp 64) 32 9 (.string ⟨#[]⟩) 16 rfl Try.underlying32 info9 rfl (by decide) (by omega) u3 x3_1 x8_2 [.string x8_2] (fun _ => True) (fun _ => False) rfl rfl ?aP (fun _ hk => hk.elim) ?aF ?aO ?aB ?aS ?aL ?_; (case aP => exact rfl); (case aB => exact q10_7); (case aF => exact (fun _ _ => trivial)); (case aO => exact q10_11); (case aS => exact (below_size q10_7)); (case aL => have := LMc33.out; omega); intro v312 w34 ho hb hg hat; rw [← Ny311.out] at ho; have n0_ := Aside0.mk (blk_grown (g := gb303) (o := .cells #[.int .i64 a0_0, .slice (some ad308) l0_1.length c0_1] 26 (0, 0)) q10_10 hg (Kd.R_ne HO_3.out BK303.out (by decide))); have n1_ := Aside0.mk (hb); have n2_ := Aside0.mk (ho); clear BK303; clear HB; clear HO_3; have BK303 := n0_; have HB := n1_; have HO313 := n2_; clear n0_ n1_ n2_; clear ho hb hg hat))
           go_roundg k2
           case measure => have := HK1.out; have := HK2.out; omega
           case rel => exact ⟨(y311), (wrap64 (x17_1 + 1)), q10_12, H', ⟨by have := HK1.out; have := HK2.out; omega⟩, ⟨by (with_reducible repeat (first | apply Kd.R_alloc | apply Kd.R_drewN | apply Kd.R_drew)); exact HO313.out⟩, ⟨by (with_reducible repeat (first | refine blk_drewN ?_ _ | refine blk_drew ?_ | refine blk_alloc ?_ _)); exact BK303.out⟩, ⟨by repeat (first | (with_reducible first | exact HB.out | apply below_alloc | apply pw_below_drewN | apply below_drew1 | refine below_set ?_ GE303.out) | exact HB.out)⟩⟩
          ·
           rw [if_neg c33] at H
           exact absurd H (by simp)
      ·
       rw [if_neg c12] at H
       exact absurd H (by simp)
     ·
      rw [if_neg c11] at H
      exact absurd H (by simp)
    ·
     rw [if_neg c10] at H
     have c10b0 : decide (x17_1 < (l0_1.length : Int)) = false := decide_eq_false c10
     clear c10
     obtain rfl := Option.some.inj H
     go_wp2
     go_ret
     exact ⟨_, by first | rfl | (simp [errW_none, errW_some] <;> rfl) | (simp [*, errW_none, errW_some] <;> rfl), by (with_reducible repeat (first | apply Kd.R_alloc | apply Kd.R_drewN | apply Kd.R_drew)); exact HO_3.out, by repeat (first | (with_reducible first | exact HB.out | apply below_alloc | apply pw_below_drewN | apply below_drew1 | refine below_set ?_ GE303.out) | exact HB.out)⟩
 ·
  replace c3 := Bool.eq_false_iff.mpr c3
  subst c3
  have H1 : (some ([] : List ByteArray)) = some r := q10_13
  clear H
  have H := H1
  clear H1
  obtain rfl := Option.some.inj H
  go_enter Try.func14, Try.ntmps14
  go_wp2_with (first | ((with_reducible refine gate_dst (N := 1) rfl ?_); refine box_event ?hg (N := 1) ?hd (cs := #[.int .i64 a0_0, .slice A0_1 l0_1.length c0_1]) (t := 26) ?hr ?_; (case hd => rfl); (case hg => rfl); (case hr => first | (go_simp; done) | (go_simp; rfl)); intro gb303 hg w35 hbox hb; have n0_ := Aside0.mk (below_step q10_9 hb); have n1_ := Aside0.mk (hbox); have n2_ := Aside0.mk ((by rw [hg]; exact (below_size q10_9) : w.heap.size ≤ gb303)); have n3_ := Aside0.mk ((by rw [hg]; exact (below_size q10_9) : w.heap.size ≤ gb303)); clear HB; have HB := n0_; have BK303 := n1_; have GW303 := n2_; have GE303 := n3_; clear n0_ n1_ n2_ n3_; clear hb hbox hg; have hcz36_0 : w35.cell? ⟨gb303, 0, none⟩ = some (.int .i64 a0_0) := (blk_cell BK303.out 0).trans rfl; have hcz36_1 : w35.cell? ⟨gb303, 1, none⟩ = some (.slice A0_1 l0_1.length c0_1) := (blk_cell BK303.out 1).trans rfl; have hfz36_0 := blk_frozen BK303.out 0; have hfz36_1 := blk_frozen BK303.out 1) | ((with_reducible refine gate_callee (f := 56) rfl ?_); refine goesL_ (some 11) rfl rfl Try.func56 q10_15 rfl #[.agg #[.int .i64 a0_0, .slice A0_1 l0_1.length c0_1]] rfl q10_8 ?_; (with_reducible refine (impl_IsContext.calls a0_0 _ _ l0_1 false _ ?side1 ?side2 A2.out).mono ?_); (case side1 => exact q10_6); (case side2 => exact HC0_1.out); rintro e w37 ⟨rfl, hb⟩; refine ⟨_, rfl, ?_⟩; have n0_ := Aside0.mk (blk_below (g := gb303) (o := .cells #[.int .i64 a0_0, .slice A0_1 l0_1.length c0_1] 26 (0, 0)) q10_10 hb); have n1_ := Aside0.mk (below_step q10_7 hb); clear BK303; clear HB; have BK303 := n0_; have HB := n1_; clear n0_ n1_; (try clear hb); (try clear hb2); (try clear hk); (try clear hi)))
  go_ret
  exact ⟨_, by first | rfl | (simp [errW_none, errW_some] <;> rfl) | (simp [*, errW_none, errW_some] <;> rfl), by first | exact Kd.R_nil _ _ _ _ _ | exact Kd.N_nil _ _ _ _ _ | exact Kd.V_nil _ _ _ _ _ | exact Kd.Q_nil _ _ _ _ _ | exact Kd.S_nil _ _ _ _ _, by repeat (first | (with_reducible first | exact HB.out | apply below_alloc | apply pw_below_drewN | apply below_drew1 | refine below_set ?_ GE303.out) | exact HB.out)⟩
end Go.Proofs.Ytafnamchckehmaa.Pr
