/- Functions of the program as plain functions, proofs that their calls answer so, and plain laws: what the law needs. No condition beyond what each statement says. -/
import Derived.Test.YtfmpafgmcleogaaGreatDoorZFnLattice3
namespace Go.Proofs.YtfmpafgmcleogaaGreatDoor.Pr
set_option maxHeartbeats 40000000
set_option maxRecDepth 100000
open Go.RowKit Go.Proofs.YtfmpafgmcleogaaGreatDoorW.PrintWords Go.Proofs.YtfmpafgmcleogaaGreatDoorW.PrintLast Go.Proofs.YtfmpafgmcleogaaGreatDoorW.PrintMore
attribute [local go_sem] max2_int min2_int max_two min_two max_three min_three max_four min_four
set_option linter.unusedVariables false
set_option linter.unusedSimpArgs false
theorem bnd3_ {α β : Type} {o : Option α} {f : α → Option β} {r : β} (h : o.bind f = some r) : ∃ a, Aside0 (o = some a) ∧ f a = some r := by
 obtain ⟨a, h1, h2⟩ := Option.bind_eq_some_iff.mp h
 exact ⟨a, ⟨h1⟩, h2⟩
theorem q3_1 {P : Prop} (h : P := by (with_reducible repeat (first | refine blk_drewN ?_ _ | refine blk_drew ?_ | refine blk_alloc ?_ _)); refine blk_put (cs := #[.int .i64 a1, u164001]) ?_ 1 _ rfl; (with_reducible repeat (first | refine blk_drewN ?_ _ | refine blk_drew ?_ | refine blk_alloc ?_ _)); exact BK163.out) : P := h
theorem q3_2 {P : Prop} (h : P := by (with_reducible repeat (first | refine blk_drewN ?_ _ | refine blk_drew ?_ | refine blk_alloc ?_ _)); refine blk_far ?_ NB162_163.out _; (with_reducible repeat (first | refine blk_drewN ?_ _ | refine blk_drew ?_ | refine blk_alloc ?_ _)); exact BK162.out) : P := h
theorem q3_3 {P : Prop} (h : P := by repeat (first | (with_reducible first | exact HI0.out | apply IsS71.alloc | apply IsS71.drewN | apply IsS71.drew | apply IsS71.set_1 | apply IsS71.set_2 | refine IsS71.far ?_ NB0_162.out _ | refine IsS71.far ?_ NB0_163.out _) | exact HI0.out)) : P := h
theorem q3_4 {P : Prop} (h : P := by repeat (first | (with_reducible first | exact HB.out | apply below_alloc | apply pw_below_drewN | apply below_drew1 | refine below_set ?_ (IsS71.ge HI0.out) | refine below_set ?_ GE162.out | refine below_set ?_ GE163.out) | exact HB.out)) : P := h
theorem q3_5 {P : Prop} (h : P := by repeat (first | (with_reducible first | exact HK.out | apply KeepBut.set_ | apply keep_drewN | apply keep_drew | apply keep_alloc | refine keep_far ?_ GW162.out _ | refine keep_far ?_ GW163.out _) | exact HK.out)) : P := h
theorem q3_6 {P : Prop} (h : P := by repeat (first | (with_reducible first | exact HI0.out | apply IsS71.alloc | apply IsS71.drewN | apply IsS71.drew | apply IsS71.set_1 | apply IsS71.set_2 | refine IsS71.far ?_ NB0_162.out _) | exact HI0.out)) : P := h
theorem q3_7 {P : Prop} (h : P := by repeat (first | (with_reducible first | exact HK.out | apply KeepBut.set_ | apply keep_drewN | apply keep_drew | apply keep_alloc | refine keep_far ?_ GW162.out _) | exact HK.out)) : P := h
theorem q3_9 {P : Prop} (h : P := by (try simp only [List.map_toArray, List.map_cons, List.map_nil]); first | done | (simp only [hji27]; rfl) | rfl | (simp only [List.length_drop, List.length_take]; rfl)) : P := h
theorem q3_12 {P : Prop} (h : P := by (with_reducible repeat (first | refine blk_drewN ?_ _ | refine blk_drew ?_ | refine blk_alloc ?_ _)); exact BK162.out) : P := h
theorem q3_13 {P : Prop} (h : P := by (with_reducible repeat (first | refine blk_drewN ?_ _ | refine blk_drew ?_ | refine blk_alloc ?_ _)); exact BK163.out) : P := h
theorem q3_14 {P : Prop} (h : P := by (with_reducible repeat (first | apply Kd.R_alloc | apply Kd.R_drewN | apply Kd.R_drew)); exact HO_164001.out) : P := h
def spec_l3Make.l0 : Nat → Int → Int → Int → List Int → Int → Int → Int → List Int → Option (Int × List Int × Int × Int)
 | 0, _, _, _, _, _, _, _, _ => none
 | k + 1, x1, x8, x9, x1000, x1001, x1002, x164000, x164001 => if x9 < x8 then ((spec_l1Once.f x1000 x1001 x1002 2).bind fun bt167 => (if bt167.1 = true then (if 0 ≤ (IntKind.u64.wrap (x1)) then ((spec_l1Below.f x1000 bt167.2.1 bt167.2.2 (shl .i64 1 (IntKind.u64.wrap (x1)))).bind fun bt170 => (if x164001.length < 17592186044416 then (spec_l3Make.l0 k x1 x8 (wrap64 (x9 + 1)) x1000 bt170.2.1 bt170.2.2 x164000 (x164001 ++ [bt170.1])) else (none))) else (none)) else (if 0 ≤ (IntKind.u64.wrap (x1)) then ((spec_l1Below.f x1000 bt167.2.1 bt167.2.2 (shl .i64 1 (IntKind.u64.wrap (x1)))).bind fun bt176 => ((spec_l1Below.f x1000 bt176.2.1 bt176.2.2 (shl .i64 1 (IntKind.u64.wrap (x1)))).bind fun bt179 => (if x164001.length < 17592186044416 then (spec_l3Make.l0 k x1 x8 (wrap64 (x9 + 1)) x1000 bt179.2.1 bt179.2.2 x164000 (x164001 ++ [Go.bits .or .i64 bt176.1 bt179.1])) else (none)))) else (none)))) else (some (x164000, x164001, x1001, x1002))
def spec_l3Make.f (k : Nat) (s0_0 : List Int) (s0_1 : Int) (s0_2 : Int) (a1 : Int) (a2 : Int) : Option (Int × List Int × Int × Int) := (spec_l1Below.f s0_0 s0_1 s0_2 (wrap64 (a2 + 1))).bind fun bt164 => (spec_l3Make.l0 k a1 bt164.1 0 s0_0 bt164.2.1 bt164.2.2 a1 ([] : List Int))
def spec_l3Make.T7 : Bool × List (List Nat × List Nat) := (true, [([], []), ([0], [0]), ([], []), ([], []), ([3], [3]), ([4], [4]), ([2, 5], [2, 5]), ([6], [6]), ([1, 7, 6], [1, 7]), ([0, 1, 2, 3, 4, 5, 6, 7, 8], []), ([9, 8, 8, 0, 1, 2, 3, 4, 5, 6, 7, 8], [8, 9])])
def spec_l3Make.B7 : List Nat := [0, 1, 0, 0, 8, 24, 60, 124, 255, 511, 1023]
theorem spec_l3Make.tab7 : rtab .any (opsOf Tryz.f85 7) = spec_l3Make.T7 := by kernel_rfl
theorem spec_l3Make.bits7 : waitsOk spec_l3Make.T7.2 spec_l3Make.B7 = true := by kernel_rfl
def spec_l3Make.T8 : Bool × List (List Nat × List Nat) := (true, [([], []), ([0], [0]), ([], []), ([], []), ([3], [3]), ([4], [4]), ([2, 5], [2, 5]), ([], []), ([], []), ([8], [8]), ([9], [9]), ([7, 10, 6], [7, 10]), ([6, 11], [6, 11]), ([12], [12]), ([1, 13, 11], [1, 13]), ([0, 1, 2, 3, 4, 5, 6, 7, 8, 9, 10, 11, 12, 13, 14], []), ([15, 14, 14, 0, 1, 2, 3, 4, 5, 6, 7, 8, 9, 10, 11, 12, 13, 14], [14, 15])])
def spec_l3Make.B8 : List Nat := [0, 1, 0, 0, 8, 24, 60, 0, 0, 256, 768, 2044, 4092, 8188, 16383, 32767, 65535]
theorem spec_l3Make.tab8 : rtab .any (opsOf Tryz.f85 8) = spec_l3Make.T8 := by kernel_rfl
theorem spec_l3Make.bits8 : waitsOk spec_l3Make.T8.2 spec_l3Make.B8 = true := by kernel_rfl
theorem spec_l3Make.calls (k : Nat) (g : Nat) (s0_0 : List Int) (s0_1 : Int) (s0_2 : Int) (a1 : Int) (a2 : Int) (r1 : Int) (r2 : List Int) (r3 : Int) (r4 : Int) (w0 w : World) (hI : IsS71 w0 w g s0_0 s0_1 s0_2) (hB : Below w0.heap.size w0 w) (h : spec_l3Make.f k s0_0 s0_1 s0_2 a1 a2 = some (r1, r2, r3, r4)) :
  Calls Tryz.prog 85 #[.pointer (some ⟨g, 0, none⟩), .int .i64 a1, .int .i64 a2] w fun e w' => ∃ v1_ : Value, e = .returned (.agg #[.int .i64 r1, v1_]) ∧ Kd.R (Kd.int .i64) 3 w' w.heap.size (fun _ => True) v1_ r2 ∧ IsS71 w0 w' g s0_0 r3 r4 ∧ Below w0.heap.size w0 w' ∧ KeepBut w w' g none := by
 have hu26 := Tryz.underlying26; have HI0 := Aside0.mk hI; have HK := Aside0.mk (KeepBut.refl w g none); have HL := Aside0.mk hB.size; clear hI; have HW0 := Aside0.mk hB.size; have HB := Aside0.mk hB; clear hB; have H := h; clear h; unfold spec_l3Make.f at H; obtain ⟨⟨t164, t165, t166⟩, A4, H⟩ := bnd3_ H; dsimp only at H; have H' := Aside0.mk H; clear H
 go_enter Tryz.func85, Tryz.ntmps85
 go_wp2_with (first | (refine be_ 6 #[.int .i64 0, .slice none 0 0] 26 ?_; intro gb162 hg w5 hbox hb; have n_ := ac_ (IsS71.below s6_ hb) <| ac_ (KeepBut.trans s7_ (KeepBut.of_below hb g none) (.inl rfl)) <| ac_ (below_step (by repeat (first | (with_reducible first | exact HB.out | apply below_alloc | apply pw_below_drewN | apply below_drew1 | refine below_set ?_ (IsS71.ge HI0.out)) | exact HB.out)) hb) <| ac_ (hbox) <| ac_ ((by rw [hg]; exact (keep_size (w := w) (g := g) (row := none) s7_) : w.heap.size ≤ gb162)) <| ac_ ((Nat.le_trans HW0.out (by rw [hg]; exact (keep_size (w := w) (g := g) (row := none) s7_) : w.heap.size ≤ gb162) : w0.heap.size ≤ gb162)) <| ac_ ((nl_ hg (IsS71.lt (show IsS71 w0 _ g s0_0 s0_1 s0_2 from s6_)))) <| Aside0.mk ((ng_ hg (IsS71.lt (show IsS71 w0 _ g s0_0 s0_1 s0_2 from s6_)))); clear HI0 HK HB; obtain ⟨HI0, HK, HB, BK162, GW162, GE162, NB0_162, NB162_0⟩ := n_; clear hb hbox hg) | (refine be_ 7 #[.int .i64 0, .slice none 0 0] 26 ?_; intro gb163 hg w6 hbox hb; have n_ := ac_ (IsS71.below q3_6 hb) <| ac_ (blk_below (g := gb162) (o := .cells #[.int .i64 0, .slice none 0 0] 26 (0, 0)) q3_12 hb) <| ac_ (KeepBut.trans q3_7 (KeepBut.of_below hb g none) (.inl rfl)) <| ac_ (below_step (by repeat (first | (with_reducible first | exact HB.out | apply below_alloc | apply pw_below_drewN | apply below_drew1 | refine below_set ?_ (IsS71.ge HI0.out) | refine below_set ?_ GE162.out) | exact HB.out)) hb) <| ac_ (hbox) <| ac_ ((by rw [hg]; exact (keep_size (w := w) (g := g) (row := none) q3_7) : w.heap.size ≤ gb163)) <| ac_ ((Nat.le_trans HW0.out (by rw [hg]; exact (keep_size (w := w) (g := g) (row := none) q3_7) : w.heap.size ≤ gb163) : w0.heap.size ≤ gb163)) <| ac_ ((nl_ hg (blk_lt (g := gb162) (o := .cells #[.int .i64 0, .slice none 0 0] 26 (0, 0)) q3_12))) <| ac_ ((ng_ hg (blk_lt (g := gb162) (o := .cells #[.int .i64 0, .slice none 0 0] 26 (0, 0)) q3_12))) <| ac_ ((nl_ hg (IsS71.lt (show IsS71 w0 _ g s0_0 s0_1 s0_2 from q3_6)))) <| Aside0.mk ((ng_ hg (IsS71.lt (show IsS71 w0 _ g s0_0 s0_1 s0_2 from q3_6)))); clear HI0 BK162 HK HB; obtain ⟨HI0, BK162, HK, HB, BK163, GW163, GE163, NB162_163, NB163_162, NB0_163, NB163_0⟩ := n_; clear hb hbox hg; have hnb7 := NB163_162.out; have hnc7 := NB162_163.out; have hnb8 := NB163_0.out; have hnc8 := NB0_163.out; have hcz9_0 : w6.cell? ⟨gb163, 0, none⟩ = some (.int .i64 0) := (blk_cell BK163.out 0).trans rfl; have hcz9_1 : w6.cell? ⟨gb163, 1, none⟩ = some (.slice none 0 0) := (blk_cell BK163.out 1).trans rfl; have hfz9_0 := blk_frozen BK163.out 0; have hfz9_1 := blk_frozen BK163.out 1) | (refine gL_ 53 15 Tryz.func53 #[.pointer (some ⟨g, 0, none⟩), .int .i64 (wrap64 (a2 + 1))] ?_; (with_reducible refine (spec_l1Below.calls g s0_0 s0_1 s0_2 (wrap64 (a2 + 1)) t164 t165 t166 w0 _ ?side1 ?side2 A4.out).mono ?_); (case side1 => exact q3_3); (case side2 => exact q3_4); rintro e w10 ⟨rfl, hi, hb, hk⟩; refine ⟨_, rfl, ?_⟩; have n_ := ac_ (KeepBut.blk hk (g' := gb162) (o := .cells #[.int .i64 0, .slice none 0 0] 26 (0, 0)) (by (with_reducible repeat (first | refine blk_drewN ?_ _ | refine blk_drew ?_ | refine blk_alloc ?_ _)); refine blk_far ?_ NB162_163.out _; (with_reducible repeat (first | refine blk_drewN ?_ _ | refine blk_drew ?_ | refine blk_alloc ?_ _)); refine blk_far ?_ NB162_163.out _; (with_reducible repeat (first | refine blk_drewN ?_ _ | refine blk_drew ?_ | refine blk_alloc ?_ _)); exact BK162.out) NB162_0.out (by simp)) <| ac_ (KeepBut.blk hk (g' := gb163) (o := .cells #[.int .i64 a1, .slice none 0 0] 26 (0, 0)) (by (with_reducible repeat (first | refine blk_drewN ?_ _ | refine blk_drew ?_ | refine blk_alloc ?_ _)); refine blk_put (cs := #[.int .i64 a1, .slice none 0 0]) ?_ 1 _ rfl; (with_reducible repeat (first | refine blk_drewN ?_ _ | refine blk_drew ?_ | refine blk_alloc ?_ _)); refine blk_put (cs := #[.int .i64 0, .slice none 0 0]) ?_ 0 _ rfl; (with_reducible repeat (first | refine blk_drewN ?_ _ | refine blk_drew ?_ | refine blk_alloc ?_ _)); exact BK163.out) NB163_0.out (by simp)) <| ac_ (KeepBut.trans q3_5 hk (.inl rfl)) <| ac_ (hb) <| Aside0.mk (hi); clear BK162 BK163 HK HB HI0; obtain ⟨BK162, BK163, HK, HB, HI0⟩ := n_; (try clear hb hk hi)))
 go_loopg [9] k (fun kq v9 w' => ∃ (x9_1 : Int) (x1001_1 : Int) (x1002_1 : Int) (x164001_1 : List Int) (u164001 : Value), v9 = .int .i64 x9_1 ∧ Aside0 (spec_l3Make.l0 kq a1 t164 x9_1 s0_0 x1001_1 x1002_1 a1 x164001_1 = some (r1, r2, r3, r4)) ∧ Aside0 (kq ≤ k) ∧ Aside0 (Kd.R (Kd.int .i64) 3 w' w.heap.size (fun _ => True) u164001 x164001_1) ∧ Aside0 (w'.heap[gb162]? = some (.cells #[.int .i64 0, (.slice none 0 0)] 26 (0, 0))) ∧ Aside0 (w'.heap[gb163]? = some (.cells #[.int .i64 a1, u164001] 26 (0, 0))) ∧ Aside0 (IsS71 w0 w' g s0_0 x1001_1 x1002_1) ∧ Aside0 (KeepBut w w' g none) ∧ Aside0 (Below w0.heap.size w0 w'))
 case atStart => exact ⟨(0), (t165), (t166), (([] : List Int)), (.slice none 0 0), s3_, H', ⟨Nat.le_refl _⟩, ⟨(by first | exact Kd.R_nil _ _ _ _ _ | exact Kd.N_nil _ _ _ _ _ | exact Kd.V_nil _ _ _ _ _ | exact Kd.Q_nil _ _ _ _ _ | exact Kd.S_nil _ _ _ _ _)⟩, ⟨q3_12⟩, ⟨q3_13⟩, ⟨q3_3⟩, ⟨q3_5⟩, ⟨q3_4⟩⟩
 case round =>
  clear H'
  try clear p2
  try clear c5
  try clear p6
  try clear c7
  try clear c8
  try clear hcz9_0
  try clear hcz9_1
  try clear hfz9_0
  try clear hfz9_1
  obtain ⟨x9_1, x1001_1, x1002_1, x164001_1, u164001, rfl, HA, HK1, HO_164001, BK162, BK163, HI0, HK, HB⟩ := hrel
  cases gk with
  | zero => exact absurd HA.out (by simp [spec_l3Make.l0])
  | succ k1 =>
   have H := HA.out; clear HA
   simp only [spec_l3Make.l0] at H
   by_cases c11 : x9_1 < t164
   ·
    rw [if_pos c11] at H; have c11b0 : decide (x9_1 < t164) = true := decide_eq_true c11; clear c11; obtain ⟨⟨t167, t168, t169⟩, A12, H⟩ := bnd3_ H; dsimp only at H
    by_cases c13 : t167 = true
    ·
     subst c13; rw [if_pos rfl] at H; obtain ⟨ji14, hji14⟩ : ∃ j_ : Int, (IntKind.u64.wrap (a1)) = j_ := ⟨_, rfl⟩
     replace H : (if 0 ≤ (ji14) then ((spec_l1Below.f s0_0 t168 t169 (shl .i64 1 (ji14))).bind fun bt170 => (if x164001_1.length < 17592186044416 then (spec_l3Make.l0 k1 a1 t164 (wrap64 (x9_1 + 1)) s0_0 bt170.2.1 bt170.2.2 a1 (x164001_1 ++ [bt170.1])) else (none))) else (none)) = some (r1, r2, r3, r4) := by first | (rw [hji14] at H; exact H) | (simp only [hji14] at H ⊢; exact H)
     (try rw [hji14] at A12)
     by_cases c15 : 0 ≤ (ji14)
     ·
      rw [if_pos c15] at H; have c15b0 := eq_true c15; have c15b1 : decide (0 ≤ (ji14)) = true := decide_eq_true c15; clear c15; obtain ⟨ji16, hji16⟩ : ∃ j_ : Int, (shl .i64 1 (ji14)) = j_ := ⟨_, rfl⟩
      replace H : ((spec_l1Below.f s0_0 t168 t169 (ji16)).bind fun bt170 => (if x164001_1.length < 17592186044416 then (spec_l3Make.l0 k1 a1 t164 (wrap64 (x9_1 + 1)) s0_0 bt170.2.1 bt170.2.2 a1 (x164001_1 ++ [bt170.1])) else (none))) = some (r1, r2, r3, r4) := by first | (rw [hji16] at H; exact H) | (simp only [hji16] at H ⊢; exact H)
      (try rw [hji16] at A12)
      have hji16_ : (IntKind.i64.wrap (1 * 2 ^ min (ji14).toNat 64)) = ji16 := hji16; have hji16z : (ji14) ≤ 64 → (IntKind.i64.wrap (1 * 2 ^ (ji14).toNat)) = ji16 := shl_small hji16
      have hji16u : (IntKind.i64.wrap (2 ^ min (ji14).toNat 64)) = ji16 := by have h_ := hji16_; rw [Int.one_mul] at h_; exact h_
      have hji16v : (ji14) ≤ 64 → (IntKind.i64.wrap (2 ^ (ji14).toNat)) = ji16 := fun hle_ => by have h_ := hji16z hle_; rw [Int.one_mul] at h_; exact h_
      have hji16y : (wrap64 (1 * 2 ^ min (ji14).toNat 64)) = ji16 := (i64_w _).symm.trans hji16_
      have hji16x : (ji14) ≤ 64 → (wrap64 (1 * 2 ^ (ji14).toNat)) = ji16 := fun h_ => (i64_w _).symm.trans (hji16z h_)
      obtain ⟨⟨t170, t171, t172⟩, A17, H⟩ := bnd3_ H; dsimp only at H
      by_cases c18 : x164001_1.length < 17592186044416
      ·
       rw [if_pos c18] at H; have LMc18 := Aside0.mk c18; clear c18; obtain ⟨y173, hy_⟩ : ∃ y_ : List Int, y_ = (x164001_1 ++ [t170]) := ⟨_, rfl⟩
       replace H : (spec_l3Make.l0 k1 a1 t164 (wrap64 (x9_1 + 1)) s0_0 t171 t172 a1 y173) = some (r1, r2, r3, r4) := rH_
       have Ny173 := Aside0.mk hy_; clear hy_; have H' := Aside0.mk H; clear H
       try go_wp2_with (first | (refine gL_ 86 22 Tryz.func86 #[.pointer (some ⟨g, 0, none⟩), .int .i64 2] ?_; (with_reducible refine (spec_l1Once.calls g s0_0 x1001_1 x1002_1 2 true t168 t169 w0 _ ?side1 ?side2 A12.out).mono ?_); (case side1 => exact q3_3); (case side2 => exact q3_4); rintro e w19 ⟨rfl, hi, hb, hk⟩; refine ⟨_, rfl, ?_⟩; have n_ := ac_ (Kd.R_mono (Kd.R_keep (IsS71.apart (show IsS71 w0 _ g s0_0 x1001_1 x1002_1 from q3_3) q3_14 (by decide)) hk (fun _ h => h.2)) (fun _ h => h.1)) <| ac_ (KeepBut.blk hk (g' := gb162) (o := .cells #[.int .i64 0, .slice none 0 0] 26 (0, 0)) q3_12 NB162_0.out (by simp)) <| ac_ (KeepBut.blk hk (g' := gb163) (o := .cells #[.int .i64 a1, u164001] 26 (0, 0)) q3_13 NB163_0.out (by simp)) <| ac_ (KeepBut.trans q3_5 hk (.inl rfl)) <| ac_ (hb) <| Aside0.mk (hi); clear HO_164001 BK162 BK163 HK HB HI0; obtain ⟨HO_164001, BK162, BK163, HK, HB, HI0⟩ := n_; (try clear hb hk hi)))
       have n0_ := Aside0.mk (Kd.R_drew HO_164001.out); have n1_ := Aside0.mk (blk_drew BK162.out); have n2_ := Aside0.mk (blk_drew BK163.out); have n3_ := Aside0.mk (IsS71.drew HI0.out); have n4_ := Aside0.mk (keep_drew HK.out); have n5_ := Aside0.mk (below_drew1 HB.out); clear HO_164001; clear BK162; clear BK163; clear HI0; clear HK; clear HB; have HO_164001 := n0_; have BK162 := n1_; have BK163 := n2_; have HI0 := n3_; have HK := n4_; have HB := n5_; clear n0_ n1_ n2_ n3_ n4_ n5_
       refine start_ (n := 11) (S := fun w' => w'.cell? ⟨gb163, 0, none⟩ = some (.int .i64 a1) ∧ w'.cell? ⟨gb163, 1, none⟩ = some (u164001)) (ds := [10]) (tb_ 11 0) (by kernel_rfl) rfl rfl ⟨(blk_cell BK163.out 0).trans rfl, (blk_cell BK163.out 1).trans rfl⟩ (fun hHeld => ?_); refine with_tabW spec_l3Make.tab7 spec_l3Make.bits7 (fun HT_ HW_ => ?_)
       generalize w19.drew = w20 at HO_164001 BK162 BK163 HI0 HK HB hHeld ⊢
       refine pl_ 0 23 (tb_ 11 1) ?_; refine pl_ 2 25 (tb_ 11 5) ?_; refine pl_ 3 26 (tb_ 11 13) ?_; refine pl_ 4 27 (tb_ 11 29) ?_; refine pl_ 5 28 (tb_ 11 61) ?_; refine tk_ 1 24 (tb_ 11 63) hHeld ?_
       refine on_ 6 29 (tb_ 11 127) (fun K hK => ?_)
       refine goes_ Tryz.func53 (by kernel_rfl) rfl #[.pointer (some ⟨g, 0, none⟩), .int .i64 ji16] (by rfl) rfl rfl (by (try simp only [List.map_toArray, List.map_cons, List.map_nil]); first | done | (simp only [hji16]; rfl) | rfl | (simp only [List.length_drop, List.length_take]; rfl)) ?_
       with_reducible refine (spec_l1Below.calls g s0_0 t168 t169 ji16 t170 t171 t172 w0 _ ?side1 ?side2 A17.out).mono ?_
       (case side1 => exact q3_3)
       (case side2 => exact q3_4)
       rintro e w21 ⟨rfl, hi, hb, hk⟩
       refine ⟨_, rfl, ?_⟩
       have n0_ := Aside0.mk (Kd.R_mono (Kd.R_keep (IsS71.apart (show IsS71 w0 _ g s0_0 t168 t169 from q3_3) q3_14 (by decide)) hk (fun _ h => h.2)) (fun _ h => h.1))
       have n1_ := Aside0.mk (KeepBut.blk hk (g' := gb162) (o := .cells #[.int .i64 0, .slice none 0 0] 26 (0, 0)) q3_12 NB162_0.out (by simp))
       have n2_ := Aside0.mk (KeepBut.blk hk (g' := gb163) (o := .cells #[.int .i64 a1, u164001] 26 (0, 0)) q3_13 NB163_0.out (by simp))
       have n3_ := Aside0.mk (KeepBut.trans q3_5 hk (.inl rfl)); have n4_ := Aside0.mk (hb); have n5_ := Aside0.mk (hi); clear HO_164001; clear BK162; clear BK163; clear HK; clear HB; clear HI0; have HO_164001 := n0_; have BK162 := n1_; have BK163 := n2_; have HK := n3_; have HB := n4_; have HI0 := n5_; clear n0_ n1_ n2_ n3_ n4_ n5_
       (try clear hb)
       (try clear hb2)
       (try clear hk)
       (try clear hi)
       refine hK.out _ _ ⟨(blk_cell BK163.out 0).trans rfl, (blk_cell BK163.out 1).trans rfl⟩ (fun hHeld => ?_)
       clear hK K
       refine norm_ (a' := ?_) ?_ ?_
       rotate_left
       ·
        show Act.put _ (some 29) _ = _
        exact s8_
       refine on_ 7 30 (tb_ 11 255) (fun K hK => ?_)
       refine value_ (w1 := ?_) (v := ?_) (by rfl) rfl ?_ ?_
       rotate_left 2
       ·
        go_simp
        constructor
        ·
         rfl
        ·
         rfl
       refine hK.out _ _ ⟨(blk_cell (blk_alloc BK163.out _) 0).trans rfl, (blk_cell (blk_alloc BK163.out _) 1).trans rfl⟩ (fun hHeld => ?_)
       clear hK K
       refine norm_ (a' := ?_) ?_ ?_
       rotate_left
       ·
        show Act.put _ (some 30) _ = _
        exact s8_
       refine on_ 8 31 (tb_ 11 511) (fun K hK => ?_)
       refine Kd.R_append_step (Kd.int .i64) w.heap.size (by rfl) (.tmp 24) (.tmp 30) 24 3 (.int .i64 0) 8 rfl Tryz.underlying24 info3 rfl (by decide) (by omega) u164001 x164001_1 t170 [.int .i64 t170] (fun _ => True) (fun _ => False) rfl rfl ?aP (fun _ hk => hk.elim) ?aF ?aO (Below.refl _ _) ?aS ?aL ?_
       (case aP => exact rfl)
       (case aF => exact (fun _ _ => trivial))
       (case aO => exact q3_14)
       (case aS => exact (keep_size (w := w) (g := g) (row := none) q3_5))
       (case aL => have := LMc18.out; omega)
       intro v174 w22 ho hb hg hat
       rw [← Ny173.out] at ho
       have n0_ := Aside0.mk (blk_grown (g := gb162) (o := .cells #[.int .i64 0, .slice none 0 0] 26 (0, 0)) q3_12 hg (Kd.R_ne HO_164001.out BK162.out (by decide)))
       have n1_ := Aside0.mk (blk_grown (g := gb163) (o := .cells #[.int .i64 a1, u164001] 26 (0, 0)) q3_13 hg (Kd.R_ne HO_164001.out BK163.out (by decide)))
       have n2_ := Aside0.mk (IsS71.grown q3_3 hg (IsS71.own_ne HI0.out HO_164001.out (by decide)))
       have n3_ := Aside0.mk (below_weaken q3_4 HL.out hb); have n4_ := Aside0.mk (KeepBut.trans q3_5 (KeepBut.of_grown hg g) (Kd.R_base2 HO_164001.out)); have n5_ := Aside0.mk (ho); clear BK162; clear BK163; clear HI0; clear HB; clear HK; clear HO_164001; have BK162 := n0_; have BK163 := n1_; have HI0 := n2_; have HB := n3_; have HK := n4_; have HO175 := n5_; clear n0_ n1_ n2_ n3_ n4_ n5_; clear ho hb hg hat; obtain ⟨Ao23, co23, eo23⟩ := Kd.R_slice HO175.out
       (first | subst eo23 | (injection eo23 with f1_ f2_ f3_; have f4_ := f1_.symm; have f5_ := f3_.symm; clear f1_ f2_ f3_; subst f4_; subst f5_))
       refine hK.out _ _ ⟨(blk_cell BK163.out 0).trans rfl, (blk_cell BK163.out 1).trans rfl⟩ (fun hHeld => ?_)
       clear hK K
       refine norm_ (a' := ?_) ?_ ?_
       rotate_left
       ·
        show Act.put _ (some 31) _ = _
        exact s8_
       refine pl_ 9 32 (tb_ 11 1023) ?_
       refine last_ (i := 10) (N := none) (tb_ 11 2047) rfl rfl (one_of HT_.out (by kernel_rfl)) (by decide) (fun K hK => ?_)
       have hs24 : w22.cell? ⟨gb163, 1, none⟩ = some (u164001) := (blk_cell BK163.out 1).trans rfl; have hfs24 := blk_frozen BK163.out 1; have hns24_0 := NB162_163.out; have hms24_0 := NB163_162.out
       refine skip_ (w1 := ?_) (by rfl) rfl ?_ ?_
       rotate_left
       ·
        go_simp
        rfl
       refine hK.out _ _ ?_
       clear hK K
       refine done_ (done_of HT_.out (by kernel_rfl)) ?_
       try go_wp2
       go_roundg k1
       case measure => have := HK1.out; omega
       case rel => exact ⟨(wrap64 (x9_1 + 1)), (t171), (t172), (y173), (.slice Ao23 y173.length co23), s3_, H', ⟨by have := HK1.out; omega⟩, ⟨(by (with_reducible repeat (first | apply Kd.R_alloc | apply Kd.R_drewN | apply Kd.R_drew)); exact Kd.R_mono (Kd.R_far (p := ⟨gb163, 1, none⟩) (Kd.R_types HO175.out BK163.out (by decide)) (fun _ hk => hk.2) (.slice Ao23 y173.length co23)) (fun _ hk => trivial))⟩, ⟨q3_2⟩, ⟨q3_1⟩, ⟨q3_3⟩, ⟨q3_5⟩, ⟨q3_4⟩⟩
      ·
       rw [if_neg c18] at H
       exact absurd H (by simp)
     ·
      rw [if_neg c15] at H
      exact absurd H (by simp)
    ·
     replace c13 := Bool.eq_false_iff.mpr c13; subst c13
     rw [if_neg (show ¬ (false = true) by decide)] at H
     obtain ⟨ji25, hji25⟩ : ∃ j_ : Int, (IntKind.u64.wrap (a1)) = j_ := ⟨_, rfl⟩
     replace H : (if 0 ≤ (ji25) then ((spec_l1Below.f s0_0 t168 t169 (shl .i64 1 (ji25))).bind fun bt176 => ((spec_l1Below.f s0_0 bt176.2.1 bt176.2.2 (shl .i64 1 (ji25))).bind fun bt179 => (if x164001_1.length < 17592186044416 then (spec_l3Make.l0 k1 a1 t164 (wrap64 (x9_1 + 1)) s0_0 bt179.2.1 bt179.2.2 a1 (x164001_1 ++ [Go.bits .or .i64 bt176.1 bt179.1])) else (none)))) else (none)) = some (r1, r2, r3, r4) := by first | (rw [hji25] at H; exact H) | (simp only [hji25] at H ⊢; exact H)
     (try rw [hji25] at A12)
     by_cases c26 : 0 ≤ (ji25)
     ·
      rw [if_pos c26] at H; have c26b0 := eq_true c26; have c26b1 : decide (0 ≤ (ji25)) = true := decide_eq_true c26; clear c26; obtain ⟨ji27, hji27⟩ : ∃ j_ : Int, (shl .i64 1 (ji25)) = j_ := ⟨_, rfl⟩
      replace H : ((spec_l1Below.f s0_0 t168 t169 (ji27)).bind fun bt176 => ((spec_l1Below.f s0_0 bt176.2.1 bt176.2.2 (ji27)).bind fun bt179 => (if x164001_1.length < 17592186044416 then (spec_l3Make.l0 k1 a1 t164 (wrap64 (x9_1 + 1)) s0_0 bt179.2.1 bt179.2.2 a1 (x164001_1 ++ [Go.bits .or .i64 bt176.1 bt179.1])) else (none)))) = some (r1, r2, r3, r4) := by first | (rw [hji27] at H; exact H) | (simp only [hji27] at H ⊢; exact H)
      (try rw [hji27] at A12)
      have hji27_ : (IntKind.i64.wrap (1 * 2 ^ min (ji25).toNat 64)) = ji27 := hji27; have hji27z : (ji25) ≤ 64 → (IntKind.i64.wrap (1 * 2 ^ (ji25).toNat)) = ji27 := shl_small hji27
      have hji27u : (IntKind.i64.wrap (2 ^ min (ji25).toNat 64)) = ji27 := by have h_ := hji27_; rw [Int.one_mul] at h_; exact h_
      have hji27v : (ji25) ≤ 64 → (IntKind.i64.wrap (2 ^ (ji25).toNat)) = ji27 := fun hle_ => by have h_ := hji27z hle_; rw [Int.one_mul] at h_; exact h_
      have hji27y : (wrap64 (1 * 2 ^ min (ji25).toNat 64)) = ji27 := (i64_w _).symm.trans hji27_
      have hji27x : (ji25) ≤ 64 → (wrap64 (1 * 2 ^ (ji25).toNat)) = ji27 := fun h_ => (i64_w _).symm.trans (hji27z h_)
      obtain ⟨⟨t176, t177, t178⟩, A28, H⟩ := bnd3_ H; dsimp only at H
      have c29b0 := eq_true (of_decide_eq_true (by first | (with_reducible assumption) | assumption) : 0 ≤ (ji25))
      obtain ⟨⟨t179, t180, t181⟩, A30, H⟩ := bnd3_ H; dsimp only at H
      by_cases c31 : x164001_1.length < 17592186044416
      ·
       rw [if_pos c31] at H; have LMc31 := Aside0.mk c31; clear c31; obtain ⟨y182, hy_⟩ : ∃ y_ : List Int, y_ = (x164001_1 ++ [Go.bits .or .i64 t176 t179]) := ⟨_, rfl⟩
       replace H : (spec_l3Make.l0 k1 a1 t164 (wrap64 (x9_1 + 1)) s0_0 t180 t181 a1 y182) = some (r1, r2, r3, r4) := rH_
       have Ny182 := Aside0.mk hy_; clear hy_; have H' := Aside0.mk H; clear H
       try go_wp2_with (first | (refine gL_ 86 22 Tryz.func86 #[.pointer (some ⟨g, 0, none⟩), .int .i64 2] ?_; (with_reducible refine (spec_l1Once.calls g s0_0 x1001_1 x1002_1 2 false t168 t169 w0 _ ?side1 ?side2 A12.out).mono ?_); (case side1 => exact q3_3); (case side2 => exact q3_4); rintro e w32 ⟨rfl, hi, hb, hk⟩; refine ⟨_, rfl, ?_⟩; have n_ := ac_ (Kd.R_mono (Kd.R_keep (IsS71.apart (show IsS71 w0 _ g s0_0 x1001_1 x1002_1 from q3_3) q3_14 (by decide)) hk (fun _ h => h.2)) (fun _ h => h.1)) <| ac_ (KeepBut.blk hk (g' := gb162) (o := .cells #[.int .i64 0, .slice none 0 0] 26 (0, 0)) q3_12 NB162_0.out (by simp)) <| ac_ (KeepBut.blk hk (g' := gb163) (o := .cells #[.int .i64 a1, u164001] 26 (0, 0)) q3_13 NB163_0.out (by simp)) <| ac_ (KeepBut.trans q3_5 hk (.inl rfl)) <| ac_ (hb) <| Aside0.mk (hi); clear HO_164001 BK162 BK163 HK HB HI0; obtain ⟨HO_164001, BK162, BK163, HK, HB, HI0⟩ := n_; (try clear hb hk hi)))
       have n0_ := Aside0.mk (Kd.R_drew HO_164001.out); have n1_ := Aside0.mk (blk_drew BK162.out); have n2_ := Aside0.mk (blk_drew BK163.out); have n3_ := Aside0.mk (IsS71.drew HI0.out); have n4_ := Aside0.mk (keep_drew HK.out); have n5_ := Aside0.mk (below_drew1 HB.out); clear HO_164001; clear BK162; clear BK163; clear HI0; clear HK; clear HB; have HO_164001 := n0_; have BK162 := n1_; have BK163 := n2_; have HI0 := n3_; have HK := n4_; have HB := n5_; clear n0_ n1_ n2_ n3_ n4_ n5_
       refine start_ (n := 17) (S := fun w' => w'.cell? ⟨gb163, 0, none⟩ = some (.int .i64 a1) ∧ w'.cell? ⟨gb163, 1, none⟩ = some (u164001)) (ds := [16]) (tb_ 17 0) (by kernel_rfl) rfl rfl ⟨(blk_cell BK163.out 0).trans rfl, (blk_cell BK163.out 1).trans rfl⟩ (fun hHeld => ?_); refine with_tabW spec_l3Make.tab8 spec_l3Make.bits8 (fun HT_ HW_ => ?_)
       generalize w32.drew = w33 at HO_164001 BK162 BK163 HI0 HK HB hHeld ⊢
       refine pl_ 0 33 (tb_ 17 1) ?_; refine pl_ 2 35 (tb_ 17 5) ?_; refine pl_ 3 36 (tb_ 17 13) ?_; refine pl_ 4 37 (tb_ 17 29) ?_; refine pl_ 5 38 (tb_ 17 61) ?_; refine pl_ 7 40 (tb_ 17 189) ?_; refine pl_ 8 41 (tb_ 17 445) ?_; refine pl_ 9 42 (tb_ 17 957) ?_; refine pl_ 10 43 (tb_ 17 1981) ?_; refine tk_ 1 34 (tb_ 17 1983) hHeld ?_
       refine on_ 6 39 (tb_ 17 2047) (fun K hK => ?_)
       refine goes_ Tryz.func53 (by kernel_rfl) rfl #[.pointer (some ⟨g, 0, none⟩), .int .i64 ji27] (by rfl) rfl rfl q3_9 ?_
       with_reducible refine (spec_l1Below.calls g s0_0 t168 t169 ji27 t176 t177 t178 w0 _ ?side1 ?side2 A28.out).mono ?_
       (case side1 => exact q3_3)
       (case side2 => exact q3_4)
       rintro e w34 ⟨rfl, hi, hb, hk⟩
       refine ⟨_, rfl, ?_⟩
       have n0_ := Aside0.mk (Kd.R_mono (Kd.R_keep (IsS71.apart (show IsS71 w0 _ g s0_0 t168 t169 from q3_3) q3_14 (by decide)) hk (fun _ h => h.2)) (fun _ h => h.1))
       have n1_ := Aside0.mk (KeepBut.blk hk (g' := gb162) (o := .cells #[.int .i64 0, .slice none 0 0] 26 (0, 0)) q3_12 NB162_0.out (by simp))
       have n2_ := Aside0.mk (KeepBut.blk hk (g' := gb163) (o := .cells #[.int .i64 a1, u164001] 26 (0, 0)) q3_13 NB163_0.out (by simp))
       have n3_ := Aside0.mk (KeepBut.trans q3_5 hk (.inl rfl)); have n4_ := Aside0.mk (hb); have n5_ := Aside0.mk (hi); clear HO_164001; clear BK162; clear BK163; clear HK; clear HB; clear HI0; have HO_164001 := n0_; have BK162 := n1_; have BK163 := n2_; have HK := n3_; have HB := n4_; have HI0 := n5_; clear n0_ n1_ n2_ n3_ n4_ n5_
       (try clear hb)
       (try clear hb2)
       (try clear hk)
       (try clear hi)
       refine hK.out _ _ ⟨(blk_cell BK163.out 0).trans rfl, (blk_cell BK163.out 1).trans rfl⟩ (fun hHeld => ?_)
       clear hK K
       refine norm_ (a' := ?_) ?_ ?_
       rotate_left
       ·
        show Act.put _ (some 39) _ = _
        exact s8_
       refine on_ 11 44 (tb_ 17 4095) (fun K hK => ?_)
       refine goes_ Tryz.func53 (by kernel_rfl) rfl #[.pointer (some ⟨g, 0, none⟩), .int .i64 ji27] (by rfl) rfl rfl q3_9 ?_
       with_reducible refine (spec_l1Below.calls g s0_0 t177 t178 ji27 t179 t180 t181 w0 _ ?side1 ?side2 A30.out).mono ?_
       (case side1 => exact q3_3)
       (case side2 => exact q3_4)
       rintro e w35 ⟨rfl, hi, hb, hk⟩
       refine ⟨_, rfl, ?_⟩
       have n0_ := Aside0.mk (Kd.R_mono (Kd.R_keep (IsS71.apart (show IsS71 w0 _ g s0_0 t177 t178 from q3_3) q3_14 (by decide)) hk (fun _ h => h.2)) (fun _ h => h.1))
       have n1_ := Aside0.mk (KeepBut.blk hk (g' := gb162) (o := .cells #[.int .i64 0, .slice none 0 0] 26 (0, 0)) q3_12 NB162_0.out (by simp))
       have n2_ := Aside0.mk (KeepBut.blk hk (g' := gb163) (o := .cells #[.int .i64 a1, u164001] 26 (0, 0)) q3_13 NB163_0.out (by simp))
       have n3_ := Aside0.mk (KeepBut.trans q3_5 hk (.inl rfl)); have n4_ := Aside0.mk (hb); have n5_ := Aside0.mk (hi); clear HO_164001; clear BK162; clear BK163; clear HK; clear HB; clear HI0; have HO_164001 := n0_; have BK162 := n1_; have BK163 := n2_; have HK := n3_; have HB := n4_; have HI0 := n5_; clear n0_ n1_ n2_ n3_ n4_ n5_
       (try clear hb)
       (try clear hb2)
       (try clear hk)
       (try clear hi)
       refine hK.out _ _ ⟨(blk_cell BK163.out 0).trans rfl, (blk_cell BK163.out 1).trans rfl⟩ (fun hHeld => ?_)
       clear hK K
       refine norm_ (a' := ?_) ?_ ?_
       rotate_left
       ·
        show Act.put _ (some 44) _ = _
        exact s8_
       refine pl_ 12 45 (tb_ 17 8191) ?_
       refine on_ 13 46 (tb_ 17 16383) (fun K hK => ?_)
       refine value_ (w1 := ?_) (v := ?_) (by rfl) rfl ?_ ?_
       rotate_left 2
       ·
        go_simp
        constructor
        ·
         rfl
        ·
         rfl
       refine hK.out _ _ ⟨(blk_cell (blk_alloc BK163.out _) 0).trans rfl, (blk_cell (blk_alloc BK163.out _) 1).trans rfl⟩ (fun hHeld => ?_)
       clear hK K
       refine norm_ (a' := ?_) ?_ ?_
       rotate_left
       ·
        show Act.put _ (some 46) _ = _
        exact s8_
       refine on_ 14 47 (tb_ 17 32767) (fun K hK => ?_)
       refine Kd.R_append_step (Kd.int .i64) w.heap.size (by rfl) (.tmp 34) (.tmp 46) 24 3 (.int .i64 0) 8 rfl Tryz.underlying24 info3 rfl (by decide) (by omega) u164001 x164001_1 (Go.bits .or .i64 t176 t179) [.int .i64 (Go.bits .or .i64 t176 t179)] (fun _ => True) (fun _ => False) rfl rfl ?aP (fun _ hk => hk.elim) ?aF ?aO (Below.refl _ _) ?aS ?aL ?_
       (case aP => exact rfl)
       (case aF => exact (fun _ _ => trivial))
       (case aO => exact q3_14)
       (case aS => exact (keep_size (w := w) (g := g) (row := none) q3_5))
       (case aL => have := LMc31.out; omega)
       intro v183 w36 ho hb hg hat
       rw [← Ny182.out] at ho
       have n0_ := Aside0.mk (blk_grown (g := gb162) (o := .cells #[.int .i64 0, .slice none 0 0] 26 (0, 0)) q3_12 hg (Kd.R_ne HO_164001.out BK162.out (by decide)))
       have n1_ := Aside0.mk (blk_grown (g := gb163) (o := .cells #[.int .i64 a1, u164001] 26 (0, 0)) q3_13 hg (Kd.R_ne HO_164001.out BK163.out (by decide)))
       have n2_ := Aside0.mk (IsS71.grown q3_3 hg (IsS71.own_ne HI0.out HO_164001.out (by decide)))
       have n3_ := Aside0.mk (below_weaken q3_4 HL.out hb); have n4_ := Aside0.mk (KeepBut.trans q3_5 (KeepBut.of_grown hg g) (Kd.R_base2 HO_164001.out)); have n5_ := Aside0.mk (ho); clear BK162; clear BK163; clear HI0; clear HB; clear HK; clear HO_164001; have BK162 := n0_; have BK163 := n1_; have HI0 := n2_; have HB := n3_; have HK := n4_; have HO184 := n5_; clear n0_ n1_ n2_ n3_ n4_ n5_; clear ho hb hg hat; obtain ⟨Ao37, co37, eo37⟩ := Kd.R_slice HO184.out
       (first | subst eo37 | (injection eo37 with f1_ f2_ f3_; have f4_ := f1_.symm; have f5_ := f3_.symm; clear f1_ f2_ f3_; subst f4_; subst f5_))
       refine hK.out _ _ ⟨(blk_cell BK163.out 0).trans rfl, (blk_cell BK163.out 1).trans rfl⟩ (fun hHeld => ?_)
       clear hK K
       refine norm_ (a' := ?_) ?_ ?_
       rotate_left
       ·
        show Act.put _ (some 47) _ = _
        exact s8_
       refine pl_ 15 48 (tb_ 17 65535) ?_
       refine last_ (i := 16) (N := none) (tb_ 17 131071) rfl rfl (one_of HT_.out (by kernel_rfl)) (by decide) (fun K hK => ?_)
       have hs38 : w36.cell? ⟨gb163, 1, none⟩ = some (u164001) := (blk_cell BK163.out 1).trans rfl; have hfs38 := blk_frozen BK163.out 1; have hns38_0 := NB162_163.out; have hms38_0 := NB163_162.out
       refine skip_ (w1 := ?_) (by rfl) rfl ?_ ?_
       rotate_left
       ·
        go_simp
        rfl
       refine hK.out _ _ ?_
       clear hK K
       refine done_ (done_of HT_.out (by kernel_rfl)) ?_
       try go_wp2
       go_roundg k1
       case measure => have := HK1.out; omega
       case rel => exact ⟨(wrap64 (x9_1 + 1)), (t180), (t181), (y182), (.slice Ao37 y182.length co37), s3_, H', ⟨by have := HK1.out; omega⟩, ⟨(by (with_reducible repeat (first | apply Kd.R_alloc | apply Kd.R_drewN | apply Kd.R_drew)); exact Kd.R_mono (Kd.R_far (p := ⟨gb163, 1, none⟩) (Kd.R_types HO184.out BK163.out (by decide)) (fun _ hk => hk.2) (.slice Ao37 y182.length co37)) (fun _ hk => trivial))⟩, ⟨q3_2⟩, ⟨q3_1⟩, ⟨q3_3⟩, ⟨q3_5⟩, ⟨q3_4⟩⟩
      ·
       rw [if_neg c31] at H
       exact absurd H (by simp)
     ·
      rw [if_neg c26] at H
      exact absurd H (by simp)
   ·
    rw [if_neg c11] at H; have c11b0 : decide (x9_1 < t164) = false := decide_eq_false c11; clear c11
    simp only [Option.some.injEq, Prod.mk.injEq] at H
    obtain ⟨rfl, rfl, rfl, rfl⟩ := H; have hnb39 := NB163_162.out; have hnc39 := NB162_163.out; have hnb40 := NB163_0.out; have hnc40 := NB0_163.out; have hcz41_0 : wr.cell? ⟨gb163, 0, none⟩ = some (.int .i64 a1) := (blk_cell BK163.out 0).trans rfl; have hcz41_1 : wr.cell? ⟨gb163, 1, none⟩ = some (u164001) := (blk_cell BK163.out 1).trans rfl; have hfz41_0 := blk_frozen BK163.out 0; have hfz41_1 := blk_frozen BK163.out 1; have hnb42 := NB162_0.out; have hnc42 := NB0_162.out; have hcz43_0 : wr.cell? ⟨gb162, 0, none⟩ = some (.int .i64 0) := (blk_cell BK162.out 0).trans rfl; have hcz43_1 : wr.cell? ⟨gb162, 1, none⟩ = some (.slice none 0 0) := (blk_cell BK162.out 1).trans rfl; have hfz43_0 := blk_frozen BK162.out 0; have hfz43_1 := blk_frozen BK162.out 1; obtain ⟨Ao44, co44, eo44⟩ := Kd.R_slice HO_164001.out; subst eo44
    go_wp2
    refine bodyPost_ret (results_cell_row rfl _ _ gb162 26 #[.int .i64 a1, .slice Ao44 x164001_1.length co44] (0, 0) _ rfl (by (with_reducible repeat (first | refine blk_drewN ?_ _ | refine blk_drew ?_ | refine blk_alloc ?_ _)); refine blk_put (cs := #[.int .i64 a1, .slice none 0 0]) ?_ 1 _ rfl; (with_reducible repeat (first | refine blk_drewN ?_ _ | refine blk_drew ?_ | refine blk_alloc ?_ _)); refine blk_put (cs := #[.int .i64 0, .slice none 0 0]) ?_ 0 _ rfl; (with_reducible repeat (first | refine blk_drewN ?_ _ | refine blk_drew ?_ | refine blk_alloc ?_ _)); exact BK162.out) Tryz.underlying26 rfl (by kernel_rfl)) rfl ?_
    exact ⟨_, (by first | rfl | (simp [errW_none, errW_some] <;> rfl) | (simp [*, errW_none, errW_some] <;> rfl)), (by (with_reducible repeat (first | apply Kd.R_alloc | apply Kd.R_drewN | apply Kd.R_drew)); exact Kd.R_mono (Kd.R_far (p := ⟨gb162, 1, none⟩) (Kd.R_far (p := ⟨gb162, 0, none⟩) (Kd.R_types HO_164001.out BK162.out (by decide)) (fun _ hk => hk.2) (.int .i64 a1)) (fun _ hk => hk.2) (.slice Ao44 x164001_1.length co44)) (fun _ hk => trivial)), q3_3, q3_4, q3_5⟩
theorem q3_16 {P : Prop} (h : P := by repeat (first | (with_reducible first | exact HI0.out | apply IsS71.alloc | apply IsS71.drewN | apply IsS71.drew | apply IsS71.set_1 | apply IsS71.set_2 | refine IsS71.far ?_ NB0_185.out _) | exact HI0.out)) : P := h
theorem q3_17 {P : Prop} (h : P := by repeat (first | (with_reducible first | exact HB.out | apply below_alloc | apply pw_below_drewN | apply below_drew1 | refine below_set ?_ (IsS71.ge HI0.out) | refine below_set ?_ GE185.out) | exact HB.out)) : P := h
theorem q3_18 {P : Prop} (h : P := by repeat (first | (with_reducible first | exact HK.out | apply KeepBut.set_ | apply keep_drewN | apply keep_drew | apply keep_alloc | refine keep_far ?_ GW185.out _) | exact HK.out)) : P := h
theorem q3_22 {P : Prop} (h : P := by (with_reducible repeat (first | refine blk_drewN ?_ _ | refine blk_drew ?_ | refine blk_alloc ?_ _)); exact BK185.out) : P := h
theorem q3_23 {P : Prop} (h : P := by (with_reducible repeat (first | apply Kd.R_alloc | apply Kd.R_drewN | apply Kd.R_drew)); exact HO188.out) : P := h
def spec_l3Draw.f (k : Nat) (s0_0 : List Int) (s0_1 : Int) (s0_2 : Int) : Option (Int × List Int × Int × Int) := (spec_l1PickInt.f s0_0 s0_1 s0_2 (([0, 1, 2, 3, 3, 4, 4, 5, 5] : List Int))).bind fun bt189 => ((spec_l3Make.f k s0_0 bt189.2.1 bt189.2.2 bt189.1 6).bind fun bt192 => (some (bt192.1, bt192.2.1, bt192.2.2.1, bt192.2.2.2)))
theorem spec_l3Draw.calls (k : Nat) (g : Nat) (s0_0 : List Int) (s0_1 : Int) (s0_2 : Int) (r1 : Int) (r2 : List Int) (r3 : Int) (r4 : Int) (w0 w : World) (hI : IsS71 w0 w g s0_0 s0_1 s0_2) (hB : Below w0.heap.size w0 w) (h : spec_l3Draw.f k s0_0 s0_1 s0_2 = some (r1, r2, r3, r4)) :
  Calls Tryz.prog 64 #[.pointer (some ⟨g, 0, none⟩)] w fun e w' => ∃ v1_ : Value, e = .returned (.agg #[.int .i64 r1, v1_]) ∧ Kd.R (Kd.int .i64) 3 w' w.heap.size (fun _ => True) v1_ r2 ∧ IsS71 w0 w' g s0_0 r3 r4 ∧ Below w0.heap.size w0 w' ∧ KeepBut w w' g none := by
 have hu26 := Tryz.underlying26; have HI0 := Aside0.mk hI; have HK := Aside0.mk (KeepBut.refl w g none); have HL := Aside0.mk hB.size; clear hI; have HW0 := Aside0.mk hB.size; have HB := Aside0.mk hB; clear hB; have H := h; clear h; unfold spec_l3Draw.f at H; obtain ⟨y186, hy_⟩ : ∃ y_ : List Int, y_ = (([0, 1, 2, 3, 3, 4, 4, 5, 5] : List Int)) := ⟨_, rfl⟩
 replace H : ((spec_l1PickInt.f s0_0 s0_1 s0_2 y186).bind fun bt189 => ((spec_l3Make.f k s0_0 bt189.2.1 bt189.2.2 bt189.1 6).bind fun bt192 => (some (bt192.1, bt192.2.1, bt192.2.2.1, bt192.2.2.2)))) = some (r1, r2, r3, r4) := rH_
 have Ny186 := Aside0.mk hy_; clear hy_; obtain ⟨⟨t189, t190, t191⟩, A2, H⟩ := bnd3_ H; dsimp only at H; obtain ⟨⟨t192, t193, t196, t197⟩, A3, H⟩ := bnd3_ H; dsimp only at H
 simp only [Option.some.injEq, Prod.mk.injEq] at H
 obtain ⟨rfl, rfl, rfl, rfl⟩ := H
 go_enter Tryz.func64, Tryz.ntmps64
 go_wp2_with (first | (refine be_ 2 #[.int .i64 0, .slice none 0 0] 26 ?_; intro gb185 hg w4 hbox hb; have n_ := ac_ (IsS71.below s6_ hb) <| ac_ (KeepBut.trans s7_ (KeepBut.of_below hb g none) (.inl rfl)) <| ac_ (below_step (by repeat (first | (with_reducible first | exact HB.out | apply below_alloc | apply pw_below_drewN | apply below_drew1 | refine below_set ?_ (IsS71.ge HI0.out)) | exact HB.out)) hb) <| ac_ (hbox) <| ac_ ((by rw [hg]; exact (keep_size (w := w) (g := g) (row := none) s7_) : w.heap.size ≤ gb185)) <| ac_ ((Nat.le_trans HW0.out (by rw [hg]; exact (keep_size (w := w) (g := g) (row := none) s7_) : w.heap.size ≤ gb185) : w0.heap.size ≤ gb185)) <| ac_ ((nl_ hg (IsS71.lt (show IsS71 w0 _ g s0_0 s0_1 s0_2 from s6_)))) <| Aside0.mk ((ng_ hg (IsS71.lt (show IsS71 w0 _ g s0_0 s0_1 s0_2 from s6_)))); clear HI0 HK HB; obtain ⟨HI0, HK, HB, BK185, GW185, GE185, NB0_185, NB185_0⟩ := n_; clear hb hbox hg) | ((with_reducible refine gate_dst (N := 5) rfl ?_); refine Kd.R_lit (Kd.int .i64) _ 3 ?hg (N := 5) ?hd (xs := ([0, 1, 2, 3, 3, 4, 4, 5, 5] : List Int)) (inner := [.int .i64 0, .int .i64 1, .int .i64 2, .int .i64 3, .int .i64 3, .int .i64 4, .int .i64 4, .int .i64 5, .int .i64 5]) (ok := fun _ => True) (okp := fun _ => True) ?hr ?hp (fun _ hk => hk) trivial (Below.refl _ _) (Nat.le_refl _) (by simp) ?_; (case hd => rfl); (case hg => rfl); (case hr => first | (go_simp; done) | (go_simp; rfl)); (case hp => exact (Reps.one (show Kd.M (Kd.int .i64) _ _ _ 0 [.int .i64 0] from rfl) (Reps.one (show Kd.M (Kd.int .i64) _ _ _ 1 [.int .i64 1] from rfl) (Reps.one (show Kd.M (Kd.int .i64) _ _ _ 2 [.int .i64 2] from rfl) (Reps.one (show Kd.M (Kd.int .i64) _ _ _ 3 [.int .i64 3] from rfl) (Reps.one (show Kd.M (Kd.int .i64) _ _ _ 3 [.int .i64 3] from rfl) (Reps.one (show Kd.M (Kd.int .i64) _ _ _ 4 [.int .i64 4] from rfl) (Reps.one (show Kd.M (Kd.int .i64) _ _ _ 4 [.int .i64 4] from rfl) (Reps.one (show Kd.M (Kd.int .i64) _ _ _ 5 [.int .i64 5] from rfl) (Reps.one (show Kd.M (Kd.int .i64) _ _ _ 5 [.int .i64 5] from rfl) (Reps.none _ _))))))))))); intro v187 w5 ho6 hb hg_ hnew_; clear hg_ hnew_; (first | rw [← Ny186.out] at ho6 | (simp only [Int.reduceToNat] at ho6; rw [← Ny186.out] at ho6)); have n_ := ac_ (Kd.R_lower ho6 (keep_size (w := w) (g := g) (row := none) q3_18)) <| ac_ (IsS71.below q3_16 hb) <| ac_ (blk_below (g := gb185) (o := .cells #[.int .i64 0, .slice none 0 0] 26 (0, 0)) q3_22 hb) <| ac_ (KeepBut.trans q3_18 (KeepBut.of_below hb g none) (.inl rfl)) <| Aside0.mk (below_step q3_17 hb); clear HI0 BK185 HK HB; obtain ⟨HO188, HI0, BK185, HK, HB⟩ := n_; clear hb ho6; obtain ⟨Ao7, co7, eo7⟩ := Kd.R_slice HO188.out; subst eo7) | (refine gL_ 65 6 Tryz.func65 #[.pointer (some ⟨g, 0, none⟩), .slice Ao7 y186.length co7] ?_; (with_reducible refine (spec_l1PickInt.calls g s0_0 s0_1 s0_2 _ _ y186 t189 t190 t191 w0 _ ?side1 ?side2 ?side3 ?side4 ?side5 A2.out).mono ?_); (case side1 => exact q3_16); (case side2 => exact q3_17); (case side3 => repeat (first | exact (Kd.R_reads' HO188.out).2.2 | (with_reducible refine Kd.C_alloc ?_ _) | (with_reducible refine Kd.C_drewN ?_ _) | (with_reducible refine Kd.C_drew ?_))); (case side4 => exact (Kd.R_reads' HO188.out).2.1); (case side5 => exact far_slice (IsS71.own_ne HI0.out HO188.out (by decide))); rintro e w8 ⟨rfl, hi, hb, hk⟩; refine ⟨_, rfl, ?_⟩; have n_ := ac_ (KeepBut.blk hk (g' := gb185) (o := .cells #[.int .i64 0, .slice none 0 0] 26 (0, 0)) q3_22 NB185_0.out (by simp)) <| ac_ (Kd.R_mono (Kd.R_keep (IsS71.apart (show IsS71 w0 _ g s0_0 s0_1 s0_2 from q3_16) q3_23 (by decide)) hk (fun _ h => h.2)) (fun _ h => h.1)) <| ac_ (KeepBut.trans q3_18 hk (.inl rfl)) <| ac_ (hb) <| Aside0.mk (hi); clear BK185 HO188 HK HB HI0; obtain ⟨BK185, HO188, HK, HB, HI0⟩ := n_; (try clear hb hk hi)) | (refine gL_ 85 9 Tryz.func85 #[.pointer (some ⟨g, 0, none⟩), .int .i64 t189, .int .i64 6] ?_; (with_reducible refine (spec_l3Make.calls k g s0_0 t190 t191 t189 6 t192 t193 t196 t197 w0 _ ?side1 ?side2 A3.out).mono ?_); (case side1 => exact q3_16); (case side2 => exact q3_17); rintro e w9 ⟨v194, rfl, ho0, hi, hb, hk⟩; refine ⟨_, rfl, ?_⟩; have n_ := ac_ (KeepBut.blk hk (g' := gb185) (o := .cells #[.int .i64 0, .slice none 0 0] 26 (0, 0)) q3_22 NB185_0.out (by simp)) <| ac_ (Kd.R_mono (Kd.R_told (Kd.R_oldK (IsS71.apart (show IsS71 w0 _ g s0_0 t190 t191 from q3_16) q3_23 (by decide)) hk) (Kd.R_base ho0)) (fun _ h_ => h_.1)) <| ac_ (Kd.R_lower (Kd.R_new' ho0 (Kd.R_lt q3_23)) (keep_size (w := w) (g := g) (row := none) q3_18)) <| ac_ (KeepBut.trans q3_18 hk (.inl rfl)) <| ac_ (hb) <| Aside0.mk (hi); clear BK185 HO188 HK HB HI0; obtain ⟨BK185, HO188, HO195, HK, HB, HI0⟩ := n_; (try clear hb hk hi ho0); have hnb10 := NB185_0.out; have hnc10 := NB0_185.out; have hcz11_0 : w9.cell? ⟨gb185, 0, none⟩ = some (.int .i64 0) := (blk_cell BK185.out 0).trans rfl; have hcz11_1 : w9.cell? ⟨gb185, 1, none⟩ = some (.slice none 0 0) := (blk_cell BK185.out 1).trans rfl; have hfz11_0 := blk_frozen BK185.out 0; have hfz11_1 := blk_frozen BK185.out 1; obtain ⟨Ao12, co12, eo12⟩ := Kd.R_slice HO195.out; subst eo12))
 refine bodyPost_ret (results_cell_row rfl _ _ gb185 26 #[.int .i64 t192, .slice Ao12 t193.length co12] (0, 0) _ rfl (by (with_reducible repeat (first | refine blk_drewN ?_ _ | refine blk_drew ?_ | refine blk_alloc ?_ _)); refine blk_put (cs := #[.int .i64 t192, .slice none 0 0]) ?_ 1 _ rfl; (with_reducible repeat (first | refine blk_drewN ?_ _ | refine blk_drew ?_ | refine blk_alloc ?_ _)); refine blk_put (cs := #[.int .i64 0, .slice none 0 0]) ?_ 0 _ rfl; (with_reducible repeat (first | refine blk_drewN ?_ _ | refine blk_drew ?_ | refine blk_alloc ?_ _)); exact BK185.out) Tryz.underlying26 rfl (by kernel_rfl)) rfl ?_
 exact ⟨_, (by first | rfl | (simp [errW_none, errW_some] <;> rfl) | (simp [*, errW_none, errW_some] <;> rfl)), (by (with_reducible repeat (first | apply Kd.R_alloc | apply Kd.R_drewN | apply Kd.R_drew)); exact Kd.R_mono (Kd.R_far (p := ⟨gb185, 1, none⟩) (Kd.R_far (p := ⟨gb185, 0, none⟩) (Kd.R_types HO195.out BK185.out (by decide)) (fun _ hk => hk.2) (.int .i64 t192)) (fun _ hk => hk.2) (.slice Ao12 t193.length co12)) (fun _ hk => trivial)), q3_16, q3_17, q3_18⟩
def spec_l2Bent.f (s0_0 : List Int) (s0_1 : Int) (s0_2 : Int) : Option (Int × Int × Int) := (spec_l1Once.f s0_0 s0_1 s0_2 8).bind fun bt198 => (if bt198.1 = true then ((spec_l1PickInt.f s0_0 bt198.2.1 bt198.2.2 (([(-1), 256, 1000, (-9223372036854775808)] : List Int))).bind fun bt204 => (some (bt204.1, bt204.2.1, bt204.2.2))) else ((spec_l1Below.f s0_0 bt198.2.1 bt198.2.2 256).bind fun bt207 => (some (bt207.1, bt207.2.1, bt207.2.2))))
theorem spec_l2Bent.calls (g : Nat) (s0_0 : List Int) (s0_1 : Int) (s0_2 : Int) (r1 : Int) (r2 : Int) (r3 : Int) (w0 w : World) (hI : IsS71 w0 w g s0_0 s0_1 s0_2) (hB : Below w0.heap.size w0 w) (h : spec_l2Bent.f s0_0 s0_1 s0_2 = some (r1, r2, r3)) :
  Calls Tryz.prog 66 #[.pointer (some ⟨g, 0, none⟩)] w fun e w' => e = .returned (.int .i64 r1) ∧ IsS71 w0 w' g s0_0 r2 r3 ∧ Below w0.heap.size w0 w' ∧ KeepBut w w' g none := by
 have HI0 := Aside0.mk hI; have HK := Aside0.mk (KeepBut.refl w g none); have HL := Aside0.mk hB.size; clear hI; have HW0 := Aside0.mk hB.size; have HB := Aside0.mk hB; clear hB; have H := h; clear h; unfold spec_l2Bent.f at H; obtain ⟨⟨t198, t199, t200⟩, A2, H⟩ := bnd3_ H; dsimp only at H
 by_cases c3 : t198 = true
 ·
  subst c3; rw [if_pos rfl] at H; obtain ⟨y201, hy_⟩ : ∃ y_ : List Int, y_ = (([(-1), 256, 1000, (-9223372036854775808)] : List Int)) := ⟨_, rfl⟩
  replace H : ((spec_l1PickInt.f s0_0 t199 t200 y201).bind fun bt204 => (some (bt204.1, bt204.2.1, bt204.2.2))) = some (r1, r2, r3) := rH_
  have Ny201 := Aside0.mk hy_; clear hy_; obtain ⟨⟨t204, t205, t206⟩, A4, H⟩ := bnd3_ H; dsimp only at H
  simp only [Option.some.injEq, Prod.mk.injEq] at H
  obtain ⟨rfl, rfl, rfl⟩ := H
  go_enter Tryz.func66, Tryz.ntmps66
  go_wp2_with (first | (refine gL_ 86 4 Tryz.func86 #[.pointer (some ⟨g, 0, none⟩), .int .i64 8] ?_; (with_reducible refine (spec_l1Once.calls g s0_0 s0_1 s0_2 8 true t199 t200 w0 _ ?side1 ?side2 A2.out).mono ?_); (case side1 => exact s6_); (case side2 => exact s9_); rintro e w5 ⟨rfl, hi, hb, hk⟩; refine ⟨_, rfl, ?_⟩; have n_ := ac_ (KeepBut.trans s7_ hk (.inl rfl)) <| ac_ (hb) <| Aside0.mk (hi); clear HK HB HI0; obtain ⟨HK, HB, HI0⟩ := n_; (try clear hb hk hi)) | ((with_reducible refine gate_dst (N := 6) rfl ?_); refine Kd.R_lit (Kd.int .i64) _ 3 ?hg (N := 6) ?hd (xs := ([(-1), 256, 1000, (-9223372036854775808)] : List Int)) (inner := [.int .i64 (-1), .int .i64 256, .int .i64 1000, .int .i64 (-9223372036854775808)]) (ok := fun _ => True) (okp := fun _ => True) ?hr ?hp (fun _ hk => hk) trivial (Below.refl _ _) (Nat.le_refl _) (by simp) ?_; (case hd => rfl); (case hg => rfl); (case hr => first | (go_simp; done) | (go_simp; rfl)); (case hp => exact (Reps.one (show Kd.M (Kd.int .i64) _ _ _ (-1) [.int .i64 (-1)] from rfl) (Reps.one (show Kd.M (Kd.int .i64) _ _ _ 256 [.int .i64 256] from rfl) (Reps.one (show Kd.M (Kd.int .i64) _ _ _ 1000 [.int .i64 1000] from rfl) (Reps.one (show Kd.M (Kd.int .i64) _ _ _ (-9223372036854775808) [.int .i64 (-9223372036854775808)] from rfl) (Reps.none _ _)))))); intro v202 w6 ho7 hb hg_ hnew_; clear hg_ hnew_; (first | rw [← Ny201.out] at ho7 | (simp only [Int.reduceToNat] at ho7; rw [← Ny201.out] at ho7)); have n_ := ac_ (Kd.R_lower ho7 (keep_size (w := w) (g := g) (row := none) s7_)) <| ac_ (IsS71.below s6_ hb) <| ac_ (KeepBut.trans s7_ (KeepBut.of_below hb g none) (.inl rfl)) <| Aside0.mk (below_step s9_ hb); clear HI0 HK HB; obtain ⟨HO203, HI0, HK, HB⟩ := n_; clear hb ho7; obtain ⟨Ao8, co8, eo8⟩ := Kd.R_slice HO203.out; subst eo8) | (refine gL_ 65 7 Tryz.func65 #[.pointer (some ⟨g, 0, none⟩), .slice Ao8 y201.length co8] ?_; (with_reducible refine (spec_l1PickInt.calls g s0_0 t199 t200 _ _ y201 t204 t205 t206 w0 _ ?side1 ?side2 ?side3 ?side4 ?side5 A4.out).mono ?_); (case side1 => exact s6_); (case side2 => exact s9_); (case side3 => repeat (first | exact (Kd.R_reads' HO203.out).2.2 | (with_reducible refine Kd.C_alloc ?_ _) | (with_reducible refine Kd.C_drewN ?_ _) | (with_reducible refine Kd.C_drew ?_))); (case side4 => exact (Kd.R_reads' HO203.out).2.1); (case side5 => exact far_slice (IsS71.own_ne HI0.out HO203.out (by decide))); rintro e w9 ⟨rfl, hi, hb, hk⟩; refine ⟨_, rfl, ?_⟩; have n_ := ac_ (Kd.R_mono (Kd.R_keep (IsS71.apart (show IsS71 w0 _ g s0_0 t199 t200 from s6_) (by (with_reducible repeat (first | apply Kd.R_alloc | apply Kd.R_drewN | apply Kd.R_drew)); exact HO203.out) (by decide)) hk (fun _ h => h.2)) (fun _ h => h.1)) <| ac_ (KeepBut.trans s7_ hk (.inl rfl)) <| ac_ (hb) <| Aside0.mk (hi); clear HO203 HK HB HI0; obtain ⟨HO203, HK, HB, HI0⟩ := n_; (try clear hb hk hi)))
  go_ret
  exact ⟨(by first | rfl | (simp [errW_none, errW_some] <;> rfl) | (simp [*, errW_none, errW_some] <;> rfl)), s6_, s9_, s7_⟩
 ·
  replace c3 := Bool.eq_false_iff.mpr c3; subst c3
  rw [if_neg (show ¬ (false = true) by decide)] at H
  obtain ⟨⟨t207, t208, t209⟩, A10, H⟩ := bnd3_ H; dsimp only at H
  simp only [Option.some.injEq, Prod.mk.injEq] at H
  obtain ⟨rfl, rfl, rfl⟩ := H
  go_enter Tryz.func66, Tryz.ntmps66
  go_wp2_with (first | (refine gL_ 86 4 Tryz.func86 #[.pointer (some ⟨g, 0, none⟩), .int .i64 8] ?_; (with_reducible refine (spec_l1Once.calls g s0_0 s0_1 s0_2 8 false t199 t200 w0 _ ?side1 ?side2 A2.out).mono ?_); (case side1 => exact s6_); (case side2 => exact s9_); rintro e w11 ⟨rfl, hi, hb, hk⟩; refine ⟨_, rfl, ?_⟩; have n_ := ac_ (KeepBut.trans s7_ hk (.inl rfl)) <| ac_ (hb) <| Aside0.mk (hi); clear HK HB HI0; obtain ⟨HK, HB, HI0⟩ := n_; (try clear hb hk hi)) | (refine gL_ 53 9 Tryz.func53 #[.pointer (some ⟨g, 0, none⟩), .int .i64 256] ?_; (with_reducible refine (spec_l1Below.calls g s0_0 t199 t200 256 t207 t208 t209 w0 _ ?side1 ?side2 A10.out).mono ?_); (case side1 => exact s6_); (case side2 => exact s9_); rintro e w12 ⟨rfl, hi, hb, hk⟩; refine ⟨_, rfl, ?_⟩; have n_ := ac_ (KeepBut.trans s7_ hk (.inl rfl)) <| ac_ (hb) <| Aside0.mk (hi); clear HK HB HI0; obtain ⟨HK, HB, HI0⟩ := n_; (try clear hb hk hi)))
  go_ret
  exact ⟨(by first | rfl | (simp [errW_none, errW_some] <;> rfl) | (simp [*, errW_none, errW_some] <;> rfl)), s6_, s9_, s7_⟩
theorem bnd4_ {α β : Type} {o : Option α} {f : α → Option β} {r : β} (h : o.bind f = some r) : ∃ a, Aside0 (o = some a) ∧ f a = some r := by
 obtain ⟨a, h1, h2⟩ := Option.bind_eq_some_iff.mp h
 exact ⟨a, ⟨h1⟩, h2⟩
theorem q4_1 {P : Prop} (h : P := by (with_reducible repeat (first | refine blk_drewN ?_ _ | refine blk_drew ?_ | refine blk_alloc ?_ _)); refine blk_put (cs := #[.int .i64 t211, .slice none 0 0]) ?_ 1 _ rfl; (with_reducible repeat (first | refine blk_drewN ?_ _ | refine blk_drew ?_ | refine blk_alloc ?_ _)); refine blk_put (cs := #[.int .i64 0, .slice none 0 0]) ?_ 0 _ rfl; (with_reducible repeat (first | refine blk_drewN ?_ _ | refine blk_drew ?_ | refine blk_alloc ?_ _)); exact BK210.out) : P := h
theorem q4_2 {P : Prop} (h : P := by (with_reducible repeat (first | refine blk_drewN ?_ _ | refine blk_drew ?_ | refine blk_alloc ?_ _)); refine blk_put (cs := #[.int .i64 t211, .slice none 0 0]) ?_ 1 _ rfl; (with_reducible repeat (first | refine blk_drewN ?_ _ | refine blk_drew ?_ | refine blk_alloc ?_ _)); refine blk_put (cs := #[.int .i64 0, .slice none 0 0]) ?_ 0 _ rfl; (with_reducible repeat (first | refine blk_drewN ?_ _ | refine blk_drew ?_ | refine blk_alloc ?_ _)); exact BK217.out) : P := h
theorem q4_3 {P : Prop} (h : P := by (with_reducible repeat (first | refine blk_drewN ?_ _ | refine blk_drew ?_ | refine blk_alloc ?_ _)); refine blk_far ?_ NB210_217.out _; (with_reducible repeat (first | refine blk_drewN ?_ _ | refine blk_drew ?_ | refine blk_alloc ?_ _)); refine blk_far ?_ NB210_217.out _; (with_reducible repeat (first | refine blk_drewN ?_ _ | refine blk_drew ?_ | refine blk_alloc ?_ _)); exact BK210.out) : P := h
theorem q4_4 {P : Prop} (h : P := by repeat (first | (with_reducible first | exact HI0.out | apply IsS71.alloc | apply IsS71.drewN | apply IsS71.drew | apply IsS71.set_1 | apply IsS71.set_2 | refine IsS71.far ?_ NB0_210.out _ | refine IsS71.far ?_ NB0_217.out _) | exact HI0.out)) : P := h
theorem q4_5 {P : Prop} (h : P := by repeat (first | (with_reducible first | exact HB.out | apply below_alloc | apply pw_below_drewN | apply below_drew1 | refine below_set ?_ (IsS71.ge HI0.out) | refine below_set ?_ GE210.out | refine below_set ?_ GE217.out) | exact HB.out)) : P := h
theorem q4_6 {P : Prop} (h : P := by repeat (first | (with_reducible first | exact HK.out | apply KeepBut.set_ | apply keep_drewN | apply keep_drew | apply keep_alloc | refine keep_far ?_ GW210.out _ | refine keep_far ?_ GW217.out _) | exact HK.out)) : P := h
theorem q4_7 {P : Prop} (h : P := by repeat (first | (with_reducible first | exact HI0.out | apply IsS71.alloc | apply IsS71.drewN | apply IsS71.drew | apply IsS71.set_1 | apply IsS71.set_2 | refine IsS71.far ?_ NB0_210.out _) | exact HI0.out)) : P := h
theorem q4_8 {P : Prop} (h : P := by repeat (first | (with_reducible first | exact HB.out | apply below_alloc | apply pw_below_drewN | apply below_drew1 | refine below_set ?_ (IsS71.ge HI0.out) | refine below_set ?_ GE210.out) | exact HB.out)) : P := h
theorem q4_9 {P : Prop} (h : P := by repeat (first | (with_reducible first | exact HK.out | apply KeepBut.set_ | apply keep_drewN | apply keep_drew | apply keep_alloc | refine keep_far ?_ GW210.out _) | exact HK.out)) : P := h
theorem q4_14 {P : Prop} (h : P := by (with_reducible repeat (first | refine blk_drewN ?_ _ | refine blk_drew ?_ | refine blk_alloc ?_ _)); exact BK210.out) : P := h
theorem q4_15 {P : Prop} (h : P := by (with_reducible repeat (first | refine blk_drewN ?_ _ | refine blk_drew ?_ | refine blk_alloc ?_ _)); exact BK217.out) : P := h
theorem q4_16 {P : Prop} (h : P := by (with_reducible repeat (first | apply Kd.R_alloc | apply Kd.R_drewN | apply Kd.R_drew)); exact HO214.out) : P := h
theorem q4_19 {P : Prop} (h : P := by decide) : P := h
def spec_l3Bent.l0 : Nat → List Int → Int → Int → Int → List Int → Option (Int × List Int × Int × Int)
 | 0, _, _, _, _, _ => none
 | k + 1, x1000, x1001, x1002, x218000, x218001 => if (x218001.length : Int) < 9 then (if x218001.length < 17592186044416 then (spec_l3Bent.l0 k x1000 x1001 x1002 x218000 (x218001 ++ [0])) else (none)) else (some (x218000, x218001, x1001, x1002))
def spec_l3Bent.f (k : Nat) (s0_0 : List Int) (s0_1 : Int) (s0_2 : Int) : Option (Int × List Int × Int × Int) := (spec_l3Draw.f k s0_0 s0_1 s0_2).bind fun bt211 => ((spec_l1Below.f s0_0 bt211.2.2.1 bt211.2.2.2 14).bind fun bt218 => (if bt218.1 = 0 then ((spec_l1PickInt.f s0_0 bt218.2.1 bt218.2.2 (([(-1), 0, 2, 7] : List Int))).bind fun bt224 => (some (bt224.1, bt211.2.1, bt224.2.1, bt224.2.2))) else (if bt218.1 = 1 then ((spec_l2Bent.f s0_0 bt218.2.1 bt218.2.2).bind fun bt227 => (if bt211.2.1.length < 17592186044416 then (some (bt211.1, (bt211.2.1 ++ [bt227.1]), bt227.2.1, bt227.2.2)) else (none))) else (if bt218.1 = 2 then (spec_l3Bent.l0 k s0_0 bt218.2.1 bt218.2.2 bt211.1 bt211.2.1) else (some (bt211.1, bt211.2.1, bt218.2.1, bt218.2.2))))))
def spec_l3Bent.T6 : Bool × List (List Nat × List Nat) := (true, [([], []), ([0], [0]), ([], []), ([2], [2]), ([3], [3]), ([1, 4, 3], [1, 4]), ([0, 1, 2, 3, 4, 5], []), ([6, 5, 5, 0, 1, 2, 3, 4, 5], [5, 6])])
def spec_l3Bent.B6 : List Nat := [0, 1, 0, 4, 12, 31, 63, 127]
theorem spec_l3Bent.tab6 : rtab .any (opsOf Tryz.f36 6) = spec_l3Bent.T6 := s13_
theorem spec_l3Bent.bits6 : waitsOk spec_l3Bent.T6.2 spec_l3Bent.B6 = true := s13_
theorem spec_l3Bent.calls (k : Nat) (g : Nat) (s0_0 : List Int) (s0_1 : Int) (s0_2 : Int) (r1 : Int) (r2 : List Int) (r3 : Int) (r4 : Int) (w0 w : World) (hI : IsS71 w0 w g s0_0 s0_1 s0_2) (hB : Below w0.heap.size w0 w) (h : spec_l3Bent.f k s0_0 s0_1 s0_2 = some (r1, r2, r3, r4)) :
  Calls Tryz.prog 36 #[.pointer (some ⟨g, 0, none⟩)] w fun e w' => ∃ v1_ : Value, e = .returned (.agg #[.int .i64 r1, v1_]) ∧ Kd.R (Kd.int .i64) 3 w' w.heap.size (fun _ => True) v1_ r2 ∧ IsS71 w0 w' g s0_0 r3 r4 ∧ Below w0.heap.size w0 w' ∧ KeepBut w w' g none := by
 have hu26 := Tryz.underlying26; have HI0 := Aside0.mk hI; have HK := Aside0.mk (KeepBut.refl w g none); have HL := Aside0.mk hB.size; clear hI; have HW0 := Aside0.mk hB.size; have HB := Aside0.mk hB; clear hB; have H := h; clear h; unfold spec_l3Bent.f at H; obtain ⟨⟨t211, t212, t215, t216⟩, A2, H⟩ := bnd4_ H; dsimp only at H; obtain ⟨⟨t218, t219, t220⟩, A3, H⟩ := bnd4_ H; dsimp only at H
 by_cases c4 : t218 = 0
 ·
  rw [if_pos c4] at H; have c4b0 : (t218 == 0) = true := beq_iff_eq.mpr c4; have c4b1 : (t218 != 0) = false := bne_eq_false_iff_eq.mpr c4; clear c4; obtain ⟨y221, hy_⟩ : ∃ y_ : List Int, y_ = (([(-1), 0, 2, 7] : List Int)) := ⟨_, rfl⟩
  replace H : ((spec_l1PickInt.f s0_0 t219 t220 y221).bind fun bt224 => (some (bt224.1, t212, bt224.2.1, bt224.2.2))) = some (r1, r2, r3, r4) := rH_
  have Ny221 := Aside0.mk hy_; clear hy_; obtain ⟨⟨t224, t225, t226⟩, A5, H⟩ := bnd4_ H; dsimp only at H
  simp only [Option.some.injEq, Prod.mk.injEq] at H
  obtain ⟨rfl, rfl, rfl, rfl⟩ := H
  go_enter Tryz.func36, Tryz.ntmps36
  go_wp2_with (first | (refine be_ 2 #[.int .i64 0, .slice none 0 0] 26 ?_; intro gb210 hg w6 hbox hb; have n_ := ac_ (IsS71.below s6_ hb) <| ac_ (KeepBut.trans s7_ (KeepBut.of_below hb g none) (.inl rfl)) <| ac_ (below_step s9_ hb) <| ac_ (hbox) <| ac_ ((by rw [hg]; exact (keep_size (w := w) (g := g) (row := none) s7_) : w.heap.size ≤ gb210)) <| ac_ ((Nat.le_trans HW0.out (by rw [hg]; exact (keep_size (w := w) (g := g) (row := none) s7_) : w.heap.size ≤ gb210) : w0.heap.size ≤ gb210)) <| ac_ ((nl_ hg (IsS71.lt (show IsS71 w0 _ g s0_0 s0_1 s0_2 from s6_)))) <| Aside0.mk ((ng_ hg (IsS71.lt (show IsS71 w0 _ g s0_0 s0_1 s0_2 from s6_)))); clear HI0 HK HB; obtain ⟨HI0, HK, HB, BK210, GW210, GE210, NB0_210, NB210_0⟩ := n_; clear hb hbox hg) | (refine gL_ 64 5 Tryz.func64 #[.pointer (some ⟨g, 0, none⟩)] ?_; (with_reducible refine (spec_l3Draw.calls k g s0_0 s0_1 s0_2 t211 t212 t215 t216 w0 _ ?side1 ?side2 A2.out).mono ?_); (case side1 => exact q4_7); (case side2 => exact q4_8); rintro e w7 ⟨v213, rfl, ho0, hi, hb, hk⟩; refine ⟨_, rfl, ?_⟩; have n_ := ac_ (KeepBut.blk hk (g' := gb210) (o := .cells #[.int .i64 0, .slice none 0 0] 26 (0, 0)) q4_14 NB210_0.out (by simp)) <| ac_ (Kd.R_lower ho0 (keep_size (w := w) (g := g) (row := none) q4_9)) <| ac_ (KeepBut.trans q4_9 hk (.inl rfl)) <| ac_ (hb) <| Aside0.mk (hi); clear BK210 HK HB HI0; obtain ⟨BK210, HO214, HK, HB, HI0⟩ := n_; (try clear hb hk hi ho0)) | (refine be_ 3 #[.int .i64 0, .slice none 0 0] 26 ?_; intro gb217 hg w8 hbox hb; have n_ := ac_ (Kd.R_below q4_16 hb) <| ac_ (IsS71.below q4_7 hb) <| ac_ (blk_below (g := gb210) (o := .cells #[.int .i64 0, .slice none 0 0] 26 (0, 0)) q4_14 hb) <| ac_ (KeepBut.trans q4_9 (KeepBut.of_below hb g none) (.inl rfl)) <| ac_ (below_step q4_8 hb) <| ac_ (hbox) <| ac_ ((by rw [hg]; exact (keep_size (w := w) (g := g) (row := none) q4_9) : w.heap.size ≤ gb217)) <| ac_ ((Nat.le_trans HW0.out (by rw [hg]; exact (keep_size (w := w) (g := g) (row := none) q4_9) : w.heap.size ≤ gb217) : w0.heap.size ≤ gb217)) <| ac_ ((nl_ hg (blk_lt (g := gb210) (o := .cells #[.int .i64 0, .slice none 0 0] 26 (0, 0)) q4_14))) <| ac_ ((ng_ hg (blk_lt (g := gb210) (o := .cells #[.int .i64 0, .slice none 0 0] 26 (0, 0)) q4_14))) <| ac_ ((nl_ hg (IsS71.lt (show IsS71 w0 _ g s0_0 t215 t216 from q4_7)))) <| Aside0.mk ((ng_ hg (IsS71.lt (show IsS71 w0 _ g s0_0 t215 t216 from q4_7)))); clear HO214 HI0 BK210 HK HB; obtain ⟨HO214, HI0, BK210, HK, HB, BK217, GW217, GE217, NB210_217, NB217_210, NB0_217, NB217_0⟩ := n_; clear hb hbox hg; have hnb9 := NB217_210.out; have hnc9 := NB210_217.out; have hnb10 := NB217_0.out; have hnc10 := NB0_217.out; have hcz11_0 : w8.cell? ⟨gb217, 0, none⟩ = some (.int .i64 0) := (blk_cell BK217.out 0).trans rfl; have hcz11_1 : w8.cell? ⟨gb217, 1, none⟩ = some (.slice none 0 0) := (blk_cell BK217.out 1).trans rfl; have hfz11_0 := blk_frozen BK217.out 0; have hfz11_1 := blk_frozen BK217.out 1; obtain ⟨Ao12, co12, eo12⟩ := Kd.R_slice HO214.out; subst eo12) | (refine gL_ 53 7 Tryz.func53 #[.pointer (some ⟨g, 0, none⟩), .int .i64 14] ?_; (with_reducible refine (spec_l1Below.calls g s0_0 t215 t216 14 t218 t219 t220 w0 _ ?side1 ?side2 A3.out).mono ?_); (case side1 => exact q4_4); (case side2 => exact q4_5); rintro e w13 ⟨rfl, hi, hb, hk⟩; refine ⟨_, rfl, ?_⟩; have n_ := ac_ (KeepBut.blk hk (g' := gb210) (o := .cells #[.int .i64 0, .slice none 0 0] 26 (0, 0)) q4_3 NB210_0.out (by simp)) <| ac_ (Kd.R_mono (Kd.R_keep (IsS71.apart (show IsS71 w0 _ g s0_0 t215 t216 from q4_4) (by (with_reducible repeat (first | apply Kd.R_alloc | apply Kd.R_drewN | apply Kd.R_drew)); exact (Kd.R_mono (Kd.R_far (p := ⟨gb217, 1, none⟩) (Kd.R_far (p := ⟨gb217, 0, none⟩) (Kd.R_types HO214.out BK217.out q4_19) (fun _ hk => hk.2) (.int .i64 t211)) (fun _ hk => hk.2) (.slice Ao12 t212.length co12)) (fun _ h_ => h_.1))) q4_19) hk (fun _ h => h.2)) (fun _ h => h.1)) <| ac_ (KeepBut.blk hk (g' := gb217) (o := .cells #[.int .i64 t211, .slice Ao12 t212.length co12] 26 (0, 0)) q4_2 NB217_0.out (by simp)) <| ac_ (KeepBut.trans q4_6 hk (.inl rfl)) <| ac_ (hb) <| Aside0.mk (hi); clear BK210 HO214 BK217 HK HB HI0; obtain ⟨BK210, HO214, BK217, HK, HB, HI0⟩ := n_; (try clear hb hk hi)) | ((with_reducible refine gate_dst (N := 11) rfl ?_); refine Kd.R_lit (Kd.int .i64) _ 3 ?hg (N := 11) ?hd (xs := ([(-1), 0, 2, 7] : List Int)) (inner := [.int .i64 (-1), .int .i64 0, .int .i64 2, .int .i64 7]) (ok := fun _ => True) (okp := fun _ => True) ?hr ?hp (fun _ hk => hk) trivial (Below.refl _ _) (Nat.le_refl _) (by simp) ?_; (case hd => rfl); (case hg => rfl); (case hr => first | (go_simp; done) | (go_simp; rfl)); (case hp => exact (Reps.one (show Kd.M (Kd.int .i64) _ _ _ (-1) [.int .i64 (-1)] from rfl) (Reps.one (show Kd.M (Kd.int .i64) _ _ _ 0 [.int .i64 0] from rfl) (Reps.one (show Kd.M (Kd.int .i64) _ _ _ 2 [.int .i64 2] from rfl) (Reps.one (show Kd.M (Kd.int .i64) _ _ _ 7 [.int .i64 7] from rfl) (Reps.none _ _)))))); intro v222 w14 ho15 hb hg_ hnew_; clear hg_ hnew_; (first | rw [← Ny221.out] at ho15 | (simp only [Int.reduceToNat] at ho15; rw [← Ny221.out] at ho15)); have n_ := ac_ (Kd.R_elder' q4_16 (Kd.R_base ho15) hb) <| ac_ (Kd.R_lower (Kd.R_new' ho15 (Kd.R_lt q4_16)) (keep_size (w := w) (g := g) (row := none) q4_6)) <| ac_ (IsS71.below q4_4 hb) <| ac_ (blk_below (g := gb210) (o := .cells #[.int .i64 0, .slice none 0 0] 26 (0, 0)) q4_14 hb) <| ac_ (blk_below (g := gb217) (o := .cells #[.int .i64 t211, .slice Ao12 t212.length co12] 26 (0, 0)) q4_15 hb) <| ac_ (KeepBut.trans q4_6 (KeepBut.of_below hb g none) (.inl rfl)) <| Aside0.mk (below_step q4_5 hb); clear HO214 HI0 BK210 BK217 HK HB; obtain ⟨HO214, HO223, HI0, BK210, BK217, HK, HB⟩ := n_; clear hb ho15; obtain ⟨Ao16, co16, eo16⟩ := Kd.R_slice HO223.out; subst eo16) | (refine gL_ 65 12 Tryz.func65 #[.pointer (some ⟨g, 0, none⟩), .slice Ao16 y221.length co16] ?_; (with_reducible refine (spec_l1PickInt.calls g s0_0 t219 t220 _ _ y221 t224 t225 t226 w0 _ ?side1 ?side2 ?side3 ?side4 ?side5 A5.out).mono ?_); (case side1 => exact q4_4); (case side2 => exact q4_5); (case side3 => repeat (first | exact (Kd.R_reads' HO223.out).2.2 | (with_reducible refine Kd.C_alloc ?_ _) | (with_reducible refine Kd.C_drewN ?_ _) | (with_reducible refine Kd.C_drew ?_))); (case side4 => exact (Kd.R_reads' HO223.out).2.1); (case side5 => exact far_slice (IsS71.own_ne HI0.out HO223.out q4_19)); rintro e w17 ⟨rfl, hi, hb, hk⟩; refine ⟨_, rfl, ?_⟩; have n_ := ac_ (KeepBut.blk hk (g' := gb210) (o := .cells #[.int .i64 0, .slice none 0 0] 26 (0, 0)) q4_14 NB210_0.out (by simp)) <| ac_ (Kd.R_mono (Kd.R_keep (IsS71.apart (show IsS71 w0 _ g s0_0 t219 t220 from q4_4) q4_16 q4_19) hk (fun _ h => h.2)) (fun _ h => h.1)) <| ac_ (KeepBut.blk hk (g' := gb217) (o := .cells #[.int .i64 t211, .slice Ao12 t212.length co12] 26 (0, 0)) q4_15 NB217_0.out (by simp)) <| ac_ (Kd.R_mono (Kd.R_keep (IsS71.apart (show IsS71 w0 _ g s0_0 t219 t220 from q4_4) (by (with_reducible repeat (first | apply Kd.R_alloc | apply Kd.R_drewN | apply Kd.R_drew)); exact HO223.out) q4_19) hk (fun _ h => h.2)) (fun _ h => h.1)) <| ac_ (KeepBut.trans q4_6 hk (.inl rfl)) <| ac_ (hb) <| Aside0.mk (hi); clear BK210 HO214 BK217 HO223 HK HB HI0; obtain ⟨BK210, HO214, BK217, HO223, HK, HB, HI0⟩ := n_; (try clear hb hk hi); have hcz18_0 : w17.cell? ⟨gb217, 0, none⟩ = some (.int .i64 t211) := (blk_cell BK217.out 0).trans rfl; have hcz18_1 : w17.cell? ⟨gb217, 1, none⟩ = some (.slice Ao12 t212.length co12) := (blk_cell BK217.out 1).trans rfl; have hfz18_0 := blk_frozen BK217.out 0; have hfz18_1 := blk_frozen BK217.out 1; have hnb19 := NB210_0.out; have hnc19 := NB0_210.out; have hcz20_0 : w17.cell? ⟨gb210, 0, none⟩ = some (.int .i64 0) := (blk_cell BK210.out 0).trans rfl; have hcz20_1 : w17.cell? ⟨gb210, 1, none⟩ = some (.slice none 0 0) := (blk_cell BK210.out 1).trans rfl; have hfz20_0 := blk_frozen BK210.out 0; have hfz20_1 := blk_frozen BK210.out 1))
  refine bodyPost_ret (results_cell_row rfl _ _ gb210 26 #[.int .i64 t224, .slice Ao12 t212.length co12] (0, 0) _ rfl (by (with_reducible repeat (first | refine blk_drewN ?_ _ | refine blk_drew ?_ | refine blk_alloc ?_ _)); refine blk_put (cs := #[.int .i64 t224, .slice none 0 0]) ?_ 1 _ rfl; (with_reducible repeat (first | refine blk_drewN ?_ _ | refine blk_drew ?_ | refine blk_alloc ?_ _)); refine blk_put (cs := #[.int .i64 0, .slice none 0 0]) ?_ 0 _ rfl; (with_reducible repeat (first | refine blk_drewN ?_ _ | refine blk_drew ?_ | refine blk_alloc ?_ _)); refine blk_far ?_ NB210_217.out _; (with_reducible repeat (first | refine blk_drewN ?_ _ | refine blk_drew ?_ | refine blk_alloc ?_ _)); exact BK210.out) Tryz.underlying26 rfl s13_) rfl ?_
  exact ⟨_, s5_, (by (with_reducible repeat (first | apply Kd.R_alloc | apply Kd.R_drewN | apply Kd.R_drew)); exact Kd.R_mono (Kd.R_far (p := ⟨gb210, 1, none⟩) (Kd.R_far (p := ⟨gb210, 0, none⟩) (Kd.R_far (p := ⟨gb217, 0, none⟩) (Kd.R_types (Kd.R_types HO214.out BK217.out q4_19) BK210.out q4_19) (fun _ hk => hk.1.2) (.int .i64 t224)) (fun _ hk => hk.2) (.int .i64 t224)) (fun _ hk => hk.2) (.slice Ao12 t212.length co12)) (fun _ hk => trivial)), q4_4, q4_5, q4_6⟩
 ·
  rw [if_neg c4] at H; have c4b0 : (t218 == 0) = false := beq_eq_false_iff_ne.mpr c4; have c4b1 : (t218 != 0) = true := bne_iff_ne.mpr c4
  by_cases c21 : t218 = 1
  ·
   rw [if_pos c21] at H; have c21b0 : (t218 == 1) = true := beq_iff_eq.mpr c21; have c21b1 : (t218 != 1) = false := bne_eq_false_iff_eq.mpr c21; clear c21; obtain ⟨⟨t227, t228, t229⟩, A22, H⟩ := bnd4_ H; dsimp only at H
   by_cases c23 : t212.length < 17592186044416
   ·
    rw [if_pos c23] at H; have LMc23 := Aside0.mk c23; clear c23; obtain ⟨y230, hy_⟩ : ∃ y_ : List Int, y_ = (t212 ++ [t227]) := ⟨_, rfl⟩
    replace H : (some (t211, y230, t228, t229)) = some (r1, r2, r3, r4) := rH_
    have Ny230 := Aside0.mk hy_; clear hy_
    simp only [Option.some.injEq, Prod.mk.injEq] at H
    obtain ⟨rfl, rfl, rfl, rfl⟩ := H
    go_enter Tryz.func36, Tryz.ntmps36
    try go_wp2_with (first | (refine be_ 2 #[.int .i64 0, .slice none 0 0] 26 ?_; intro gb210 hg w24 hbox hb; have n_ := ac_ (IsS71.below s6_ hb) <| ac_ (KeepBut.trans s7_ (KeepBut.of_below hb g none) (.inl rfl)) <| ac_ (below_step s9_ hb) <| ac_ (hbox) <| ac_ ((by rw [hg]; exact (keep_size (w := w) (g := g) (row := none) s7_) : w.heap.size ≤ gb210)) <| ac_ ((Nat.le_trans HW0.out (by rw [hg]; exact (keep_size (w := w) (g := g) (row := none) s7_) : w.heap.size ≤ gb210) : w0.heap.size ≤ gb210)) <| ac_ ((nl_ hg (IsS71.lt (show IsS71 w0 _ g s0_0 s0_1 s0_2 from s6_)))) <| Aside0.mk ((ng_ hg (IsS71.lt (show IsS71 w0 _ g s0_0 s0_1 s0_2 from s6_)))); clear HI0 HK HB; obtain ⟨HI0, HK, HB, BK210, GW210, GE210, NB0_210, NB210_0⟩ := n_; clear hb hbox hg) | (refine gL_ 64 5 Tryz.func64 #[.pointer (some ⟨g, 0, none⟩)] ?_; (with_reducible refine (spec_l3Draw.calls k g s0_0 s0_1 s0_2 t211 t212 t215 t216 w0 _ ?side1 ?side2 A2.out).mono ?_); (case side1 => exact q4_7); (case side2 => exact q4_8); rintro e w25 ⟨v213, rfl, ho0, hi, hb, hk⟩; refine ⟨_, rfl, ?_⟩; have n_ := ac_ (KeepBut.blk hk (g' := gb210) (o := .cells #[.int .i64 0, .slice none 0 0] 26 (0, 0)) q4_14 NB210_0.out (by simp)) <| ac_ (Kd.R_lower ho0 (keep_size (w := w) (g := g) (row := none) q4_9)) <| ac_ (KeepBut.trans q4_9 hk (.inl rfl)) <| ac_ (hb) <| Aside0.mk (hi); clear BK210 HK HB HI0; obtain ⟨BK210, HO214, HK, HB, HI0⟩ := n_; (try clear hb hk hi ho0)) | (refine be_ 3 #[.int .i64 0, .slice none 0 0] 26 ?_; intro gb217 hg w26 hbox hb; have n_ := ac_ (Kd.R_below q4_16 hb) <| ac_ (IsS71.below q4_7 hb) <| ac_ (blk_below (g := gb210) (o := .cells #[.int .i64 0, .slice none 0 0] 26 (0, 0)) q4_14 hb) <| ac_ (KeepBut.trans q4_9 (KeepBut.of_below hb g none) (.inl rfl)) <| ac_ (below_step q4_8 hb) <| ac_ (hbox) <| ac_ ((by rw [hg]; exact (keep_size (w := w) (g := g) (row := none) q4_9) : w.heap.size ≤ gb217)) <| ac_ ((Nat.le_trans HW0.out (by rw [hg]; exact (keep_size (w := w) (g := g) (row := none) q4_9) : w.heap.size ≤ gb217) : w0.heap.size ≤ gb217)) <| ac_ ((nl_ hg (blk_lt (g := gb210) (o := .cells #[.int .i64 0, .slice none 0 0] 26 (0, 0)) q4_14))) <| ac_ ((ng_ hg (blk_lt (g := gb210) (o := .cells #[.int .i64 0, .slice none 0 0] 26 (0, 0)) q4_14))) <| ac_ ((nl_ hg (IsS71.lt (show IsS71 w0 _ g s0_0 t215 t216 from q4_7)))) <| Aside0.mk ((ng_ hg (IsS71.lt (show IsS71 w0 _ g s0_0 t215 t216 from q4_7)))); clear HO214 HI0 BK210 HK HB; obtain ⟨HO214, HI0, BK210, HK, HB, BK217, GW217, GE217, NB210_217, NB217_210, NB0_217, NB217_0⟩ := n_; clear hb hbox hg; have hnb27 := NB217_210.out; have hnc27 := NB210_217.out; have hnb28 := NB217_0.out; have hnc28 := NB0_217.out; have hcz29_0 : w26.cell? ⟨gb217, 0, none⟩ = some (.int .i64 0) := (blk_cell BK217.out 0).trans rfl; have hcz29_1 : w26.cell? ⟨gb217, 1, none⟩ = some (.slice none 0 0) := (blk_cell BK217.out 1).trans rfl; have hfz29_0 := blk_frozen BK217.out 0; have hfz29_1 := blk_frozen BK217.out 1; obtain ⟨Ao30, co30, eo30⟩ := Kd.R_slice HO214.out; subst eo30) | (refine gL_ 53 7 Tryz.func53 #[.pointer (some ⟨g, 0, none⟩), .int .i64 14] ?_; (with_reducible refine (spec_l1Below.calls g s0_0 t215 t216 14 t218 t219 t220 w0 _ ?side1 ?side2 A3.out).mono ?_); (case side1 => exact q4_4); (case side2 => exact q4_5); rintro e w31 ⟨rfl, hi, hb, hk⟩; refine ⟨_, rfl, ?_⟩; have n_ := ac_ (KeepBut.blk hk (g' := gb210) (o := .cells #[.int .i64 0, .slice none 0 0] 26 (0, 0)) q4_3 NB210_0.out (by simp)) <| ac_ (Kd.R_mono (Kd.R_keep (IsS71.apart (show IsS71 w0 _ g s0_0 t215 t216 from q4_4) (by (with_reducible repeat (first | apply Kd.R_alloc | apply Kd.R_drewN | apply Kd.R_drew)); exact (Kd.R_mono (Kd.R_far (p := ⟨gb217, 1, none⟩) (Kd.R_far (p := ⟨gb217, 0, none⟩) (Kd.R_types HO214.out BK217.out q4_19) (fun _ hk => hk.2) (.int .i64 t211)) (fun _ hk => hk.2) (.slice Ao30 t212.length co30)) (fun _ h_ => h_.1))) q4_19) hk (fun _ h => h.2)) (fun _ h => h.1)) <| ac_ (KeepBut.blk hk (g' := gb217) (o := .cells #[.int .i64 t211, .slice Ao30 t212.length co30] 26 (0, 0)) q4_2 NB217_0.out (by simp)) <| ac_ (KeepBut.trans q4_6 hk (.inl rfl)) <| ac_ (hb) <| Aside0.mk (hi); clear BK210 HO214 BK217 HK HB HI0; obtain ⟨BK210, HO214, BK217, HK, HB, HI0⟩ := n_; (try clear hb hk hi)))
    have n0_ := Aside0.mk (Kd.R_drew HO214.out); have n1_ := Aside0.mk (blk_drew BK210.out); have n2_ := Aside0.mk (blk_drew BK217.out); have n3_ := Aside0.mk (IsS71.drew HI0.out); have n4_ := Aside0.mk (keep_drew HK.out); have n5_ := Aside0.mk (below_drew1 HB.out); clear HO214; clear BK210; clear BK217; clear HI0; clear HK; clear HB; have HO214 := n0_; have BK210 := n1_; have BK217 := n2_; have HI0 := n3_; have HK := n4_; have HB := n5_; clear n0_ n1_ n2_ n3_ n4_ n5_
    refine start_ (n := 8) (S := fun w' => w'.cell? ⟨gb217, 0, none⟩ = some (.int .i64 t211) ∧ w'.cell? ⟨gb217, 1, none⟩ = some (.slice Ao30 t212.length co30)) (ds := [7]) (tb_ 8 0) s13_ rfl rfl ⟨(blk_cell BK217.out 0).trans rfl, (blk_cell BK217.out 1).trans rfl⟩ (fun hHeld => ?_); refine with_tabW spec_l3Bent.tab6 spec_l3Bent.bits6 (fun HT_ HW_ => ?_)
    generalize w31.drew = w32 at HO214 BK210 BK217 HI0 HK HB hHeld ⊢
    refine pl_ 0 16 (tb_ 8 1) ?_; refine pl_ 2 18 (tb_ 8 5) ?_; refine tk_ 1 17 (tb_ 8 7) hHeld ?_
    refine on_ 3 19 (tb_ 8 15) (fun K hK => ?_)
    refine goes_ Tryz.func66 s13_ rfl #[.pointer (some ⟨g, 0, none⟩)] (by rfl) rfl rfl s1_ ?_
    with_reducible refine (spec_l2Bent.calls g s0_0 t219 t220 t227 t228 t229 w0 _ ?side1 ?side2 A22.out).mono ?_
    (case side1 => exact q4_4)
    (case side2 => exact q4_5)
    rintro e w33 ⟨rfl, hi, hb, hk⟩
    refine ⟨_, rfl, ?_⟩
    have n0_ := Aside0.mk (KeepBut.blk hk (g' := gb210) (o := .cells #[.int .i64 0, .slice none 0 0] 26 (0, 0)) q4_14 NB210_0.out (by simp))
    have n1_ := Aside0.mk (Kd.R_mono (Kd.R_keep (IsS71.apart (show IsS71 w0 _ g s0_0 t219 t220 from q4_4) q4_16 q4_19) hk (fun _ h => h.2)) (fun _ h => h.1))
    have n2_ := Aside0.mk (KeepBut.blk hk (g' := gb217) (o := .cells #[.int .i64 t211, .slice Ao30 t212.length co30] 26 (0, 0)) q4_15 NB217_0.out (by simp))
    have n3_ := Aside0.mk (KeepBut.trans q4_6 hk (.inl rfl)); have n4_ := Aside0.mk (hb); have n5_ := Aside0.mk (hi); clear BK210; clear HO214; clear BK217; clear HK; clear HB; clear HI0; have BK210 := n0_; have HO214 := n1_; have BK217 := n2_; have HK := n3_; have HB := n4_; have HI0 := n5_; clear n0_ n1_ n2_ n3_ n4_ n5_
    (try clear hb)
    (try clear hb2)
    (try clear hk)
    (try clear hi)
    refine hK.out _ _ ⟨(blk_cell BK217.out 0).trans rfl, (blk_cell BK217.out 1).trans rfl⟩ (fun hHeld => ?_)
    clear hK K
    refine norm_ (a' := ?_) ?_ ?_
    rotate_left
    ·
     show Act.put _ (some 19) _ = _
     simp only [Act.put, List.setIfInBounds_toArray, List.set_cons_zero, List.set_cons_succ, i64_w, i32_w]
     rfl
    refine on_ 4 20 (tb_ 8 31) (fun K hK => ?_)
    refine value_ (w1 := ?_) (v := ?_) (by rfl) rfl ?_ ?_
    rotate_left 2
    ·
     go_simp
     constructor
     ·
      rfl
     ·
      rfl
    refine hK.out _ _ ⟨(blk_cell (blk_alloc BK217.out _) 0).trans rfl, (blk_cell (blk_alloc BK217.out _) 1).trans rfl⟩ (fun hHeld => ?_)
    clear hK K
    refine norm_ (a' := ?_) ?_ ?_
    rotate_left
    ·
     show Act.put _ (some 20) _ = _
     simp only [Act.put, List.setIfInBounds_toArray, List.set_cons_zero, List.set_cons_succ, i64_w, i32_w]
     rfl
    refine on_ 5 21 (tb_ 8 63) (fun K hK => ?_)
    refine Kd.R_append_step (Kd.int .i64) w.heap.size (by rfl) (.tmp 17) (.tmp 20) 24 3 (.int .i64 0) 8 rfl Tryz.underlying24 info3 rfl q4_19 (by omega) (.slice Ao30 t212.length co30) t212 t227 [.int .i64 t227] (fun _ => True) (fun _ => False) rfl rfl ?aP (fun _ hk => hk.elim) ?aF ?aO (Below.refl _ _) ?aS ?aL ?_
    (case aP => exact rfl)
    (case aF => exact (fun _ _ => trivial))
    (case aO => exact q4_16)
    (case aS => exact (keep_size (w := w) (g := g) (row := none) q4_6))
    (case aL => have := LMc23.out; omega)
    intro v231 w34 ho hb hg hat
    rw [← Ny230.out] at ho; have n0_ := Aside0.mk (IsS71.grown q4_4 hg (IsS71.own_ne HI0.out HO214.out q4_19)); have n1_ := Aside0.mk (blk_grown (g := gb210) (o := .cells #[.int .i64 0, .slice none 0 0] 26 (0, 0)) q4_14 hg (Kd.R_ne HO214.out BK210.out q4_19)); have n2_ := Aside0.mk (blk_grown (g := gb217) (o := .cells #[.int .i64 t211, .slice Ao30 t212.length co30] 26 (0, 0)) q4_15 hg (Kd.R_ne HO214.out BK217.out q4_19)); have n3_ := Aside0.mk (below_weaken q4_5 HL.out hb); have n4_ := Aside0.mk (KeepBut.trans q4_6 (KeepBut.of_grown hg g) (Kd.R_base2 HO214.out)); have n5_ := Aside0.mk (ho); clear HI0; clear BK210; clear BK217; clear HB; clear HK; clear HO214; have HI0 := n0_; have BK210 := n1_; have BK217 := n2_; have HB := n3_; have HK := n4_; have HO232 := n5_; clear n0_ n1_ n2_ n3_ n4_ n5_; clear ho hb hg hat; obtain ⟨Ao35, co35, eo35⟩ := Kd.R_slice HO232.out
    (first | subst eo35 | (injection eo35 with f1_ f2_ f3_; have f4_ := f1_.symm; have f5_ := f3_.symm; clear f1_ f2_ f3_; subst f4_; subst f5_))
    refine hK.out _ _ ⟨(blk_cell BK217.out 0).trans rfl, (blk_cell BK217.out 1).trans rfl⟩ (fun hHeld => ?_)
    clear hK K
    refine norm_ (a' := ?_) ?_ ?_
    rotate_left
    ·
     show Act.put _ (some 21) _ = _
     simp only [Act.put, List.setIfInBounds_toArray, List.set_cons_zero, List.set_cons_succ, i64_w, i32_w]
     rfl
    refine pl_ 6 22 (tb_ 8 127) ?_
    refine last_ (i := 7) (N := none) (tb_ 8 255) rfl rfl (one_of HT_.out s13_) q4_19 (fun K hK => ?_)
    have hs36 : w34.cell? ⟨gb217, 1, none⟩ = some (.slice Ao30 t212.length co30) := (blk_cell BK217.out 1).trans rfl; have hfs36 := blk_frozen BK217.out 1; have hns36_0 := NB210_217.out; have hms36_0 := NB217_210.out
    refine skip_ (w1 := ?_) (by rfl) rfl ?_ ?_
    rotate_left
    ·
     go_simp
     rfl
    refine hK.out _ _ ?_
    clear hK K
    refine done_ (done_of HT_.out s13_) ?_
    have hcz37_0 : w34.cell? ⟨gb217, 0, none⟩ = some (.int .i64 t211) := (blk_cell BK217.out 0).trans rfl; have hcz37_1 : w34.cell? ⟨gb217, 1, none⟩ = some (.slice Ao30 t212.length co30) := (blk_cell BK217.out 1).trans rfl; have hfz37_0 := blk_frozen BK217.out 0; have hfz37_1 := blk_frozen BK217.out 1; have hnb38 := NB210_0.out; have hnc38 := NB0_210.out; have hcz39_0 : w34.cell? ⟨gb210, 0, none⟩ = some (.int .i64 0) := (blk_cell BK210.out 0).trans rfl; have hcz39_1 : w34.cell? ⟨gb210, 1, none⟩ = some (.slice none 0 0) := (blk_cell BK210.out 1).trans rfl; have hfz39_0 := blk_frozen BK210.out 0; have hfz39_1 := blk_frozen BK210.out 1
    try go_wp2
    refine bodyPost_ret (results_cell_row rfl _ _ gb210 26 #[.int .i64 t211, .slice Ao35 y230.length co35] (0, 0) _ rfl (by (with_reducible repeat (first | refine blk_drewN ?_ _ | refine blk_drew ?_ | refine blk_alloc ?_ _)); refine blk_put (cs := #[.int .i64 t211, .slice none 0 0]) ?_ 1 _ rfl; (with_reducible repeat (first | refine blk_drewN ?_ _ | refine blk_drew ?_ | refine blk_alloc ?_ _)); refine blk_put (cs := #[.int .i64 0, .slice none 0 0]) ?_ 0 _ rfl; (with_reducible repeat (first | refine blk_drewN ?_ _ | refine blk_drew ?_ | refine blk_alloc ?_ _)); refine blk_far ?_ NB210_217.out _; (with_reducible repeat (first | refine blk_drewN ?_ _ | refine blk_drew ?_ | refine blk_alloc ?_ _)); exact BK210.out) Tryz.underlying26 rfl s13_) rfl ?_
    exact ⟨_, s5_, (by (with_reducible repeat (first | apply Kd.R_alloc | apply Kd.R_drewN | apply Kd.R_drew)); exact Kd.R_mono (Kd.R_far (p := ⟨gb210, 1, none⟩) (Kd.R_far (p := ⟨gb210, 0, none⟩) (Kd.R_far (p := ⟨gb217, 1, none⟩) (Kd.R_types (Kd.R_types HO232.out BK217.out q4_19) BK210.out q4_19) (fun _ hk => hk.1.2) (.slice Ao35 y230.length co35)) (fun _ hk => hk.2) (.int .i64 t211)) (fun _ hk => hk.2) (.slice Ao35 y230.length co35)) (fun _ hk => trivial)), q4_4, q4_5, q4_6⟩
   ·
    rw [if_neg c23] at H
    exact absurd H (by simp)
  ·
   rw [if_neg c21] at H; have c21b0 : (t218 == 1) = false := beq_eq_false_iff_ne.mpr c21; have c21b1 : (t218 != 1) = true := bne_iff_ne.mpr c21
   by_cases c40 : t218 = 2
   ·
    rw [if_pos c40] at H; have c40b0 : (t218 == 2) = true := beq_iff_eq.mpr c40; have c40b1 : (t218 != 2) = false := bne_eq_false_iff_eq.mpr c40; clear c40; have H' := Aside0.mk H; clear H
    go_enter Tryz.func36, Tryz.ntmps36
    go_wp2_with (first | (refine be_ 2 #[.int .i64 0, .slice none 0 0] 26 ?_; intro gb210 hg w41 hbox hb; have n_ := ac_ (IsS71.below s6_ hb) <| ac_ (KeepBut.trans s7_ (KeepBut.of_below hb g none) (.inl rfl)) <| ac_ (below_step s9_ hb) <| ac_ (hbox) <| ac_ ((by rw [hg]; exact (keep_size (w := w) (g := g) (row := none) s7_) : w.heap.size ≤ gb210)) <| ac_ ((Nat.le_trans HW0.out (by rw [hg]; exact (keep_size (w := w) (g := g) (row := none) s7_) : w.heap.size ≤ gb210) : w0.heap.size ≤ gb210)) <| ac_ ((nl_ hg (IsS71.lt (show IsS71 w0 _ g s0_0 s0_1 s0_2 from s6_)))) <| Aside0.mk ((ng_ hg (IsS71.lt (show IsS71 w0 _ g s0_0 s0_1 s0_2 from s6_)))); clear HI0 HK HB; obtain ⟨HI0, HK, HB, BK210, GW210, GE210, NB0_210, NB210_0⟩ := n_; clear hb hbox hg) | (refine gL_ 64 5 Tryz.func64 #[.pointer (some ⟨g, 0, none⟩)] ?_; (with_reducible refine (spec_l3Draw.calls k g s0_0 s0_1 s0_2 t211 t212 t215 t216 w0 _ ?side1 ?side2 A2.out).mono ?_); (case side1 => exact q4_7); (case side2 => exact q4_8); rintro e w42 ⟨v213, rfl, ho0, hi, hb, hk⟩; refine ⟨_, rfl, ?_⟩; have n_ := ac_ (KeepBut.blk hk (g' := gb210) (o := .cells #[.int .i64 0, .slice none 0 0] 26 (0, 0)) q4_14 NB210_0.out (by simp)) <| ac_ (Kd.R_lower ho0 (keep_size (w := w) (g := g) (row := none) q4_9)) <| ac_ (KeepBut.trans q4_9 hk (.inl rfl)) <| ac_ (hb) <| Aside0.mk (hi); clear BK210 HK HB HI0; obtain ⟨BK210, HO214, HK, HB, HI0⟩ := n_; (try clear hb hk hi ho0)) | (refine be_ 3 #[.int .i64 0, .slice none 0 0] 26 ?_; intro gb217 hg w43 hbox hb; have n_ := ac_ (Kd.R_below q4_16 hb) <| ac_ (IsS71.below q4_7 hb) <| ac_ (blk_below (g := gb210) (o := .cells #[.int .i64 0, .slice none 0 0] 26 (0, 0)) q4_14 hb) <| ac_ (KeepBut.trans q4_9 (KeepBut.of_below hb g none) (.inl rfl)) <| ac_ (below_step q4_8 hb) <| ac_ (hbox) <| ac_ ((by rw [hg]; exact (keep_size (w := w) (g := g) (row := none) q4_9) : w.heap.size ≤ gb217)) <| ac_ ((Nat.le_trans HW0.out (by rw [hg]; exact (keep_size (w := w) (g := g) (row := none) q4_9) : w.heap.size ≤ gb217) : w0.heap.size ≤ gb217)) <| ac_ ((nl_ hg (blk_lt (g := gb210) (o := .cells #[.int .i64 0, .slice none 0 0] 26 (0, 0)) q4_14))) <| ac_ ((ng_ hg (blk_lt (g := gb210) (o := .cells #[.int .i64 0, .slice none 0 0] 26 (0, 0)) q4_14))) <| ac_ ((nl_ hg (IsS71.lt (show IsS71 w0 _ g s0_0 t215 t216 from q4_7)))) <| Aside0.mk ((ng_ hg (IsS71.lt (show IsS71 w0 _ g s0_0 t215 t216 from q4_7)))); clear HO214 HI0 BK210 HK HB; obtain ⟨HO214, HI0, BK210, HK, HB, BK217, GW217, GE217, NB210_217, NB217_210, NB0_217, NB217_0⟩ := n_; clear hb hbox hg; have hnb44 := NB217_210.out; have hnc44 := NB210_217.out; have hnb45 := NB217_0.out; have hnc45 := NB0_217.out; have hcz46_0 : w43.cell? ⟨gb217, 0, none⟩ = some (.int .i64 0) := (blk_cell BK217.out 0).trans rfl; have hcz46_1 : w43.cell? ⟨gb217, 1, none⟩ = some (.slice none 0 0) := (blk_cell BK217.out 1).trans rfl; have hfz46_0 := blk_frozen BK217.out 0; have hfz46_1 := blk_frozen BK217.out 1; obtain ⟨Ao47, co47, eo47⟩ := Kd.R_slice HO214.out; subst eo47) | (refine gL_ 53 7 Tryz.func53 #[.pointer (some ⟨g, 0, none⟩), .int .i64 14] ?_; (with_reducible refine (spec_l1Below.calls g s0_0 t215 t216 14 t218 t219 t220 w0 _ ?side1 ?side2 A3.out).mono ?_); (case side1 => exact q4_4); (case side2 => exact q4_5); rintro e w48 ⟨rfl, hi, hb, hk⟩; refine ⟨_, rfl, ?_⟩; have n_ := ac_ (KeepBut.blk hk (g' := gb210) (o := .cells #[.int .i64 0, .slice none 0 0] 26 (0, 0)) q4_3 NB210_0.out (by simp)) <| ac_ (Kd.R_mono (Kd.R_keep (IsS71.apart (show IsS71 w0 _ g s0_0 t215 t216 from q4_4) (by (with_reducible repeat (first | apply Kd.R_alloc | apply Kd.R_drewN | apply Kd.R_drew)); exact (Kd.R_mono (Kd.R_far (p := ⟨gb217, 1, none⟩) (Kd.R_far (p := ⟨gb217, 0, none⟩) (Kd.R_types HO214.out BK217.out q4_19) (fun _ hk => hk.2) (.int .i64 t211)) (fun _ hk => hk.2) (.slice Ao47 t212.length co47)) (fun _ h_ => h_.1))) q4_19) hk (fun _ h => h.2)) (fun _ h => h.1)) <| ac_ (KeepBut.blk hk (g' := gb217) (o := .cells #[.int .i64 t211, .slice Ao47 t212.length co47] 26 (0, 0)) q4_2 NB217_0.out (by simp)) <| ac_ (KeepBut.trans q4_6 hk (.inl rfl)) <| ac_ (hb) <| Aside0.mk (hi); clear BK210 HO214 BK217 HK HB HI0; obtain ⟨BK210, HO214, BK217, HK, HB, HI0⟩ := n_; (try clear hb hk hi)))
    go_loopg [] k (fun kq w' => ∃ (x218001_1 : List Int) (u218001 : Value), Aside0 (spec_l3Bent.l0 kq s0_0 t219 t220 t211 x218001_1 = some (r1, r2, r3, r4)) ∧ Aside0 (kq ≤ k) ∧ Aside0 (Kd.R (Kd.int .i64) 3 w' w.heap.size (fun _ => True) u218001 x218001_1) ∧ Aside0 (w'.heap[gb210]? = some (.cells #[.int .i64 0, (.slice none 0 0)] 26 (0, 0))) ∧ Aside0 (w'.heap[gb217]? = some (.cells #[.int .i64 t211, u218001] 26 (0, 0))) ∧ Aside0 (IsS71 w0 w' g s0_0 t219 t220) ∧ Aside0 (KeepBut w w' g none) ∧ Aside0 (Below w0.heap.size w0 w'))
    case atStart => exact ⟨(t212), (.slice Ao47 t212.length co47), H', ⟨Nat.le_refl _⟩, ⟨q4_16⟩, ⟨q4_14⟩, ⟨q4_15⟩, ⟨q4_4⟩, ⟨q4_6⟩, ⟨q4_5⟩⟩
    case round =>
     clear H'
     try clear c1
     try clear c2
     try clear p2
     try clear c3
     try clear c4
     try clear c4b0
     try clear c4b1
     try clear c5
     try clear c6
     try clear c9
     try clear c10
     try clear c19
     try clear c21
     try clear c21b0
     try clear c21b1
     try clear c23
     try clear c27
     try clear c28
     try clear c36
     try clear c38
     try clear c40
     try clear c40b0
     try clear c40b1
     try clear c44
     try clear c45
     try clear hcz11_0
     try clear hcz11_1
     try clear hcz18_0
     try clear hcz18_1
     try clear hcz20_0
     try clear hcz20_1
     try clear hcz29_0
     try clear hcz29_1
     try clear hcz37_0
     try clear hcz37_1
     try clear hcz39_0
     try clear hcz39_1
     try clear hcz46_0
     try clear hcz46_1
     try clear hfz11_0
     try clear hfz11_1
     try clear hfz18_0
     try clear hfz18_1
     try clear hfz20_0
     try clear hfz20_1
     try clear hfz29_0
     try clear hfz29_1
     try clear hfz37_0
     try clear hfz37_1
     try clear hfz39_0
     try clear hfz39_1
     try clear hfz46_0
     try clear hfz46_1
     obtain ⟨x218001_1, u218001, HA, HK1, HO_218001, BK210, BK217, HI0, HK, HB⟩ := hrel
     cases gk with
     | zero => exact absurd HA.out (by simp [spec_l3Bent.l0])
     | succ k1 =>
      have H := HA.out; clear HA
      simp only [spec_l3Bent.l0] at H
      by_cases c49 : (x218001_1.length : Int) < 9
      ·
       rw [if_pos c49] at H; have c49b0 : decide ((x218001_1.length : Int) < 9) = true := decide_eq_true c49
       have c49b1 : decide (x218001_1.length < 9) = true := decide_eq_true (by omega)
       clear c49
       by_cases c50 : x218001_1.length < 17592186044416
       ·
        rw [if_pos c50] at H; have LMc50 := Aside0.mk c50; clear c50; obtain ⟨y233, hy_⟩ : ∃ y_ : List Int, y_ = (x218001_1 ++ [0]) := ⟨_, rfl⟩
        replace H : (spec_l3Bent.l0 k1 s0_0 t219 t220 t211 y233) = some (r1, r2, r3, r4) := rH_
        have Ny233 := Aside0.mk hy_; clear hy_; have H' := Aside0.mk H; clear H; have hnb51 := NB217_210.out; have hnc51 := NB210_217.out; have hnb52 := NB217_0.out; have hnc52 := NB0_217.out; have hcz53_0 : wr.cell? ⟨gb217, 0, none⟩ = some (.int .i64 t211) := (blk_cell BK217.out 0).trans rfl; have hcz53_1 : wr.cell? ⟨gb217, 1, none⟩ = some (u218001) := (blk_cell BK217.out 1).trans rfl; have hfz53_0 := blk_frozen BK217.out 0; have hfz53_1 := blk_frozen BK217.out 1; obtain ⟨Ao54, co54, eo54⟩ := Kd.R_slice HO_218001.out; subst eo54
        go_wp2_with (first | ((with_reducible refine gate_builtin (b := .append) (xs := #[.tmp 30, .tmp 31]) rfl ?_); at_builtin; refine Kd.R_append (Kd.int .i64) w.heap.size rfl (.tmp 30) (.tmp 31) 24 3 (.int .i64 0) 8 rfl Tryz.underlying24 info3 rfl q4_19 (by omega) (.slice Ao54 x218001_1.length co54) x218001_1 0 [.int .i64 0] (fun _ => True) (fun _ => False) rfl rfl ?aP (fun _ hk => hk.elim) ?aF ?aO (Below.refl _ _) ?aS ?aL ?_; (case aP => exact rfl); (case aF => exact (fun _ _ => trivial)); (case aO => exact (by (with_reducible repeat (first | apply Kd.R_alloc | apply Kd.R_drewN | apply Kd.R_drew)); exact HO_218001.out)); (case aS => exact (keep_size (w := w) (g := g) (row := none) q4_6)); (case aL => have := LMc50.out; omega); intro v234 w55 ho hb hg hat; rw [← Ny233.out] at ho; have n_ := ac_ (blk_grown (g := gb210) (o := .cells #[.int .i64 0, .slice none 0 0] 26 (0, 0)) q4_14 hg (Kd.R_ne HO_218001.out BK210.out q4_19)) <| ac_ (blk_grown (g := gb217) (o := .cells #[.int .i64 t211, .slice Ao54 x218001_1.length co54] 26 (0, 0)) q4_15 hg (Kd.R_ne HO_218001.out BK217.out q4_19)) <| ac_ (IsS71.grown q4_4 hg (IsS71.own_ne HI0.out HO_218001.out q4_19)) <| ac_ (below_weaken q4_5 HL.out hb) <| ac_ (KeepBut.trans q4_6 (KeepBut.of_grown hg g) (Kd.R_base2 HO_218001.out)) <| Aside0.mk (ho); clear BK210 BK217 HI0 HB HK HO_218001; obtain ⟨BK210, BK217, HI0, HB, HK, HO235⟩ := n_; clear ho hb hg hat; obtain ⟨Ao56, co56, eo56⟩ := Kd.R_slice HO235.out; subst eo56; have hcz57_0 : w55.cell? ⟨gb217, 0, none⟩ = some (.int .i64 t211) := (blk_cell BK217.out 0).trans rfl; have hcz57_1 : w55.cell? ⟨gb217, 1, none⟩ = some (.slice Ao54 x218001_1.length co54) := (blk_cell BK217.out 1).trans rfl; have hfz57_0 := blk_frozen BK217.out 0; have hfz57_1 := blk_frozen BK217.out 1))
        go_roundg k1
        case measure => have := HK1.out; omega
        case rel => exact ⟨(y233), (.slice Ao56 y233.length co56), H', ⟨by have := HK1.out; omega⟩, ⟨(by (with_reducible repeat (first | apply Kd.R_alloc | apply Kd.R_drewN | apply Kd.R_drew)); exact Kd.R_mono (Kd.R_far (p := ⟨gb217, 1, none⟩) (Kd.R_types HO235.out BK217.out q4_19) (fun _ hk => hk.2) (.slice Ao56 y233.length co56)) (fun _ hk => trivial))⟩, ⟨(by (with_reducible repeat (first | refine blk_drewN ?_ _ | refine blk_drew ?_ | refine blk_alloc ?_ _)); refine blk_far ?_ NB210_217.out _; (with_reducible repeat (first | refine blk_drewN ?_ _ | refine blk_drew ?_ | refine blk_alloc ?_ _)); exact BK210.out)⟩, ⟨(by (with_reducible repeat (first | refine blk_drewN ?_ _ | refine blk_drew ?_ | refine blk_alloc ?_ _)); refine blk_put (cs := #[.int .i64 t211, .slice Ao54 x218001_1.length co54]) ?_ 1 _ rfl; (with_reducible repeat (first | refine blk_drewN ?_ _ | refine blk_drew ?_ | refine blk_alloc ?_ _)); exact BK217.out)⟩, ⟨q4_4⟩, ⟨q4_6⟩, ⟨q4_5⟩⟩
       ·
        rw [if_neg c50] at H
        exact absurd H (by simp)
      ·
       rw [if_neg c49] at H; have c49b0 : decide ((x218001_1.length : Int) < 9) = false := decide_eq_false c49
       have c49b1 : decide (x218001_1.length < 9) = false := decide_eq_false (by omega)
       clear c49
       simp only [Option.some.injEq, Prod.mk.injEq] at H
       obtain ⟨rfl, rfl, rfl, rfl⟩ := H; have hnb58 := NB217_210.out; have hnc58 := NB210_217.out; have hnb59 := NB217_0.out; have hnc59 := NB0_217.out; have hcz60_0 : wr.cell? ⟨gb217, 0, none⟩ = some (.int .i64 t211) := (blk_cell BK217.out 0).trans rfl; have hcz60_1 : wr.cell? ⟨gb217, 1, none⟩ = some (u218001) := (blk_cell BK217.out 1).trans rfl; have hfz60_0 := blk_frozen BK217.out 0; have hfz60_1 := blk_frozen BK217.out 1; obtain ⟨Ao61, co61, eo61⟩ := Kd.R_slice HO_218001.out; subst eo61; have hnb62 := NB210_0.out; have hnc62 := NB0_210.out; have hcz63_0 : wr.cell? ⟨gb210, 0, none⟩ = some (.int .i64 0) := (blk_cell BK210.out 0).trans rfl; have hcz63_1 : wr.cell? ⟨gb210, 1, none⟩ = some (.slice none 0 0) := (blk_cell BK210.out 1).trans rfl; have hfz63_0 := blk_frozen BK210.out 0; have hfz63_1 := blk_frozen BK210.out 1
       go_wp2
       refine bodyPost_ret (results_cell_row rfl _ _ gb210 26 #[.int .i64 t211, .slice Ao61 x218001_1.length co61] (0, 0) _ rfl q4_1 Tryz.underlying26 rfl s13_) rfl ?_
       exact ⟨_, s5_, (by (with_reducible repeat (first | apply Kd.R_alloc | apply Kd.R_drewN | apply Kd.R_drew)); exact Kd.R_mono (Kd.R_far (p := ⟨gb210, 1, none⟩) (Kd.R_far (p := ⟨gb210, 0, none⟩) (Kd.R_types HO_218001.out BK210.out q4_19) (fun _ hk => hk.2) (.int .i64 t211)) (fun _ hk => hk.2) (.slice Ao61 x218001_1.length co61)) (fun _ hk => trivial)), q4_4, q4_5, q4_6⟩
   ·
    rw [if_neg c40] at H; have c40b0 : (t218 == 2) = false := beq_eq_false_iff_ne.mpr c40; have c40b1 : (t218 != 2) = true := bne_iff_ne.mpr c40
    simp only [Option.some.injEq, Prod.mk.injEq] at H
    obtain ⟨rfl, rfl, rfl, rfl⟩ := H
    go_enter Tryz.func36, Tryz.ntmps36
    go_wp2_with (first | (refine be_ 2 #[.int .i64 0, .slice none 0 0] 26 ?_; intro gb210 hg w64 hbox hb; have n_ := ac_ (IsS71.below s6_ hb) <| ac_ (KeepBut.trans s7_ (KeepBut.of_below hb g none) (.inl rfl)) <| ac_ (below_step s9_ hb) <| ac_ (hbox) <| ac_ ((by rw [hg]; exact (keep_size (w := w) (g := g) (row := none) s7_) : w.heap.size ≤ gb210)) <| ac_ ((Nat.le_trans HW0.out (by rw [hg]; exact (keep_size (w := w) (g := g) (row := none) s7_) : w.heap.size ≤ gb210) : w0.heap.size ≤ gb210)) <| ac_ ((nl_ hg (IsS71.lt (show IsS71 w0 _ g s0_0 s0_1 s0_2 from s6_)))) <| Aside0.mk ((ng_ hg (IsS71.lt (show IsS71 w0 _ g s0_0 s0_1 s0_2 from s6_)))); clear HI0 HK HB; obtain ⟨HI0, HK, HB, BK210, GW210, GE210, NB0_210, NB210_0⟩ := n_; clear hb hbox hg) | (refine gL_ 64 5 Tryz.func64 #[.pointer (some ⟨g, 0, none⟩)] ?_; (with_reducible refine (spec_l3Draw.calls k g s0_0 s0_1 s0_2 t211 t212 t215 t216 w0 _ ?side1 ?side2 A2.out).mono ?_); (case side1 => exact q4_7); (case side2 => exact q4_8); rintro e w65 ⟨v213, rfl, ho0, hi, hb, hk⟩; refine ⟨_, rfl, ?_⟩; have n_ := ac_ (KeepBut.blk hk (g' := gb210) (o := .cells #[.int .i64 0, .slice none 0 0] 26 (0, 0)) q4_14 NB210_0.out (by simp)) <| ac_ (Kd.R_lower ho0 (keep_size (w := w) (g := g) (row := none) q4_9)) <| ac_ (KeepBut.trans q4_9 hk (.inl rfl)) <| ac_ (hb) <| Aside0.mk (hi); clear BK210 HK HB HI0; obtain ⟨BK210, HO214, HK, HB, HI0⟩ := n_; (try clear hb hk hi ho0)) | (refine be_ 3 #[.int .i64 0, .slice none 0 0] 26 ?_; intro gb217 hg w66 hbox hb; have n_ := ac_ (Kd.R_below q4_16 hb) <| ac_ (IsS71.below q4_7 hb) <| ac_ (blk_below (g := gb210) (o := .cells #[.int .i64 0, .slice none 0 0] 26 (0, 0)) q4_14 hb) <| ac_ (KeepBut.trans q4_9 (KeepBut.of_below hb g none) (.inl rfl)) <| ac_ (below_step q4_8 hb) <| ac_ (hbox) <| ac_ ((by rw [hg]; exact (keep_size (w := w) (g := g) (row := none) q4_9) : w.heap.size ≤ gb217)) <| ac_ ((Nat.le_trans HW0.out (by rw [hg]; exact (keep_size (w := w) (g := g) (row := none) q4_9) : w.heap.size ≤ gb217) : w0.heap.size ≤ gb217)) <| ac_ ((nl_ hg (blk_lt (g := gb210) (o := .cells #[.int .i64 0, .slice none 0 0] 26 (0, 0)) q4_14))) <| ac_ ((ng_ hg (blk_lt (g := gb210) (o := .cells #[.int .i64 0, .slice none 0 0] 26 (0, 0)) q4_14))) <| ac_ ((nl_ hg (IsS71.lt (show IsS71 w0 _ g s0_0 t215 t216 from q4_7)))) <| Aside0.mk ((ng_ hg (IsS71.lt (show IsS71 w0 _ g s0_0 t215 t216 from q4_7)))); clear HO214 HI0 BK210 HK HB; obtain ⟨HO214, HI0, BK210, HK, HB, BK217, GW217, GE217, NB210_217, NB217_210, NB0_217, NB217_0⟩ := n_; clear hb hbox hg; have hnb67 := NB217_210.out; have hnc67 := NB210_217.out; have hnb68 := NB217_0.out; have hnc68 := NB0_217.out; have hcz69_0 : w66.cell? ⟨gb217, 0, none⟩ = some (.int .i64 0) := (blk_cell BK217.out 0).trans rfl; have hcz69_1 : w66.cell? ⟨gb217, 1, none⟩ = some (.slice none 0 0) := (blk_cell BK217.out 1).trans rfl; have hfz69_0 := blk_frozen BK217.out 0; have hfz69_1 := blk_frozen BK217.out 1; obtain ⟨Ao70, co70, eo70⟩ := Kd.R_slice HO214.out; subst eo70) | (refine gL_ 53 7 Tryz.func53 #[.pointer (some ⟨g, 0, none⟩), .int .i64 14] ?_; (with_reducible refine (spec_l1Below.calls g s0_0 t215 t216 14 t218 t219 t220 w0 _ ?side1 ?side2 A3.out).mono ?_); (case side1 => exact q4_4); (case side2 => exact q4_5); rintro e w71 ⟨rfl, hi, hb, hk⟩; refine ⟨_, rfl, ?_⟩; have n_ := ac_ (KeepBut.blk hk (g' := gb210) (o := .cells #[.int .i64 0, .slice none 0 0] 26 (0, 0)) q4_3 NB210_0.out (by simp)) <| ac_ (Kd.R_mono (Kd.R_keep (IsS71.apart (show IsS71 w0 _ g s0_0 t215 t216 from q4_4) (by (with_reducible repeat (first | apply Kd.R_alloc | apply Kd.R_drewN | apply Kd.R_drew)); exact (Kd.R_mono (Kd.R_far (p := ⟨gb217, 1, none⟩) (Kd.R_far (p := ⟨gb217, 0, none⟩) (Kd.R_types HO214.out BK217.out q4_19) (fun _ hk => hk.2) (.int .i64 t211)) (fun _ hk => hk.2) (.slice Ao70 t212.length co70)) (fun _ h_ => h_.1))) q4_19) hk (fun _ h => h.2)) (fun _ h => h.1)) <| ac_ (KeepBut.blk hk (g' := gb217) (o := .cells #[.int .i64 t211, .slice Ao70 t212.length co70] 26 (0, 0)) q4_2 NB217_0.out (by simp)) <| ac_ (KeepBut.trans q4_6 hk (.inl rfl)) <| ac_ (hb) <| Aside0.mk (hi); clear BK210 HO214 BK217 HK HB HI0; obtain ⟨BK210, HO214, BK217, HK, HB, HI0⟩ := n_; (try clear hb hk hi); have hcz72_0 : w71.cell? ⟨gb217, 0, none⟩ = some (.int .i64 t211) := (blk_cell BK217.out 0).trans rfl; have hcz72_1 : w71.cell? ⟨gb217, 1, none⟩ = some (.slice Ao70 t212.length co70) := (blk_cell BK217.out 1).trans rfl; have hfz72_0 := blk_frozen BK217.out 0; have hfz72_1 := blk_frozen BK217.out 1; have hnb73 := NB210_0.out; have hnc73 := NB0_210.out; have hcz74_0 : w71.cell? ⟨gb210, 0, none⟩ = some (.int .i64 0) := (blk_cell BK210.out 0).trans rfl; have hcz74_1 : w71.cell? ⟨gb210, 1, none⟩ = some (.slice none 0 0) := (blk_cell BK210.out 1).trans rfl; have hfz74_0 := blk_frozen BK210.out 0; have hfz74_1 := blk_frozen BK210.out 1))
    refine bodyPost_ret (results_cell_row rfl _ _ gb210 26 #[.int .i64 t211, .slice Ao70 t212.length co70] (0, 0) _ rfl q4_1 Tryz.underlying26 rfl s13_) rfl ?_
    exact ⟨_, s5_, (by (with_reducible repeat (first | apply Kd.R_alloc | apply Kd.R_drewN | apply Kd.R_drew)); exact Kd.R_mono (Kd.R_far (p := ⟨gb210, 1, none⟩) (Kd.R_far (p := ⟨gb210, 0, none⟩) (Kd.R_types HO214.out BK210.out q4_19) (fun _ hk => hk.2) (.int .i64 t211)) (fun _ hk => hk.2) (.slice Ao70 t212.length co70)) (fun _ hk => trivial)), q4_4, q4_5, q4_6⟩
theorem q4_20 {P : Prop} (h : P := by repeat (first | (with_reducible first | exact HBW.out | apply below_alloc | apply pw_below_drewN | apply below_drew1) | exact HBW.out)) : P := h
def spec_l1New.l0 : Nat → List Int → Int → Int → Option (List Int × Int × Int)
 | 0, _, _, _ => none
 | k + 1, x0, x3, x4 => if x4 < (x0.length : Int) then (if x4 < 4000 then (if 0 ≤ x4 then (spec_l1New.l0 k x0 (Go.bits .and .i64 (wrap64 ((wrap64 ((wrap64 (x3 * 131)) + (wrap64 (rd x0 x4)))) + 7)) 1073741823) (wrap64 (x4 + 1))) else (none)) else (some (x0, 0, x3))) else (some (x0, 0, x3))
def spec_l1New.f (k : Nat) (l0 : List Int) : Option (List Int × Int × Int) := spec_l1New.l0 k l0 (wrap64 (26583 + (l0.length : Int))) 0
theorem spec_l1New.calls (k : Nat) (A0 : Option Addr) (c0 : Nat) (l0 : List Int) (r1 : List Int) (r2 : Int) (r3 : Int) (w0 w : World) (hB : Below w0.heap.size w0 w) (hr0 : Kd.C (Kd.int .u8) w0 A0 l0.length l0) (hc0 : l0.length ≤ c0) (h : spec_l1New.f k l0 = some (r1, r2, r3)) :
  Calls Tryz.prog 37 #[.slice A0 l0.length c0] w fun e w' => ∃ g_ : Nat, e = .returned (.pointer (some ⟨g_, 0, none⟩)) ∧ IsS71 w0 w' g_ r1 r2 r3 ∧ Below w0.heap.size w0 w' ∧ Below w.heap.size w w' := by
 have hu71 := Tryz.underlying71; have HR0 := Aside0.mk hr0; have HC0 := Aside0.mk hc0; clear hr0 hc0; have HBW := Aside0.mk (Below.refl w.heap.size w); have HW0 := Aside0.mk hB.size; have HB := Aside0.mk hB; clear hB; have H := h; clear h; unfold spec_l1New.f at H; have H' := Aside0.mk H; clear H
 go_enter Tryz.func37, Tryz.ntmps37
 go_wp2
 go_loopg [3, 4] k (fun kq v3 v4 w' => ∃ (x3_1 : Int) (x4_1 : Int), v3 = .int .i64 x3_1 ∧ v4 = .int .i64 x4_1 ∧ Aside0 (spec_l1New.l0 kq l0 x3_1 x4_1 = some (r1, r2, r3)) ∧ Aside0 (kq ≤ k) ∧ Aside0 (Below w0.heap.size w0 w') ∧ Aside0 (Below w.heap.size w w'))
 case atStart => exact ⟨(wrap64 (26583 + (l0.length : Int))), (0), s3_, s3_, H', ⟨Nat.le_refl _⟩, ⟨s0_⟩, ⟨q4_20⟩⟩
 case round =>
  clear H'; obtain ⟨x3_1, x4_1, rfl, rfl, HA, HK1, HB, HBW⟩ := hrel
  cases gk with
  | zero => exact absurd HA.out (by simp [spec_l1New.l0])
  | succ k1 =>
   have H := HA.out; clear HA
   simp only [spec_l1New.l0] at H
   by_cases c2 : x4_1 < (l0.length : Int)
   ·
    rw [if_pos c2] at H; have c2b0 : decide (x4_1 < (l0.length : Int)) = true := decide_eq_true c2; clear c2
    by_cases c3 : x4_1 < 4000
    ·
     rw [if_pos c3] at H; have c3b0 : decide (x4_1 < 4000) = true := decide_eq_true c3; clear c3
     by_cases c4 : 0 ≤ x4_1
     ·
      rw [if_pos c4] at H; have c4b0 : decide (0 ≤ x4_1) = true := decide_eq_true c4; clear c4; have H' := Aside0.mk H; clear H
      have p236 : 0 ≤ (x4_1 : Int) := of_decide_eq_true (by first | (with_reducible assumption) | assumption)
      have q236 : x4_1 < (l0.length : Int) := of_decide_eq_true (by first | (with_reducible assumption) | assumption)
      obtain ⟨ad236, e236, hx236_0⟩ := Kd.at_int HR0.out x4_1 p236 q236
      cases e236
      replace hx236_0 := pw_cell_below HB.out hx236_0; replace p236 := eq_true p236; replace q236 := eq_true q236
      go_wp2
      go_roundg k1
      case measure => have := HK1.out; omega
      case rel => exact ⟨(Go.bits .and .i64 (wrap64 ((wrap64 ((wrap64 (x3_1 * 131)) + (wrap64 (rd l0 x4_1)))) + 7)) 1073741823), (wrap64 (x4_1 + 1)), s3_, s3_, H', ⟨by have := HK1.out; omega⟩, ⟨s0_⟩, ⟨q4_20⟩⟩
     ·
      rw [if_neg c4] at H
      exact absurd H (by simp)
    ·
     rw [if_neg c3] at H; have c3b0 : decide (x4_1 < 4000) = false := decide_eq_false c3; clear c3
     simp only [Option.some.injEq, Prod.mk.injEq] at H
     obtain ⟨rfl, rfl, rfl⟩ := H
     go_wp2_with (first | (refine be_ 31 #[.slice A0 l0.length c0, .int .i64 0, .int .i64 x3_1] 71 ?_; intro gb237 hg w5 hbox hb; have n_ := ac_ (below_step HBW.out hb) <| ac_ (below_step s0_ hb) <| ac_ (hbox) <| ac_ ((gz_ w hg q4_20)) <| Aside0.mk ((Nat.le_trans HW0.out (gz_ w hg q4_20) : w0.heap.size ≤ gb237)); clear HBW HB; obtain ⟨HBW, HB, BK237, GW237, GE237⟩ := n_; clear hb hbox hg))
     go_ret
     exact ⟨_, rfl, (show IsS71 w0 _ gb237 l0 0 x3_1 from ⟨_, _, (by (with_reducible repeat (first | refine blk_drewN ?_ _ | refine blk_drew ?_ | refine blk_alloc ?_ _)); exact BK237.out), GE237.out, HR0.out⟩), (by repeat (first | (with_reducible first | exact HB.out | apply below_alloc | apply pw_below_drewN | apply below_drew1 | refine below_set ?_ GE237.out) | exact HB.out)), (by repeat (first | (with_reducible first | exact HBW.out | apply below_alloc | apply pw_below_drewN | apply below_drew1 | refine below_set ?_ GW237.out) | exact HBW.out))⟩
   ·
    rw [if_neg c2] at H; have c2b0 : decide (x4_1 < (l0.length : Int)) = false := decide_eq_false c2; clear c2
    simp only [Option.some.injEq, Prod.mk.injEq] at H
    obtain ⟨rfl, rfl, rfl⟩ := H
    go_wp2_with (first | (refine be_ 31 #[.slice A0 l0.length c0, .int .i64 0, .int .i64 x3_1] 71 ?_; intro gb238 hg w6 hbox hb; have n_ := ac_ (below_step HBW.out hb) <| ac_ (below_step s0_ hb) <| ac_ (hbox) <| ac_ ((gz_ w hg q4_20)) <| Aside0.mk ((Nat.le_trans HW0.out (gz_ w hg q4_20) : w0.heap.size ≤ gb238)); clear HBW HB; obtain ⟨HBW, HB, BK238, GW238, GE238⟩ := n_; clear hb hbox hg))
    go_ret
    exact ⟨_, rfl, (show IsS71 w0 _ gb238 l0 0 x3_1 from ⟨_, _, (by (with_reducible repeat (first | refine blk_drewN ?_ _ | refine blk_drew ?_ | refine blk_alloc ?_ _)); exact BK238.out), GE238.out, HR0.out⟩), (by repeat (first | (with_reducible first | exact HB.out | apply below_alloc | apply pw_below_drewN | apply below_drew1 | refine below_set ?_ GE238.out) | exact HB.out)), (by repeat (first | (with_reducible first | exact HBW.out | apply below_alloc | apply pw_below_drewN | apply below_drew1 | refine below_set ?_ GW238.out) | exact HBW.out))⟩
end Go.Proofs.YtfmpafgmcleogaaGreatDoor.Pr
