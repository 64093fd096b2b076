/- What the law needs of the program's functions as plain functions, of the proofs that their calls answer so, and of plain laws: gathered by a program of this place (pack.py) out of its printed texts. No condition beyond what each statement says. -/
import Derived.Test.YtamjnninbdnjhaaZXProofOf11
import Derived.Test.YtamjnninbdnjhaaZXProofOf8
import Derived.Test.YtamjnninbdnjhaaZXProofOf12
import Derived.Test.YtamjnninbdnjhaaZXProofOf2
namespace Go.Proofs.Ytamjnninbdnjhaa.Pr
open Go.RowKit Go.Proofs.YtamjnninbdnjhaaW.PrintWords Go.Proofs.YtamjnninbdnjhaaW.PrintLast Go.Proofs.YtamjnninbdnjhaaW.PrintMore
set_option linter.unusedVariables false
def impl_ProofOf_IndexFunc0.f (l0 : List S46) (a1 : Int) : Option Int := some (idxF (fun x => !Pu.respV x a1) l0)
set_option maxHeartbeats 4000000 in
set_option maxRecDepth 100000 in
theorem ProofOf1_calls (a b : Int) (s : Int) (g : Nat) (W : World) (hc : W.cell? ⟨g, 0, none⟩ = some (.int .i64 s)) :
    Calls Try.prog 46 #[.agg #[.int .i64 a, .int .i64 b], .pointer (some ⟨g, 0, none⟩)] W fun e w' => e = .returned (.bool (!Pu.respV ⟨a, b⟩ s)) ∧ Below W.heap.size W w' := by
  have hb : g < W.heap.size := World.block_lt_of_cell? W _ hc
  have hu := Try.underlying46
  have K : Aside0 (impl_Respects.f a b s = some (Pu.respV ⟨a, b⟩ s)) := ⟨Pu.respI_val a b s⟩
  generalize Pu.respV ⟨a, b⟩ s = q at *
  go_enter Try.func46, Try.ntmps46
  go_wp2_with (go_at_call 47; refine (impl_Respects.calls a b s q _ K.out).mono ?_; rintro e w' ⟨rfl, hd⟩)
  go_ret
  exact ⟨rfl, below_step (by repeat (first | apply below_alloc | apply pw_below_drewN | apply below_drew1 | exact Below.refl _ _)) hd⟩
theorem impl_ProofOf_IndexFunc0.calls (A0 : Option Addr) (c0 : Nat) (l0 : List S46) (a1 : Int) (r : Int) (w : World) (hr0 : Kd.C k46 w A0 l0.length l0) (hc0 : l0.length ≤ c0) (h : impl_ProofOf_IndexFunc0.f l0 a1 = some r)
    {g : Nat} (hg : w.heap[g]? = some (.cells #[.int .i64 a1] 3 (0, 0))) :
    Calls Try.prog 45 #[.slice A0 l0.length c0, .func (.func 46) #[] #[.pointer (some ⟨g, 0, none⟩)]] w fun e w' => e = .returned (.int .i64 r) ∧ Below w.heap.size w w' := by
  obtain rfl := Option.some.inj h
  have eg : ∀ args w, (callFunc 46 args).run Try.prog w = .ok (.enter 46 args) w := enters_of Try.func46 (by kernel_rfl) rfl
  refine IndexFunc_rule 46 #[.pointer (some ⟨g, 0, none⟩)] eg A0 c0 l0 (fun x => !Pu.respV x a1) w hr0 fun W x hb => ?_
  rw [show (#[.agg #[.int .i64 x.f0, .int .i64 x.f1]] ++ #[.pointer (some ⟨g, 0, none⟩)] : Array Value) = #[.agg #[.int .i64 x.f0, .int .i64 x.f1], .pointer (some ⟨g, 0, none⟩)] from rfl]
  exact ProofOf1_calls x.f0 x.f1 a1 g W ((blk_cell (blk_below hg hb) 0).trans rfl)
end Go.Proofs.Ytamjnninbdnjhaa.Pr
namespace Go.Proofs.Ytamjnninbdnjhaa.Pr
open Go.RowKit Go.Proofs.YtamjnninbdnjhaaW.PrintWords Go.Proofs.YtamjnninbdnjhaaW.PrintLast Go.Proofs.YtamjnninbdnjhaaW.PrintMore
attribute [local go_sem] max2_int min2_int max_two min_two max_three min_three max_four min_four   -- for this text's walks alone
set_option linter.unusedVariables false
set_option linter.unusedSimpArgs false
theorem put19_ {P : Prop} (h : P := by simp only [Act.put, List.setIfInBounds_toArray, List.set_cons_zero, List.set_cons_succ, i64_w, i32_w]; rfl) : P := h
theorem q19_1 {P : Prop} (h : P := by repeat (first | (with_reducible first | exact HB.out | apply below_alloc | apply pw_below_drewN | apply below_drew1 | refine below_set ?_ GE279.out | refine below_set ?_ GE284.out) | exact HB.out)) : P := h
theorem q19_2 {P : Prop} (h : P := by repeat (first | exact (Kd.C_below HR0.out HB.out) | (with_reducible refine Kd.C_alloc ?_ _) | (with_reducible refine Kd.C_drewN ?_ _) | (with_reducible refine Kd.C_drew ?_))) : P := h
theorem q19_3 {P : Prop} (h : P := by repeat (first | (with_reducible first | exact HB.out | apply below_alloc | apply pw_below_drewN | apply below_drew1 | refine below_set ?_ GE279.out) | exact HB.out)) : P := h
theorem q19_4 {P : Prop} (h : P := by (try simp only [List.map_toArray, List.map_cons, List.map_nil]); first | done | rfl | (simp only [List.length_drop, List.length_take]; rfl)) : P := h
theorem q19_5 {P : Prop} (h : P := by repeat (first | (with_reducible first | exact HB.out | apply below_alloc | apply pw_below_drewN | apply below_drew1) | exact HB.out)) : P := h
theorem q19_6 {P : Prop} (h : P := by (with_reducible repeat (first | refine blk_drewN ?_ _ | refine blk_drew ?_ | refine blk_alloc ?_ _)); exact BK279.out) : P := h
theorem q19_7 {P : Prop} (h : P := by (with_reducible repeat (first | refine blk_drewN ?_ _ | refine blk_drew ?_ | refine blk_alloc ?_ _)); exact BK284.out) : P := h
theorem q19_8 {P : Prop} (h : P := by (with_reducible repeat (first | apply Kd.R_alloc | apply Kd.R_drewN | apply Kd.R_drew)); exact HO283.out) : P := h
theorem q19_9 {P : Prop} (h : P := by kernel_rfl) : P := h
def impl_ProofOf.l0 : Nat → List (S46) → List (S77) → Int → Int → Int → Option ((List (S77)) × Bool)
 | 0, _, _, _, _, _ => none
 | k + 1, x0, x6, x280000, x280001, x285000 => (impl_inSet.f x280001 x285000).bind fun t285 => (if t285 = true then (some (x6, true)) else ((impl_ProofOf_IndexFunc0.f x0 x285000).bind fun t286 => (if 0 ≤ t286 then (if t286 < (x0.length : Int) then (if x6.length < 8796093022208 then (impl_ProofOf.l0 k x0 (x6 ++ [(⟨t286, Go.bits .or .i64 x285000 ((rd_T46 x0 t286).f1)⟩ : S77)]) x280000 x280001 (Go.bits .or .i64 x285000 ((rd_T46 x0 t286).f1))) else (none)) else (none)) else (none))))
def impl_ProofOf.f (k : Nat) (l0 : List (S46)) (a1_0 : Int) (a1_1 : Int) : Option ((List (S77)) × Bool) := (impl_Follows.f k l0 a1_0 a1_1).bind fun t280 => (if t280 = true then (impl_ProofOf.l0 k l0 (([] : List (S77))) a1_0 a1_1 a1_0) else (some (([] : List (S77)), false)))
def impl_ProofOf.T6 : Bool × List (List Nat × List Nat) := (true, [([], []), ([], []), ([], []), ([1, 2], [1, 2]), ([3], [3]), ([4], [4]), ([0, 5], [0, 5]), ([6, 0, 1, 2, 3, 4, 5, 6], [6])])
def impl_ProofOf.B6 : List Nat := [0, 0, 0, 6, 14, 30, 63, 127]
theorem impl_ProofOf.tab6 : rtab .any (opsOf Try.f17 6) = impl_ProofOf.T6 := q19_9
theorem impl_ProofOf.bits6 : waitsOk impl_ProofOf.T6.2 impl_ProofOf.B6 = true := q19_9
set_option maxHeartbeats 8000000 in
set_option maxRecDepth 100000 in
theorem impl_ProofOf.calls (k : Nat) (A0 : Option Addr) (c0 : Nat) (l0 : List (S46)) (a1_0 : Int) (a1_1 : Int) (r1 : List (S77)) (r2 : Bool) (w : World) (hr0 : Kd.C k46 w A0 l0.length l0) (hc0 : l0.length ≤ c0) (h : impl_ProofOf.f k l0 a1_0 a1_1 = some (r1, r2)) :
  Calls Try.prog 17 #[.slice A0 l0.length c0, .agg #[.int .i64 a1_0, .int .i64 a1_1]] w fun e w' => ∃ v0_ : Value, e = .returned (.tuple #[v0_, .bool r2]) ∧ Kd.R k77 77 w' w.heap.size (fun _ => True) v0_ r1 ∧ Below w.heap.size w w' := by
 have hu46 := Try.underlying46
 have hu77 := Try.underlying77
 have HR0 := Aside0.mk hr0
 have HC0 := Aside0.mk hc0
 clear hr0 hc0
 have HB := Aside0.mk (Below.refl w.heap.size w)
 have H : ((impl_Follows.f k l0 a1_0 a1_1).bind fun t280 => (if t280 = true then (impl_ProofOf.l0 k l0 (([] : List (S77))) a1_0 a1_1 a1_0) else (some (([] : List (S77)), false)))) = some (r1, r2) := h
 clear h
 replace H := Option.bind_eq_some_iff.mp H
 obtain ⟨t280, A30, H⟩ := H
 replace H : (if t280 = true then (impl_ProofOf.l0 k l0 (([] : List (S77))) a1_0 a1_1 a1_0) else (some (([] : List (S77)), false))) = some (r1, r2) := H
 have A3 := Aside0.mk A30
 clear A30
 by_cases c4 : t280 = true
 ·
  subst c4
  have H1 : (impl_ProofOf.l0 k l0 (([] : List (S77))) a1_0 a1_1 a1_0) = some (r1, r2) := by rw [if_pos rfl] at H; exact H
  clear H
  have H := H1
  clear H1
  obtain ⟨y281, hy281⟩ : ∃ y_ : List (S77), y_ = (([] : List (S77))) := ⟨_, rfl⟩
  replace H : (impl_ProofOf.l0 k l0 y281 a1_0 a1_1 a1_0) = some (r1, r2) := by first | (rw [hy281]; with_reducible exact H) | (have H2_ := (Option.bind_some _ _).symm.trans H; rw [hy281]; with_reducible exact H2_) | (have H2_ := (Option.bind_some _ _).symm.trans H; with_reducible exact H2_) | with_reducible exact H | (rw [hy281]; exact H) | exact H
  have Ny281 := Aside0.mk hy281
  clear hy281
  have H' := Aside0.mk H
  clear H
  go_enter Try.func17, Try.ntmps17
  try go_wp2_with (first | ((with_reducible refine gate_dst (N := 3) rfl ?_); refine box_event ?hg (N := 3) ?hd (cs := #[.int .i64 a1_0, .int .i64 a1_1]) (t := 46) ?hr ?_; (case hd => rfl); (case hg => rfl); (case hr => first | (go_simp; done) | (go_simp; rfl)); intro gb279 hg w5 hbox hb; have n0_ := Aside0.mk (below_step q19_5 hb); have n1_ := Aside0.mk (hbox); have n2_ := Aside0.mk ((by rw [hg]; exact (below_size q19_5) : w.heap.size ≤ gb279)); have n3_ := Aside0.mk ((by rw [hg]; exact (below_size q19_5) : w.heap.size ≤ gb279)); clear HB; have HB := n0_; have BK279 := n1_; have GW279 := n2_; have GE279 := n3_; clear n0_ n1_ n2_ n3_; clear hb hbox hg; have hcz6_0 : w5.cell? ⟨gb279, 0, none⟩ = some (.int .i64 a1_0) := (blk_cell BK279.out 0).trans rfl; have hcz6_1 : w5.cell? ⟨gb279, 1, none⟩ = some (.int .i64 a1_1) := (blk_cell BK279.out 1).trans rfl; have hfz6_0 := blk_frozen BK279.out 0; have hfz6_1 := blk_frozen BK279.out 1) | ((with_reducible refine gate_callee (f := 43) rfl ?_); refine goesL_ (some 11) rfl rfl Try.func43 q19_9 rfl #[.slice A0 l0.length c0, .agg #[.int .i64 a1_0, .int .i64 a1_1]] rfl q19_4 ?_; (with_reducible refine (impl_Follows.calls k _ _ l0 a1_0 a1_1 true _ ?side1 ?side2 A3.out).mono ?_); (case side1 => exact q19_2); (case side2 => exact HC0.out); rintro e w7 ⟨rfl, hb⟩; refine ⟨_, rfl, ?_⟩; have n0_ := Aside0.mk (blk_below (g := gb279) (o := .cells #[.int .i64 a1_0, .int .i64 a1_1] 46 (0, 0)) q19_6 hb); have n1_ := Aside0.mk (below_step q19_3 hb); clear BK279; clear HB; have BK279 := n0_; have HB := n1_; clear n0_ n1_; (try clear hb); (try clear hb2); (try clear hk); (try clear hi)))
  have n0_ := Aside0.mk (blk_drew BK279.out)
  have n1_ := Aside0.mk (below_drew1 HB.out)
  clear BK279
  clear HB
  have BK279 := n0_
  have HB := n1_
  clear n0_ n1_
  refine start_ (n := 6) (S := fun w' => w'.cell? ⟨gb279, 0, none⟩ = some (.int .i64 a1_0) ∧ w'.cell? ⟨gb279, 1, none⟩ = some (.int .i64 a1_1)) (ds := []) #[false, false, false, false, false, false] q19_9 rfl rfl ⟨(blk_cell BK279.out 0).trans rfl, (blk_cell BK279.out 1).trans rfl⟩ (fun hHeld => ?_)
  generalize w7.drew = w8 at BK279 HB hHeld ⊢
  refine pure_ (i := 1) (N := some 14) (v := ?_) (a' := ?_) #[false, true, false, false, false, false] rfl rfl q19_9 (fun _ _ _ h => h) (Or.inl ⟨by rfl, ?_⟩) ?_ ?_
  rotate_left
  ·
   intro w'
   go_simp
   with_reducible rfl
  rotate_left
  ·
   exact put19_
  refine take_ (i := 2) (N := some 15) (v := ?_) (a' := ?_) #[false, true, true, false, false, false] rfl rfl q19_9 (fun _ _ _ h => h) (Or.inl ⟨by rfl, ?_⟩) hHeld ?_ ?_
  rotate_left
  ·
   rintro w' ⟨s0, s1⟩
   go_simp
   with_reducible rfl
  rotate_left
  ·
   exact put19_
  refine join_ (σ := Value × Nat) 2 #[true, true, true, true, false, false] (fun s_ => [(13, s_.1), (7, .pointer (some ⟨s_.2, 0, none⟩))]) (fun s_ w' => (w'.cell? ⟨gb279, 0, none⟩ = some (.int .i64 a1_0) ∧ w'.cell? ⟨gb279, 1, none⟩ = some (.int .i64 a1_1)) ∧ (Kd.R k77 77 w' w.heap.size (fun _ => True) s_.1 y281) ∧ (w'.heap[gb279]? = some (.cells #[.int .i64 a1_0, .int .i64 a1_1] 46 (0, 0))) ∧ (w'.heap[s_.2]? = some (.cells #[.int .i64 0] 3 (0, 0))) ∧ (w.heap.size ≤ s_.2) ∧ (w.heap.size ≤ s_.2) ∧ (gb279 ≠ s_.2) ∧ (s_.2 ≠ gb279) ∧ (Below w.heap.size w w')) ?_ ?_
  rotate_left
  ·
   intro hCont
   refine two_ (i := 0) (j := 3) (Ni := some 13) (Nj := some 7) #[true, true, true, false, false, false] #[false, true, true, true, false, false] rfl rfl rfl rfl q19_9 (by decide) (by decide) (fun K hK => ?_) (fun K hK => ?_)
   ·
    skip
    refine Kd.R_lit_step k77 _ 77 ?hg (N := 13) ?hd (xs := ([] : List (S77))) (inner := []) (ok := fun _ => True) (okp := fun _ => True) ?hr ?hp (fun _ hk => hk) trivial (Below.refl _ _) (Nat.le_refl _) (by simp) ?_; (case hd => rfl); (case hg => rfl); (case hr => first | (go_simp; done) | (go_simp; rfl)); (case hp => exact (Reps.none _ _))
    intro v282 w9 ho10 hb hg_ hnew_
    clear hg_ hnew_
    (first | rw [← Ny281.out] at ho10 | (simp only [Int.reduceToNat] at ho10; rw [← Ny281.out] at ho10))
    have n0_ := Aside0.mk (Kd.R_lower ho10 (below_size q19_3))
    have n1_ := Aside0.mk (blk_below (g := gb279) (o := .cells #[.int .i64 a1_0, .int .i64 a1_1] 46 (0, 0)) q19_6 hb)
    have n2_ := Aside0.mk (below_step q19_3 hb)
    clear BK279
    clear HB
    have HO283 := n0_
    have BK279 := n1_
    have HB := n2_
    clear n0_ n1_ n2_
    clear hb ho10
    refine hK.out _ _ ⟨(blk_cell BK279.out 0).trans rfl, (blk_cell BK279.out 1).trans rfl⟩ (fun hHeld => ?_)
    clear hK K
    refine norm_ (a' := ?_) ?_ ?_
    rotate_left
    ·
     show Act.put _ (some 13) _ = _
     exact put19_
    refine one_ (i := 3) (N := some 7) #[true, true, true, true, false, false] rfl rfl q19_9 (by decide) (fun K hK => ?_)
    refine box_step ?hg (N := 7) ?hd (cs := #[.int .i64 0]) (t := 3) ?hr ?_; (case hd => rfl); (case hg => rfl); (case hr => first | (go_simp; done) | (go_simp; rfl))
    intro gb284 hg w11 hbox hb
    have n0_ := Aside0.mk (Kd.R_below q19_8 hb)
    have n1_ := Aside0.mk (blk_below (g := gb279) (o := .cells #[.int .i64 a1_0, .int .i64 a1_1] 46 (0, 0)) q19_6 hb)
    have n2_ := Aside0.mk (below_step q19_3 hb)
    have n3_ := Aside0.mk (hbox)
    have n4_ := Aside0.mk ((by rw [hg]; exact (below_size q19_3) : w.heap.size ≤ gb284))
    have n5_ := Aside0.mk ((by rw [hg]; exact (below_size q19_3) : w.heap.size ≤ gb284))
    have n6_ := Aside0.mk ((by rw [hg]; exact Nat.ne_of_lt (blk_lt (g := gb279) (o := .cells #[.int .i64 a1_0, .int .i64 a1_1] 46 (0, 0)) q19_6) : gb279 ≠ gb284))
    have n7_ := Aside0.mk ((by rw [hg]; exact Nat.ne_of_gt (blk_lt (g := gb279) (o := .cells #[.int .i64 a1_0, .int .i64 a1_1] 46 (0, 0)) q19_6) : gb284 ≠ gb279))
    clear HO283
    clear BK279
    clear HB
    have HO283 := n0_
    have BK279 := n1_
    have HB := n2_
    have BK284 := n3_
    have GW284 := n4_
    have GE284 := n5_
    have NB279_284 := n6_
    have NB284_279 := n7_
    clear n0_ n1_ n2_ n3_ n4_ n5_ n6_ n7_
    clear hb hbox hg
    refine hK.out _ _ ⟨(blk_cell BK279.out 0).trans rfl, (blk_cell BK279.out 1).trans rfl⟩ (fun hHeld => ?_)
    clear hK K
    refine norm_ (a' := ?_) ?_ ?_
    rotate_left
    ·
     show Act.put _ (some 7) _ = _
     exact put19_
    exact norm_ (by simp only [putAll, Act.put, List.setIfInBounds_toArray, List.set_cons_zero, List.set_cons_succ]) (hCont (v282, gb284) _ ⟨hHeld, q19_8, q19_6, q19_7, GW284.out, GE284.out, NB279_284.out, NB284_279.out, q19_1⟩)
   ·
    skip
    refine box_step ?hg (N := 7) ?hd (cs := #[.int .i64 0]) (t := 3) ?hr ?_; (case hd => rfl); (case hg => rfl); (case hr => first | (go_simp; done) | (go_simp; rfl))
    intro gb284 hg w9 hbox hb
    have n0_ := Aside0.mk (blk_below (g := gb279) (o := .cells #[.int .i64 a1_0, .int .i64 a1_1] 46 (0, 0)) q19_6 hb)
    have n1_ := Aside0.mk (below_step q19_3 hb)
    have n2_ := Aside0.mk (hbox)
    have n3_ := Aside0.mk ((by rw [hg]; exact (below_size q19_3) : w.heap.size ≤ gb284))
    have n4_ := Aside0.mk ((by rw [hg]; exact (below_size q19_3) : w.heap.size ≤ gb284))
    have n5_ := Aside0.mk ((by rw [hg]; exact Nat.ne_of_lt (blk_lt (g := gb279) (o := .cells #[.int .i64 a1_0, .int .i64 a1_1] 46 (0, 0)) q19_6) : gb279 ≠ gb284))
    have n6_ := Aside0.mk ((by rw [hg]; exact Nat.ne_of_gt (blk_lt (g := gb279) (o := .cells #[.int .i64 a1_0, .int .i64 a1_1] 46 (0, 0)) q19_6) : gb284 ≠ gb279))
    clear BK279
    clear HB
    have BK279 := n0_
    have HB := n1_
    have BK284 := n2_
    have GW284 := n3_
    have GE284 := n4_
    have NB279_284 := n5_
    have NB284_279 := n6_
    clear n0_ n1_ n2_ n3_ n4_ n5_ n6_
    clear hb hbox hg
    refine hK.out _ _ ⟨(blk_cell BK279.out 0).trans rfl, (blk_cell BK279.out 1).trans rfl⟩ (fun hHeld => ?_)
    clear hK K
    refine norm_ (a' := ?_) ?_ ?_
    rotate_left
    ·
     show Act.put _ (some 7) _ = _
     exact put19_
    refine one_ (i := 0) (N := some 13) #[true, true, true, true, false, false] rfl rfl q19_9 (by decide) (fun K hK => ?_)
    refine Kd.R_lit_step k77 _ 77 ?hg (N := 13) ?hd (xs := ([] : List (S77))) (inner := []) (ok := fun _ => True) (okp := fun _ => True) ?hr ?hp (fun _ hk => hk) trivial (Below.refl _ _) (Nat.le_refl _) (by simp) ?_; (case hd => rfl); (case hg => rfl); (case hr => first | (go_simp; done) | (go_simp; rfl)); (case hp => exact (Reps.none _ _))
    intro v282 w10 ho11 hb hg_ hnew_
    clear hg_ hnew_
    (first | rw [← Ny281.out] at ho11 | (simp only [Int.reduceToNat] at ho11; rw [← Ny281.out] at ho11))
    have n0_ := Aside0.mk (Kd.R_lower ho11 (below_size q19_1))
    have n1_ := Aside0.mk (blk_below (g := gb279) (o := .cells #[.int .i64 a1_0, .int .i64 a1_1] 46 (0, 0)) q19_6 hb)
    have n2_ := Aside0.mk (blk_below (g := gb284) (o := .cells #[.int .i64 0] 3 (0, 0)) q19_7 hb)
    have n3_ := Aside0.mk (below_step q19_1 hb)
    clear BK279
    clear BK284
    clear HB
    have HO283 := n0_
    have BK279 := n1_
    have BK284 := n2_
    have HB := n3_
    clear n0_ n1_ n2_ n3_
    clear hb ho11
    refine hK.out _ _ ⟨(blk_cell BK279.out 0).trans rfl, (blk_cell BK279.out 1).trans rfl⟩ (fun hHeld => ?_)
    clear hK K
    refine norm_ (a' := ?_) ?_ ?_
    rotate_left
    ·
     show Act.put _ (some 13) _ = _
     exact put19_
    exact norm_ (by simp only [putAll, Act.put, List.setIfInBounds_toArray, List.set_cons_zero, List.set_cons_succ]) (hCont (v282, gb284) _ ⟨hHeld, q19_8, q19_6, q19_7, GW284.out, GE284.out, NB279_284.out, NB284_279.out, q19_1⟩)
  rintro ⟨v282, gb284⟩ w12 ⟨hS_, h0_, h1_, h2_, h3_, h4_, h5_, h6_, h7_⟩
  have n0_ : Aside0 (Kd.R k77 77 w12 w.heap.size (fun _ => True) v282 y281) := ⟨h0_⟩
  have n1_ : Aside0 (w12.heap[gb279]? = some (.cells #[.int .i64 a1_0, .int .i64 a1_1] 46 (0, 0))) := ⟨h1_⟩
  have n2_ : Aside0 (w12.heap[gb284]? = some (.cells #[.int .i64 0] 3 (0, 0))) := ⟨h2_⟩
  have n3_ : Aside0 (w.heap.size ≤ gb284) := ⟨h3_⟩
  have n4_ : Aside0 (w.heap.size ≤ gb284) := ⟨h4_⟩
  have n5_ : Aside0 (gb279 ≠ gb284) := ⟨h5_⟩
  have n6_ : Aside0 (gb284 ≠ gb279) := ⟨h6_⟩
  have n7_ : Aside0 (Below w.heap.size w w12) := ⟨h7_⟩
  clear BK279
  clear HB
  clear h0_ h1_ h2_ h3_ h4_ h5_ h6_ h7_
  have HO283 := n0_
  have BK279 := n1_
  have BK284 := n2_
  have GW284 := n3_
  have GE284 := n4_
  have NB279_284 := n5_
  have NB284_279 := n6_
  have HB := n7_
  clear n0_ n1_ n2_ n3_ n4_ n5_ n6_ n7_
  have hHeld : w12.cell? ⟨gb279, 0, none⟩ = some (.int .i64 a1_0) ∧ w12.cell? ⟨gb279, 1, none⟩ = some (.int .i64 a1_1) := hS_
  refine norm_ (a' := ?_) ?_ ?_
  rotate_left
  ·
   simp only [putAll, Act.put, List.setIfInBounds_toArray, List.set_cons_zero, List.set_cons_succ]
   rfl
  refine pure_ (i := 4) (N := some 6) (v := ?_) (a' := ?_) #[true, true, true, true, true, false] rfl rfl q19_9 (fun _ _ _ h => h) (Or.inl ⟨by rfl, ?_⟩) ?_ ?_
  rotate_left
  ·
   intro w'
   go_simp
   with_reducible rfl
  rotate_left
  ·
   exact put19_
  refine one_ (i := 5) (N := none) #[true, true, true, true, true, true] rfl rfl q19_9 (by decide) (fun K hK => ?_)
  have hs13 : w12.cell? ⟨gb284, 0, none⟩ = some (.int .i64 0) := (blk_cell BK284.out 0).trans rfl
  have hfs13 := blk_frozen BK284.out 0
  have hns13_0 := NB279_284.out
  have hms13_0 := NB284_279.out
  refine skip_ (w1 := ?_) (by rfl) rfl ?_ ?_
  rotate_left
  ·
   go_simp
   rfl
  refine hK.out _ _ ⟨((cell_far (p := ⟨gb284, _, none⟩) NB279_284.out _).trans (hHeld.1)), ((cell_far (p := ⟨gb284, _, none⟩) NB279_284.out _).trans (hHeld.2))⟩ (fun hHeld => ?_)
  clear hK K
  refine done_ q19_9 ?_
  try go_wp2
  go_loopg [6] k (fun kq v6 w' => ∃ (x6_1 : List (S77)) (x285000_1 : Int), Aside0 (impl_ProofOf.l0 kq l0 x6_1 a1_0 a1_1 x285000_1 = some (r1, r2)) ∧ Aside0 (kq ≤ k) ∧ Aside0 (Kd.R k77 77 w' w.heap.size (fun _ => True) v6 x6_1) ∧ Aside0 (w'.heap[gb279]? = some (.cells #[.int .i64 a1_0, .int .i64 a1_1] 46 (0, 0))) ∧ Aside0 (w'.heap[gb284]? = some (.cells #[.int .i64 x285000_1] 3 (0, 0))) ∧ Aside0 (Below w.heap.size w w'))
  case atStart => exact ⟨(y281), (a1_0), H', ⟨Nat.le_refl _⟩, ⟨by (with_reducible repeat (first | apply Kd.R_alloc | apply Kd.R_drewN | apply Kd.R_drew)); exact Kd.R_mono (Kd.R_far (p := ⟨gb284, 0, none⟩) (Kd.R_types HO283.out BK284.out (by decide)) (fun _ hk => hk.2) (.int .i64 a1_0)) (fun _ hk => trivial)⟩, ⟨by (with_reducible repeat (first | refine blk_drewN ?_ _ | refine blk_drew ?_ | refine blk_alloc ?_ _)); refine blk_far ?_ NB279_284.out _; (with_reducible repeat (first | refine blk_drewN ?_ _ | refine blk_drew ?_ | refine blk_alloc ?_ _)); exact BK279.out⟩, ⟨by (with_reducible repeat (first | refine blk_drewN ?_ _ | refine blk_drew ?_ | refine blk_alloc ?_ _)); refine blk_put (cs := #[.int .i64 0]) ?_ 0 _ rfl; (with_reducible repeat (first | refine blk_drewN ?_ _ | refine blk_drew ?_ | refine blk_alloc ?_ _)); exact BK284.out⟩, ⟨by repeat (first | (with_reducible first | exact HB.out | apply below_alloc | apply pw_below_drewN | apply below_drew1 | refine below_set ?_ GE279.out | refine below_set ?_ GE284.out) | exact HB.out)⟩⟩
  case round =>
   clear H'
   try clear c1
   try clear p2
   try clear c4
   try clear hcz6_0
   try clear hcz6_1
   try clear hfz6_0
   try clear hfz6_1
   obtain ⟨x6_1, x285000_1, HA, HK1, HO_6, BK279, BK284, HB⟩ := hrel
   cases gk with
   | zero => exact absurd HA.out (by simp [impl_ProofOf.l0])
   | succ k1 =>
    have H := HA.out
    clear HA
    simp only [impl_ProofOf.l0] at H
    replace H := Option.bind_eq_some_iff.mp H
    obtain ⟨t285, A140, H⟩ := H
    replace H : (if t285 = true then (some (x6_1, true)) else ((impl_ProofOf_IndexFunc0.f l0 x285000_1).bind fun t286 => (if 0 ≤ t286 then (if t286 < (l0.length : Int) then (if x6_1.length < 8796093022208 then (impl_ProofOf.l0 k1 l0 (x6_1 ++ [(⟨t286, Go.bits .or .i64 x285000_1 ((rd_T46 l0 t286).f1)⟩ : S77)]) a1_0 a1_1 (Go.bits .or .i64 x285000_1 ((rd_T46 l0 t286).f1))) else (none)) else (none)) else (none)))) = some (r1, r2) := H
    have A14 := Aside0.mk A140
    clear A140
    by_cases c15 : t285 = true
    ·
     subst c15
     have H1 : (some (x6_1, true)) = some (r1, r2) := by rw [if_pos rfl] at H; exact H
     clear H
     have H := H1
     clear H1
     simp only [Option.some.injEq, Prod.mk.injEq] at H
     obtain ⟨rfl, rfl⟩ := H
     have hnb16 := NB279_284.out
     have hnc16 := NB284_279.out
     have hcz17_0 : wr.cell? ⟨gb279, 0, none⟩ = some (.int .i64 a1_0) := (blk_cell BK279.out 0).trans rfl
     have hcz17_1 : wr.cell? ⟨gb279, 1, none⟩ = some (.int .i64 a1_1) := (blk_cell BK279.out 1).trans rfl
     have hfz17_0 := blk_frozen BK279.out 0
     have hfz17_1 := blk_frozen BK279.out 1
     have hcz18_0 : wr.cell? ⟨gb284, 0, none⟩ = some (.int .i64 x285000_1) := (blk_cell BK284.out 0).trans rfl
     have hfz18_0 := blk_frozen BK284.out 0
     go_wp2_with (first | ((with_reducible refine gate_callee (f := 44) rfl ?_); refine goesL_ (some 19) rfl rfl Try.func44 q19_9 rfl #[.int .i64 a1_1, .int .i64 x285000_1] rfl q19_4 ?_; (with_reducible refine (impl_inSet.calls a1_1 x285000_1 true _ A14.out).mono ?_); rintro e w' ⟨rfl, ⟨nd, rfl⟩⟩; refine ⟨_, rfl, ?_⟩))
     go_ret2
     exact ⟨_, by first | rfl | (simp [errW_none, errW_some] <;> rfl) | (simp [*, errW_none, errW_some] <;> rfl), by (with_reducible repeat (first | apply Kd.R_alloc | apply Kd.R_drewN | apply Kd.R_drew)); exact HO_6.out, by repeat (first | (with_reducible first | exact HB.out | apply below_alloc | apply pw_below_drewN | apply below_drew1 | refine below_set ?_ GE279.out | refine below_set ?_ GE284.out) | exact HB.out)⟩
    ·
     replace c15 := Bool.eq_false_iff.mpr c15
     subst c15
     have H1 : ((impl_ProofOf_IndexFunc0.f l0 x285000_1).bind fun t286 => (if 0 ≤ t286 then (if t286 < (l0.length : Int) then (if x6_1.length < 8796093022208 then (impl_ProofOf.l0 k1 l0 (x6_1 ++ [(⟨t286, Go.bits .or .i64 x285000_1 ((rd_T46 l0 t286).f1)⟩ : S77)]) a1_0 a1_1 (Go.bits .or .i64 x285000_1 ((rd_T46 l0 t286).f1))) else (none)) else (none)) else (none))) = some (r1, r2) := by rw [if_neg (show ¬ (false = true) by decide)] at H; exact H
     clear H
     have H := H1
     clear H1
     replace H := Option.bind_eq_some_iff.mp H
     obtain ⟨t286, A190, H⟩ := H
     replace H : (if 0 ≤ t286 then (if t286 < (l0.length : Int) then (if x6_1.length < 8796093022208 then (impl_ProofOf.l0 k1 l0 (x6_1 ++ [(⟨t286, Go.bits .or .i64 x285000_1 ((rd_T46 l0 t286).f1)⟩ : S77)]) a1_0 a1_1 (Go.bits .or .i64 x285000_1 ((rd_T46 l0 t286).f1))) else (none)) else (none)) else (none)) = some (r1, r2) := H
     have A19 := Aside0.mk A190
     clear A190
     by_cases c20 : 0 ≤ t286
     ·
      rw [if_pos c20] at H
      have c20b0 : decide (0 ≤ t286) = true := decide_eq_true c20
      clear c20
      by_cases c21 : t286 < (l0.length : Int)
      ·
       rw [if_pos c21] at H
       have c21b0 : decide (t286 < (l0.length : Int)) = true := decide_eq_true c21
       clear c21
       by_cases c22 : x6_1.length < 8796093022208
       ·
        rw [if_pos c22] at H
        have LMc22 := Aside0.mk c22
        clear c22
        obtain ⟨y288, hy288⟩ : ∃ y_ : List (S77), y_ = (x6_1 ++ [(⟨t286, Go.bits .or .i64 x285000_1 ((rd_T46 l0 t286).f1)⟩ : S77)]) := ⟨_, rfl⟩
        replace H : (impl_ProofOf.l0 k1 l0 y288 a1_0 a1_1 (Go.bits .or .i64 x285000_1 ((rd_T46 l0 t286).f1))) = some (r1, r2) := by first | (rw [hy288]; with_reducible exact H) | (have H2_ := (Option.bind_some _ _).symm.trans H; rw [hy288]; with_reducible exact H2_) | (have H2_ := (Option.bind_some _ _).symm.trans H; with_reducible exact H2_) | with_reducible exact H | (rw [hy288]; exact H) | exact H
        have Ny288 := Aside0.mk hy288
        clear hy288
        have H' := Aside0.mk H
        clear H
        have hnb23 := NB279_284.out
        have hnc23 := NB284_279.out
        have hcz24_0 : wr.cell? ⟨gb279, 0, none⟩ = some (.int .i64 a1_0) := (blk_cell BK279.out 0).trans rfl
        have hcz24_1 : wr.cell? ⟨gb279, 1, none⟩ = some (.int .i64 a1_1) := (blk_cell BK279.out 1).trans rfl
        have hfz24_0 := blk_frozen BK279.out 0
        have hfz24_1 := blk_frozen BK279.out 1
        have hcz25_0 : wr.cell? ⟨gb284, 0, none⟩ = some (.int .i64 x285000_1) := (blk_cell BK284.out 0).trans rfl
        have hfz25_0 := blk_frozen BK284.out 0
        try go_wp2_with (first | ((with_reducible refine gate_callee (f := 44) rfl ?_); refine goesL_ (some 19) rfl rfl Try.func44 q19_9 rfl #[.int .i64 a1_1, .int .i64 x285000_1] rfl q19_4 ?_; (with_reducible refine (impl_inSet.calls a1_1 x285000_1 false _ A14.out).mono ?_); rintro e w' ⟨rfl, ⟨nd, rfl⟩⟩; refine ⟨_, rfl, ?_⟩; (try (rw [drewN_self wr]; generalize hq_ : World.drewN wr _ = wr; have n0_ : Aside0 (Kd.R k77 77 wr w.heap.size (fun _ => True) u6 x6_1) := ⟨by rw [← hq_]; exact (by (with_reducible repeat (first | apply Kd.R_alloc | apply Kd.R_drewN | apply Kd.R_drew)); exact HO_6.out)⟩; have n1_ : Aside0 (wr.heap[gb279]? = some (.cells #[.int .i64 a1_0, .int .i64 a1_1] 46 (0, 0))) := ⟨by rw [← hq_]; exact q19_6⟩; have n2_ : Aside0 (wr.heap[gb284]? = some (.cells #[.int .i64 x285000_1] 3 (0, 0))) := ⟨by rw [← hq_]; exact q19_7⟩; have n3_ : Aside0 (Below w.heap.size w wr) := ⟨by rw [← hq_]; exact q19_1⟩; clear HO_6 BK279 BK284 HB hq_; have HO_6 := n0_; have BK279 := n1_; have BK284 := n2_; have HB := n3_; clear n0_ n1_ n2_ n3_))) | ((with_reducible refine gate_callee (f := 45) rfl ?_); refine goesL_ (some 23) rfl rfl Try.func45 q19_9 rfl #[.slice A0 l0.length c0, .func (.func 46) #[] #[.pointer (some ⟨gb284, 0, none⟩)]] rfl q19_4 ?_; (with_reducible refine (impl_ProofOf_IndexFunc0.calls ?u1_1 ?u1_2 l0 x285000_1 t286 _ ?side1 ?side2 A19.out ?box0).mono ?_); (case box0 => (with_reducible repeat (first | refine blk_drewN ?_ _ | refine blk_drew ?_ | refine blk_alloc ?_ _)); exact BK284.out); (case side1 => exact q19_2); (case side2 => exact HC0.out); rintro e w26 ⟨rfl, hb⟩; refine ⟨_, rfl, ?_⟩; have n0_ := Aside0.mk (Kd.R_below (by (with_reducible repeat (first | apply Kd.R_alloc | apply Kd.R_drewN | apply Kd.R_drew)); exact HO_6.out) hb); have n1_ := Aside0.mk (blk_below (g := gb279) (o := .cells #[.int .i64 a1_0, .int .i64 a1_1] 46 (0, 0)) q19_6 hb); have n2_ := Aside0.mk (blk_below (g := gb284) (o := .cells #[.int .i64 x285000_1] 3 (0, 0)) q19_7 hb); have n3_ := Aside0.mk (below_step q19_1 hb); clear HO_6; clear BK279; clear BK284; clear HB; have HO_6 := n0_; have BK279 := n1_; have BK284 := n2_; have HB := n3_; clear n0_ n1_ n2_ n3_; (try clear hb); (try clear hb2); (try clear hk); (try clear hi)))
        have n0_ := Aside0.mk (Kd.R_drew HO_6.out)
        have n1_ := Aside0.mk (blk_drew BK279.out)
        have n2_ := Aside0.mk (blk_drew BK284.out)
        have n3_ := Aside0.mk (below_drew1 HB.out)
        clear HO_6
        clear BK279
        clear BK284
        clear HB
        have HO_6 := n0_
        have BK279 := n1_
        have BK284 := n2_
        have HB := n3_
        clear n0_ n1_ n2_ n3_
        have p287 : 0 ≤ (t286 : Int) := of_decide_eq_true (by first | (with_reducible assumption) | assumption)
        have q287 : t286 < (l0.length : Int) := of_decide_eq_true (by first | (with_reducible assumption) | assumption)
        obtain ⟨ad287, e287, hx287_0, hx287_1⟩ := at_T46 HR0.out t286 p287 q287
        have hw287_1 := hx287_1
        have hw287_0 := hx287_0
        cases e287
        replace hx287_0 := (HB.out.cell (World.block_lt_of_cell? w _ hx287_0)).trans hx287_0
        replace hx287_1 := (HB.out.cell (World.block_lt_of_cell? w _ hx287_1)).trans hx287_1
        replace p287 := eq_true p287
        replace q287 := eq_true q287
        refine start_ (n := 8) (S := fun w' => w'.cell? ⟨gb284, 0, none⟩ = some (.int .i64 x285000_1) ∧ w'.cell? (ad287.add ((t286).toNat * 2)) = some (.int .i64 ((rd_T46 l0 t286).f0)) ∧ w'.cell? ⟨(ad287.add ((t286).toNat * 2)).block, (ad287.add ((t286).toNat * 2)).off + 1, none⟩ = some (.int .i64 ((rd_T46 l0 t286).f1))) (ds := [7]) #[false, false, false, false, false, false, false, false] q19_9 rfl rfl ⟨(blk_cell BK284.out 0).trans rfl, ((HB.out.cell (World.block_lt_of_cell? w _ hw287_0)).trans hw287_0), ((HB.out.cell (World.block_lt_of_cell? w _ hw287_1)).trans hw287_1)⟩ (fun hHeld => ?_); refine with_tabW impl_ProofOf.tab6 impl_ProofOf.bits6 (fun HT_ HW_ => ?_)
        generalize w26.drew = w27 at HO_6 BK279 BK284 HB hx287_0 hx287_1 hHeld ⊢
        refine pure_ (i := 1) (N := some 25) (v := ?_) (a' := ?_) #[false, true, false, false, false, false, false, false] rfl rfl (any_of HT_.out q19_9) (fun _ _ _ h => h) (Or.inl ⟨by rfl, ?_⟩) ?_ ?_
        rotate_left
        ·
         intro w'
         go_simp
         with_reducible rfl
        rotate_left
        ·
         exact put19_
        refine pure_ (i := 2) (N := some 26) (v := ?_) (a' := ?_) #[false, true, true, false, false, false, false, false] rfl rfl (any_of HT_.out q19_9) (fun _ _ _ h => h) (Or.inl ⟨by rfl, ?_⟩) ?_ ?_
        rotate_left
        ·
         intro w'
         go_simp
         with_reducible rfl
        rotate_left
        ·
         exact put19_
        refine pure_ (i := 3) (N := some 27) (v := ?_) (a' := ?_) #[false, true, true, true, false, false, false, false] rfl rfl (any_of HT_.out q19_9) (fun _ _ _ h => h) (Or.inl ⟨by rfl, ?_⟩) ?_ ?_
        rotate_left
        ·
         intro w'
         go_simp
         with_reducible rfl
        rotate_left
        ·
         exact put19_
        refine pure_ (i := 4) (N := some 28) (v := ?_) (a' := ?_) #[false, true, true, true, true, false, false, false] rfl rfl (any_of HT_.out q19_9) (fun _ _ _ h => h) (Or.inl ⟨by rfl, ?_⟩) ?_ ?_
        rotate_left
        ·
         intro w'
         go_simp
         with_reducible rfl
        rotate_left
        ·
         exact put19_
        refine take_ (i := 0) (N := some 24) (v := ?_) (a' := ?_) #[true, true, true, true, true, false, false, false] rfl rfl (take_ofW HT_.out HW_.out q19_9) (fun _ _ _ h => h) (Or.inl ⟨by rfl, ?_⟩) hHeld ?_ ?_
        rotate_left
        ·
         rintro w' ⟨s0, s1, s2⟩
         go_simp
         with_reducible rfl
        rotate_left
        ·
         exact put19_
        refine take_ (i := 5) (N := some 29) (v := ?_) (a' := ?_) #[true, true, true, true, true, true, false, false] rfl rfl (take_ofW HT_.out HW_.out q19_9) (fun _ _ _ h => h) (Or.inl ⟨by rfl, ?_⟩) hHeld ?_ ?_
        rotate_left
        ·
         rintro w' ⟨s0, s1, s2⟩
         go_simp
         with_reducible rfl
        rotate_left
        ·
         exact put19_
        refine pure_ (i := 6) (N := some 30) (v := ?_) (a' := ?_) #[true, true, true, true, true, true, true, false] rfl rfl (any_of HT_.out q19_9) (fun _ _ _ h => h) (Or.inl ⟨by rfl, ?_⟩) ?_ ?_
        rotate_left
        ·
         intro w'
         go_simp
         with_reducible rfl
        rotate_left
        ·
         exact put19_
        refine last_ (i := 7) (N := none) #[true, true, true, true, true, true, true, true] rfl rfl (one_of HT_.out q19_9) (by decide) (fun K hK => ?_)
        have hs28 : w27.cell? ⟨gb284, 0, none⟩ = some (.int .i64 x285000_1) := (blk_cell BK284.out 0).trans rfl
        have hfs28 := blk_frozen BK284.out 0
        have hns28_0 := NB279_284.out
        have hms28_0 := NB284_279.out
        refine skip_ (w1 := ?_) (by rfl) rfl ?_ ?_
        rotate_left
        ·
         go_simp
         rfl
        refine hK.out _ _ ?_
        clear hK K
        refine done_ (done_of HT_.out q19_9) ?_
        have hcz29_0 : w27.cell? ⟨gb284, 0, none⟩ = some (.int .i64 x285000_1) := (blk_cell BK284.out 0).trans rfl
        have hfz29_0 := blk_frozen BK284.out 0
        try go_wp2_with (first | ((with_reducible refine gate_builtin (b := .append) (xs := #[.tmp 31, .tmp 35]) rfl ?_); at_builtin; refine Kd.R_append k77 (w0 := w) w.heap.size rfl (.tmp 31) (.tmp 35) 42 77 (.agg #[(.int .i64 0), (.int .i64 0)]) 16 rfl Try.underlying42 info77 rfl (by decide) (by omega) u6 x6_1 (⟨t286, Go.bits .or .i64 x285000_1 ((rd_T46 l0 t286).f1)⟩ : S77) [.int .i64 t286, .int .i64 (Go.bits .or .i64 x285000_1 ((rd_T46 l0 t286).f1))] (fun _ => True) (fun _ => False) rfl (by first | (go_simp; done) | (go_simp; rfl)) ?aP (fun _ hk => hk.elim) ?aF ?aO ?aB ?aS ?aL ?_; (case aP => exact k77_mkM _ _ _ (⟨t286, Go.bits .or .i64 x285000_1 ((rd_T46 l0 t286).f1)⟩ : S77)); (case aB => exact q19_1); (case aF => exact (fun _ _ => trivial)); (case aO => exact (by (with_reducible repeat (first | apply Kd.R_alloc | apply Kd.R_drewN | apply Kd.R_drew)); exact Kd.R_mono (Kd.R_far (p := ⟨gb284, 0, none⟩) (Kd.R_types HO_6.out BK284.out (by decide)) (fun _ hk => hk.2) (.int .i64 (Go.bits .or .i64 x285000_1 ((rd_T46 l0 t286).f1)))) (fun _ hk => trivial))); (case aS => exact (below_size q19_1)); (case aL => have := LMc22.out; omega); intro v289 w30 ho hb hg hat; rw [← Ny288.out] at ho; have n0_ := Aside0.mk (blk_grown (g := gb279) (o := .cells #[.int .i64 a1_0, .int .i64 a1_1] 46 (0, 0)) (by (with_reducible repeat (first | refine blk_drewN ?_ _ | refine blk_drew ?_ | refine blk_alloc ?_ _)); refine blk_far ?_ NB279_284.out _; (with_reducible repeat (first | refine blk_drewN ?_ _ | refine blk_drew ?_ | refine blk_alloc ?_ _)); exact BK279.out) hg (Kd.R_ne HO_6.out BK279.out (by decide))); have n1_ := Aside0.mk (blk_grown (g := gb284) (o := .cells #[.int .i64 (Go.bits .or .i64 x285000_1 ((rd_T46 l0 t286).f1))] 3 (0, 0)) (by (with_reducible repeat (first | refine blk_drewN ?_ _ | refine blk_drew ?_ | refine blk_alloc ?_ _)); refine blk_put (cs := #[.int .i64 x285000_1]) ?_ 0 _ rfl; (with_reducible repeat (first | refine blk_drewN ?_ _ | refine blk_drew ?_ | refine blk_alloc ?_ _)); exact BK284.out) hg (Kd.R_ne HO_6.out BK284.out (by decide))); have n2_ := Aside0.mk (hb); have n3_ := Aside0.mk (ho); clear BK279; clear BK284; clear HB; clear HO_6; have BK279 := n0_; have BK284 := n1_; have HB := n2_; have HO290 := n3_; clear n0_ n1_ n2_ n3_; clear ho hb hg hat))
        go_roundg k1
        case measure => have := HK1.out; omega
        case rel => exact ⟨(y288), (Go.bits .or .i64 x285000_1 ((rd_T46 l0 t286).f1)), H', ⟨by have := HK1.out; omega⟩, ⟨by (with_reducible repeat (first | apply Kd.R_alloc | apply Kd.R_drewN | apply Kd.R_drew)); exact HO290.out⟩, ⟨by (with_reducible repeat (first | refine blk_drewN ?_ _ | refine blk_drew ?_ | refine blk_alloc ?_ _)); exact BK279.out⟩, ⟨by (with_reducible repeat (first | refine blk_drewN ?_ _ | refine blk_drew ?_ | refine blk_alloc ?_ _)); exact BK284.out⟩, ⟨by repeat (first | (with_reducible first | exact HB.out | apply below_alloc | apply pw_below_drewN | apply below_drew1 | refine below_set ?_ GE279.out | refine below_set ?_ GE284.out) | exact HB.out)⟩⟩
       ·
        rw [if_neg c22] at H
        exact absurd H (by simp)
      ·
       rw [if_neg c21] at H
       exact absurd H (by simp)
     ·
      rw [if_neg c20] at H
      exact absurd H (by simp)
 ·
  replace c4 := Bool.eq_false_iff.mpr c4
  subst c4
  have H1 : (some (([] : List (S77)), false)) = some (r1, r2) := by rw [if_neg (show ¬ (false = true) by decide)] at H; exact H
  clear H
  have H := H1
  clear H1
  simp only [Option.some.injEq, Prod.mk.injEq] at H
  obtain ⟨rfl, rfl⟩ := H
  go_enter Try.func17, Try.ntmps17
  go_wp2_with (first | ((with_reducible refine gate_dst (N := 3) rfl ?_); refine box_event ?hg (N := 3) ?hd (cs := #[.int .i64 a1_0, .int .i64 a1_1]) (t := 46) ?hr ?_; (case hd => rfl); (case hg => rfl); (case hr => first | (go_simp; done) | (go_simp; rfl)); intro gb279 hg w31 hbox hb; have n0_ := Aside0.mk (below_step q19_5 hb); have n1_ := Aside0.mk (hbox); have n2_ := Aside0.mk ((by rw [hg]; exact (below_size q19_5) : w.heap.size ≤ gb279)); have n3_ := Aside0.mk ((by rw [hg]; exact (below_size q19_5) : w.heap.size ≤ gb279)); clear HB; have HB := n0_; have BK279 := n1_; have GW279 := n2_; have GE279 := n3_; clear n0_ n1_ n2_ n3_; clear hb hbox hg; have hcz32_0 : w31.cell? ⟨gb279, 0, none⟩ = some (.int .i64 a1_0) := (blk_cell BK279.out 0).trans rfl; have hcz32_1 : w31.cell? ⟨gb279, 1, none⟩ = some (.int .i64 a1_1) := (blk_cell BK279.out 1).trans rfl; have hfz32_0 := blk_frozen BK279.out 0; have hfz32_1 := blk_frozen BK279.out 1) | ((with_reducible refine gate_callee (f := 43) rfl ?_); refine goesL_ (some 11) rfl rfl Try.func43 q19_9 rfl #[.slice A0 l0.length c0, .agg #[.int .i64 a1_0, .int .i64 a1_1]] rfl q19_4 ?_; (with_reducible refine (impl_Follows.calls k _ _ l0 a1_0 a1_1 false _ ?side1 ?side2 A3.out).mono ?_); (case side1 => exact q19_2); (case side2 => exact HC0.out); rintro e w33 ⟨rfl, hb⟩; refine ⟨_, rfl, ?_⟩; have n0_ := Aside0.mk (blk_below (g := gb279) (o := .cells #[.int .i64 a1_0, .int .i64 a1_1] 46 (0, 0)) q19_6 hb); have n1_ := Aside0.mk (below_step q19_3 hb); clear BK279; clear HB; have BK279 := n0_; have HB := n1_; clear n0_ n1_; (try clear hb); (try clear hb2); (try clear hk); (try clear hi)))
  go_ret2
  exact ⟨_, by first | rfl | (simp [errW_none, errW_some] <;> rfl) | (simp [*, errW_none, errW_some] <;> rfl), by first | exact Kd.R_nil _ _ _ _ _ | exact Kd.N_nil _ _ _ _ _ | exact Kd.V_nil _ _ _ _ _ | exact Kd.Q_nil _ _ _ _ _ | exact Kd.S_nil _ _ _ _ _, by repeat (first | (with_reducible first | exact HB.out | apply below_alloc | apply pw_below_drewN | apply below_drew1 | refine below_set ?_ GE279.out) | exact HB.out)⟩
end Go.Proofs.Ytamjnninbdnjhaa.Pr
