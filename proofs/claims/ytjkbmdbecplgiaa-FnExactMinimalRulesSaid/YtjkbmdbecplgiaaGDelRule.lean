/- slices.Delete of one element, at a row of the call's own. No condition beyond what each statement says. -/
import Derived.Test.YtjkbmdbecplgiaaPr0
import Derived.Deep.RegionLaw
import Derived.WalkSpells
import Derived.Lib.SliceRun
import Derived.Lib.LazyBuf
namespace Go.Proofs.Ytjkbmdbecplgiaa.Pr
open Go.RowKit Go.Proofs.YtjkbmdbecplgiaaW.PrintWords Go.Proofs.YtjkbmdbecplgiaaW.PrintLast Go.Proofs.YtjkbmdbecplgiaaW.PrintMore
set_option linter.unusedVariables false
set_option linter.unusedSimpArgs false

theorem R_tail {α : Type} (d : Kd α) (e base g m c : Nat) (ok : Nat → Prop) (w : World) (xs : List α) (vs : List Value) (h : d.R e w base ok (.slice (some ⟨g, 0, none⟩) m c) xs) (hm : m * d.sz + vs.length ≤ c * d.sz) :
    d.R e (w.setCells g (m * d.sz) vs) base ok (.slice (some ⟨g, 0, none⟩) m c) xs := by
  obtain ⟨h0, inner, ho, hr⟩ := h
  refine ⟨h0, inner, ?_, hr.imp_ (fun _ _ hp => d.M_move (fun k hk => setCells_far vs _ k (fun e => hk.2 (by rw [e]; rfl))) hp)⟩
  obtain ⟨h1, h2⟩ := ho
  rcases h2 with ⟨h2, _⟩ | ⟨g', cap, cur, he, hb, hh, hn, hx, hs, ht⟩
  · cases h2
  · injection he with e1 e2 e3
    injection e1 with e1
    injection e1 with e1 _ _
    subst e1 e3
    rw [← e2] at ht hn h1
    obtain ⟨cur', k1, k2, k3⟩ := setCells_row vs (m * d.sz) w cur hh (by rw [hs]; exact hm)
    refine ⟨by rw [← e2]; exact h1, .inr ⟨g, c, cur', by rw [e2], hb, k1, by rw [← e2]; exact hn, hx, by rw [k2]; exact hs, ?_⟩⟩
    rw [k3, ← e2, List.append_assoc, List.take_append_of_le_length (by rw [List.length_take, Array.length_toList, hs]; have := Nat.mul_le_mul_right d.sz hn; omega), List.take_take, Nat.min_self]
    exact ht

theorem run_clear_one {P : Program} (w : World) (t e ty : TypeId) (ht : P.underlying t = some (.slice e)) (hv : ∀ w, (zeroValue e).run P w = .ok (.agg #[.int .i64 0, .int .i64 0]) w) (b o c : Nat)
    (hc : ∀ j, j < 2 → (w.cell? ⟨b, o + j, none⟩).isSome = true) (hf : ∀ j, j < 2 → w.frozen? ⟨b, o + j, none⟩ = false) :
    (Builtin.clear_ #[t] ty #[.slice (some ⟨b, o, none⟩) 1 c]).run P w = .ok (.tuple #[]) (w.setCells b o [.int .i64 0, .int .i64 0]) := by
  have hzc : (Builtin.zeroCells (Value.agg #[.int .i64 0, .int .i64 0]).cells 1).toList = [.int .i64 0, .int .i64 0] := by kernel_rfl
  have hst := run_storeCells_cells (P := P) b o [.int .i64 0, .int .i64 0] 0 w (by simpa using hc) (by simpa using hf) (by
    intro v hv'
    rcases List.mem_cons.1 hv' with rfl | hv'
    · rfl
    · rcases List.mem_cons.1 hv' with rfl | hv'
      · rfl
      · cases hv')
  simp only [Nat.add_zero] at hst
  simp [Builtin.clear_, run_underlying ht, hv, hzc, hst]
theorem R_block {α : Type} (d : Kd α) (e base g m c : Nat) (ok : Nat → Prop) (w : World) (xs : List α) (h : d.R e w base ok (.slice (some ⟨g, 0, none⟩) m c) xs) : base ≤ g ∧ ∃ cur, w.heap[g]? = some (.cells cur e (0, 0)) ∧ cur.size = c * d.sz := by
  obtain ⟨_, inner, ho, hr⟩ := h
  obtain ⟨h1, h2⟩ := ho
  rcases h2 with ⟨h2, _⟩ | ⟨g', cap, cur, he, hb, hh, hn, hx, hs, ht⟩
  · cases h2
  · injection he with e1 e2 e3
    injection e1 with e1
    injection e1 with e1 _ _
    subst e1 e3
    exact ⟨hb, cur, hh, hs⟩
theorem R_clear_run (w : World) (base g m c : Nat) (ok : Nat → Prop) (xs : List S25) (cc : Nat) (h : k25.R 25 w base ok (.slice (some ⟨g, 0, none⟩) m c) xs) (hm : m < c) :
    (Builtin.clear_ #[31] 0 #[.slice (some ⟨g, m * 2, none⟩) 1 cc]).run Try.prog w = .ok (.tuple #[]) (w.setCells g (m * 2) [.int .i64 0, .int .i64 0]) ∧ k25.R 25 (w.setCells g (m * 2) [.int .i64 0, .int .i64 0]) base ok (.slice (some ⟨g, 0, none⟩) m c) xs ∧ base ≤ g := by
  obtain ⟨hb, cur, hh, hs⟩ := R_block k25 _ _ _ _ _ _ _ _ h
  have hs2 : cur.size = c * 2 := hs
  refine ⟨run_clear_one w _ 25 0 Try.underlying31 (fun W => rfl) g (m * 2) cc (fun j hj => ?_) (fun j hj => ?_), R_tail k25 _ _ _ _ _ _ _ _ _ h ?_, hb⟩
  · have hlt : m * 2 + j < cur.size := by omega
    simp [World.cell?, hh, hlt]
  · simp [World.frozen?, hh]
  · show m * 2 + 2 ≤ c * 2
    omega
set_option maxHeartbeats 4000000 in
set_option maxRecDepth 100000 in
theorem slices_Delete_impl_Rule.calls (base : Nat) (ok : Nat → Prop) (g m c k : Nat) (xs : List S25) (w0 w : World) (ho : k25.R 25 w base ok (.slice (some ⟨g, 0, none⟩) (m + 1) c) xs) (hk : k ≤ m) (hn : m < c) (hb : Below base w0 w) (hs : base ≤ w.heap.size) :
    Calls Try.prog 77 #[.slice (some ⟨g, 0, none⟩) (m + 1) c, .int .i64 (k : Int), .int .i64 ((k : Int) + 1)] w fun e w' => e = .returned (.slice (some ⟨g, 0, none⟩) m c) ∧ k25.R 25 w' base ok (.slice (some ⟨g, 0, none⟩) m c) (xs.eraseIdx k) ∧ Below base w0 w' := by
  have HK := Aside0.mk hk
  have i0 : (0 : Int) ≤ (k : Int) := Int.natCast_nonneg k
  have i1 : (k : Int) ≤ (k : Int) + 1 := by omega
  have i2 : (k : Int) + 1 ≤ ((m + 1 : Nat) : Int) := by omega
  have i3 : (k : Int) ≤ (c : Int) := by omega
  have i4 : ((m + 1 : Nat) : Int) ≤ (c : Int) := by omega
  have i5 : ((k : Int) = (k : Int) + 1) = False := eq_false (by omega)
  have i6 : (k : Int).toNat = k := Int.toNat_natCast k
  have i7 : ((k : Int) + 1).toNat = k + 1 := by omega
  have i8 : (0 : Int) ≤ (k : Int) + 1 := by omega
  go_enter Try.func77, Try.ntmps77
  go_wp2_with fail
  have HO1 := Aside0.mk (Kd.R_drew ho)
  have HB1 := Aside0.mk (below_drew1 hb)
  have HS1 : Aside0 (base ≤ w.drew.heap.size) := Aside0.mk hs
  have HN := Aside0.mk hn
  clear ho hb hs hn i4
  have i9 : (0 : Int) ≤ (m : Int) + 1 := by omega
  have hcl : ∀ W, (zeroValue 25).run Try.prog W = .ok (.agg #[.int .i64 0, .int .i64 0]) W := fun W => rfl
  by_cases hck : c = k + 1
  · subst hck
    have j1 : m ≤ k := Nat.le_of_lt_succ HN.out
    have j2 : m = k := Nat.le_antisymm j1 hk
    subst j2
    go_region_law (refine Kd.R_delete_step k25 base (by simp [Region.wanted]) (.tmp 22) (.tmp 25) 31 25 rfl Try.underlying31 (by kernel_rfl) (n := m + 1) (k := m) (m := 0) rfl rfl (by simp) (by omega) HO1.out (Nat.lt_succ_of_le HK.out) HB1.out HS1.out ?_; intro w1 hr hb hg)
    go_wp2_with fail
    have hr' : k25.R 25 w1 base ok (.slice (some ⟨g, 0, none⟩) m (m + 1)) (xs.eraseIdx m) := hr
    have hrun := R_clear_run w1 base g m (m + 1) ok (xs.eraseIdx m) 1 hr' (Nat.lt_succ_self m)
    rw [hrun.1]
    have hfin := hrun.2.1
    have hbf := below_setCells hrun.2.2 [.int .i64 0, .int .i64 0] (m * 2) w1 hb
    clear hrun hr hr' hb hg
    go_wp2
    go_ret
    exact ⟨rfl, hfin, hbf⟩
  · have j3 : (c = m) = False := eq_false (by have := HN.out; omega)
    have j4 : m + 1 ≤ c := HN.out
    have j5 : m < c := HN.out
    go_region_law (refine Kd.R_delete_step k25 base (by simp [Region.wanted]) (.tmp 22) (.tmp 25) 31 25 rfl Try.underlying31 (by kernel_rfl) (n := m + 1) (k := k) (m := m - k) rfl rfl (by rw [if_neg hck, Option.map_some]; exact congrArg some (by unfold Addr.add; rw [Nat.zero_add]; rfl)) (by omega) HO1.out (Nat.lt_succ_of_le HK.out) HB1.out HS1.out ?_; intro w1 hr hb hg)
    go_wp2_with fail
    have hr' : k25.R 25 w1 base ok (.slice (some ⟨g, 0, none⟩) m c) (xs.eraseIdx k) := hr
    have hrun := R_clear_run w1 base g m c ok (xs.eraseIdx k) (c - m) hr' HN.out
    rw [hrun.1]
    have hfin := hrun.2.1
    have hbf := below_setCells hrun.2.2 [.int .i64 0, .int .i64 0] (m * 2) w1 hb
    clear hrun hr hr' hb hg
    go_wp2
    go_ret
    exact ⟨rfl, hfin, hbf⟩
theorem slices_Delete_impl_Rule.at (base : Nat) (ok : Nat → Prop) (g n m c k : Nat) (hnm : n = m + 1) (xs : List S25) (w0 w : World) (ho : k25.R 25 w base ok (.slice (some ⟨g, 0, none⟩) n c) xs) (hk : k ≤ m) (hn : n ≤ c) (hb : Below base w0 w) (hs : base ≤ w.heap.size) :
    Calls Try.prog 77 #[.slice (some ⟨g, 0, none⟩) n c, .int .i64 (k : Int), .int .i64 ((k : Int) + 1)] w fun e w' => e = .returned (.slice (some ⟨g, 0, none⟩) m c) ∧ k25.R 25 w' base ok (.slice (some ⟨g, 0, none⟩) m c) (xs.eraseIdx k) ∧ Below base w0 w' := by
  subst hnm
  exact slices_Delete_impl_Rule.calls base ok g m c k xs w0 w ho hk hn hb hs
end Go.Proofs.Ytjkbmdbecplgiaa.Pr
