/- What the law needs of the program's functions as plain functions, of the proofs that their calls answer so, and of plain laws: gathered by a program of this place (pack.py) out of its printed texts. No condition beyond what each statement says. -/
import Derived.Test.YtafnamchckehmaaZFnArrows6
import Derived.Test.YtafnamchckehmaaZFnArrows12
import Derived.Test.YtafnamchckehmaaZFnArrows14
import Derived.Test.YtafnamchckehmaaZFnArrows15
namespace Go.Proofs.Ytafnamchckehmaa.Pr
open Go.RowKit Go.Proofs.YtafnamchckehmaaW.PrintWords Go.Proofs.YtafnamchckehmaaW.PrintLast Go.Proofs.YtafnamchckehmaaW.PrintMore
set_option linter.unusedVariables false
set_option linter.unusedSimpArgs false
/-- column i is another one than column j and has all of it -/
def upP (K : List Nat) (j i : Nat) : Bool := decide (Pu.row K i ≠ Pu.row K j) && Pu.sub (Pu.row K j) (Pu.row K i)
def upQ (K : List Nat) (s m j : Nat) : Bool := !s.testBit j && Pu.sub (Pu.ofBits (upP K j) m) s
def Up11_B : List Nat := [0, 0, 3, 7, 0, 0, 48, 112, 255, 511, 1023, 1023, 4095, 8191, 1023, 1023, 50175, 115711, 262143, 524287, 1048575]
theorem Up11_tab : rtab .any (opsOf Try.f48 1) = rtab .any (opsOf Try.f48 1) := rfl
theorem Up11_bits : waitsOk (rtab .any (opsOf Try.f48 1)).2 Up11_B = true := by kernel_rfl
set_option maxHeartbeats 8000000 in
set_option maxRecDepth 100000 in
theorem Up11_calls (bl bm : Nat) (A : Option Addr) (c : Nat) (K : List Nat) (i j : Nat) (W : World) (hl : W.cell? ⟨bl, 0, none⟩ = some (.slice A (Pu.cast K).length c)) (hm : W.cell? ⟨bm, 0, none⟩ = some (.int .i64 (j : Int)))
    (hr : Kd.C (Kd.int .i64) W A (Pu.cast K).length (Pu.cast K)) (hi : i < K.length) (hj : j < K.length) (hK : ∀ i, Pu.row K i < 256) :
    Calls Try.prog 48 #[.int .i64 (i : Int), .pointer (some ⟨bl, 0, none⟩), .pointer (some ⟨bm, 0, none⟩)] W fun e w' => e = .returned (.bool (upP K j i)) ∧ Below W.heap.size W w' := by
  have i1 : (i : Int) < ((Pu.cast K).length : Int) := by rw [Pu.cast_length]; omega
  have j1 : (j : Int) < ((Pu.cast K).length : Int) := by rw [Pu.cast_length]; omega
  obtain ⟨ad, e, hx⟩ := Kd.at_int hr (i : Int) (by omega) i1
  cases e
  obtain ⟨ad', e, hy⟩ := Kd.at_int hr (j : Int) (by omega) j1
  obtain rfl : ad = ad' := by injection e
  clear e
  rw [Pu.rd_row] at hx hy
  have KS : Aside0 (impl_inSet.f ((Pu.row K j : Nat) : Int) ((Pu.row K i : Nat) : Int) = some (Pu.sub (Pu.row K j) (Pu.row K i))) := ⟨Pu.inS_val (hK j) (hK i)⟩
  rw [Int.toNat_natCast] at hx hy
  generalize (Pu.cast K).length = n at *
  have i2 : i < n := by omega
  have j2 : j < n := by omega
  clear hr hK i1 j1
  by_cases he : Pu.row K i = Pu.row K j
  · have H : Aside0 (upP K j i = false) := ⟨by unfold upP; rw [decide_eq_false (fun h => h he)]; rfl⟩
    rw [he] at hx
    go_enter Try.func48, Try.ntmps48
    go_wp2_with fail
    go_region
    all_goals go_wp2
    all_goals go_ret
    all_goals exact ⟨by rw [H.out]; rfl, by repeat (first | apply below_alloc | apply pw_below_drewN | apply below_drew1 | exact Below.refl _ _)⟩
  · have H : Aside0 (upP K j i = Pu.sub (Pu.row K j) (Pu.row K i)) := ⟨by unfold upP; rw [decide_eq_true he]; rfl⟩
    generalize Pu.row K i = a at *
    generalize Pu.row K j = b at *
    have e1 : ((a : Int) = (b : Int)) = False := eq_false (by omega)
    have e2 : (a = b) = False := eq_false he
    have e3 : (a == b) = false := beq_eq_false_iff_ne.2 he
    have e4 : (a != b) = true := bne_iff_ne.2 he
    have e5 : ((a : Int) == (b : Int)) = false := beq_eq_false_iff_ne.2 (by omega)
    have e6 : ((a : Int) != (b : Int)) = true := bne_iff_ne.2 (by omega)
    go_enter Try.func48, Try.ntmps48
    go_wp2_with fail
    refine start_ (n := 21) (S := fun w' => w'.cell? ⟨bl, 0, none⟩ = some (.slice (some ad) n c) ∧ w'.cell? ⟨bm, 0, none⟩ = some (.int .i64 (j : Int)) ∧ w'.cell? (ad.add i) = some (.int .i64 (a : Int)) ∧ w'.cell? (ad.add j) = some (.int .i64 (b : Int))) (ds := []) #[false, false, false, false, false, false, false, false, false, false, false, false, false, false, false, false, false, false, false, false, false] (by kernel_rfl) rfl rfl ⟨hl, hm, hx, hy⟩ (fun hHeld => ?_); refine with_tabW Up11_tab Up11_bits (fun HT_ HW_ => ?_)
    have HB0 : Aside0 (Below W.heap.size W W.drew) := Aside0.mk (below_drew1 (Below.refl _ _))
    change W.drew.cell? _ = _ at hl hm hx hy
    generalize W.drew = w10 at *
    refine take_ (i := 0) (N := some 5) (v := ?_) (a' := ?_) #[true, false, false, false, false, false, false, false, false, false, false, false, false, false, false, false, false, false, false, false, false] rfl rfl (take_ofW HT_.out HW_.out (by kernel_rfl)) (fun _ _ _ h => h) (Or.inl ⟨by rfl, ?_⟩) hHeld ?_ ?_
    rotate_left
    · rintro w' ⟨s0, s1, s2, s3⟩
      go_simp
      with_reducible rfl
    rotate_left
    · simp only [Act.put, List.setIfInBounds_toArray, List.set_cons_zero, List.set_cons_succ, i64_w, i32_w]
      rfl
    refine pure_ (i := 1) (N := some 6) (v := ?_) (a' := ?_) #[true, true, false, false, false, false, false, false, false, false, false, false, false, false, false, false, false, false, false, false, false] rfl rfl (any_of HT_.out (by kernel_rfl)) (fun _ _ _ h => h) (Or.inl ⟨by rfl, ?_⟩) ?_ ?_
    rotate_left
    · intro w'
      go_simp
      with_reducible rfl
    rotate_left
    · simp only [Act.put, List.setIfInBounds_toArray, List.set_cons_zero, List.set_cons_succ, i64_w, i32_w]
      rfl
    refine pure_ (i := 2) (N := some 7) (v := ?_) (a' := ?_) #[true, true, true, false, false, false, false, false, false, false, false, false, false, false, false, false, false, false, false, false, false] rfl rfl (any_of HT_.out (by kernel_rfl)) (fun _ _ _ h => h) (Or.inl ⟨by rfl, ?_⟩) ?_ ?_
    rotate_left
    · intro w'
      go_simp
      with_reducible rfl
    rotate_left
    · simp only [Act.put, List.setIfInBounds_toArray, List.set_cons_zero, List.set_cons_succ, i64_w, i32_w]
      rfl
    refine take_ (i := 3) (N := some 8) (v := ?_) (a' := ?_) #[true, true, true, true, false, false, false, false, false, false, false, false, false, false, false, false, false, false, false, false, false] rfl rfl (take_ofW HT_.out HW_.out (by kernel_rfl)) (fun _ _ _ h => h) (Or.inl ⟨by rfl, ?_⟩) hHeld ?_ ?_
    rotate_left
    · rintro w' ⟨s0, s1, s2, s3⟩
      go_simp
      with_reducible rfl
    rotate_left
    · simp only [Act.put, List.setIfInBounds_toArray, List.set_cons_zero, List.set_cons_succ, i64_w, i32_w]
      rfl
    refine take_ (i := 4) (N := some 9) (v := ?_) (a' := ?_) #[true, true, true, true, true, false, false, false, false, false, false, false, false, false, false, false, false, false, false, false, false] rfl rfl (take_ofW HT_.out HW_.out (by kernel_rfl)) (fun _ _ _ h => h) (Or.inl ⟨by rfl, ?_⟩) hHeld ?_ ?_
    rotate_left
    · rintro w' ⟨s0, s1, s2, s3⟩
      go_simp
      with_reducible rfl
    rotate_left
    · simp only [Act.put, List.setIfInBounds_toArray, List.set_cons_zero, List.set_cons_succ, i64_w, i32_w]
      rfl
    refine take_ (i := 5) (N := some 10) (v := ?_) (a' := ?_) #[true, true, true, true, true, true, false, false, false, false, false, false, false, false, false, false, false, false, false, false, false] rfl rfl (take_ofW HT_.out HW_.out (by kernel_rfl)) (fun _ _ _ h => h) (Or.inl ⟨by rfl, ?_⟩) hHeld ?_ ?_
    rotate_left
    · rintro w' ⟨s0, s1, s2, s3⟩
      go_simp
      with_reducible rfl
    rotate_left
    · simp only [Act.put, List.setIfInBounds_toArray, List.set_cons_zero, List.set_cons_succ, i64_w, i32_w]
      rfl
    refine pure_ (i := 6) (N := some 11) (v := ?_) (a' := ?_) #[true, true, true, true, true, true, true, false, false, false, false, false, false, false, false, false, false, false, false, false, false] rfl rfl (any_of HT_.out (by kernel_rfl)) (fun _ _ _ h => h) (Or.inl ⟨by rfl, ?_⟩) ?_ ?_
    rotate_left
    · intro w'
      go_simp
      with_reducible rfl
    rotate_left
    · simp only [Act.put, List.setIfInBounds_toArray, List.set_cons_zero, List.set_cons_succ, i64_w, i32_w]
      rfl
    refine take_ (i := 7) (N := some 12) (v := ?_) (a' := ?_) #[true, true, true, true, true, true, true, true, false, false, false, false, false, false, false, false, false, false, false, false, false] rfl rfl (take_ofW HT_.out HW_.out (by kernel_rfl)) (fun _ _ _ h => h) (Or.inl ⟨by rfl, ?_⟩) hHeld ?_ ?_
    rotate_left
    · rintro w' ⟨s0, s1, s2, s3⟩
      go_simp
      with_reducible rfl
    rotate_left
    · simp only [Act.put, List.setIfInBounds_toArray, List.set_cons_zero, List.set_cons_succ, i64_w, i32_w]
      rfl
    refine pure_ (i := 8) (N := some 13) (v := ?_) (a' := ?_) #[true, true, true, true, true, true, true, true, true, false, false, false, false, false, false, false, false, false, false, false, false] rfl rfl (any_of HT_.out (by kernel_rfl)) (fun _ _ _ h => h) (Or.inl ⟨by rfl, ?_⟩) ?_ ?_
    rotate_left
    · intro w'
      go_simp
      with_reducible rfl
    rotate_left
    · simp only [Act.put, List.setIfInBounds_toArray, List.set_cons_zero, List.set_cons_succ, i64_w, i32_w]
      rfl
    refine pure_ (i := 9) (N := some 14) (v := ?_) (a' := ?_) #[true, true, true, true, true, true, true, true, true, true, false, false, false, false, false, false, false, false, false, false, false] rfl rfl (any_of HT_.out (by kernel_rfl)) (fun _ _ _ h => h) (Or.inl ⟨by rfl, ?_⟩) ?_ ?_
    rotate_left
    · intro w'
      go_simp
      with_reducible rfl
    rotate_left
    · simp only [Act.put, List.setIfInBounds_toArray, List.set_cons_zero, List.set_cons_succ, i64_w, i32_w]
      rfl
    refine take_ (i := 10) (N := some 15) (v := ?_) (a' := ?_) #[true, true, true, true, true, true, true, true, true, true, true, false, false, false, false, false, false, false, false, false, false] rfl rfl (take_ofW HT_.out HW_.out (by kernel_rfl)) (fun _ _ _ h => h) (Or.inl ⟨by rfl, ?_⟩) hHeld ?_ ?_
    rotate_left
    · rintro w' ⟨s0, s1, s2, s3⟩
      go_simp
      with_reducible rfl
    rotate_left
    · simp only [Act.put, List.setIfInBounds_toArray, List.set_cons_zero, List.set_cons_succ, i64_w, i32_w]
      rfl
    refine take_ (i := 11) (N := some 16) (v := ?_) (a' := ?_) #[true, true, true, true, true, true, true, true, true, true, true, true, false, false, false, false, false, false, false, false, false] rfl rfl (take_ofW HT_.out HW_.out (by kernel_rfl)) (fun _ _ _ h => h) (Or.inl ⟨by rfl, ?_⟩) hHeld ?_ ?_
    rotate_left
    · rintro w' ⟨s0, s1, s2, s3⟩
      go_simp
      with_reducible rfl
    rotate_left
    · simp only [Act.put, List.setIfInBounds_toArray, List.set_cons_zero, List.set_cons_succ, i64_w, i32_w]
      rfl
    refine pure_ (i := 12) (N := some 17) (v := ?_) (a' := ?_) #[true, true, true, true, true, true, true, true, true, true, true, true, true, false, false, false, false, false, false, false, false] rfl rfl (any_of HT_.out (by kernel_rfl)) (fun _ _ _ h => h) (Or.inl ⟨by rfl, ?_⟩) ?_ ?_
    rotate_left
    · intro w'
      go_simp
      with_reducible rfl
    rotate_left
    · simp only [Act.put, List.setIfInBounds_toArray, List.set_cons_zero, List.set_cons_succ, i64_w, i32_w]
      rfl
    refine take_ (i := 13) (N := some 18) (v := ?_) (a' := ?_) #[true, true, true, true, true, true, true, true, true, true, true, true, true, true, false, false, false, false, false, false, false] rfl rfl (take_ofW HT_.out HW_.out (by kernel_rfl)) (fun _ _ _ h => h) (Or.inl ⟨by rfl, ?_⟩) hHeld ?_ ?_
    rotate_left
    · rintro w' ⟨s0, s1, s2, s3⟩
      go_simp
      with_reducible rfl
    rotate_left
    · simp only [Act.put, List.setIfInBounds_toArray, List.set_cons_zero, List.set_cons_succ, i64_w, i32_w]
      rfl
    refine take_ (i := 14) (N := some 19) (v := ?_) (a' := ?_) #[true, true, true, true, true, true, true, true, true, true, true, true, true, true, true, false, false, false, false, false, false] rfl rfl (take_ofW HT_.out HW_.out (by kernel_rfl)) (fun _ _ _ h => h) (Or.inl ⟨by rfl, ?_⟩) hHeld ?_ ?_
    rotate_left
    · rintro w' ⟨s0, s1, s2, s3⟩
      go_simp
      with_reducible rfl
    rotate_left
    · simp only [Act.put, List.setIfInBounds_toArray, List.set_cons_zero, List.set_cons_succ, i64_w, i32_w]
      rfl
    refine pure_ (i := 15) (N := some 20) (v := ?_) (a' := ?_) #[true, true, true, true, true, true, true, true, true, true, true, true, true, true, true, true, false, false, false, false, false] rfl rfl (any_of HT_.out (by kernel_rfl)) (fun _ _ _ h => h) (Or.inl ⟨by rfl, ?_⟩) ?_ ?_
    rotate_left
    · intro w'
      go_simp
      with_reducible rfl
    rotate_left
    · simp only [Act.put, List.setIfInBounds_toArray, List.set_cons_zero, List.set_cons_succ, i64_w, i32_w]
      rfl
    refine pure_ (i := 16) (N := some 21) (v := ?_) (a' := ?_) #[true, true, true, true, true, true, true, true, true, true, true, true, true, true, true, true, true, false, false, false, false] rfl rfl (any_of HT_.out (by kernel_rfl)) (fun _ _ _ h => h) (Or.inl ⟨by rfl, ?_⟩) ?_ ?_
    rotate_left
    · intro w'
      go_simp
      with_reducible rfl
    rotate_left
    · simp only [Act.put, List.setIfInBounds_toArray, List.set_cons_zero, List.set_cons_succ, i64_w, i32_w]
      rfl
    refine take_ (i := 17) (N := some 22) (v := ?_) (a' := ?_) #[true, true, true, true, true, true, true, true, true, true, true, true, true, true, true, true, true, true, false, false, false] rfl rfl (take_ofW HT_.out HW_.out (by kernel_rfl)) (fun _ _ _ h => h) (Or.inl ⟨by rfl, ?_⟩) hHeld ?_ ?_
    rotate_left
    · rintro w' ⟨s0, s1, s2, s3⟩
      go_simp
      with_reducible rfl
    rotate_left
    · simp only [Act.put, List.setIfInBounds_toArray, List.set_cons_zero, List.set_cons_succ, i64_w, i32_w]
      rfl
    refine one_ (i := 18) (N := some 23) #[true, true, true, true, true, true, true, true, true, true, true, true, true, true, true, true, true, true, true, false, false] rfl rfl (one_of HT_.out (by kernel_rfl)) (by decide) (fun K hK => ?_)
    refine goes_ Try.func49 (by kernel_rfl) rfl #[.int .i64 (b : Int), .int .i64 (a : Int)] (by rfl) rfl rfl (by (try simp only [List.map_toArray, List.map_cons, List.map_nil]); first | done | rfl) ?_
    with_reducible refine (impl_inSet.calls _ _ _ _ KS.out).mono ?_
    rintro e w11 ⟨rfl, hd⟩
    refine ⟨_, rfl, ?_⟩
    have HB := Aside0.mk (below_step HB0.out hd.below)
    have hb := hd.below
    clear hd
    refine hK.out _ _ ⟨(hb.cell (World.block_lt_of_cell? _ _ hl)).trans hl, (hb.cell (World.block_lt_of_cell? _ _ hm)).trans hm, (hb.cell (World.block_lt_of_cell? _ _ hx)).trans hx, (hb.cell (World.block_lt_of_cell? _ _ hy)).trans hy⟩ (fun hHeld => ?_)
    clear hK K
    refine norm_ (a' := ?_) ?_ ?_
    rotate_left
    · show Act.put _ (some 23) _ = _
      simp only [Act.put, List.setIfInBounds_toArray, List.set_cons_zero, List.set_cons_succ, i64_w, i32_w]
      rfl
    refine pure_ (i := 19) (N := some 24) (v := ?_) (a' := ?_) #[true, true, true, true, true, true, true, true, true, true, true, true, true, true, true, true, true, true, true, true, false] rfl rfl (any_of HT_.out (by kernel_rfl)) (fun _ _ _ h => h) (Or.inl ⟨by rfl, ?_⟩) ?_ ?_
    rotate_left
    · intro w'
      go_simp
      with_reducible rfl
    rotate_left
    · simp only [Act.put, List.setIfInBounds_toArray, List.set_cons_zero, List.set_cons_succ, i64_w, i32_w]
      rfl
    refine pure_ (i := 20) (N := some 4) (v := ?_) (a' := ?_) #[true, true, true, true, true, true, true, true, true, true, true, true, true, true, true, true, true, true, true, true, true] rfl rfl (any_of HT_.out (by kernel_rfl)) (fun _ _ _ h => h) (Or.inl ⟨by rfl, ?_⟩) ?_ ?_
    rotate_left
    · intro w'
      go_simp
      with_reducible rfl
    rotate_left
    · simp only [Act.put, List.setIfInBounds_toArray, List.set_cons_zero, List.set_cons_succ, i64_w, i32_w]
      rfl
    refine done_ (done_of HT_.out (by kernel_rfl)) ?_
    try go_wp2
    go_ret
    exact ⟨by rw [H.out]; rfl, HB.out⟩
theorem Up1_tab : rtab .any (opsOf Try.f47 2) = rtab .any (opsOf Try.f47 2) := rfl
theorem Up1_bits : waitsOk (rtab .any (opsOf Try.f47 2)).2 [0, 1, 0, 7, 15, 0, 63, 127, 255, 511, 511, 1535, 511, 7679, 15871, 32767, 65535, 131071] = true := by kernel_rfl
theorem Up11_fn (bl b4 : Nat) (A : Option Addr) (c : Nat) (K : List Nat) (j m : Nat) (w : World) (hl : w.cell? ⟨bl, 0, none⟩ = some (.slice A (Pu.cast K).length c)) (hm : w.cell? ⟨b4, 0, none⟩ = some (.int .i64 (j : Int)))
    (hr : Kd.C (Kd.int .i64) w A (Pu.cast K).length (Pu.cast K)) (hK : K.length = m) (hj : j < m) (h256 : ∀ i, Pu.row K i < 256) : FnBelow 48 #[.pointer (some ⟨bl, 0, none⟩), .pointer (some ⟨b4, 0, none⟩)] m (upP K j) w := by
  intro W x hx hb
  rw [show (#[.int .i64 (x : Int)] ++ #[.pointer (some ⟨bl, 0, none⟩), .pointer (some ⟨b4, 0, none⟩)] : Array Value) = #[.int .i64 (x : Int), .pointer (some ⟨bl, 0, none⟩), .pointer (some ⟨b4, 0, none⟩)] from rfl]
  exact Up11_calls bl b4 A c K x j W ((hb.cell (World.block_lt_of_cell? w _ hl)).trans hl) ((hb.cell (World.block_lt_of_cell? w _ hm)).trans hm) (Kd.C_below hr hb) (by omega) (by omega) h256
set_option maxHeartbeats 8000000 in
set_option maxRecDepth 100000 in
theorem Up1_calls (bc bl bg : Nat) (Ar : Option Addr) (c : Nat) (R : List Nat) (A : Option Addr) (c2 : Nat) (K : List Nat) (m g j : Nat) (W : World) (hc0 : W.cell? ⟨bc, 0, none⟩ = some (.int .i64 (m : Int))) (hc1 : W.cell? ⟨bc, 1, none⟩ = some (.slice Ar (Pu.cast R).length c))
    (hl : W.cell? ⟨bl, 0, none⟩ = some (.slice A (Pu.cast K).length c2)) (hg : W.cell? ⟨bg, 0, none⟩ = some (.int .i64 (g : Int)))
    (hrR : Kd.C (Kd.int .i64) W Ar (Pu.cast R).length (Pu.cast R)) (hrK : Kd.C (Kd.int .i64) W A (Pu.cast K).length (Pu.cast K)) (hK : K.length = m) (hj : j < m) (hm8 : m ≤ 6) (hgR : g < R.length) (h256 : ∀ i, Pu.row K i < 256) (hR : ∀ i, Pu.row R i < 256) :
    Calls Try.prog 47 #[.int .i64 (j : Int), .pointer (some ⟨bc, 0, none⟩), .pointer (some ⟨bl, 0, none⟩), .pointer (some ⟨bg, 0, none⟩)] W fun e w' => e = .returned (.bool (upQ K (Pu.row R g) m j)) ∧ Below W.heap.size W w' := by
  have hu := Try.underlying26
  have eg : ∀ args w, (callFunc 48 args).run Try.prog w = .ok (.enter 48 args) w := enters_of Try.func48 (by kernel_rfl) rfl
  have g1 : (g : Int) < ((Pu.cast R).length : Int) := by rw [Pu.cast_length]; omega
  obtain ⟨ad, e, hr⟩ := Kd.at_int hrR (g : Int) (by omega) g1
  cases e
  rw [Pu.rd_row, Int.toNat_natCast] at hr
  have KH : Aside0 (impl_HasElement.f ((Pu.row R g : Nat) : Int) (j : Int) = some ((Pu.row R g).testBit j)) := ⟨by
    rw [Pu.hasI_val]; unfold Pu.hasV Pu.isAny; have := hR g; rw [decide_eq_true (by omega), decide_eq_true (by omega)]; simp⟩
  have KS : Aside0 (impl_inSet.f ((Pu.ofBits (upP K j) m : Nat) : Int) ((Pu.row R g : Nat) : Int) = some (Pu.sub (Pu.ofBits (upP K j) m) (Pu.row R g))) := ⟨Pu.inS_val (Pu.lt_256 (show m ≤ 8 by omega) (Pu.ofBits_lt _ _)) (hR g)⟩
  have HQ : Aside0 (upQ K (Pu.row R g) m j = (!(Pu.row R g).testBit j && Pu.sub (Pu.ofBits (upP K j) m) (Pu.row R g))) := ⟨rfl⟩
  have HM : Aside0 (m ≤ 8) := ⟨by omega⟩
  generalize Pu.row R g = r at *
  generalize (Pu.cast R).length = n at *
  have g2 : g < n := by omega
  have hbox : (W.alloc (.cells #[.int .i64 (j : Int)] 3)).cell? ⟨W.heap.size, 0, none⟩ = some (.int .i64 (j : Int)) := blk_cell (heap_alloc_new W (.cells #[.int .i64 (j : Int)] 3)) 0
  have hba : Below W.heap.size W (W.alloc (.cells #[.int .i64 (j : Int)] 3)) := below_alloc (Below.refl _ _) _
  have HF := Aside0.mk (Up11_fn bl W.heap.size A c2 K j m (W.alloc (.cells #[.int .i64 (j : Int)] 3)) ((hba.cell (World.block_lt_of_cell? W _ hl)).trans hl) hbox (Kd.C_below hrK hba) hK hj h256)
  have HBA := Aside0.mk hba
  have hcA := (hba.cell (World.block_lt_of_cell? W _ hc0)).trans hc0
  have HC1 := Aside0.mk ((hba.cell (World.block_lt_of_cell? W _ hc1)).trans hc1)
  have HG1 := Aside0.mk ((hba.cell (World.block_lt_of_cell? W _ hg)).trans hg)
  have HR1 := Aside0.mk ((hba.cell (World.block_lt_of_cell? W _ hr)).trans hr)
  have HBX := Aside0.mk hbox
  obtain ⟨b4, hb4⟩ : ∃ b4, b4 = W.heap.size := ⟨_, rfl⟩
  clear hrR hrK hba hbox g1 hj hm8 hgR h256 hR hK
  go_enter Try.func47, Try.ntmps47
  go_wp2_with (go_at_call 46; refine (accepted_calls 48 #[.pointer (some ⟨bl, 0, none⟩), .pointer (some ⟨W.heap.size, 0, none⟩)] eg m HM.out (upP K j) _ HF.out).mono ?_; rintro e w2 ⟨rfl, hba2⟩; have HBB := Aside0.mk (below_step HBA.out hba2); have hb0 := HBB.out; have HBX2 := Aside0.mk ((hba2.cell (World.block_lt_of_cell? _ _ HBX.out)).trans HBX.out); have HC2 := Aside0.mk ((hba2.cell (World.block_lt_of_cell? _ _ HC1.out)).trans HC1.out); have HG2 := Aside0.mk ((hba2.cell (World.block_lt_of_cell? _ _ HG1.out)).trans HG1.out); have HR2 := Aside0.mk ((hba2.cell (World.block_lt_of_cell? _ _ HR1.out)).trans HR1.out); clear hba2)
  have hj := HBX2.out
  have hc1 := HC2.out
  have hg := HG2.out
  have hr := HR2.out
  have HB0 := HBB
  clear HBB HBA hb0 hcA HC1 HG1 HR1 HBX HF
  try clear HBX2 HC2 HG2 HR2
  clear hb4 b4
  generalize W.heap.size = b4 at hj ⊢
  generalize Pu.ofBits (upP K j) m = mo at *
  cases ht : r.testBit j with
  | true =>
    rw [ht] at KH HQ
    clear ht
    refine start_ (n := 18) (S := fun w' => w'.cell? ⟨bc, 1, none⟩ = some (.slice (some ad) n c) ∧ w'.cell? ⟨bg, 0, none⟩ = some (.int .i64 (g : Int)) ∧ w'.cell? (ad.add g) = some (.int .i64 (r : Int)) ∧ w'.cell? ⟨b4, 0, none⟩ = some (.int .i64 (j : Int))) (ds := []) #[false, false, false, false, false, false, false, false, false, false, false, false, false, false, false, false, false, false] (by kernel_rfl) rfl rfl ⟨hc1, hg, hr, hj⟩ (fun hHeld => ?_); refine with_tabW Up1_tab Up1_bits (fun HT_ HW_ => ?_)
    change w2.drew.cell? _ = _ at hc1 hg hr hj
    have HB1 := Aside0.mk (below_drew1 HB0.out)
    generalize w2.drew = w10 at *
    refine pure_ (i := 0) (N := some 11) (v := ?_) (a' := ?_) #[true, false, false, false, false, false, false, false, false, false, false, false, false, false, false, false, false, false] rfl rfl (any_of HT_.out (by kernel_rfl)) (fun _ _ _ h => h) (Or.inl ⟨by rfl, ?_⟩) ?_ ?_
    rotate_left
    · intro w'
      go_simp
      with_reducible rfl
    rotate_left
    · simp only [Act.put, List.setIfInBounds_toArray, List.set_cons_zero, List.set_cons_succ, i64_w, i32_w]
      rfl
    refine take_ (i := 1) (N := some 12) (v := ?_) (a' := ?_) #[true, true, false, false, false, false, false, false, false, false, false, false, false, false, false, false, false, false] rfl rfl (take_ofW HT_.out HW_.out (by kernel_rfl)) (fun _ _ _ h => h) (Or.inl ⟨by rfl, ?_⟩) hHeld ?_ ?_
    rotate_left
    · rintro w' ⟨s0, s1, s2, s3⟩
      go_simp
      with_reducible rfl
    rotate_left
    · simp only [Act.put, List.setIfInBounds_toArray, List.set_cons_zero, List.set_cons_succ, i64_w, i32_w]
      rfl
    refine take_ (i := 2) (N := some 13) (v := ?_) (a' := ?_) #[true, true, true, false, false, false, false, false, false, false, false, false, false, false, false, false, false, false] rfl rfl (take_ofW HT_.out HW_.out (by kernel_rfl)) (fun _ _ _ h => h) (Or.inl ⟨by rfl, ?_⟩) hHeld ?_ ?_
    rotate_left
    · rintro w' ⟨s0, s1, s2, s3⟩
      go_simp
      with_reducible rfl
    rotate_left
    · simp only [Act.put, List.setIfInBounds_toArray, List.set_cons_zero, List.set_cons_succ, i64_w, i32_w]
      rfl
    refine pure_ (i := 3) (N := some 14) (v := ?_) (a' := ?_) #[true, true, true, true, false, false, false, false, false, false, false, false, false, false, false, false, false, false] rfl rfl (any_of HT_.out (by kernel_rfl)) (fun _ _ _ h => h) (Or.inl ⟨by rfl, ?_⟩) ?_ ?_
    rotate_left
    · intro w'
      go_simp
      with_reducible rfl
    rotate_left
    · simp only [Act.put, List.setIfInBounds_toArray, List.set_cons_zero, List.set_cons_succ, i64_w, i32_w]
      rfl
    refine take_ (i := 4) (N := some 15) (v := ?_) (a' := ?_) #[true, true, true, true, true, false, false, false, false, false, false, false, false, false, false, false, false, false] rfl rfl (take_ofW HT_.out HW_.out (by kernel_rfl)) (fun _ _ _ h => h) (Or.inl ⟨by rfl, ?_⟩) hHeld ?_ ?_
    rotate_left
    · rintro w' ⟨s0, s1, s2, s3⟩
      go_simp
      with_reducible rfl
    rotate_left
    · simp only [Act.put, List.setIfInBounds_toArray, List.set_cons_zero, List.set_cons_succ, i64_w, i32_w]
      rfl
    refine take_ (i := 5) (N := some 16) (v := ?_) (a' := ?_) #[true, true, true, true, true, true, false, false, false, false, false, false, false, false, false, false, false, false] rfl rfl (take_ofW HT_.out HW_.out (by kernel_rfl)) (fun _ _ _ h => h) (Or.inl ⟨by rfl, ?_⟩) hHeld ?_ ?_
    rotate_left
    · rintro w' ⟨s0, s1, s2, s3⟩
      go_simp
      with_reducible rfl
    rotate_left
    · simp only [Act.put, List.setIfInBounds_toArray, List.set_cons_zero, List.set_cons_succ, i64_w, i32_w]
      rfl
    refine one_ (i := 6) (N := some 17) #[true, true, true, true, true, true, true, false, false, false, false, false, false, false, false, false, false, false] rfl rfl (one_of HT_.out (by kernel_rfl)) (by decide) (fun K hK => ?_)
    refine goes_ Try.func50 (by kernel_rfl) rfl #[.int .i64 (r : Int), .int .i64 (j : Int)] (by rfl) rfl rfl (by (try simp only [List.map_toArray, List.map_cons, List.map_nil]); first | done | rfl) ?_
    with_reducible refine (impl_HasElement.calls _ _ _ _ KH.out).mono ?_
    rintro e w11 ⟨rfl, hd⟩
    refine ⟨_, rfl, ?_⟩
    have HB2 := Aside0.mk (below_step HB1.out hd.below)
    have hb := hd.below
    clear hd
    refine hK.out _ _ ⟨(hb.cell (World.block_lt_of_cell? _ _ hc1)).trans hc1, (hb.cell (World.block_lt_of_cell? _ _ hg)).trans hg, (hb.cell (World.block_lt_of_cell? _ _ hr)).trans hr, (hb.cell (World.block_lt_of_cell? _ _ hj)).trans hj⟩ (fun hHeld => ?_)
    clear hK K
    refine norm_ (a' := ?_) ?_ ?_
    rotate_left
    · show Act.put _ (some 17) _ = _
      simp only [Act.put, List.setIfInBounds_toArray, List.set_cons_zero, List.set_cons_succ, i64_w, i32_w]
      rfl
    refine pure_ (i := 7) (N := some 18) (v := ?_) (a' := ?_) #[true, true, true, true, true, true, true, true, false, false, false, false, false, false, false, false, false, false] rfl rfl (any_of HT_.out (by kernel_rfl)) (fun _ _ _ h => h) (Or.inl ⟨by rfl, ?_⟩) ?_ ?_
    rotate_left
    · intro w'
      go_simp
      with_reducible rfl
    rotate_left
    · simp only [Act.put, List.setIfInBounds_toArray, List.set_cons_zero, List.set_cons_succ, i64_w, i32_w]
      rfl
    refine pure_ (i := 8) (N := some 19) (v := ?_) (a' := ?_) #[true, true, true, true, true, true, true, true, true, false, false, false, false, false, false, false, false, false] rfl rfl (any_of HT_.out (by kernel_rfl)) (fun _ _ _ h => h) (Or.inl ⟨by rfl, ?_⟩) ?_ ?_
    rotate_left
    · intro w'
      go_simp
      with_reducible rfl
    rotate_left
    · simp only [Act.put, List.setIfInBounds_toArray, List.set_cons_zero, List.set_cons_succ, i64_w, i32_w]
      rfl
    refine pure_ (i := 9) (N := some 20) (v := undef) (a' := ?_) #[true, true, true, true, true, true, true, true, true, true, false, false, false, false, false, false, false, false] rfl rfl (any_of HT_.out (by kernel_rfl)) (fun _ _ _ h => h) (Or.inr ⟨by rfl, rfl⟩) ?_ ?_
    rotate_left
    · simp only [Act.put, List.setIfInBounds_toArray, List.set_cons_zero, List.set_cons_succ, i64_w, i32_w]
      rfl
    refine pure_ (i := 10) (N := some 21) (v := undef) (a' := ?_) #[true, true, true, true, true, true, true, true, true, true, true, false, false, false, false, false, false, false] rfl rfl (any_of HT_.out (by kernel_rfl)) (fun _ _ _ h => h) (Or.inr ⟨by rfl, rfl⟩) ?_ ?_
    rotate_left
    · simp only [Act.put, List.setIfInBounds_toArray, List.set_cons_zero, List.set_cons_succ, i64_w, i32_w]
      rfl
    refine pure_ (i := 11) (N := some 22) (v := undef) (a' := ?_) #[true, true, true, true, true, true, true, true, true, true, true, true, false, false, false, false, false, false] rfl rfl (any_of HT_.out (by kernel_rfl)) (fun _ _ _ h => h) (Or.inr ⟨by rfl, rfl⟩) ?_ ?_
    rotate_left
    · simp only [Act.put, List.setIfInBounds_toArray, List.set_cons_zero, List.set_cons_succ, i64_w, i32_w]
      rfl
    refine pure_ (i := 12) (N := some 23) (v := undef) (a' := ?_) #[true, true, true, true, true, true, true, true, true, true, true, true, true, false, false, false, false, false] rfl rfl (any_of HT_.out (by kernel_rfl)) (fun _ _ _ h => h) (Or.inr ⟨by rfl, rfl⟩) ?_ ?_
    rotate_left
    · simp only [Act.put, List.setIfInBounds_toArray, List.set_cons_zero, List.set_cons_succ, i64_w, i32_w]
      rfl
    refine pure_ (i := 13) (N := some 24) (v := undef) (a' := ?_) #[true, true, true, true, true, true, true, true, true, true, true, true, true, true, false, false, false, false] rfl rfl (any_of HT_.out (by kernel_rfl)) (fun _ _ _ h => h) (Or.inr ⟨by rfl, rfl⟩) ?_ ?_
    rotate_left
    · simp only [Act.put, List.setIfInBounds_toArray, List.set_cons_zero, List.set_cons_succ, i64_w, i32_w]
      rfl
    refine pure_ (i := 14) (N := some 25) (v := undef) (a' := ?_) #[true, true, true, true, true, true, true, true, true, true, true, true, true, true, true, false, false, false] rfl rfl (any_of HT_.out (by kernel_rfl)) (fun _ _ _ h => h) (Or.inr ⟨by rfl, rfl⟩) ?_ ?_
    rotate_left
    · simp only [Act.put, List.setIfInBounds_toArray, List.set_cons_zero, List.set_cons_succ, i64_w, i32_w]
      rfl
    refine pure_ (i := 15) (N := some 26) (v := undef) (a' := ?_) #[true, true, true, true, true, true, true, true, true, true, true, true, true, true, true, true, false, false] rfl rfl (any_of HT_.out (by kernel_rfl)) (fun _ _ _ h => h) (Or.inr ⟨by rfl, rfl⟩) ?_ ?_
    rotate_left
    · simp only [Act.put, List.setIfInBounds_toArray, List.set_cons_zero, List.set_cons_succ, i64_w, i32_w]
      rfl
    refine pure_ (i := 16) (N := some 27) (v := ?_) (a' := ?_) #[true, true, true, true, true, true, true, true, true, true, true, true, true, true, true, true, true, false] rfl rfl (any_of HT_.out (by kernel_rfl)) (fun _ _ _ h => h) (Or.inl ⟨by rfl, ?_⟩) ?_ ?_
    rotate_left
    · intro w'
      go_simp
      with_reducible rfl
    rotate_left
    · simp only [Act.put, List.setIfInBounds_toArray, List.set_cons_zero, List.set_cons_succ, i64_w, i32_w]
      rfl
    refine pure_ (i := 17) (N := some 5) (v := ?_) (a' := ?_) #[true, true, true, true, true, true, true, true, true, true, true, true, true, true, true, true, true, true] rfl rfl (any_of HT_.out (by kernel_rfl)) (fun _ _ _ h => h) (Or.inl ⟨by rfl, ?_⟩) ?_ ?_
    rotate_left
    · intro w'
      go_simp
      with_reducible rfl
    rotate_left
    · simp only [Act.put, List.setIfInBounds_toArray, List.set_cons_zero, List.set_cons_succ, i64_w, i32_w]
      rfl
    refine done_ (done_of HT_.out (by kernel_rfl)) ?_
    try go_wp2
    go_ret
    exact ⟨by rw [HQ.out]; rfl, HB2.out⟩
  | false =>
    rw [ht] at KH HQ
    clear ht
    refine start_ (n := 18) (S := fun w' => w'.cell? ⟨bc, 1, none⟩ = some (.slice (some ad) n c) ∧ w'.cell? ⟨bg, 0, none⟩ = some (.int .i64 (g : Int)) ∧ w'.cell? (ad.add g) = some (.int .i64 (r : Int)) ∧ w'.cell? ⟨b4, 0, none⟩ = some (.int .i64 (j : Int))) (ds := []) #[false, false, false, false, false, false, false, false, false, false, false, false, false, false, false, false, false, false] (by kernel_rfl) rfl rfl ⟨hc1, hg, hr, hj⟩ (fun hHeld => ?_); refine with_tabW Up1_tab Up1_bits (fun HT_ HW_ => ?_)
    change w2.drew.cell? _ = _ at hc1 hg hr hj
    have HB1 := Aside0.mk (below_drew1 HB0.out)
    generalize w2.drew = w10 at *
    refine pure_ (i := 0) (N := some 11) (v := ?_) (a' := ?_) #[true, false, false, false, false, false, false, false, false, false, false, false, false, false, false, false, false, false] rfl rfl (any_of HT_.out (by kernel_rfl)) (fun _ _ _ h => h) (Or.inl ⟨by rfl, ?_⟩) ?_ ?_
    rotate_left
    · intro w'
      go_simp
      with_reducible rfl
    rotate_left
    · simp only [Act.put, List.setIfInBounds_toArray, List.set_cons_zero, List.set_cons_succ, i64_w, i32_w]
      rfl
    refine take_ (i := 1) (N := some 12) (v := ?_) (a' := ?_) #[true, true, false, false, false, false, false, false, false, false, false, false, false, false, false, false, false, false] rfl rfl (take_ofW HT_.out HW_.out (by kernel_rfl)) (fun _ _ _ h => h) (Or.inl ⟨by rfl, ?_⟩) hHeld ?_ ?_
    rotate_left
    · rintro w' ⟨s0, s1, s2, s3⟩
      go_simp
      with_reducible rfl
    rotate_left
    · simp only [Act.put, List.setIfInBounds_toArray, List.set_cons_zero, List.set_cons_succ, i64_w, i32_w]
      rfl
    refine take_ (i := 2) (N := some 13) (v := ?_) (a' := ?_) #[true, true, true, false, false, false, false, false, false, false, false, false, false, false, false, false, false, false] rfl rfl (take_ofW HT_.out HW_.out (by kernel_rfl)) (fun _ _ _ h => h) (Or.inl ⟨by rfl, ?_⟩) hHeld ?_ ?_
    rotate_left
    · rintro w' ⟨s0, s1, s2, s3⟩
      go_simp
      with_reducible rfl
    rotate_left
    · simp only [Act.put, List.setIfInBounds_toArray, List.set_cons_zero, List.set_cons_succ, i64_w, i32_w]
      rfl
    refine pure_ (i := 3) (N := some 14) (v := ?_) (a' := ?_) #[true, true, true, true, false, false, false, false, false, false, false, false, false, false, false, false, false, false] rfl rfl (any_of HT_.out (by kernel_rfl)) (fun _ _ _ h => h) (Or.inl ⟨by rfl, ?_⟩) ?_ ?_
    rotate_left
    · intro w'
      go_simp
      with_reducible rfl
    rotate_left
    · simp only [Act.put, List.setIfInBounds_toArray, List.set_cons_zero, List.set_cons_succ, i64_w, i32_w]
      rfl
    refine take_ (i := 4) (N := some 15) (v := ?_) (a' := ?_) #[true, true, true, true, true, false, false, false, false, false, false, false, false, false, false, false, false, false] rfl rfl (take_ofW HT_.out HW_.out (by kernel_rfl)) (fun _ _ _ h => h) (Or.inl ⟨by rfl, ?_⟩) hHeld ?_ ?_
    rotate_left
    · rintro w' ⟨s0, s1, s2, s3⟩
      go_simp
      with_reducible rfl
    rotate_left
    · simp only [Act.put, List.setIfInBounds_toArray, List.set_cons_zero, List.set_cons_succ, i64_w, i32_w]
      rfl
    refine take_ (i := 5) (N := some 16) (v := ?_) (a' := ?_) #[true, true, true, true, true, true, false, false, false, false, false, false, false, false, false, false, false, false] rfl rfl (take_ofW HT_.out HW_.out (by kernel_rfl)) (fun _ _ _ h => h) (Or.inl ⟨by rfl, ?_⟩) hHeld ?_ ?_
    rotate_left
    · rintro w' ⟨s0, s1, s2, s3⟩
      go_simp
      with_reducible rfl
    rotate_left
    · simp only [Act.put, List.setIfInBounds_toArray, List.set_cons_zero, List.set_cons_succ, i64_w, i32_w]
      rfl
    refine one_ (i := 6) (N := some 17) #[true, true, true, true, true, true, true, false, false, false, false, false, false, false, false, false, false, false] rfl rfl (one_of HT_.out (by kernel_rfl)) (by decide) (fun K hK => ?_)
    refine goes_ Try.func50 (by kernel_rfl) rfl #[.int .i64 (r : Int), .int .i64 (j : Int)] (by rfl) rfl rfl (by (try simp only [List.map_toArray, List.map_cons, List.map_nil]); first | done | rfl) ?_
    with_reducible refine (impl_HasElement.calls _ _ _ _ KH.out).mono ?_
    rintro e w11 ⟨rfl, hd⟩
    refine ⟨_, rfl, ?_⟩
    have HB2 := Aside0.mk (below_step HB1.out hd.below)
    have hb := hd.below
    clear hd
    refine hK.out _ _ ⟨(hb.cell (World.block_lt_of_cell? _ _ hc1)).trans hc1, (hb.cell (World.block_lt_of_cell? _ _ hg)).trans hg, (hb.cell (World.block_lt_of_cell? _ _ hr)).trans hr, (hb.cell (World.block_lt_of_cell? _ _ hj)).trans hj⟩ (fun hHeld => ?_)
    clear hK K
    refine norm_ (a' := ?_) ?_ ?_
    rotate_left
    · show Act.put _ (some 17) _ = _
      simp only [Act.put, List.setIfInBounds_toArray, List.set_cons_zero, List.set_cons_succ, i64_w, i32_w]
      rfl
    refine pure_ (i := 7) (N := some 18) (v := ?_) (a' := ?_) #[true, true, true, true, true, true, true, true, false, false, false, false, false, false, false, false, false, false] rfl rfl (any_of HT_.out (by kernel_rfl)) (fun _ _ _ h => h) (Or.inl ⟨by rfl, ?_⟩) ?_ ?_
    rotate_left
    · intro w'
      go_simp
      with_reducible rfl
    rotate_left
    · simp only [Act.put, List.setIfInBounds_toArray, List.set_cons_zero, List.set_cons_succ, i64_w, i32_w]
      rfl
    refine pure_ (i := 8) (N := some 19) (v := ?_) (a' := ?_) #[true, true, true, true, true, true, true, true, true, false, false, false, false, false, false, false, false, false] rfl rfl (any_of HT_.out (by kernel_rfl)) (fun _ _ _ h => h) (Or.inl ⟨by rfl, ?_⟩) ?_ ?_
    rotate_left
    · intro w'
      go_simp
      with_reducible rfl
    rotate_left
    · simp only [Act.put, List.setIfInBounds_toArray, List.set_cons_zero, List.set_cons_succ, i64_w, i32_w]
      rfl
    refine pure_ (i := 9) (N := some 20) (v := ?_) (a' := ?_) #[true, true, true, true, true, true, true, true, true, true, false, false, false, false, false, false, false, false] rfl rfl (any_of HT_.out (by kernel_rfl)) (fun _ _ _ h => h) (Or.inl ⟨by rfl, ?_⟩) ?_ ?_
    rotate_left
    · intro w'
      go_simp
      with_reducible rfl
    rotate_left
    · simp only [Act.put, List.setIfInBounds_toArray, List.set_cons_zero, List.set_cons_succ, i64_w, i32_w]
      rfl
    refine pure_ (i := 10) (N := some 21) (v := ?_) (a' := ?_) #[true, true, true, true, true, true, true, true, true, true, true, false, false, false, false, false, false, false] rfl rfl (any_of HT_.out (by kernel_rfl)) (fun _ _ _ h => h) (Or.inl ⟨by rfl, ?_⟩) ?_ ?_
    rotate_left
    · intro w'
      go_simp
      with_reducible rfl
    rotate_left
    · simp only [Act.put, List.setIfInBounds_toArray, List.set_cons_zero, List.set_cons_succ, i64_w, i32_w]
      rfl
    refine take_ (i := 11) (N := some 22) (v := ?_) (a' := ?_) #[true, true, true, true, true, true, true, true, true, true, true, true, false, false, false, false, false, false] rfl rfl (take_ofW HT_.out HW_.out (by kernel_rfl)) (fun _ _ _ h => h) (Or.inl ⟨by rfl, ?_⟩) hHeld ?_ ?_
    rotate_left
    · rintro w' ⟨s0, s1, s2, s3⟩
      go_simp
      with_reducible rfl
    rotate_left
    · simp only [Act.put, List.setIfInBounds_toArray, List.set_cons_zero, List.set_cons_succ, i64_w, i32_w]
      rfl
    refine take_ (i := 12) (N := some 23) (v := ?_) (a' := ?_) #[true, true, true, true, true, true, true, true, true, true, true, true, true, false, false, false, false, false] rfl rfl (take_ofW HT_.out HW_.out (by kernel_rfl)) (fun _ _ _ h => h) (Or.inl ⟨by rfl, ?_⟩) hHeld ?_ ?_
    rotate_left
    · rintro w' ⟨s0, s1, s2, s3⟩
      go_simp
      with_reducible rfl
    rotate_left
    · simp only [Act.put, List.setIfInBounds_toArray, List.set_cons_zero, List.set_cons_succ, i64_w, i32_w]
      rfl
    refine pure_ (i := 13) (N := some 24) (v := ?_) (a' := ?_) #[true, true, true, true, true, true, true, true, true, true, true, true, true, true, false, false, false, false] rfl rfl (any_of HT_.out (by kernel_rfl)) (fun _ _ _ h => h) (Or.inl ⟨by rfl, ?_⟩) ?_ ?_
    rotate_left
    · intro w'
      go_simp
      with_reducible rfl
    rotate_left
    · simp only [Act.put, List.setIfInBounds_toArray, List.set_cons_zero, List.set_cons_succ, i64_w, i32_w]
      rfl
    refine take_ (i := 14) (N := some 25) (v := ?_) (a' := ?_) #[true, true, true, true, true, true, true, true, true, true, true, true, true, true, true, false, false, false] rfl rfl (take_ofW HT_.out HW_.out (by kernel_rfl)) (fun _ _ _ h => h) (Or.inl ⟨by rfl, ?_⟩) hHeld ?_ ?_
    rotate_left
    · rintro w' ⟨s0, s1, s2, s3⟩
      go_simp
      with_reducible rfl
    rotate_left
    · simp only [Act.put, List.setIfInBounds_toArray, List.set_cons_zero, List.set_cons_succ, i64_w, i32_w]
      rfl
    refine one_ (i := 15) (N := some 26) #[true, true, true, true, true, true, true, true, true, true, true, true, true, true, true, true, false, false] rfl rfl (one_of HT_.out (by kernel_rfl)) (by decide) (fun K hK => ?_)
    refine goes_ Try.func49 (by kernel_rfl) rfl #[.int .i64 (mo : Int), .int .i64 (r : Int)] (by rfl) rfl rfl (by (try simp only [List.map_toArray, List.map_cons, List.map_nil]); first | done | rfl) ?_
    with_reducible refine (impl_inSet.calls _ _ _ _ KS.out).mono ?_
    rintro e w12 ⟨rfl, hd⟩
    refine ⟨_, rfl, ?_⟩
    have HB3 := Aside0.mk (below_step HB2.out hd.below)
    have hb2 := hd.below
    clear hd
    refine hK.out _ _ ⟨(hb2.cell (World.block_lt_of_cell? _ _ ((hb.cell (World.block_lt_of_cell? _ _ hc1)).trans hc1))).trans ((hb.cell (World.block_lt_of_cell? _ _ hc1)).trans hc1), (hb2.cell (World.block_lt_of_cell? _ _ ((hb.cell (World.block_lt_of_cell? _ _ hg)).trans hg))).trans ((hb.cell (World.block_lt_of_cell? _ _ hg)).trans hg), (hb2.cell (World.block_lt_of_cell? _ _ ((hb.cell (World.block_lt_of_cell? _ _ hr)).trans hr))).trans ((hb.cell (World.block_lt_of_cell? _ _ hr)).trans hr), (hb2.cell (World.block_lt_of_cell? _ _ ((hb.cell (World.block_lt_of_cell? _ _ hj)).trans hj))).trans ((hb.cell (World.block_lt_of_cell? _ _ hj)).trans hj)⟩ (fun hHeld => ?_)
    clear hK K
    refine norm_ (a' := ?_) ?_ ?_
    rotate_left
    · show Act.put _ (some 26) _ = _
      simp only [Act.put, List.setIfInBounds_toArray, List.set_cons_zero, List.set_cons_succ, i64_w, i32_w]
      rfl
    refine pure_ (i := 16) (N := some 27) (v := ?_) (a' := ?_) #[true, true, true, true, true, true, true, true, true, true, true, true, true, true, true, true, true, false] rfl rfl (any_of HT_.out (by kernel_rfl)) (fun _ _ _ h => h) (Or.inl ⟨by rfl, ?_⟩) ?_ ?_
    rotate_left
    · intro w'
      go_simp
      with_reducible rfl
    rotate_left
    · simp only [Act.put, List.setIfInBounds_toArray, List.set_cons_zero, List.set_cons_succ, i64_w, i32_w]
      rfl
    refine pure_ (i := 17) (N := some 5) (v := ?_) (a' := ?_) #[true, true, true, true, true, true, true, true, true, true, true, true, true, true, true, true, true, true] rfl rfl (any_of HT_.out (by kernel_rfl)) (fun _ _ _ h => h) (Or.inl ⟨by rfl, ?_⟩) ?_ ?_
    rotate_left
    · intro w'
      go_simp
      with_reducible rfl
    rotate_left
    · simp only [Act.put, List.setIfInBounds_toArray, List.set_cons_zero, List.set_cons_succ, i64_w, i32_w]
      rfl
    refine done_ (done_of HT_.out (by kernel_rfl)) ?_
    try go_wp2
    go_ret
    exact ⟨by rw [HQ.out]; rfl, HB3.out⟩
theorem Up1_fn (bc bl bg : Nat) (Ar : Option Addr) (c : Nat) (R : List Nat) (A : Option Addr) (c2 : Nat) (K : List Nat) (m g : Nat) (w : World) (hc0 : w.cell? ⟨bc, 0, none⟩ = some (.int .i64 (m : Int))) (hc1 : w.cell? ⟨bc, 1, none⟩ = some (.slice Ar (Pu.cast R).length c))
    (hl : w.cell? ⟨bl, 0, none⟩ = some (.slice A (Pu.cast K).length c2)) (hg : w.cell? ⟨bg, 0, none⟩ = some (.int .i64 (g : Int)))
    (hrR : Kd.C (Kd.int .i64) w Ar (Pu.cast R).length (Pu.cast R)) (hrK : Kd.C (Kd.int .i64) w A (Pu.cast K).length (Pu.cast K)) (hK : K.length = m) (hm8 : m ≤ 6) (hgR : g < R.length) (h256 : ∀ i, Pu.row K i < 256) (hR : ∀ i, Pu.row R i < 256) :
    FnBelow 47 #[.pointer (some ⟨bc, 0, none⟩), .pointer (some ⟨bl, 0, none⟩), .pointer (some ⟨bg, 0, none⟩)] m (upQ K (Pu.row R g) m) w := by
  intro W x hx hb
  rw [show (#[.int .i64 (x : Int)] ++ #[.pointer (some ⟨bc, 0, none⟩), .pointer (some ⟨bl, 0, none⟩), .pointer (some ⟨bg, 0, none⟩)] : Array Value) = #[.int .i64 (x : Int), .pointer (some ⟨bc, 0, none⟩), .pointer (some ⟨bl, 0, none⟩), .pointer (some ⟨bg, 0, none⟩)] from rfl]
  have mv : ∀ {p : Addr} {v : Value}, w.cell? p = some v → W.cell? p = some v := fun h => (hb.cell (World.block_lt_of_cell? w _ h)).trans h
  exact Up1_calls bc bl bg Ar c R A c2 K m g x W (mv hc0) (mv hc1) (mv hl) (mv hg) (Kd.C_below hrR hb) (Kd.C_below hrK hb) hK hx hm8 hgR h256 hR
end Go.Proofs.Ytafnamchckehmaa.Pr
namespace Go.Proofs.Ytafnamchckehmaa.Pu
open Go.Proofs.Ytafnamchckehmaa.Pr
def upN (m : Nat) (R : List Nat) (g : Nat) : Nat := ofBits (upQ (cols m R) (row R g) m) m
def upV (n : Int) (l : List Int) (g : Int) : Int := if objB n l g = true then ((upN n.toNat (l.map Int.toNat) g.toNat : Nat) : Int) else 0
end Go.Proofs.Ytafnamchckehmaa.Pu
namespace Go.Proofs.Ytafnamchckehmaa.Pr
open Go.RowKit Go.Proofs.YtafnamchckehmaaW.PrintWords Go.Proofs.YtafnamchckehmaaW.PrintLast Go.Proofs.YtafnamchckehmaaW.PrintMore
def impl_UpArrows.f (a0_0 : Int) (l0_1 : List Int) (a1 : Int) : Option Int := if l0_1.length ≤ 1048576 then some (Pu.upV a0_0 l0_1 a1) else none
set_option maxHeartbeats 8000000 in
set_option maxRecDepth 100000 in
theorem impl_UpArrows.calls (a0_0 : Int) (A0_1 : Option Addr) (c0_1 : Nat) (l0_1 : List Int) (a1 : Int) (r : Int) (w : World) (hr0_1 : Kd.C (Kd.int .i64) w A0_1 l0_1.length l0_1) (hc0_1 : l0_1.length ≤ c0_1) (h : impl_UpArrows.f a0_0 l0_1 a1 = some r) :
    Calls Try.prog 8 #[.agg #[.int .i64 a0_0, .slice A0_1 l0_1.length c0_1], .int .i64 a1] w fun e w' => e = .returned (.int .i64 r) ∧ Below w.heap.size w w' := by
  have hu := Try.underlying26
  unfold impl_UpArrows.f at h
  by_cases hl : l0_1.length ≤ 1048576
  · rw [if_pos hl] at h
    obtain rfl := Option.some.inj h
    clear h
    have HR := Aside0.mk hr0_1
    have HC := Aside0.mk hc0_1
    clear hr0_1 hc0_1
    cases ho : Pu.objB a0_0 l0_1 a1 with
    | false =>
      have K : Aside0 (impl_isObject.f a0_0 l0_1 a1 = some false) := ⟨by rw [Pu.objI_val _ _ hl]; exact congrArg some ho⟩
      have HV : Aside0 (Pu.upV a0_0 l0_1 a1 = 0) := ⟨by unfold Pu.upV; rw [ho, if_neg (by decide)]⟩
      clear ho hl
      go_enter Try.func8, Try.ntmps8
      go_wp2_with (first | ((with_reducible refine gate_dst (N := 2) rfl ?_); refine box_event ?hg (N := 2) ?hd (cs := #[.int .i64 a0_0, .slice A0_1 l0_1.length c0_1]) (t := 26) ?hr ?_; (case hd => rfl); (case hg => rfl); (case hr => first | (go_simp; done) | (go_simp; rfl)); intro b2 hg2 w2 hbox hb; have HB2 := Aside0.mk hb; have BK2 := Aside0.mk hbox; clear hb hbox hg2) | ((with_reducible refine gate_dst (N := 3) rfl ?_); refine box_event ?hg (N := 3) ?hd (cs := #[.int .i64 a1]) (t := 3) ?hr ?_; (case hd => rfl); (case hg => rfl); (case hr => first | (go_simp; done) | (go_simp; rfl)); intro b3 hg3 w3 hbox hb; have HB3 := Aside0.mk (below_step HB2.out hb); have BK2' := Aside0.mk (blk_below BK2.out hb); have BK3 := Aside0.mk hbox; clear hb hbox hg3; have hc0 : w3.cell? ⟨b2, 0, none⟩ = some (.int .i64 a0_0) := (blk_cell BK2'.out 0).trans rfl; have hc1 : w3.cell? ⟨b2, 1, none⟩ = some (.slice A0_1 l0_1.length c0_1) := (blk_cell BK2'.out 1).trans rfl; have hcg : w3.cell? ⟨b3, 0, none⟩ = some (.int .i64 a1) := (blk_cell BK3.out 0).trans rfl) | (go_at_call 42; refine (impl_isObject.calls a0_0 A0_1 c0_1 l0_1 a1 false _ (Kd.C_below HR.out HB3.out) HC.out K.out).mono ?_; rintro e w4 ⟨rfl, hb⟩; have HB4 := Aside0.mk (below_step HB3.out hb); clear hb))
      go_ret
      exact ⟨by rw [HV.out]; rfl, HB4.out⟩
    | true =>
      have K : Aside0 (impl_isObject.f a0_0 l0_1 a1 = some true) := ⟨by rw [Pu.objI_val _ _ hl]; exact congrArg some ho⟩
      obtain ⟨m, R, g, rfl, hm, rfl, hR, hb, rfl, hg, e1, e2, e3⟩ := Pu.obj_nat ho
      have HV : Aside0 (Pu.upV (m : Int) (Pu.cast R) (g : Int) = ((Pu.ofBits (upQ (Pu.cols m R) (Pu.row R g) m) m : Nat) : Int)) := ⟨by unfold Pu.upV; rw [ho, if_pos rfl, e1, e2, e3]; rfl⟩
      have HCx := Pu.ctxB_mk hm hR hb
      obtain ⟨kc, hkc⟩ := Ev.rounds (Pu.colsI_val HCx rfl rfl hm hR hb)
      have KC := Aside0.mk hkc
      have F1 := Aside0.mk hm
      have F2 := Aside0.mk hg
      have F3 : Aside0 (∀ i, Pu.row R i < 256) := ⟨fun i => Pu.lt_256 (show m ≤ 8 by omega) (Pu.row_lt hb i)⟩
      have F4 : Aside0 (∀ i, Pu.row (Pu.cols m R) i < 256) := ⟨fun i => Pu.lt_256 hR (Pu.row_lt Pu.cols_lt i)⟩
      have F5 : Aside0 (m ≤ 8) := ⟨by omega⟩
      have F6 := Aside0.mk (Pu.cols_length m R)
      have eg : ∀ args w, (callFunc 47 args).run Try.prog w = .ok (.enter 47 args) w := enters_of Try.func47 (by kernel_rfl) rfl
      have EG := Aside0.mk eg
      clear ho hl e1 e2 e3 hm hR hb hg HCx hkc eg
      go_enter Try.func8, Try.ntmps8
      go_wp2_with (first | ((with_reducible refine gate_dst (N := 2) rfl ?_); refine box_event ?hg (N := 2) ?hd (cs := #[.int .i64 (m : Int), .slice A0_1 (Pu.cast R).length c0_1]) (t := 26) ?hr ?_; (case hd => rfl); (case hg => rfl); (case hr => first | (go_simp; done) | (go_simp; rfl)); intro b2 hg2 w2 hbox hb; have HB2 := Aside0.mk hb; have BK2 := Aside0.mk hbox; clear hb hbox hg2) | ((with_reducible refine gate_dst (N := 3) rfl ?_); refine box_event ?hg (N := 3) ?hd (cs := #[.int .i64 (g : Int)]) (t := 3) ?hr ?_; (case hd => rfl); (case hg => rfl); (case hr => first | (go_simp; done) | (go_simp; rfl)); intro b3 hg3 w3 hbox hb; have HB3 := Aside0.mk (below_step HB2.out hb); have BK2' := Aside0.mk (blk_below BK2.out hb); have BK3 := Aside0.mk hbox; clear hb hbox hg3; have hc0 : w3.cell? ⟨b2, 0, none⟩ = some (.int .i64 (m : Int)) := (blk_cell BK2'.out 0).trans rfl; have hc1 : w3.cell? ⟨b2, 1, none⟩ = some (.slice A0_1 (Pu.cast R).length c0_1) := (blk_cell BK2'.out 1).trans rfl; have hcg : w3.cell? ⟨b3, 0, none⟩ = some (.int .i64 (g : Int)) := (blk_cell BK3.out 0).trans rfl) | (go_at_call 42; refine (impl_isObject.calls (m : Int) A0_1 c0_1 (Pu.cast R) (g : Int) true _ (Kd.C_below HR.out HB3.out) HC.out K.out).mono ?_; rintro e w4 ⟨rfl, hb⟩; have HB4 := Aside0.mk (below_step HB3.out hb); have BK2a := Aside0.mk (blk_below BK2'.out hb); have BK3a := Aside0.mk (blk_below BK3.out hb); clear hb hc0 hc1 hcg; have hc0 : w4.cell? ⟨b2, 0, none⟩ = some (.int .i64 (m : Int)) := (blk_cell BK2a.out 0).trans rfl; have hc1 : w4.cell? ⟨b2, 1, none⟩ = some (.slice A0_1 (Pu.cast R).length c0_1) := (blk_cell BK2a.out 1).trans rfl) | (go_at_call 45; refine (impl_columns.calls kc (m : Int) A0_1 c0_1 (Pu.cast R) _ _ (Kd.C_below HR.out HB4.out) HC.out KC.out).mono ?_; rintro e w5 ⟨v5, rfl, ho5, hb⟩; have HB5 := Aside0.mk (below_step HB4.out hb); have BK2b := Aside0.mk (blk_below BK2a.out hb); have BK3b := Aside0.mk (blk_below BK3a.out hb); have HO := Aside0.mk ho5; clear hb hc0 hc1 ho5; obtain ⟨Ao, co, eo⟩ := Kd.R_slice HO.out; subst eo) | ((with_reducible refine gate_dst (N := 5) rfl ?_); refine box_event ?hg (N := 5) ?hd (cs := #[.slice none 0 0]) (t := 24) ?hr ?_; (case hd => rfl); (case hg => rfl); (case hr => first | (go_simp; done) | (go_simp; rfl)); intro b5 hg5 w6 hbox hb; have HB6 := Aside0.mk (below_step HB5.out hb); have HB56 := Aside0.mk hb; have BK2c := Aside0.mk (blk_below BK2b.out hb); have BK3c := Aside0.mk (blk_below BK3b.out hb); have BK5 := Aside0.mk hbox; have N5 := Aside0.mk (Nat.ne_of_lt (hg5 ▸ blk_lt BK2b.out)); have N3 := Aside0.mk (Nat.ne_of_lt (hg5 ▸ blk_lt BK3b.out)); have G5 := Aside0.mk (Nat.le_of_eq hg5.symm); have G5w := Aside0.mk (hg5 ▸ below_size HB5.out : w.heap.size ≤ b5); clear hb hbox hg5; have hc0 : w6.cell? ⟨b2, 0, none⟩ = some (.int .i64 (m : Int)) := (blk_cell BK2c.out 0).trans rfl; have hc5 : w6.cell? ⟨b5, 0, none⟩ = some (.slice none 0 0) := (blk_cell BK5.out 0).trans rfl; have hf5 := blk_frozen BK5.out 0; have hn1 := N5.out; have hn2 := N5.out.symm))
      have HB57 := Aside0.mk (below_set (j := 0) (v := .slice Ao (Pu.cast (Pu.cols m R)).length co) HB56.out G5.out)
      have HB7 := Aside0.mk (below_set (j := 0) (v := .slice Ao (Pu.cast (Pu.cols m R)).length co) HB6.out G5w.out)
      have H2 := Aside0.mk (blk_far BK2c.out (p := ⟨b5, 0, none⟩) N5.out (.slice Ao (Pu.cast (Pu.cols m R)).length co))
      have H3 := Aside0.mk (blk_far BK3c.out (p := ⟨b5, 0, none⟩) N3.out (.slice Ao (Pu.cast (Pu.cols m R)).length co))
      have H5 := Aside0.mk (blk_put BK5.out 0 (.slice Ao (Pu.cast (Pu.cols m R)).length co) (cs' := #[.slice Ao (Pu.cast (Pu.cols m R)).length co]) rfl)
      clear hc0 hc5 hf5 hn1 hn2
      generalize w6.setCell ⟨b5, 0, none⟩ (.slice Ao (Pu.cast (Pu.cols m R)).length co) = w7 at *
      refine (accepted_calls 47 #[.pointer (some ⟨b2, 0, none⟩), .pointer (some ⟨b5, 0, none⟩), .pointer (some ⟨b3, 0, none⟩)] EG.out m F5.out (upQ (Pu.cols m R) (Pu.row R g) m) w7 (Up1_fn b2 b5 b3 A0_1 c0_1 R Ao co (Pu.cols m R) m g w7 ((blk_cell H2.out 0).trans rfl) ((blk_cell H2.out 1).trans rfl) ((blk_cell H5.out 0).trans rfl) ((blk_cell H3.out 0).trans rfl) (Kd.C_below HR.out HB7.out) (Kd.C_below (Kd.R_reads' HO.out).2.2 HB57.out) F6.out F1.out F2.out F4.out F3.out)).mono ?_
      rintro e w8 ⟨rfl, hb8⟩
      have HB8 := Aside0.mk (below_step HB7.out hb8)
      clear hb8
      go_wp2
      go_ret
      exact ⟨by rw [HV.out]; rfl, HB8.out⟩
  · rw [if_neg hl] at h
    cases h
end Go.Proofs.Ytafnamchckehmaa.Pr
