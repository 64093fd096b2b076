/- Functions of the program as plain functions, proofs that their calls answer so, and plain laws: what the law needs. No condition beyond what each statement says. -/
import Derived.Test.YtafnamchckehmaaGreatDoorZFnInference15
namespace Go.Proofs.YtafnamchckehmaaGreatDoor.Pr
open Go.RowKit Go.Proofs.YtafnamchckehmaaGreatDoorW.PrintWords Go.Proofs.YtafnamchckehmaaGreatDoorW.PrintLast Go.Proofs.YtafnamchckehmaaGreatDoorW.PrintMore
open Go.Sort Go.Shelf
set_option linter.unusedVariables false
set_option linter.unusedSimpArgs false
theorem elN_le8 (x : Fin 256) : (Pu.elN x.val).length ≤ 8 := by
  rw [← pc_all x]
  unfold pc
  omega
theorem cmpC_val (x y : Fin 256) : impl_stem_1.f ((x.val : Nat) : Int) ((y.val : Nat) : Int) = some (cfC x y) := by
  unfold impl_stem_1.f
  rw [Pu.countI_val x.isLt, Option.bind_some, Pu.countI_val y.isLt, Option.bind_some]
  have h1 := elN_le8 x
  have h2 := elN_le8 y
  unfold cfC wrap64
  congr 1
  omega
set_option maxHeartbeats 1000000 in
theorem stable_at (g c : Nat) (m : Nat) (hm : m ≤ 6) (w0 w : World) (hb : Below w0.heap.size w0 w)
    (ho : (Kd.int .i64).R 3 w w0.heap.size (fun _ => True) (.slice (some ⟨g, 0, none⟩) (2 ^ m) c) (Pu.cast (Pu.allN m))) :
    Calls Tryz.prog 220 #[.slice (some ⟨g, 0, none⟩) (2 ^ m) c, .func (.func 221) #[] #[]] w fun e w' => e = .returned (.tuple #[]) ∧ (Kd.int .i64).R 3 w' w0.heap.size (fun _ => True) (.slice (some ⟨g, 0, none⟩) (2 ^ m) c) (Pu.cast (stOut m)) ∧ Below w0.heap.size w0 w' := by
  have hlenA : (Pu.allN m).length = 2 ^ m := Pu.allN_length (by omega)
  have hlenC : (Pu.cast (Pu.allN m)).length = 2 ^ m := by rw [Pu.cast_length, hlenA]
  have hpos : 0 < 2 ^ m := Nat.two_pow_pos m
  have h64 : 2 ^ m ≤ 256 := Pu.pow_256 (by omega)
  have hR : ∀ x ∈ Pu.allN m, x < 256 := fun x hx => by have := (Pu.mem_allN (by omega)).1 hx; omega
  rw [← hlenC] at ho
  obtain ⟨hg, _, hc, hmx, cur, hh, hs, ht⟩ := R_int_out ho (by omega)
  rw [hlenC] at hc ht ho
  have hD : (arrF (Pu.allN m)).size = 2 ^ m := (arrF_size _).trans hlenA
  have ht2 : cur.toList.take (arrF (Pu.allN m)).size = (arrF (Pu.allN m)).toList.map encF := by
    rw [hD, ht, map_encF]
    unfold arrF
    rw [map_fin8 hR]
  have hH : Holds encF w g 0 (arrF (Pu.allN m)) := holdsF (n := 0) (c := 0) hh (by omega) ht2
  have hblk : g < w.heap.size := (Array.getElem?_eq_some_iff.1 hh).1
  have eg : ∀ args w, (callFunc 221 args).run Tryz.prog w = .ok (.enter 221 args) w := enters_of Tryz.func221 (by kernel_rfl) rfl
  have hcmp : CmpLays1 Tryz.prog 221 #[] encF cfC g 0 (arrF (Pu.allN m)).size w := by
    intro m os dk _ x y
    refine (impl_stem_1.calls _ _ _ _ (cmpC_val x y)).mono ?_
    rintro e w' ⟨he, q, rfl⟩
    exact ⟨he, q, #[], by rw [grow_empty]⟩
  have h := sortStable_s encF cfC 221 #[] g 0 c (arrF (Pu.allN m)) w eg hcmp ⟨fun _ => rfl, hH, hblk⟩ (by omega)
  rw [hD] at h
  refine h.mono ?_
  rintro e w' ⟨rfl, n, os, rfl⟩
  have hL : (stab (ltOf cfC) (arrF (Pu.allN m))).toList.map (fun x => x.val) = stOut m := by rw [lt_cfC]; rfl
  have hd' : (stab (ltOf cfC) (arrF (Pu.allN m))).size = 2 ^ m := by
    have := congrArg List.length hL
    rw [List.length_map, (Pu.stOut_ok hm).2.1] at this
    simpa using this
  refine ⟨rfl, ?_, below_sortWorld encF hb hg hb.size⟩
  have hlenL : (Pu.cast (stOut m)).length = 2 ^ m := by rw [Pu.cast_length, (Pu.stOut_ok hm).2.1]
  rw [← hlenL]
  refine R_int_in hg (by omega) hmx (heap_sortWorld encF hh) (by rw [putCells_size]; exact hs) ?_
  rw [hlenL, ← hd', putCells_take encF (by omega), map_encF, hL]
end Go.Proofs.YtafnamchckehmaaGreatDoor.Pr
namespace Go.Proofs.YtafnamchckehmaaGreatDoor.Pr
open Go.RowKit Go.Proofs.YtafnamchckehmaaGreatDoorW.PrintWords Go.Proofs.YtafnamchckehmaaGreatDoorW.PrintLast Go.Proofs.YtafnamchckehmaaGreatDoorW.PrintMore
set_option linter.unusedVariables false
set_option linter.unusedSimpArgs false
theorem goesV_ {P : Program} {Q : Exit → Act → World → Prop} {ops : Array Oper} {oi : Oper} {N : Option Tmp} {a : Act} {w : World} {K : Act → World → Prop} {g : FuncId} {cb : Array Value} {x : Operand} {xs : Array Operand} {ts : Array TypeId} {args : Array Value}
    (hw : Region.wanted oi (yielded ops a.tmps) = true) (hN : oi.dst = N) (hop : oi.op = .call { callee := .value x, args := xs, argTypes := ts }) (hx : a.eval x = .func (.func g) #[] cb) (hargs : xs.map a.eval = args) (eg : (callFunc g (args ++ cb)).run P w = .ok (.enter g (args ++ cb)) w)
    (h : Calls P g (args ++ cb) w fun e w' => ∃ v, e = .returned v ∧ K (a.put N v) w') : if Region.wanted oi (yielded ops a.tmps) = true then Oper.wp P oi a w K Q else K (a.put N undef) w := by
  refine call_ g (args ++ cb) hw hN ?_ h
  unfold execOp
  simp [hop, resolve, Deferred.ofValue, invoke, hx, hargs, eg]
def preV (c : Nat → Nat) (s p : Nat) : Bool := decide (p ≠ s) && (Pu.sub p s && !Pu.sub (c p) s)
def Stem2_B : List Nat := [0, 0, 3, 7, 15, 15, 63, 127, 255, 511, 511, 2047, 511, 8191, 16383, 32767, 65535]
theorem Stem2_tab : rtab .any (opsOf Tryz.f224 1) = rtab .any (opsOf Tryz.f224 1) := rfl
theorem Stem2_bits : waitsOk (rtab .any (opsOf Tryz.f224 1)).2 Stem2_B = true := by kernel_rfl
set_option maxHeartbeats 40000000 in
set_option maxRecDepth 100000 in
theorem stem2_calls (g : Nat) (cb : Array Value) (eg : ∀ args w, (callFunc g args).run Tryz.prog w = .ok (.enter g args) w) (c : Nat → Nat) (b8 b3 s p : Nat) (hs : s < 256) (hp : p < 256) (hcp : c p < 256) (W : World)
    (h8 : W.cell? ⟨b8, 0, none⟩ = some (.int .i64 (s : Int))) (h3 : W.cell? ⟨b3, 0, none⟩ = some (.func (.func g) #[] cb))
    (hc : ∀ W', Below W.heap.size W W' → Calls Tryz.prog g (#[.int .i64 (p : Int)] ++ cb) W' fun e w' => e = .returned (.int .i64 ((c p : Nat) : Int)) ∧ Below W'.heap.size W' w') :
    Calls Tryz.prog 224 #[.int .i64 (p : Int), .pointer (some ⟨b8, 0, none⟩), .pointer (some ⟨b3, 0, none⟩)] W fun e w' => e = .returned (.bool (preV c s p)) ∧ Below W.heap.size W w' := by
  have K1 : Aside0 (impl_inSet.f (p : Int) (s : Int) = some (Pu.sub p s)) := ⟨Pu.inS_val hp hs⟩
  have K2 : Aside0 (impl_inSet.f ((c p : Nat) : Int) (s : Int) = some (Pu.sub (c p) s)) := ⟨Pu.inS_val hcp hs⟩
  have HC := Aside0.mk hc
  clear hc hs hp hcp
  by_cases hne : p = s
  · have e : Aside0 (preV c s p = false) := ⟨by unfold preV; rw [decide_eq_false (fun h => h hne)]; rfl⟩
    have hz1 : (((p : Nat) : Int) == ((s : Nat) : Int)) = true := by rw [hne]; simp
    have hz2 : (((p : Nat) : Int) != ((s : Nat) : Int)) = false := by rw [hne]; simp
    have hz3 : (((p : Nat) : Int) = ((s : Nat) : Int)) = True := eq_true (by rw [hne])
    have hz4 : (p = s) = True := eq_true hne
    have hz5 : (p == s) = true := by rw [hne]; simp
    have hz6 : (p != s) = false := by rw [hne]; simp
    clear hne
    go_enter Tryz.func224, Tryz.ntmps224
    go_wp2_with fail
    refine start_ (n := 17) (S := fun w' => w'.cell? ⟨b8, 0, none⟩ = some (.int .i64 (s : Int)) ∧ w'.cell? ⟨b3, 0, none⟩ = some (.func (.func g) #[] cb)) (ds := []) (tb_ 17 0) (by kernel_rfl) rfl rfl ⟨h8, h3⟩ (fun hHeld => ?_); refine with_tabW Stem2_tab Stem2_bits (fun HT_ HW_ => ?_)
    have HB1 : Aside0 (Below W.heap.size W W.drew) := Aside0.mk (below_drew1 (Below.refl _ _))
    change W.drew.cell? _ = _ at h8 h3
    generalize W.drew = w10 at *
    refine pl_ 0 5 (tb_ 17 1) ?_
    refine tk_ 1 6 (tb_ 17 3) hHeld ?_
    refine pl_ 2 7 (tb_ 17 7) ?_
    refine pl_ 3 8 (tb_ 17 15) ?_
    refine pr_ 4 9 (tb_ 17 31) ?_
    refine pr_ 5 10 (tb_ 17 63) ?_
    refine pr_ 6 11 (tb_ 17 127) ?_
    refine pl_ 7 12 (tb_ 17 255) ?_
    refine pl_ 8 13 (tb_ 17 511) ?_
    refine pr_ 9 14 (tb_ 17 1023) ?_
    refine pr_ 10 15 (tb_ 17 2047) ?_
    refine pr_ 11 16 (tb_ 17 4095) ?_
    refine pr_ 12 17 (tb_ 17 8191) ?_
    refine pr_ 13 18 (tb_ 17 16383) ?_
    refine pr_ 14 19 (tb_ 17 32767) ?_
    refine pl_ 15 20 (tb_ 17 65535) ?_
    refine pl_ 16 4 (tb_ 17 131071) ?_
    refine done_ (done_of HT_.out (by kernel_rfl)) ?_
    go_wp2
    go_ret
    exact ⟨by rw [e.out]; rfl, HB1.out⟩
  · have hz1 : (((p : Nat) : Int) == ((s : Nat) : Int)) = false := beq_eq_false_iff_ne.mpr (by omega)
    have hz2 : (((p : Nat) : Int) != ((s : Nat) : Int)) = true := bne_iff_ne.mpr (by omega)
    have hz3 : (((p : Nat) : Int) = ((s : Nat) : Int)) = False := eq_false (by omega)
    have hz4 : (p = s) = False := eq_false hne
    have hz5 : (p == s) = false := beq_eq_false_iff_ne.mpr hne
    have hz6 : (p != s) = true := bne_iff_ne.mpr hne
    have hd : Aside0 (decide (p ≠ s) = true) := ⟨decide_eq_true hne⟩
    clear hne
    cases hsub : Pu.sub p s with
    | false =>
      have e : Aside0 (preV c s p = false) := ⟨by unfold preV; rw [hsub]; simp⟩
      rw [hsub] at K1
      clear hsub
      go_enter Tryz.func224, Tryz.ntmps224
      go_wp2_with fail
      refine start_ (n := 17) (S := fun w' => w'.cell? ⟨b8, 0, none⟩ = some (.int .i64 (s : Int)) ∧ w'.cell? ⟨b3, 0, none⟩ = some (.func (.func g) #[] cb)) (ds := []) (tb_ 17 0) (by kernel_rfl) rfl rfl ⟨h8, h3⟩ (fun hHeld => ?_); refine with_tabW Stem2_tab Stem2_bits (fun HT_ HW_ => ?_)
      have HB1 : Aside0 (Below W.heap.size W W.drew) := Aside0.mk (below_drew1 (Below.refl _ _))
      change W.drew.cell? _ = _ at h8 h3
      generalize W.drew = w10 at *
      refine pl_ 0 5 (tb_ 17 1) ?_
      refine tk_ 1 6 (tb_ 17 3) hHeld ?_
      refine pl_ 2 7 (tb_ 17 7) ?_
      refine pl_ 3 8 (tb_ 17 15) ?_
      refine pl_ 4 9 (tb_ 17 31) ?_
      refine tk_ 5 10 (tb_ 17 63) hHeld ?_
      refine on_ 6 11 (tb_ 17 127) (fun K hK => ?_)
      refine goes_ Tryz.func141 (by kernel_rfl) rfl #[.int .i64 (p : Int), .int .i64 (s : Int)] (by rfl) rfl rfl (by (try simp only [List.map_toArray, List.map_cons, List.map_nil]); first | done | rfl) ?_
      with_reducible refine (impl_inSet.calls _ _ _ _ K1.out).mono ?_
      rintro e w12 ⟨rfl, hd⟩
      refine ⟨_, rfl, ?_⟩
      have HB2 := Aside0.mk (below_step HB1.out hd.below)
      have hb2 := hd.below
      clear hd
      refine hK.out _ _ ⟨((hb2.cell (World.block_lt_of_cell? _ _ h8)).trans h8), ((hb2.cell (World.block_lt_of_cell? _ _ h3)).trans h3)⟩ (fun hHeld => ?_)
      clear hK K
      refine norm_ (a' := ?_) ?_ ?_
      rotate_left
      · show Act.put _ (some 11) _ = _
        simp only [Act.put, List.setIfInBounds_toArray, List.set_cons_zero, List.set_cons_succ, i64_w, i32_w]
        rfl
      refine pl_ 7 12 (tb_ 17 255) ?_
      refine pl_ 8 13 (tb_ 17 511) ?_
      refine pr_ 9 14 (tb_ 17 1023) ?_
      refine pr_ 10 15 (tb_ 17 2047) ?_
      refine pr_ 11 16 (tb_ 17 4095) ?_
      refine pr_ 12 17 (tb_ 17 8191) ?_
      refine pr_ 13 18 (tb_ 17 16383) ?_
      refine pr_ 14 19 (tb_ 17 32767) ?_
      refine pl_ 15 20 (tb_ 17 65535) ?_
      refine pl_ 16 4 (tb_ 17 131071) ?_
      refine done_ (done_of HT_.out (by kernel_rfl)) ?_
      go_wp2
      go_ret
      exact ⟨by rw [e.out]; rfl, HB2.out⟩
    | true =>
      have e : Aside0 (preV c s p = !Pu.sub (c p) s) := ⟨by unfold preV; rw [hsub, hd.out]; simp⟩
      rw [hsub] at K1
      clear hsub hd
      go_enter Tryz.func224, Tryz.ntmps224
      go_wp2_with fail
      refine start_ (n := 17) (S := fun w' => w'.cell? ⟨b8, 0, none⟩ = some (.int .i64 (s : Int)) ∧ w'.cell? ⟨b3, 0, none⟩ = some (.func (.func g) #[] cb)) (ds := []) (tb_ 17 0) (by kernel_rfl) rfl rfl ⟨h8, h3⟩ (fun hHeld => ?_); refine with_tabW Stem2_tab Stem2_bits (fun HT_ HW_ => ?_)
      have HB1 : Aside0 (Below W.heap.size W W.drew) := Aside0.mk (below_drew1 (Below.refl _ _))
      change W.drew.cell? _ = _ at h8 h3
      generalize W.drew = w10 at *
      refine pl_ 0 5 (tb_ 17 1) ?_
      refine tk_ 1 6 (tb_ 17 3) hHeld ?_
      refine pl_ 2 7 (tb_ 17 7) ?_
      refine pl_ 3 8 (tb_ 17 15) ?_
      refine pl_ 4 9 (tb_ 17 31) ?_
      refine tk_ 5 10 (tb_ 17 63) hHeld ?_
      refine on_ 6 11 (tb_ 17 127) (fun K hK => ?_)
      refine goes_ Tryz.func141 (by kernel_rfl) rfl #[.int .i64 (p : Int), .int .i64 (s : Int)] (by rfl) rfl rfl (by (try simp only [List.map_toArray, List.map_cons, List.map_nil]); first | done | rfl) ?_
      with_reducible refine (impl_inSet.calls _ _ _ _ K1.out).mono ?_
      rintro e w12 ⟨rfl, hd⟩
      refine ⟨_, rfl, ?_⟩
      have HB2 := Aside0.mk (below_step HB1.out hd.below)
      have hb2 := hd.below
      clear hd
      refine hK.out _ _ ⟨((hb2.cell (World.block_lt_of_cell? _ _ h8)).trans h8), ((hb2.cell (World.block_lt_of_cell? _ _ h3)).trans h3)⟩ (fun hHeld => ?_)
      clear hK K
      refine norm_ (a' := ?_) ?_ ?_
      rotate_left
      · show Act.put _ (some 11) _ = _
        simp only [Act.put, List.setIfInBounds_toArray, List.set_cons_zero, List.set_cons_succ, i64_w, i32_w]
        rfl
      refine pl_ 7 12 (tb_ 17 255) ?_
      refine pl_ 8 13 (tb_ 17 511) ?_
      refine tk_ 9 14 (tb_ 17 1023) hHeld ?_
      refine pl_ 10 15 (tb_ 17 2047) ?_
      refine tk_ 12 17 (tb_ 17 6143) hHeld ?_
      refine on_ 11 16 (tb_ 17 8191) (fun K hK => ?_)
      refine goesV_ (by rfl) rfl rfl rfl (args := #[.int .i64 (p : Int)]) (by (try simp only [List.map_toArray, List.map_cons, List.map_nil]); first | done | rfl) (eg _ _) ?_
      refine (HC.out _ HB2.out).mono ?_
      rintro e w13 ⟨rfl, hb3⟩
      refine ⟨_, rfl, ?_⟩
      have HB3 := Aside0.mk (below_step HB2.out hb3)
      refine hK.out _ _ ⟨((hb3.cell (World.block_lt_of_cell? _ _ ((hb2.cell (World.block_lt_of_cell? _ _ h8)).trans h8))).trans ((hb2.cell (World.block_lt_of_cell? _ _ h8)).trans h8)), ((hb3.cell (World.block_lt_of_cell? _ _ ((hb2.cell (World.block_lt_of_cell? _ _ h3)).trans h3))).trans ((hb2.cell (World.block_lt_of_cell? _ _ h3)).trans h3))⟩ (fun hHeld => ?_)
      clear hK K
      refine norm_ (a' := ?_) ?_ ?_
      rotate_left
      · show Act.put _ (some 16) _ = _
        simp only [Act.put, List.setIfInBounds_toArray, List.set_cons_zero, List.set_cons_succ, i64_w, i32_w]
        rfl
      refine on_ 13 18 (tb_ 17 16383) (fun K hK => ?_)
      refine goes_ Tryz.func141 (by kernel_rfl) rfl #[.int .i64 ((c p : Nat) : Int), .int .i64 (s : Int)] (by rfl) rfl rfl (by (try simp only [List.map_toArray, List.map_cons, List.map_nil]); first | done | rfl) ?_
      with_reducible refine (impl_inSet.calls _ _ _ _ K2.out).mono ?_
      rintro e w14 ⟨rfl, hd⟩
      refine ⟨_, rfl, ?_⟩
      have HB4 := Aside0.mk (below_step HB3.out hd.below)
      have hb4 := hd.below
      clear hd
      refine hK.out _ _ ⟨((hb4.cell (World.block_lt_of_cell? _ _ ((hb3.cell (World.block_lt_of_cell? _ _ ((hb2.cell (World.block_lt_of_cell? _ _ h8)).trans h8))).trans ((hb2.cell (World.block_lt_of_cell? _ _ h8)).trans h8)))).trans ((hb3.cell (World.block_lt_of_cell? _ _ ((hb2.cell (World.block_lt_of_cell? _ _ h8)).trans h8))).trans ((hb2.cell (World.block_lt_of_cell? _ _ h8)).trans h8))), ((hb4.cell (World.block_lt_of_cell? _ _ ((hb3.cell (World.block_lt_of_cell? _ _ ((hb2.cell (World.block_lt_of_cell? _ _ h3)).trans h3))).trans ((hb2.cell (World.block_lt_of_cell? _ _ h3)).trans h3)))).trans ((hb3.cell (World.block_lt_of_cell? _ _ ((hb2.cell (World.block_lt_of_cell? _ _ h3)).trans h3))).trans ((hb2.cell (World.block_lt_of_cell? _ _ h3)).trans h3)))⟩ (fun hHeld => ?_)
      clear hK K
      refine norm_ (a' := ?_) ?_ ?_
      rotate_left
      · show Act.put _ (some 18) _ = _
        simp only [Act.put, List.setIfInBounds_toArray, List.set_cons_zero, List.set_cons_succ, i64_w, i32_w]
        rfl
      refine pl_ 14 19 (tb_ 17 32767) ?_
      refine pl_ 15 20 (tb_ 17 65535) ?_
      refine pl_ 16 4 (tb_ 17 131071) ?_
      refine done_ (done_of HT_.out (by kernel_rfl)) ?_
      go_wp2
      go_ret
      exact ⟨by rw [e.out]; rfl, HB4.out⟩
set_option maxHeartbeats 40000000
set_option maxRecDepth 100000
def stemAt (c : Nat → Nat) (m i : Nat) : List Nat := ((stOut m).take i).foldl (Pu.stemStep c) []
theorem stemAt_succ {c : Nat → Nat} {m i s : Nat} (h : (stOut m)[i]? = some s) : stemAt c m (i + 1) = Pu.stemStep c (stemAt c m i) s := by
  unfold stemAt
  rw [List.take_add_one, h, List.foldl_append]
  rfl
theorem stemAt_all (c : Nat → Nat) {m : Nat} (hm : m ≤ 6) {i : Nat} (hi : 2 ^ m ≤ i) : stemAt c m i = Pu.stemL c (stOut m) := by
  unfold stemAt
  rw [List.take_of_length_le (by rw [(Pu.stOut_ok hm).2.1]; exact hi)]
  rfl
theorem mem_foldl_stem {c : Nat → Nat} : ∀ (l out : List Nat) (p : Nat), p ∈ l.foldl (Pu.stemStep c) out → p ∈ out ∨ p ∈ l
  | [], out, p, h => Or.inl h
  | s :: l, out, p, h => by
    rw [List.foldl_cons] at h
    rcases mem_foldl_stem l _ p h with h1 | h1
    · unfold Pu.stemStep at h1
      split at h1
      · rcases List.mem_append.1 h1 with h2 | h2
        · exact Or.inl h2
        · rw [List.mem_singleton] at h2
          exact Or.inr (h2 ▸ List.mem_cons_self)
      · exact Or.inl h1
    · exact Or.inr (List.mem_cons_of_mem _ h1)
theorem len_foldl_stem {c : Nat → Nat} : ∀ (l out : List Nat), (l.foldl (Pu.stemStep c) out).length ≤ out.length + l.length
  | [], out => Nat.le_refl _
  | s :: l, out => by
    rw [List.foldl_cons, List.length_cons]
    refine Nat.le_trans (len_foldl_stem l _) ?_
    unfold Pu.stemStep
    split
    · rw [List.length_append, List.length_singleton]; omega
    · omega
theorem stemAt_lt {c : Nat → Nat} {m i : Nat} (hm : m ≤ 6) {p : Nat} (h : p ∈ stemAt c m i) : p < 2 ^ m := by
  rcases mem_foldl_stem _ _ p h with h1 | h1
  · cases h1
  · exact (Pu.stOut_mem hm).1 (List.mem_of_mem_take h1)
theorem stemAt_len (c : Nat → Nat) (m i : Nat) : (stemAt c m i).length ≤ i := by
  have := len_foldl_stem (c := c) ((stOut m).take i) []
  rw [List.length_nil, List.length_take] at this
  unfold stemAt
  omega
theorem free_any (c : Nat → Nat) (o : List Nat) (s : Nat) : Pu.freeB c o s = !o.any (preV c s) := rfl
theorem stOut_nodup {m : Nat} (hm : m ≤ 6) : (stOut m).Nodup := by
  rw [List.nodup_iff_count]
  intro a
  refine Classical.byContradiction fun hn => ?_
  have h1 : a ∈ stOut m := List.count_pos_iff.1 (by omega)
  have h3 : (List.range (2 ^ m)).length ≤ ((stOut m).erase a).length := List.nodup_range.length_le_of_subset fun y hy => by
    have hy' := (Pu.stOut_mem hm).2 (List.mem_range.1 hy)
    by_cases e : y = a
    · subst e
      exact List.count_pos_iff.1 (by rw [List.count_erase_self]; omega)
    · exact (List.mem_erase_of_ne e).2 hy'
  rw [List.length_range, List.length_erase_of_mem h1, (Pu.stOut_ok hm).2.1] at h3
  have := Nat.two_pow_pos m
  omega
theorem addr0 (gl i : Nat) : (Addr.add ⟨gl, 0, none⟩ (i : Int).toNat) = ⟨gl, i, none⟩ := by
  rw [Int.toNat_natCast]
  unfold Addr.add
  split
  · next h => rw [h]
  · simp
theorem any_cast (c : Nat → Nat) (s : Nat) (o : List Nat) : (Pu.cast o).any (fun x => preV c s x.toNat) = o.any (preV c s) := by
  unfold Pu.cast
  rw [List.any_map]
  rfl
theorem contains_stem (g : Nat) (cb : Array Value) (eg : ∀ args w, (callFunc g args).run Tryz.prog w = .ok (.enter g args) w) (c : Nat → Nat) (A : Option Addr) (cc : Nat) (o : List Nat) (s b8 b3 : Nat) (w5 W : World) (hs : s < 256) (ho : ∀ p ∈ o, p < 256 ∧ c p < 256)
    (h8 : W.heap[b8]? = some (.cells #[.int .i64 (s : Int)] 3 (0, 0))) (h3 : W.heap[b3]? = some (.cells #[.func (.func g) #[] cb] 73 (0, 0)))
    (hR : (Kd.int .i64).R 3 W w5.heap.size (fun _ => True) (.slice A (Pu.cast o).length cc) (Pu.cast o)) (hB : Below w5.heap.size w5 W)
    (hp : ∀ (W' : World) (p : Nat), p ∈ o → Below w5.heap.size w5 W' → Calls Tryz.prog g (#[.int .i64 (p : Int)] ++ cb) W' fun e w' => e = .returned (.int .i64 ((c p : Nat) : Int)) ∧ Below W'.heap.size W' w') :
    Calls Tryz.prog 223 #[.slice A (Pu.cast o).length cc, .func (.func 224) #[] #[.pointer (some ⟨b8, 0, none⟩), .pointer (some ⟨b3, 0, none⟩)]] W fun e w' =>
      e = .returned (.bool (o.any (preV c s))) ∧ w'.cell? ⟨b8, 0, none⟩ = some (.int .i64 (s : Int)) ∧ w'.cell? ⟨b3, 0, none⟩ = some (.func (.func g) #[] cb) ∧ (Kd.int .i64).R 3 w' w5.heap.size (fun _ => True) (.slice A (Pu.cast o).length cc) (Pu.cast o) ∧ Below w5.heap.size w5 w' := by
  have eg2 : ∀ args w, (callFunc 224 args).run Tryz.prog w = .ok (.enter 224 args) w := enters_of Tryz.func224 (by kernel_rfl) rfl
  refine (ContainsFunc_mem 224 #[.pointer (some ⟨b8, 0, none⟩), .pointer (some ⟨b3, 0, none⟩)] eg2 A cc (Pu.cast o) (fun x => preV c s x.toNat) W (Kd.R_reads' hR).2.2 ?_).mono ?_
  · intro W' x hx hb
    obtain ⟨p, hpo, rfl⟩ := List.mem_map.1 (show x ∈ o.map fun (x : Nat) => (x : Int) from hx)
    obtain ⟨h1, h2⟩ := ho p hpo
    rw [show (#[.int .i64 (p : Int)] ++ #[.pointer (some ⟨b8, 0, none⟩), .pointer (some ⟨b3, 0, none⟩)] : Array Value) = #[.int .i64 (p : Int), .pointer (some ⟨b8, 0, none⟩), .pointer (some ⟨b3, 0, none⟩)] from rfl]
    exact stem2_calls g cb eg c b8 b3 s p hs h1 h2 W' ((blk_cell (blk_below h8 hb) 0).trans rfl) ((blk_cell (blk_below h3 hb) 0).trans rfl) (fun W2 hb2 => hp W2 p hpo (below_step (below_step hB hb) hb2))
  · rintro e w' ⟨rfl, hb⟩
    exact ⟨by rw [any_cast], (blk_cell (blk_below h8 hb) 0).trans rfl, (blk_cell (blk_below h3 hb) 0).trans rfl, Kd.R_below hR hb, below_step hB hb⟩
def Stem_B : List Nat := [0, 0, 3, 0, 15, 31, 63, 127]
theorem Stem_tab : rtab .any (opsOf Tryz.f154 8) = rtab .any (opsOf Tryz.f154 8) := rfl
theorem Stem_bits : waitsOk (rtab .any (opsOf Tryz.f154 8)).2 Stem_B = true := by kernel_rfl
theorem stem_at (g : Nat) (cb : Array Value) (eg : ∀ args w, (callFunc g args).run Tryz.prog w = .ok (.enter g args) w) (c : Nat → Nat) (m : Nat) (hm : m ≤ 6) (hcl : ∀ x, x < 2 ^ m → c x < 256) (w : World) (htab : Tab64 w)
    (hp : ∀ (W : World) (x : Nat), x < 2 ^ m → Below w.heap.size w W → Calls Tryz.prog g (#[.int .i64 (x : Int)] ++ cb) W fun e w' => e = .returned (.int .i64 ((c x : Nat) : Int)) ∧ Below W.heap.size W w') :
    Calls Tryz.prog 154 #[.int .i64 (m : Int), .func (.func g) #[] cb] w fun e w' => ∃ v0_ : Value, e = .returned (v0_) ∧ Kd.R (Kd.int .i64) 3 w' w.heap.size (fun _ => True) v0_ (Pu.cast (Pu.psN m c)) ∧ Below w.heap.size w w' := by
  obtain ⟨K, hK⟩ := Ev.rounds (Pu.all_val (show m ≤ 8 by omega))
  have HALL := Aside0.mk hK
  have HTB := Aside0.mk htab
  have h64 : 2 ^ m ≤ 256 := Pu.pow_256 (by omega)
  have hLL : (stOut m).length = 2 ^ m := (Pu.stOut_ok hm).2.1
  have HEL : Aside0 (∀ i : Nat, i < 2 ^ m → ∃ s, (stOut m)[i]? = some s ∧ rd (Pu.cast (stOut m)) (i : Int) = (s : Int) ∧ s < 2 ^ m) := ⟨fun i hi => by
    have h1 : (stOut m)[i]? = some ((stOut m)[i]'(by omega)) := List.getElem?_eq_getElem (by omega)
    refine ⟨_, h1, ?_, (Pu.stOut_mem hm).1 (List.getElem_mem _)⟩
    unfold rd Pu.cast
    rw [Int.toNat_natCast, List.getD_eq_getElem?_getD, List.getElem?_map, h1]
    rfl⟩
  have HSM : Aside0 (∀ i p, p ∈ stemAt c m i → p < 2 ^ m) := ⟨fun i p h => stemAt_lt hm h⟩
  have HALLS : Aside0 (∀ i, 2 ^ m ≤ i → stemAt c m i = Pu.stemL c (stOut m)) := ⟨fun i hi => stemAt_all c hm hi⟩
  have HQ : Aside0 (∀ x ∈ Pu.stemL c (stOut m), x < 256) := ⟨fun x hx => by have := ((Pu.stemL_mem c hm).1 hx).1; omega⟩
  have HQN : Aside0 ((Pu.stemL c (stOut m)).Nodup) := ⟨Pu.stemL_nodup c _ [] (stOut_nodup hm) List.nodup_nil fun _ _ h => by cases h⟩
  have HPS : Aside0 (Pu.lecR (Pu.stemL c (stOut m)) = Pu.psN m c) := ⟨Pu.lec_stemL c hm⟩
  have HLA : Aside0 ((Pu.cast (Pu.allN m)).length = 2 ^ m) := ⟨by rw [Pu.cast_length, Pu.allN_length (by omega)]⟩
  have HPOS : Aside0 (0 < (Pu.cast (Pu.allN m)).length) := ⟨by rw [HLA.out]; exact Nat.two_pow_pos m⟩
  have HLL : Aside0 ((Pu.cast (stOut m)).length = 2 ^ m) := ⟨by rw [Pu.cast_length, hLL]⟩
  have HST : Aside0 (∀ (gl c0 : Nat) (w3 W : World), Below w3.heap.size w3 W → (Kd.int .i64).R 3 W w3.heap.size (fun _ => True) (.slice (some ⟨gl, 0, none⟩) (2 ^ m) c0) (Pu.cast (Pu.allN m)) → Calls Tryz.prog 220 #[.slice (some ⟨gl, 0, none⟩) (2 ^ m) c0, .func (.func 221) #[] #[]] W fun e w' => e = .returned (.tuple #[]) ∧ (Kd.int .i64).R 3 w' w3.heap.size (fun _ => True) (.slice (some ⟨gl, 0, none⟩) (2 ^ m) c0) (Pu.cast (stOut m)) ∧ Below w3.heap.size w3 w') := ⟨fun gl c0 w3 W hb ho => stable_at gl c0 m hm w3 W hb ho⟩
  have HRD : Aside0 (∀ (gl c0 base : Nat) (W : World), (Kd.int .i64).R 3 W base (fun _ => True) (.slice (some ⟨gl, 0, none⟩) (2 ^ m) c0) (Pu.cast (stOut m)) → Kd.C (Kd.int .i64) W (some ⟨gl, 0, none⟩) (Pu.cast (stOut m)).length (Pu.cast (stOut m))) := ⟨fun gl c0 base W h => (Kd.R_reads' h).2.2⟩
  have HCL : Aside0 (∀ x, x < 2 ^ m → c x < 256) := ⟨hcl⟩
  have HP0 : Aside0 (∀ (W : World) (x : Nat), x < 2 ^ m → Below w.heap.size w W → Calls Tryz.prog g (#[.int .i64 (x : Int)] ++ cb) W fun e w' => e = .returned (.int .i64 ((c x : Nat) : Int)) ∧ Below W.heap.size W w') := ⟨hp⟩
  obtain ⟨N, hN⟩ : ∃ N, N = 2 ^ m := ⟨_, rfl⟩
  have HM : Aside0 (m ≤ 6) := ⟨hm⟩
  clear hK htab hLL hcl hp hm
  rw [← hN] at HEL HSM HALLS HLA HLL HST HRD HCL HP0 h64
  clear hN
  go_enter Tryz.func154, Tryz.ntmps154
  go_wp2_with (first | ((with_reducible refine gw_ rfl ?_); first | (refine be_ 3 #[.func (.func g) #[] cb] 73 ?_; intro gb3 hg w3 hbox hb; have HB3 := Aside0.mk hb; have BK3 := Aside0.mk hbox; clear hb hbox hg) | (refine rl_ (Kd.int .i64) 3 14 ?_; intro v6 w6 ho hb hg_ hnew_; clear hg_ hnew_; have HO6 := Aside0.mk ho; have HB6 := Aside0.mk hb; clear ho hb)) | (go_at_call 121; refine (impl_allSets.calls K (m : Int) (Pu.cast (Pu.allN m)) _ (HTB.out.below HB3.out) HALL.out).mono ?_; rintro e w4 ⟨v, rfl, hR, hb⟩; obtain ⟨gl, c0, hv, hgc⟩ := R_form_int hR HPOS.out; rw [HLA.out] at hv; subst hv; have HO4 := Aside0.mk hR; have HB4 := Aside0.mk hb; clear hR hb hgc) | (go_at_call 220; refine (HST.out gl c0 _ _ HB4.out HO4.out).mono ?_; rintro e w5 ⟨rfl, hR, hb⟩; have HC5 := Aside0.mk (HRD.out gl c0 _ _ hR); have HB5 := Aside0.mk (below_step HB3.out hb); have BK5 := Aside0.mk (blk_below BK3.out hb); clear hR hb HO4 HB4))
  have HP : Aside0 (∀ (W : World) (x : Nat), x < N → Below w5.heap.size w5 W → Calls Tryz.prog g (#[.int .i64 (x : Int)] ++ cb) W fun e w' => e = .returned (.int .i64 ((c x : Nat) : Int)) ∧ Below W.heap.size W w') := ⟨fun W x hx hb => HP0.out W x hx (below_step HB5.out hb)⟩
  go_loopg [6, 17] (N + 1) (fun kx s6 s17 W => ∃ (i : Nat), s17 = .int .i64 (i : Int) ∧ i ≤ N ∧ N - i < kx ∧ Aside0 ((Kd.int .i64).R 3 W w5.heap.size (fun _ => True) s6 (Pu.cast (stemAt c m i))) ∧ Aside0 (Below w5.heap.size w5 W))
  case atStart => exact ⟨0, rfl, by omega, by omega, HO6, HB6⟩
  case round =>
    clear HO6 HB6
    obtain ⟨i, rfl, hiN, hkx, HO, HB⟩ := hrel
    by_cases hlt : i < N
    · have hltz : ((i : Int) < (N : Int)) := by omega
      obtain ⟨s, hget, hrd, hsN⟩ := HEL.out i hlt
      have HS : Aside0 (s < N) := ⟨hsN⟩
      have HS256 : Aside0 (s < 256) := ⟨by omega⟩
      have HLE : Aside0 ((Pu.cast (stemAt c m i)).length + 1 ≤ 300) := ⟨by have := stemAt_len c m i; rw [Pu.cast_length]; omega⟩
      have HMEM : Aside0 (∀ p ∈ stemAt c m i, p < 256 ∧ c p < 256) := ⟨fun p hp => ⟨by have := HSM.out i p hp; omega, HCL.out p (HSM.out i p hp)⟩⟩
      have HPO : Aside0 (∀ (W' : World) (p : Nat), p ∈ stemAt c m i → Below w5.heap.size w5 W' → Calls Tryz.prog g (#[.int .i64 (p : Int)] ++ cb) W' fun e w' => e = .returned (.int .i64 ((c p : Nat) : Int)) ∧ Below W'.heap.size W' w') := ⟨fun W' p hp hb => HP.out W' p (HSM.out i p hp) hb⟩
      have HSTEP : Aside0 (stemAt c m (i + 1) = Pu.stemStep c (stemAt c m i) s) := ⟨stemAt_succ hget⟩
      clear hget hsN
      obtain ⟨ad, e, hx0⟩ := Kd.at_int HC5.out (i : Int) (by omega) (by rw [HLL.out]; exact hltz)
      cases e
      rw [hrd, addr0] at hx0
      clear hrd
      replace hx0 := (HB.out.cell (World.block_lt_of_cell? w5 _ hx0)).trans hx0
      have p0 : (0 ≤ (i : Int)) = True := eq_true (by omega)
      replace hltz := eq_true hltz
      by_cases hcs : c s = s
      · have HN : Aside0 (stemAt c m (i + 1) = stemAt c m i) := ⟨by rw [HSTEP.out]; unfold Pu.stemStep; rw [if_neg (by rw [decide_eq_false (fun h => h hcs)]; simp)]⟩
        have hz1 : (((c s : Nat) : Int) == ((s : Nat) : Int)) = true := by rw [hcs]; simp
        have hz2 : (((c s : Nat) : Int) != ((s : Nat) : Int)) = false := by rw [hcs]; simp
        have hz3 : (((c s : Nat) : Int) = ((s : Nat) : Int)) = True := eq_true (by rw [hcs])
        have hz4 : (c s = s) = True := eq_true hcs
        have hz5 : (c s == s) = true := by rw [hcs]; simp
        have hz6 : (c s != s) = false := by rw [hcs]; simp
        clear hcs HSTEP
        go_wp2_with (first | ((with_reducible refine gw_ rfl ?_); (refine be_ 8 #[.int .i64 0] 3 ?_; intro gb8 hg w14 hbox hb; have HO8 := Aside0.mk (Kd.R_below (Kd.R_elderB HO.out gb8 (Nat.le_of_eq hg.symm)) hb); have HB8 := Aside0.mk (below_step HB.out hb); have BK8 := Aside0.mk hbox; have BK38 := Aside0.mk (blk_below (blk_below BK5.out HB.out) hb); have GE8 := Aside0.mk (show w5.heap.size ≤ gb8 from by rw [hg]; exact below_size HB.out); have NB8 := Aside0.mk (show gb3 ≠ gb8 from by rw [hg]; exact Nat.ne_of_lt (blk_lt (blk_below BK5.out HB.out))); clear hb hbox hg; have hcz_0 : w14.cell? ⟨gb8, 0, none⟩ = some (.int .i64 0) := (blk_cell BK8.out 0).trans rfl; have hfz_0 := blk_frozen BK8.out 0; obtain ⟨A6, c6, e6⟩ := Kd.R_slice HO8.out; subst e6)) | (go_at_call 223; refine (contains_stem g cb eg c A6 c6 (stemAt c m i) s gb8 gb3 w5 _ HS256.out HMEM.out ?h8 ?h3 ?hr ?hb HPO.out).mono ?_; (case h8 => refine blk_put (cs := #[.int .i64 0]) ?_ 0 _ rfl; exact BK8.out); (case h3 => refine blk_far ?_ NB8.out _; exact BK38.out); (case hr => exact Kd.R_mono (Kd.R_far (p := ⟨gb8, 0, none⟩) HO8.out (fun _ hk => hk.2) _) (fun _ _ => trivial)); (case hb => exact below_set HB8.out GE8.out); rintro e w16 ⟨rfl, h8, h3, hR, hb⟩; have HOb := Aside0.mk hR; have HBb := Aside0.mk hb; clear hR hb))
        refine start_ (n := 8) (S := fun w' => w'.cell? ⟨gb8, 0, none⟩ = some (.int .i64 (s : Int)) ∧ w'.cell? ⟨gb3, 0, none⟩ = some (.func (.func g) #[] cb)) (ds := []) (tb_ 8 0) (by kernel_rfl) rfl rfl ⟨h8, h3⟩ (fun hHeld => ?_); refine with_tabW Stem_tab Stem_bits (fun HT_ HW_ => ?_)
        have HBc := Aside0.mk (below_drew1 HBb.out)
        have HOc := Aside0.mk (Kd.R_drew HOb.out)
        change w16.drew.cell? _ = _ at h8 h3
        generalize w16.drew = w10 at *
        refine tk_ 0 25 (tb_ 8 1) hHeld ?_
        refine tk_ 1 26 (tb_ 8 3) hHeld ?_
        refine tk_ 3 28 (tb_ 8 11) hHeld ?_
        refine on_ 2 27 (tb_ 8 15) (fun K hK => ?_)
        refine goesV_ (by rfl) rfl rfl rfl (args := #[.int .i64 (s : Int)]) (by (try simp only [List.map_toArray, List.map_cons, List.map_nil]); first | done | rfl) (eg _ _) ?_
        refine (HP.out _ s HS.out HBc.out).mono ?_
        rintro e w13 ⟨rfl, hb3⟩
        refine ⟨_, rfl, ?_⟩
        have HBd := Aside0.mk (below_step HBc.out hb3)
        have HOd := Aside0.mk (Kd.R_below HOc.out hb3)
        refine hK.out _ _ ⟨((hb3.cell (World.block_lt_of_cell? _ _ h8)).trans h8), ((hb3.cell (World.block_lt_of_cell? _ _ h3)).trans h3)⟩ (fun hHeld => ?_)
        clear hK K
        refine norm_ (a' := ?_) ?_ ?_
        rotate_left
        · show Act.put _ (some 27) _ = _
          simp only [Act.put, List.setIfInBounds_toArray, List.set_cons_zero, List.set_cons_succ, i64_w, i32_w]
          rfl
        refine pl_ 4 29 (tb_ 8 31) ?_
        refine pl_ 5 30 (tb_ 8 63) ?_
        refine pr_ 6 31 (tb_ 8 127) ?_
        refine pl_ 7 32 (tb_ 8 255) ?_
        refine done_ (done_of HT_.out (by kernel_rfl)) ?_
        go_wp2
        go_roundg (N - i)
        case measure => omega
        case rel => exact ⟨i + 1, by first | rfl | go_num | (congr 1; omega), by omega, by omega, ⟨by rw [HN.out]; exact HOd.out⟩, ⟨HBd.out⟩⟩
      · have hz1 : (((c s : Nat) : Int) == ((s : Nat) : Int)) = false := beq_eq_false_iff_ne.mpr (by omega)
        have hz2 : (((c s : Nat) : Int) != ((s : Nat) : Int)) = true := bne_iff_ne.mpr (by omega)
        have hz3 : (((c s : Nat) : Int) = ((s : Nat) : Int)) = False := eq_false (by omega)
        have hz4 : (c s = s) = False := eq_false hcs
        have hz5 : (c s == s) = false := beq_eq_false_iff_ne.mpr hcs
        have hz6 : (c s != s) = true := bne_iff_ne.mpr hcs
        have HCS : Aside0 (decide (c s ≠ s) = true) := ⟨decide_eq_true hcs⟩
        clear hcs
        cases hany : (stemAt c m i).any (preV c s) with
        | true =>
          have HN : Aside0 (stemAt c m (i + 1) = stemAt c m i) := ⟨by rw [HSTEP.out]; unfold Pu.stemStep; rw [if_neg (by rw [free_any, hany]; simp)]⟩
          clear HSTEP HCS
          go_wp2_with (first | ((with_reducible refine gw_ rfl ?_); (refine be_ 8 #[.int .i64 0] 3 ?_; intro gb8 hg w14 hbox hb; have HO8 := Aside0.mk (Kd.R_below (Kd.R_elderB HO.out gb8 (Nat.le_of_eq hg.symm)) hb); have HB8 := Aside0.mk (below_step HB.out hb); have BK8 := Aside0.mk hbox; have BK38 := Aside0.mk (blk_below (blk_below BK5.out HB.out) hb); have GE8 := Aside0.mk (show w5.heap.size ≤ gb8 from by rw [hg]; exact below_size HB.out); have NB8 := Aside0.mk (show gb3 ≠ gb8 from by rw [hg]; exact Nat.ne_of_lt (blk_lt (blk_below BK5.out HB.out))); clear hb hbox hg; have hcz_0 : w14.cell? ⟨gb8, 0, none⟩ = some (.int .i64 0) := (blk_cell BK8.out 0).trans rfl; have hfz_0 := blk_frozen BK8.out 0; obtain ⟨A6, c6, e6⟩ := Kd.R_slice HO8.out; subst e6)) | (go_at_call 223; refine (contains_stem g cb eg c A6 c6 (stemAt c m i) s gb8 gb3 w5 _ HS256.out HMEM.out ?h8 ?h3 ?hr ?hb HPO.out).mono ?_; (case h8 => refine blk_put (cs := #[.int .i64 0]) ?_ 0 _ rfl; exact BK8.out); (case h3 => refine blk_far ?_ NB8.out _; exact BK38.out); (case hr => exact Kd.R_mono (Kd.R_far (p := ⟨gb8, 0, none⟩) HO8.out (fun _ hk => hk.2) _) (fun _ _ => trivial)); (case hb => exact below_set HB8.out GE8.out); rintro e w16 ⟨rfl, h8, h3, hR, hb⟩; have HOb := Aside0.mk hR; have HBb := Aside0.mk hb; clear hR hb))
          clear hany
          refine start_ (n := 8) (S := fun w' => w'.cell? ⟨gb8, 0, none⟩ = some (.int .i64 (s : Int)) ∧ w'.cell? ⟨gb3, 0, none⟩ = some (.func (.func g) #[] cb)) (ds := []) (tb_ 8 0) (by kernel_rfl) rfl rfl ⟨h8, h3⟩ (fun hHeld => ?_); refine with_tabW Stem_tab Stem_bits (fun HT_ HW_ => ?_)
          have HBc := Aside0.mk (below_drew1 HBb.out)
          have HOc := Aside0.mk (Kd.R_drew HOb.out)
          change w16.drew.cell? _ = _ at h8 h3
          generalize w16.drew = w10 at *
          refine tk_ 0 25 (tb_ 8 1) hHeld ?_
          refine tk_ 1 26 (tb_ 8 3) hHeld ?_
          refine tk_ 3 28 (tb_ 8 11) hHeld ?_
          refine on_ 2 27 (tb_ 8 15) (fun K hK => ?_)
          refine goesV_ (by rfl) rfl rfl rfl (args := #[.int .i64 (s : Int)]) (by (try simp only [List.map_toArray, List.map_cons, List.map_nil]); first | done | rfl) (eg _ _) ?_
          refine (HP.out _ s HS.out HBc.out).mono ?_
          rintro e w13 ⟨rfl, hb3⟩
          refine ⟨_, rfl, ?_⟩
          have HBd := Aside0.mk (below_step HBc.out hb3)
          have HOd := Aside0.mk (Kd.R_below HOc.out hb3)
          refine hK.out _ _ ⟨((hb3.cell (World.block_lt_of_cell? _ _ h8)).trans h8), ((hb3.cell (World.block_lt_of_cell? _ _ h3)).trans h3)⟩ (fun hHeld => ?_)
          clear hK K
          refine norm_ (a' := ?_) ?_ ?_
          rotate_left
          · show Act.put _ (some 27) _ = _
            simp only [Act.put, List.setIfInBounds_toArray, List.set_cons_zero, List.set_cons_succ, i64_w, i32_w]
            rfl
          refine pl_ 4 29 (tb_ 8 31) ?_
          refine pl_ 5 30 (tb_ 8 63) ?_
          refine pl_ 6 31 (tb_ 8 127) ?_
          refine pl_ 7 32 (tb_ 8 255) ?_
          refine done_ (done_of HT_.out (by kernel_rfl)) ?_
          go_wp2
          go_roundg (N - i)
          case measure => omega
          case rel => exact ⟨i + 1, by first | rfl | go_num | (congr 1; omega), by omega, by omega, ⟨by rw [HN.out]; exact HOd.out⟩, ⟨HBd.out⟩⟩
        | false =>
          have HN : Aside0 (Pu.cast (stemAt c m (i + 1)) = Pu.cast (stemAt c m i) ++ [(s : Int)]) := ⟨by rw [HSTEP.out]; unfold Pu.stemStep; rw [if_pos (by rw [free_any, hany, HCS.out]; rfl)]; unfold Pu.cast; rw [List.map_append]; rfl⟩
          clear HSTEP HCS
          go_wp2_with (first | ((with_reducible refine gw_ rfl ?_); (refine be_ 8 #[.int .i64 0] 3 ?_; intro gb8 hg w14 hbox hb; have HO8 := Aside0.mk (Kd.R_below (Kd.R_elderB HO.out gb8 (Nat.le_of_eq hg.symm)) hb); have HB8 := Aside0.mk (below_step HB.out hb); have BK8 := Aside0.mk hbox; have BK38 := Aside0.mk (blk_below (blk_below BK5.out HB.out) hb); have GE8 := Aside0.mk (show w5.heap.size ≤ gb8 from by rw [hg]; exact below_size HB.out); have NB8 := Aside0.mk (show gb3 ≠ gb8 from by rw [hg]; exact Nat.ne_of_lt (blk_lt (blk_below BK5.out HB.out))); clear hb hbox hg; have hcz_0 : w14.cell? ⟨gb8, 0, none⟩ = some (.int .i64 0) := (blk_cell BK8.out 0).trans rfl; have hfz_0 := blk_frozen BK8.out 0; obtain ⟨A6, c6, e6⟩ := Kd.R_slice HO8.out; subst e6)) | (go_at_call 223; refine (contains_stem g cb eg c A6 c6 (stemAt c m i) s gb8 gb3 w5 _ HS256.out HMEM.out ?h8 ?h3 ?hr ?hb HPO.out).mono ?_; (case h8 => refine blk_put (cs := #[.int .i64 0]) ?_ 0 _ rfl; exact BK8.out); (case h3 => refine blk_far ?_ NB8.out _; exact BK38.out); (case hr => exact Kd.R_mono (Kd.R_far (p := ⟨gb8, 0, none⟩) HO8.out (fun _ hk => hk.2) _) (fun _ _ => trivial)); (case hb => exact below_set HB8.out GE8.out); rintro e w16 ⟨rfl, h8, h3, hR, hb⟩; have HOb := Aside0.mk hR; have HBb := Aside0.mk hb; clear hR hb))
          clear hany
          refine start_ (n := 8) (S := fun w' => w'.cell? ⟨gb8, 0, none⟩ = some (.int .i64 (s : Int)) ∧ w'.cell? ⟨gb3, 0, none⟩ = some (.func (.func g) #[] cb)) (ds := []) (tb_ 8 0) (by kernel_rfl) rfl rfl ⟨h8, h3⟩ (fun hHeld => ?_); refine with_tabW Stem_tab Stem_bits (fun HT_ HW_ => ?_)
          have HBc := Aside0.mk (below_drew1 HBb.out)
          have HOc := Aside0.mk (Kd.R_drew HOb.out)
          change w16.drew.cell? _ = _ at h8 h3
          generalize w16.drew = w10 at *
          refine tk_ 0 25 (tb_ 8 1) hHeld ?_
          refine tk_ 1 26 (tb_ 8 3) hHeld ?_
          refine tk_ 3 28 (tb_ 8 11) hHeld ?_
          refine on_ 2 27 (tb_ 8 15) (fun K hK => ?_)
          refine goesV_ (by rfl) rfl rfl rfl (args := #[.int .i64 (s : Int)]) (by (try simp only [List.map_toArray, List.map_cons, List.map_nil]); first | done | rfl) (eg _ _) ?_
          refine (HP.out _ s HS.out HBc.out).mono ?_
          rintro e w13 ⟨rfl, hb3⟩
          refine ⟨_, rfl, ?_⟩
          have HBd := Aside0.mk (below_step HBc.out hb3)
          have HOd := Aside0.mk (Kd.R_below HOc.out hb3)
          refine hK.out _ _ ⟨((hb3.cell (World.block_lt_of_cell? _ _ h8)).trans h8), ((hb3.cell (World.block_lt_of_cell? _ _ h3)).trans h3)⟩ (fun hHeld => ?_)
          clear hK K
          refine norm_ (a' := ?_) ?_ ?_
          rotate_left
          · show Act.put _ (some 27) _ = _
            simp only [Act.put, List.setIfInBounds_toArray, List.set_cons_zero, List.set_cons_succ, i64_w, i32_w]
            rfl
          refine pl_ 4 29 (tb_ 8 31) ?_
          refine pl_ 5 30 (tb_ 8 63) ?_
          refine pl_ 6 31 (tb_ 8 127) ?_
          refine pl_ 7 32 (tb_ 8 255) ?_
          refine done_ (done_of HT_.out (by kernel_rfl)) ?_
          go_wp2_with ((with_reducible refine gate_builtin (b := .append) (xs := #[.tmp 33, .tmp 35]) rfl ?_); at_builtin; refine Kd.R_append (Kd.int .i64) (w0 := w5) w5.heap.size rfl (.tmp 33) (.tmp 35) 27 3 (.int .i64 0) 8 rfl Tryz.underlying27 info3 rfl (by decide) (by omega) (.slice A6 (Pu.cast (stemAt c m i)).length c6) (Pu.cast (stemAt c m i)) (s : Int) [.int .i64 (s : Int)] (fun _ => True) (fun _ => False) rfl (by first | (go_simp; done) | (go_simp; rfl)) ?aP (fun _ hk => hk.elim) ?aF ?aO ?aB ?aS ?aL ?_; (case aP => exact rfl); (case aB => exact (by repeat (first | (with_reducible first | exact HBd.out | apply below_alloc | apply pw_below_drewN | apply below_drew1) | exact HBd.out))); (case aF => exact (fun _ _ => trivial)); (case aO => exact (by (with_reducible repeat (first | apply Kd.R_alloc | apply Kd.R_drewN | apply Kd.R_drew)); exact HOd.out)); (case aS => exact (below_size (by repeat (first | (with_reducible first | exact HBd.out | apply below_alloc | apply pw_below_drewN | apply below_drew1) | exact HBd.out)))); (case aL => have := HLE.out; omega); intro v9 w19 ho hb hg hat; have HOe := Aside0.mk ho; have HBe := Aside0.mk hb; clear ho hb hg hat)
          go_roundg (N - i)
          case measure => omega
          case rel => exact ⟨i + 1, by first | rfl | go_num | (congr 1; omega), by omega, by omega, ⟨by rw [HN.out]; exact HOe.out⟩, ⟨HBe.out⟩⟩
    · have hltz : ((i : Int) < (N : Int)) = False := eq_false (by omega)
      have HI : Aside0 (stemAt c m i = Pu.stemL c (stOut m)) := ⟨HALLS.out i (by omega)⟩
      obtain ⟨A6, c6, e6⟩ := Kd.R_slice HO.out
      subst e6
      have HRC : Aside0 ((Kd.int .i64).R 3 wr w5.heap.size (fun _ => True) (.slice A6 (Pu.cast (stemAt c m i)).length c6) (Pu.cast (stemAt c m i))) := ⟨HO.out⟩
      have HBA := Aside0.mk (below_step HB5.out HB.out)
      have HSZ := Aside0.mk (below_size HBA.out)
      rw [HI.out] at HRC ⊢
      have HLEC := Aside0.mk (sortLec_all A6 c6 (Pu.stemL c (stOut m)) wr HQ.out HQN.out HRC.out (HTB.out.below HBA.out))
      go_wp2_with (go_at_call 208; refine (HLEC.out).mono ?_; rintro e w20 ⟨v, rfl, hR, hb⟩; have HOz := Aside0.mk (Kd.R_lower hR HSZ.out); have HBz := Aside0.mk (below_step HBA.out hb); clear hR hb)
      go_ret
      exact ⟨_, rfl, by rw [← HPS.out]; exact HOz.out, HBz.out⟩
def impl_ShortRules_stem0.f (a0 : Int) (l1 : List S48) : Option (List Int) := if Pu.areV a0 l1 = true then some (Pu.cast (Pu.psN a0.toNat (Pu.clo (Pu.toR l1)))) else none
theorem impl_ShortRules_stem0.calls (a0 : Int) (A1 : Option Addr) (c1 : Nat) (l1 : List S48) (r : List Int) (w : World) (hr1 : Kd.C k48 w A1 l1.length l1) (hc1 : l1.length ≤ c1) (htab : Tab64 w) (h : impl_ShortRules_stem0.f a0 l1 = some r)
    {g : Nat} (hg : w.heap[g]? = some (.cells #[.slice A1 l1.length c1] 24 (0, 0))) :
    Calls Tryz.prog 154 #[.int .i64 a0, .func (.func 152) #[] #[.pointer (some ⟨g, 0, none⟩)]] w fun e w' => ∃ v0_ : Value, e = .returned (v0_) ∧ Kd.R (Kd.int .i64) 3 w' w.heap.size (fun _ => True) v0_ r ∧ Below w.heap.size w w' := by
  unfold impl_ShortRules_stem0.f at h
  by_cases hn : Pu.areV a0 l1 = true
  · rw [if_pos hn] at h
    obtain rfl := Option.some.inj h
    obtain ⟨m, rfl, hm, hl, hany, _⟩ := Pu.areV_nat hn
    have h256 : ∀ x, x < 2 ^ m → x < 256 := fun x hx => Pu.lt_256 (show m ≤ 8 by omega) hx
    have eg : ∀ args w, (callFunc 152 args).run Tryz.prog w = .ok (.enter 152 args) w := enters_of Tryz.func152 (by kernel_rfl) rfl
    rw [Int.toNat_natCast]
    exact stem_at 152 #[.pointer (some ⟨g, 0, none⟩)] eg (Pu.clo (Pu.toR l1)) m hm (fun x hx => (Pu.clo_spec (Pu.small_any hany) (h256 x hx)).1) w htab (fun W x hx hb => sr_closure l1 (by omega) hany A1 c1 w hr1 hc1 hg W x (h256 x hx) hb)
  · rw [if_neg hn] at h
    cases h
end Go.Proofs.YtafnamchckehmaaGreatDoor.Pr
namespace Go.Proofs.YtafnamchckehmaaGreatDoor.Pr
open Go.RowKit Go.Proofs.YtafnamchckehmaaGreatDoorW.PrintWords Go.Proofs.YtafnamchckehmaaGreatDoorW.PrintLast Go.Proofs.YtafnamchckehmaaGreatDoorW.PrintMore
attribute [local go_sem] max2_int min2_int max_two min_two max_three min_three max_four min_four
set_option linter.unusedVariables false
set_option linter.unusedSimpArgs false
theorem bnd49_ {α β : Type} {o : Option α} {f : α → Option β} {r : β} (h : o.bind f = some r) : ∃ a, Aside0 (o = some a) ∧ f a = some r := by
 obtain ⟨a, h1, h2⟩ := Option.bind_eq_some_iff.mp h
 exact ⟨a, ⟨h1⟩, h2⟩
theorem q49_2 {P : Prop} (h : P := by repeat (first | (with_reducible first | exact HB.out | apply below_alloc | apply pw_below_drewN | apply below_drew1 | refine below_set ?_ GE481.out) | exact HB.out)) : P := h
theorem q49_5 {P : Prop} (h : P := by (with_reducible repeat (first | refine blk_drewN ?_ _ | refine blk_drew ?_ | refine blk_alloc ?_ _)); exact BK481.out) : P := h
def impl_ShortRules.f (a0 : Int) (l1 : List (S48)) : Option ((List (S48)) × Bool) := (impl_AreRules.f a0 l1).bind fun t482 => (if t482 = true then ((impl_ShortRules_stem0.f a0 l1).bind fun t483 => ((impl_ShortRules_rulesTo0.f t483 l1).bind fun t486 => (some (t486, true)))) else (some (([] : List (S48)), false)))
set_option maxHeartbeats 40000000 in
set_option maxRecDepth 100000 in
theorem impl_ShortRules.calls (a0 : Int) (A1 : Option Addr) (c1 : Nat) (l1 : List (S48)) (r1 : List (S48)) (r2 : Bool) (w : World) (hr1 : Kd.C k48 w A1 l1.length l1) (hc1 : l1.length ≤ c1) (htab : Tab64 w) (h : impl_ShortRules.f a0 l1 = some (r1, r2)) :
  Calls Tryz.prog 36 #[.int .i64 a0, .slice A1 l1.length c1] w fun e w' => ∃ v0_ : Value, e = .returned (.tuple #[v0_, .bool r2]) ∧ Kd.R k48 48 w' w.heap.size (fun _ => True) v0_ r1 ∧ Below w.heap.size w w' := by
 have HTB := Aside0.mk htab; clear htab; have HR1 := Aside0.mk hr1; have HC1 := Aside0.mk hc1; clear hr1 hc1; have HB := Aside0.mk (Below.refl w.heap.size w); have H := h; clear h; unfold impl_ShortRules.f at H; obtain ⟨t482, A3, H⟩ := bnd49_ H
 by_cases c4 : t482 = true
 ·
  subst c4; rw [if_pos rfl] at H; obtain ⟨t483, A5, H⟩ := bnd49_ H; obtain ⟨t486, A6, H⟩ := bnd49_ H
  simp only [Option.some.injEq, Prod.mk.injEq] at H
  obtain ⟨rfl, rfl⟩ := H
  go_enter Tryz.func36, Tryz.ntmps36
  go_wp2_with ((with_reducible refine gw_ rfl ?_); first | (refine be_ 3 #[.slice A1 l1.length c1] 24 ?_; intro gb481 hg w7 hbox hb; have n_ := ac_ (below_step s1_ hb) <| ac_ (hbox) <| ac_ ((gz_ w hg s1_)) <| Aside0.mk ((gz_ w hg s1_)); clear HB; obtain ⟨HB, BK481, GW481, GE481⟩ := n_; clear hb hbox hg; have hcz8_0 : w7.cell? ⟨gb481, 0, none⟩ = some (.slice A1 l1.length c1) := (blk_cell BK481.out 0).trans rfl; have hfz8_0 := blk_frozen BK481.out 0) | (refine gL_ 81 9 Tryz.func81 #[.int .i64 a0, .slice A1 l1.length c1] ?_; (with_reducible refine (impl_AreRules.calls a0 _ _ l1 true _ ?side1 ?side2 A3.out).mono ?_); (case side1 => exact s14_); (case side2 => exact HC1.out); rintro e w9 ⟨rfl, hb⟩; refine ⟨_, rfl, ?_⟩; have n_ := ac_ (blk_below (g := gb481) (o := .cells #[.slice A1 l1.length c1] 24 (0, 0)) q49_5 hb) <| Aside0.mk (below_step q49_2 hb); clear BK481 HB; obtain ⟨BK481, HB⟩ := n_; (try clear hb); have hcz10_0 : w9.cell? ⟨gb481, 0, none⟩ = some (.slice A1 l1.length c1) := (blk_cell BK481.out 0).trans rfl; have hfz10_0 := blk_frozen BK481.out 0) | (refine gL_ 154 14 Tryz.func154 #[.int .i64 a0, .func (.func 152) #[] #[.pointer (some ⟨gb481, 0, none⟩)]] ?_; (with_reducible refine (impl_ShortRules_stem0.calls a0 ?u4_1 ?u4_2 l1 t483 _ ?side1 ?side2 ?tab A5.out ?box0).mono ?_); (case tab => first | exact HTB.out | (refine Tab64.below HTB.out ?_; repeat (first | (with_reducible first | exact HB.out | apply below_alloc | apply pw_below_drewN | apply below_drew1 | refine below_set ?_ GE481.out) | exact HB.out)) | (repeat (first | exact HTB.out | apply Tab64.drewN | apply Tab64.drew | apply Tab64.alloc))); (case box0 => (with_reducible repeat (first | refine blk_drewN ?_ _ | refine blk_drew ?_ | refine blk_alloc ?_ _)); exact BK481.out); (case side1 => exact s14_); (case side2 => exact HC1.out); rintro e w11 ⟨v484, rfl, ho0, hb⟩; refine ⟨_, rfl, ?_⟩; have n_ := ac_ (Kd.R_lower ho0 (below_size q49_2)) <| ac_ (blk_below (g := gb481) (o := .cells #[.slice A1 l1.length c1] 24 (0, 0)) q49_5 hb) <| Aside0.mk (below_step q49_2 hb); clear BK481 HB; obtain ⟨HO485, BK481, HB⟩ := n_; (try clear hb ho0); obtain ⟨Ao12, co12, eo12⟩ := Kd.R_slice HO485.out; subst eo12) | (refine gL_ 153 16 Tryz.func153 #[.slice Ao12 t483.length co12, .func (.func 152) #[] #[.pointer (some ⟨gb481, 0, none⟩)]] ?_; (with_reducible refine (impl_ShortRules_rulesTo0.calls ?u5_1 ?u5_2 t483 ?u5_3 ?u5_4 l1 t486 _ ?side1 ?side2 ?side3 ?side4 A6.out ?box0).mono ?_); (case box0 => (with_reducible repeat (first | refine blk_drewN ?_ _ | refine blk_drew ?_ | refine blk_alloc ?_ _)); exact BK481.out); (case side1 => repeat (first | exact (Kd.R_reads' HO485.out).2.2 | (with_reducible refine Kd.C_alloc ?_ _) | (with_reducible refine Kd.C_drewN ?_ _) | (with_reducible refine Kd.C_drew ?_))); (case side2 => exact (Kd.R_reads' HO485.out).2.1); (case side3 => exact s14_); (case side4 => exact HC1.out); rintro e w13 ⟨v487, rfl, ho0, hb⟩; refine ⟨_, rfl, ?_⟩; have n_ := ac_ (Kd.R_below (by (with_reducible repeat (first | apply Kd.R_alloc | apply Kd.R_drewN | apply Kd.R_drew)); exact HO485.out) hb) <| ac_ (Kd.R_lower ho0 (below_size q49_2)) <| ac_ (blk_below (g := gb481) (o := .cells #[.slice A1 l1.length c1] 24 (0, 0)) q49_5 hb) <| Aside0.mk (below_step q49_2 hb); clear HO485 BK481 HB; obtain ⟨HO485, HO488, BK481, HB⟩ := n_; (try clear hb ho0)))
  go_ret2
  exact ⟨_, (by first | rfl | (simp [errW_none, errW_some] <;> rfl) | (simp [*, errW_none, errW_some] <;> rfl)), (by (with_reducible repeat (first | apply Kd.R_alloc | apply Kd.R_drewN | apply Kd.R_drew)); exact HO488.out), q49_2⟩
 ·
  replace c4 := Bool.eq_false_iff.mpr c4; subst c4
  rw [if_neg (show ¬ (false = true) by decide)] at H
  simp only [Option.some.injEq, Prod.mk.injEq] at H
  obtain ⟨rfl, rfl⟩ := H
  go_enter Tryz.func36, Tryz.ntmps36
  go_wp2_with ((with_reducible refine gw_ rfl ?_); first | (refine be_ 3 #[.slice A1 l1.length c1] 24 ?_; intro gb481 hg w14 hbox hb; have n_ := ac_ (below_step s1_ hb) <| ac_ (hbox) <| ac_ ((gz_ w hg s1_)) <| Aside0.mk ((gz_ w hg s1_)); clear HB; obtain ⟨HB, BK481, GW481, GE481⟩ := n_; clear hb hbox hg; have hcz15_0 : w14.cell? ⟨gb481, 0, none⟩ = some (.slice A1 l1.length c1) := (blk_cell BK481.out 0).trans rfl; have hfz15_0 := blk_frozen BK481.out 0) | (refine gL_ 81 9 Tryz.func81 #[.int .i64 a0, .slice A1 l1.length c1] ?_; (with_reducible refine (impl_AreRules.calls a0 _ _ l1 false _ ?side1 ?side2 A3.out).mono ?_); (case side1 => exact s14_); (case side2 => exact HC1.out); rintro e w16 ⟨rfl, hb⟩; refine ⟨_, rfl, ?_⟩; have n_ := ac_ (blk_below (g := gb481) (o := .cells #[.slice A1 l1.length c1] 24 (0, 0)) q49_5 hb) <| Aside0.mk (below_step q49_2 hb); clear BK481 HB; obtain ⟨BK481, HB⟩ := n_; (try clear hb)))
  go_ret2
  exact ⟨_, (by first | rfl | (simp [errW_none, errW_some] <;> rfl) | (simp [*, errW_none, errW_some] <;> rfl)), (by first | exact Kd.R_nil _ _ _ _ _ | exact Kd.N_nil _ _ _ _ _ | exact Kd.V_nil _ _ _ _ _ | exact Kd.Q_nil _ _ _ _ _ | exact Kd.S_nil _ _ _ _ _), q49_2⟩
end Go.Proofs.YtafnamchckehmaaGreatDoor.Pr
