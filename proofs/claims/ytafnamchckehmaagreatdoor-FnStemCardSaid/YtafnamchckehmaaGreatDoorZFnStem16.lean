/- Functions of the program as plain functions, proofs that their calls answer so, and plain laws: what the law needs. No condition beyond what each statement says. -/
import Derived.Test.YtafnamchckehmaaGreatDoorZFnStem15
namespace Go.Proofs.YtafnamchckehmaaGreatDoor.Pr
open Go.RowKit Go.Proofs.YtafnamchckehmaaGreatDoorW.PrintWords Go.Proofs.YtafnamchckehmaaGreatDoorW.PrintLast Go.Proofs.YtafnamchckehmaaGreatDoorW.PrintMore
open Go.Sort Go.Shelf
set_option linter.unusedVariables false
set_option linter.unusedSimpArgs false
theorem elN_le8 (x : Fin 256) : (Pu.elN x.val).length ≤ 8 := by
  rw [← pc_all x]
  unfold pc
  omega
theorem cmpC_val (x y : Fin 256) : impl_stem_1.f ((x.val : Nat) : Int) ((y.val : Nat) : Int) = some (cfC x y) := by
  unfold impl_stem_1.f
  rw [Pu.countI_val x.isLt, Option.bind_some, Pu.countI_val y.isLt, Option.bind_some]
  have h1 := elN_le8 x
  have h2 := elN_le8 y
  unfold cfC wrap64
  congr 1
  omega
set_option maxHeartbeats 1000000 in
theorem stable_at (g c : Nat) (m : Nat) (hm : m ≤ 6) (w0 w : World) (hb : Below w0.heap.size w0 w)
    (ho : (Kd.int .i64).R 3 w w0.heap.size (fun _ => True) (.slice (some ⟨g, 0, none⟩) (2 ^ m) c) (Pu.cast (Pu.allN m))) :
    Calls Tryz.prog 220 #[.slice (some ⟨g, 0, none⟩) (2 ^ m) c, .func (.func 221) #[] #[]] w fun e w' => e = .returned (.tuple #[]) ∧ (Kd.int .i64).R 3 w' w0.heap.size (fun _ => True) (.slice (some ⟨g, 0, none⟩) (2 ^ m) c) (Pu.cast (stOut m)) ∧ Below w0.heap.size w0 w' := by
  have hlenA : (Pu.allN m).length = 2 ^ m := Pu.allN_length (by omega)
  have hlenC : (Pu.cast (Pu.allN m)).length = 2 ^ m := by rw [Pu.cast_length, hlenA]
  have hpos : 0 < 2 ^ m := Nat.two_pow_pos m
  have h64 : 2 ^ m ≤ 256 := Pu.pow_256 (by omega)
  have hR : ∀ x ∈ Pu.allN m, x < 256 := fun x hx => by have := (Pu.mem_allN (by omega)).1 hx; omega
  rw [← hlenC] at ho
  obtain ⟨hg, _, hc, hmx, cur, hh, hs, ht⟩ := R_int_out ho (by omega)
  rw [hlenC] at hc ht ho
  have hD : (arrF (Pu.allN m)).size = 2 ^ m := (arrF_size _).trans hlenA
  have ht2 : cur.toList.take (arrF (Pu.allN m)).size = (arrF (Pu.allN m)).toList.map encF := by
    rw [hD, ht, map_encF]
    unfold arrF
    rw [map_fin8 hR]
  have hH : Holds encF w g 0 (arrF (Pu.allN m)) := holdsF (n := 0) (c := 0) hh (by omega) ht2
  have hblk : g < w.heap.size := (Array.getElem?_eq_some_iff.1 hh).1
  have eg : ∀ args w, (callFunc 221 args).run Tryz.prog w = .ok (.enter 221 args) w := enters_of Tryz.func221 (by kernel_rfl) rfl
  have hcmp : CmpLays1 Tryz.prog 221 #[] encF cfC g 0 (arrF (Pu.allN m)).size w := by
    intro m os dk _ x y
    refine (impl_stem_1.calls _ _ _ _ (cmpC_val x y)).mono ?_
    rintro e w' ⟨he, q, rfl⟩
    exact ⟨he, q, #[], by rw [grow_empty]⟩
  have h := sortStable_s encF cfC 221 #[] g 0 c (arrF (Pu.allN m)) w eg hcmp ⟨fun _ => rfl, hH, hblk⟩ (by omega)
  rw [hD] at h
  refine h.mono ?_
  rintro e w' ⟨rfl, n, os, rfl⟩
  have hL : (stab (ltOf cfC) (arrF (Pu.allN m))).toList.map (fun x => x.val) = stOut m := by rw [lt_cfC]; rfl
  have hd' : (stab (ltOf cfC) (arrF (Pu.allN m))).size = 2 ^ m := by
    have := congrArg List.length hL
    rw [List.length_map, (Pu.stOut_ok hm).2.1] at this
    simpa using this
  refine ⟨rfl, ?_, below_sortWorld encF hb hg hb.size⟩
  have hlenL : (Pu.cast (stOut m)).length = 2 ^ m := by rw [Pu.cast_length, (Pu.stOut_ok hm).2.1]
  rw [← hlenL]
  refine R_int_in hg (by omega) hmx (heap_sortWorld encF hh) (by rw [putCells_size]; exact hs) ?_
  rw [hlenL, ← hd', putCells_take encF (by omega), map_encF, hL]
end Go.Proofs.YtafnamchckehmaaGreatDoor.Pr
namespace Go.Proofs.YtafnamchckehmaaGreatDoor.Pr
open Go.RowKit Go.Proofs.YtafnamchckehmaaGreatDoorW.PrintWords Go.Proofs.YtafnamchckehmaaGreatDoorW.PrintLast Go.Proofs.YtafnamchckehmaaGreatDoorW.PrintMore
set_option linter.unusedVariables false
set_option linter.unusedSimpArgs false
theorem goesV_ {P : Program} {Q : Exit → Act → World → Prop} {ops : Array Oper} {oi : Oper} {N : Option Tmp} {a : Act} {w : World} {K : Act → World → Prop} {g : FuncId} {cb : Array Value} {x : Operand} {xs : Array Operand} {ts : Array TypeId} {args : Array Value}
    (hw : Region.wanted oi (yielded ops a.tmps) = true) (hN : oi.dst = N) (hop : oi.op = .call { callee := .value x, args := xs, argTypes := ts }) (hx : a.eval x = .func (.func g) #[] cb) (hargs : xs.map a.eval = args) (eg : (callFunc g (args ++ cb)).run P w = .ok (.enter g (args ++ cb)) w)
    (h : Calls P g (args ++ cb) w fun e w' => ∃ v, e = .returned v ∧ K (a.put N v) w') : if Region.wanted oi (yielded ops a.tmps) = true then Oper.wp P oi a w K Q else K (a.put N undef) w := by
  refine call_ g (args ++ cb) hw hN ?_ h
  unfold execOp
  simp [hop, resolve, Deferred.ofValue, invoke, hx, hargs, eg]
def preV (c : Nat → Nat) (s p : Nat) : Bool := decide (p ≠ s) && (Pu.sub p s && !Pu.sub (c p) s)
def Stem2_B : List Nat := [0, 0, 3, 7, 15, 15, 63, 127, 255, 511, 511, 2047, 511, 8191, 16383, 32767, 65535]
theorem Stem2_tab : rtab .any (opsOf Tryz.f224 1) = rtab .any (opsOf Tryz.f224 1) := rfl
theorem Stem2_bits : waitsOk (rtab .any (opsOf Tryz.f224 1)).2 Stem2_B = true := by kernel_rfl
set_option maxHeartbeats 40000000 in
set_option maxRecDepth 100000 in
theorem stem2_calls (g : Nat) (cb : Array Value) (eg : ∀ args w, (callFunc g args).run Tryz.prog w = .ok (.enter g args) w) (c : Nat → Nat) (b8 b3 s p : Nat) (hs : s < 256) (hp : p < 256) (hcp : c p < 256) (W : World)
    (h8 : W.cell? ⟨b8, 0, none⟩ = some (.int .i64 (s : Int))) (h3 : W.cell? ⟨b3, 0, none⟩ = some (.func (.func g) #[] cb))
    (hc : ∀ W', Below W.heap.size W W' → Calls Tryz.prog g (#[.int .i64 (p : Int)] ++ cb) W' fun e w' => e = .returned (.int .i64 ((c p : Nat) : Int)) ∧ Below W'.heap.size W' w') :
    Calls Tryz.prog 224 #[.int .i64 (p : Int), .pointer (some ⟨b8, 0, none⟩), .pointer (some ⟨b3, 0, none⟩)] W fun e w' => e = .returned (.bool (preV c s p)) ∧ Below W.heap.size W w' := by
  have K1 : Aside0 (impl_inSet.f (p : Int) (s : Int) = some (Pu.sub p s)) := ⟨Pu.inS_val hp hs⟩
  have K2 : Aside0 (impl_inSet.f ((c p : Nat) : Int) (s : Int) = some (Pu.sub (c p) s)) := ⟨Pu.inS_val hcp hs⟩
  have HC := Aside0.mk hc
  clear hc hs hp hcp
  by_cases hne : p = s
  · have e : Aside0 (preV c s p = false) := ⟨by unfold preV; rw [decide_eq_false (fun h => h hne)]; rfl⟩
    have hz1 : (((p : Nat) : Int) == ((s : Nat) : Int)) = true := by rw [hne]; simp
    have hz2 : (((p : Nat) : Int) != ((s : Nat) : Int)) = false := by rw [hne]; simp
    have hz3 : (((p : Nat) : Int) = ((s : Nat) : Int)) = True := eq_true (by rw [hne])
    have hz4 : (p = s) = True := eq_true hne
    have hz5 : (p == s) = true := by rw [hne]; simp
    have hz6 : (p != s) = false := by rw [hne]; simp
    clear hne
    go_enter Tryz.func224, Tryz.ntmps224
    go_wp2_with fail
    refine start_ (n := 17) (S := fun w' => w'.cell? ⟨b8, 0, none⟩ = some (.int .i64 (s : Int)) ∧ w'.cell? ⟨b3, 0, none⟩ = some (.func (.func g) #[] cb)) (ds := []) (tb_ 17 0) (by kernel_rfl) rfl rfl ⟨h8, h3⟩ (fun hHeld => ?_); refine with_tabW Stem2_tab Stem2_bits (fun HT_ HW_ => ?_)
    have HB1 : Aside0 (Below W.heap.size W W.drew) := Aside0.mk (below_drew1 (Below.refl _ _))
    change W.drew.cell? _ = _ at h8 h3
    generalize W.drew = w10 at *
    refine pl_ 0 5 (tb_ 17 1) ?_
    refine tk_ 1 6 (tb_ 17 3) hHeld ?_
    refine pl_ 2 7 (tb_ 17 7) ?_
    refine pl_ 3 8 (tb_ 17 15) ?_
    refine pr_ 4 9 (tb_ 17 31) ?_
    refine pr_ 5 10 (tb_ 17 63) ?_
    refine pr_ 6 11 (tb_ 17 127) ?_
    refine pl_ 7 12 (tb_ 17 255) ?_
    refine pl_ 8 13 (tb_ 17 511) ?_
    refine pr_ 9 14 (tb_ 17 1023) ?_
    refine pr_ 10 15 (tb_ 17 2047) ?_
    refine pr_ 11 16 (tb_ 17 4095) ?_
    refine pr_ 12 17 (tb_ 17 8191) ?_
    refine pr_ 13 18 (tb_ 17 16383) ?_
    refine pr_ 14 19 (tb_ 17 32767) ?_
    refine pl_ 15 20 (tb_ 17 65535) ?_
    refine pl_ 16 4 (tb_ 17 131071) ?_
    refine done_ (done_of HT_.out (by kernel_rfl)) ?_
    go_wp2
    go_ret
    exact ⟨by rw [e.out]; rfl, HB1.out⟩
  · have hz1 : (((p : Nat) : Int) == ((s : Nat) : Int)) = false := beq_eq_false_iff_ne.mpr (by omega)
    have hz2 : (((p : Nat) : Int) != ((s : Nat) : Int)) = true := bne_iff_ne.mpr (by omega)
    have hz3 : (((p : Nat) : Int) = ((s : Nat) : Int)) = False := eq_false (by omega)
    have hz4 : (p = s) = False := eq_false hne
    have hz5 : (p == s) = false := beq_eq_false_iff_ne.mpr hne
    have hz6 : (p != s) = true := bne_iff_ne.mpr hne
    have hd : Aside0 (decide (p ≠ s) = true) := ⟨decide_eq_true hne⟩
    clear hne
    cases hsub : Pu.sub p s with
    | false =>
      have e : Aside0 (preV c s p = false) := ⟨by unfold preV; rw [hsub]; simp⟩
      rw [hsub] at K1
      clear hsub
      go_enter Tryz.func224, Tryz.ntmps224
      go_wp2_with fail
      refine start_ (n := 17) (S := fun w' => w'.cell? ⟨b8, 0, none⟩ = some (.int .i64 (s : Int)) ∧ w'.cell? ⟨b3, 0, none⟩ = some (.func (.func g) #[] cb)) (ds := []) (tb_ 17 0) (by kernel_rfl) rfl rfl ⟨h8, h3⟩ (fun hHeld => ?_); refine with_tabW Stem2_tab Stem2_bits (fun HT_ HW_ => ?_)
      have HB1 : Aside0 (Below W.heap.size W W.drew) := Aside0.mk (below_drew1 (Below.refl _ _))
      change W.drew.cell? _ = _ at h8 h3
      generalize W.drew = w10 at *
      refine pl_ 0 5 (tb_ 17 1) ?_
      refine tk_ 1 6 (tb_ 17 3) hHeld ?_
      refine pl_ 2 7 (tb_ 17 7) ?_
      refine pl_ 3 8 (tb_ 17 15) ?_
      refine pl_ 4 9 (tb_ 17 31) ?_
      refine tk_ 5 10 (tb_ 17 63) hHeld ?_
      refine on_ 6 11 (tb_ 17 127) (fun K hK => ?_)
      refine goes_ Tryz.func141 (by kernel_rfl) rfl #[.int .i64 (p : Int), .int .i64 (s : Int)] (by rfl) rfl rfl (by (try simp only [List.map_toArray, List.map_cons, List.map_nil]); first | done | rfl) ?_
      with_reducible refine (impl_inSet.calls _ _ _ _ K1.out).mono ?_
      rintro e w12 ⟨rfl, hd⟩
      refine ⟨_, rfl, ?_⟩
      have HB2 := Aside0.mk (below_step HB1.out hd.below)
      have hb2 := hd.below
      clear hd
      refine hK.out _ _ ⟨((hb2.cell (World.block_lt_of_cell? _ _ h8)).trans h8), ((hb2.cell (World.block_lt_of_cell? _ _ h3)).trans h3)⟩ (fun hHeld => ?_)
      clear hK K
      refine norm_ (a' := ?_) ?_ ?_
      rotate_left
      · show Act.put _ (some 11) _ = _
        simp only [Act.put, List.setIfInBounds_toArray, List.set_cons_zero, List.set_cons_succ, i64_w, i32_w]
        rfl
      refine pl_ 7 12 (tb_ 17 255) ?_
      refine pl_ 8 13 (tb_ 17 511) ?_
      refine pr_ 9 14 (tb_ 17 1023) ?_
      refine pr_ 10 15 (tb_ 17 2047) ?_
      refine pr_ 11 16 (tb_ 17 4095) ?_
      refine pr_ 12 17 (tb_ 17 8191) ?_
      refine pr_ 13 18 (tb_ 17 16383) ?_
      refine pr_ 14 19 (tb_ 17 32767) ?_
      refine pl_ 15 20 (tb_ 17 65535) ?_
      refine pl_ 16 4 (tb_ 17 131071) ?_
      refine done_ (done_of HT_.out (by kernel_rfl)) ?_
      go_wp2
      go_ret
      exact ⟨by rw [e.out]; rfl, HB2.out⟩
    | true =>
      have e : Aside0 (preV c s p = !Pu.sub (c p) s) := ⟨by unfold preV; rw [hsub, hd.out]; simp⟩
      rw [hsub] at K1
      clear hsub hd
      go_enter Tryz.func224, Tryz.ntmps224
      go_wp2_with fail
      refine start_ (n := 17) (S := fun w' => w'.cell? ⟨b8, 0, none⟩ = some (.int .i64 (s : Int)) ∧ w'.cell? ⟨b3, 0, none⟩ = some (.func (.func g) #[] cb)) (ds := []) (tb_ 17 0) (by kernel_rfl) rfl rfl ⟨h8, h3⟩ (fun hHeld => ?_); refine with_tabW Stem2_tab Stem2_bits (fun HT_ HW_ => ?_)
      have HB1 : Aside0 (Below W.heap.size W W.drew) := Aside0.mk (below_drew1 (Below.refl _ _))
      change W.drew.cell? _ = _ at h8 h3
      generalize W.drew = w10 at *
      refine pl_ 0 5 (tb_ 17 1) ?_
      refine tk_ 1 6 (tb_ 17 3) hHeld ?_
      refine pl_ 2 7 (tb_ 17 7) ?_
      refine pl_ 3 8 (tb_ 17 15) ?_
      refine pl_ 4 9 (tb_ 17 31) ?_
      refine tk_ 5 10 (tb_ 17 63) hHeld ?_
      refine on_ 6 11 (tb_ 17 127) (fun K hK => ?_)
      refine goes_ Tryz.func141 (by kernel_rfl) rfl #[.int .i64 (p : Int), .int .i64 (s : Int)] (by rfl) rfl rfl (by (try simp only [List.map_toArray, List.map_cons, List.map_nil]); first | done | rfl) ?_
      with_reducible refine (impl_inSet.calls _ _ _ _ K1.out).mono ?_
      rintro e w12 ⟨rfl, hd⟩
      refine ⟨_, rfl, ?_⟩
      have HB2 := Aside0.mk (below_step HB1.out hd.below)
      have hb2 := hd.below
      clear hd
      refine hK.out _ _ ⟨((hb2.cell (World.block_lt_of_cell? _ _ h8)).trans h8), ((hb2.cell (World.block_lt_of_cell? _ _ h3)).trans h3)⟩ (fun hHeld => ?_)
      clear hK K
      refine norm_ (a' := ?_) ?_ ?_
      rotate_left
      · show Act.put _ (some 11) _ = _
        simp only [Act.put, List.setIfInBounds_toArray, List.set_cons_zero, List.set_cons_succ, i64_w, i32_w]
        rfl
      refine pl_ 7 12 (tb_ 17 255) ?_
      refine pl_ 8 13 (tb_ 17 511) ?_
      refine tk_ 9 14 (tb_ 17 1023) hHeld ?_
      refine pl_ 10 15 (tb_ 17 2047) ?_
      refine tk_ 12 17 (tb_ 17 6143) hHeld ?_
      refine on_ 11 16 (tb_ 17 8191) (fun K hK => ?_)
      refine goesV_ (by rfl) rfl rfl rfl (args := #[.int .i64 (p : Int)]) (by (try simp only [List.map_toArray, List.map_cons, List.map_nil]); first | done | rfl) (eg _ _) ?_
      refine (HC.out _ HB2.out).mono ?_
      rintro e w13 ⟨rfl, hb3⟩
      refine ⟨_, rfl, ?_⟩
      have HB3 := Aside0.mk (below_step HB2.out hb3)
      refine hK.out _ _ ⟨((hb3.cell (World.block_lt_of_cell? _ _ ((hb2.cell (World.block_lt_of_cell? _ _ h8)).trans h8))).trans ((hb2.cell (World.block_lt_of_cell? _ _ h8)).trans h8)), ((hb3.cell (World.block_lt_of_cell? _ _ ((hb2.cell (World.block_lt_of_cell? _ _ h3)).trans h3))).trans ((hb2.cell (World.block_lt_of_cell? _ _ h3)).trans h3))⟩ (fun hHeld => ?_)
      clear hK K
      refine norm_ (a' := ?_) ?_ ?_
      rotate_left
      · show Act.put _ (some 16) _ = _
        simp only [Act.put, List.setIfInBounds_toArray, List.set_cons_zero, List.set_cons_succ, i64_w, i32_w]
        rfl
      refine on_ 13 18 (tb_ 17 16383) (fun K hK => ?_)
      refine goes_ Tryz.func141 (by kernel_rfl) rfl #[.int .i64 ((c p : Nat) : Int), .int .i64 (s : Int)] (by rfl) rfl rfl (by (try simp only [List.map_toArray, List.map_cons, List.map_nil]); first | done | rfl) ?_
      with_reducible refine (impl_inSet.calls _ _ _ _ K2.out).mono ?_
      rintro e w14 ⟨rfl, hd⟩
      refine ⟨_, rfl, ?_⟩
      have HB4 := Aside0.mk (below_step HB3.out hd.below)
      have hb4 := hd.below
      clear hd
      refine hK.out _ _ ⟨((hb4.cell (World.block_lt_of_cell? _ _ ((hb3.cell (World.block_lt_of_cell? _ _ ((hb2.cell (World.block_lt_of_cell? _ _ h8)).trans h8))).trans ((hb2.cell (World.block_lt_of_cell? _ _ h8)).trans h8)))).trans ((hb3.cell (World.block_lt_of_cell? _ _ ((hb2.cell (World.block_lt_of_cell? _ _ h8)).trans h8))).trans ((hb2.cell (World.block_lt_of_cell? _ _ h8)).trans h8))), ((hb4.cell (World.block_lt_of_cell? _ _ ((hb3.cell (World.block_lt_of_cell? _ _ ((hb2.cell (World.block_lt_of_cell? _ _ h3)).trans h3))).trans ((hb2.cell (World.block_lt_of_cell? _ _ h3)).trans h3)))).trans ((hb3.cell (World.block_lt_of_cell? _ _ ((hb2.cell (World.block_lt_of_cell? _ _ h3)).trans h3))).trans ((hb2.cell (World.block_lt_of_cell? _ _ h3)).trans h3)))⟩ (fun hHeld => ?_)
      clear hK K
      refine norm_ (a' := ?_) ?_ ?_
      rotate_left
      · show Act.put _ (some 18) _ = _
        simp only [Act.put, List.setIfInBounds_toArray, List.set_cons_zero, List.set_cons_succ, i64_w, i32_w]
        rfl
      refine pl_ 14 19 (tb_ 17 32767) ?_
      refine pl_ 15 20 (tb_ 17 65535) ?_
      refine pl_ 16 4 (tb_ 17 131071) ?_
      refine done_ (done_of HT_.out (by kernel_rfl)) ?_
      go_wp2
      go_ret
      exact ⟨by rw [e.out]; rfl, HB4.out⟩
set_option maxHeartbeats 40000000
set_option maxRecDepth 100000
def stemAt (c : Nat → Nat) (m i : Nat) : List Nat := ((stOut m).take i).foldl (Pu.stemStep c) []
theorem stemAt_succ {c : Nat → Nat} {m i s : Nat} (h : (stOut m)[i]? = some s) : stemAt c m (i + 1) = Pu.stemStep c (stemAt c m i) s := by
  unfold stemAt
  rw [List.take_add_one, h, List.foldl_append]
  rfl
theorem stemAt_all (c : Nat → Nat) {m : Nat} (hm : m ≤ 6) {i : Nat} (hi : 2 ^ m ≤ i) : stemAt c m i = Pu.stemL c (stOut m) := by
  unfold stemAt
  rw [List.take_of_length_le (by rw [(Pu.stOut_ok hm).2.1]; exact hi)]
  rfl
theorem mem_foldl_stem {c : Nat → Nat} : ∀ (l out : List Nat) (p : Nat), p ∈ l.foldl (Pu.stemStep c) out → p ∈ out ∨ p ∈ l
  | [], out, p, h => Or.inl h
  | s :: l, out, p, h => by
    rw [List.foldl_cons] at h
    rcases mem_foldl_stem l _ p h with h1 | h1
    · unfold Pu.stemStep at h1
      split at h1
      · rcases List.mem_append.1 h1 with h2 | h2
        · exact Or.inl h2
        · rw [List.mem_singleton] at h2
          exact Or.inr (h2 ▸ List.mem_cons_self)
      · exact Or.inl h1
    · exact Or.inr (List.mem_cons_of_mem _ h1)
theorem len_foldl_stem {c : Nat → Nat} : ∀ (l out : List Nat), (l.foldl (Pu.stemStep c) out).length ≤ out.length + l.length
  | [], out => Nat.le_refl _
  | s :: l, out => by
    rw [List.foldl_cons, List.length_cons]
    refine Nat.le_trans (len_foldl_stem l _) ?_
    unfold Pu.stemStep
    split
    · rw [List.length_append, List.length_singleton]; omega
    · omega
theorem stemAt_lt {c : Nat → Nat} {m i : Nat} (hm : m ≤ 6) {p : Nat} (h : p ∈ stemAt c m i) : p < 2 ^ m := by
  rcases mem_foldl_stem _ _ p h with h1 | h1
  · cases h1
  · exact (Pu.stOut_mem hm).1 (List.mem_of_mem_take h1)
theorem stemAt_len (c : Nat → Nat) (m i : Nat) : (stemAt c m i).length ≤ i := by
  have := len_foldl_stem (c := c) ((stOut m).take i) []
  rw [List.length_nil, List.length_take] at this
  unfold stemAt
  omega
theorem free_any (c : Nat → Nat) (o : List Nat) (s : Nat) : Pu.freeB c o s = !o.any (preV c s) := rfl
theorem stOut_nodup {m : Nat} (hm : m ≤ 6) : (stOut m).Nodup := by
  rw [List.nodup_iff_count]
  intro a
  refine Classical.byContradiction fun hn => ?_
  have h1 : a ∈ stOut m := List.count_pos_iff.1 (by omega)
  have h3 : (List.range (2 ^ m)).length ≤ ((stOut m).erase a).length := List.nodup_range.length_le_of_subset fun y hy => by
    have hy' := (Pu.stOut_mem hm).2 (List.mem_range.1 hy)
    by_cases e : y = a
    · subst e
      exact List.count_pos_iff.1 (by rw [List.count_erase_self]; omega)
    · exact (List.mem_erase_of_ne e).2 hy'
  rw [List.length_range, List.length_erase_of_mem h1, (Pu.stOut_ok hm).2.1] at h3
  have := Nat.two_pow_pos m
  omega
theorem addr0 (gl i : Nat) : (Addr.add ⟨gl, 0, none⟩ (i : Int).toNat) = ⟨gl, i, none⟩ := by
  rw [Int.toNat_natCast]
  unfold Addr.add
  split
  · next h => rw [h]
  · simp
theorem any_cast (c : Nat → Nat) (s : Nat) (o : List Nat) : (Pu.cast o).any (fun x => preV c s x.toNat) = o.any (preV c s) := by
  unfold Pu.cast
  rw [List.any_map]
  rfl
theorem contains_stem (g : Nat) (cb : Array Value) (eg : ∀ args w, (callFunc g args).run Tryz.prog w = .ok (.enter g args) w) (c : Nat → Nat) (A : Option Addr) (cc : Nat) (o : List Nat) (s b8 b3 : Nat) (w5 W : World) (hs : s < 256) (ho : ∀ p ∈ o, p < 256 ∧ c p < 256)
    (h8 : W.heap[b8]? = some (.cells #[.int .i64 (s : Int)] 3 (0, 0))) (h3 : W.heap[b3]? = some (.cells #[.func (.func g) #[] cb] 73 (0, 0)))
    (hR : (Kd.int .i64).R 3 W w5.heap.size (fun _ => True) (.slice A (Pu.cast o).length cc) (Pu.cast o)) (hB : Below w5.heap.size w5 W)
    (hp : ∀ (W' : World) (p : Nat), p ∈ o → Below w5.heap.size w5 W' → Calls Tryz.prog g (#[.int .i64 (p : Int)] ++ cb) W' fun e w' => e = .returned (.int .i64 ((c p : Nat) : Int)) ∧ Below W'.heap.size W' w') :
    Calls Tryz.prog 223 #[.slice A (Pu.cast o).length cc, .func (.func 224) #[] #[.pointer (some ⟨b8, 0, none⟩), .pointer (some ⟨b3, 0, none⟩)]] W fun e w' =>
      e = .returned (.bool (o.any (preV c s))) ∧ w'.cell? ⟨b8, 0, none⟩ = some (.int .i64 (s : Int)) ∧ w'.cell? ⟨b3, 0, none⟩ = some (.func (.func g) #[] cb) ∧ (Kd.int .i64).R 3 w' w5.heap.size (fun _ => True) (.slice A (Pu.cast o).length cc) (Pu.cast o) ∧ Below w5.heap.size w5 w' := by
  have eg2 : ∀ args w, (callFunc 224 args).run Tryz.prog w = .ok (.enter 224 args) w := enters_of Tryz.func224 (by kernel_rfl) rfl
  refine (ContainsFunc_mem 224 #[.pointer (some ⟨b8, 0, none⟩), .pointer (some ⟨b3, 0, none⟩)] eg2 A cc (Pu.cast o) (fun x => preV c s x.toNat) W (Kd.R_reads' hR).2.2 ?_).mono ?_
  · intro W' x hx hb
    obtain ⟨p, hpo, rfl⟩ := List.mem_map.1 (show x ∈ o.map fun (x : Nat) => (x : Int) from hx)
    obtain ⟨h1, h2⟩ := ho p hpo
    rw [show (#[.int .i64 (p : Int)] ++ #[.pointer (some ⟨b8, 0, none⟩), .pointer (some ⟨b3, 0, none⟩)] : Array Value) = #[.int .i64 (p : Int), .pointer (some ⟨b8, 0, none⟩), .pointer (some ⟨b3, 0, none⟩)] from rfl]
    exact stem2_calls g cb eg c b8 b3 s p hs h1 h2 W' ((blk_cell (blk_below h8 hb) 0).trans rfl) ((blk_cell (blk_below h3 hb) 0).trans rfl) (fun W2 hb2 => hp W2 p hpo (below_step (below_step hB hb) hb2))
  · rintro e w' ⟨rfl, hb⟩
    exact ⟨by rw [any_cast], (blk_cell (blk_below h8 hb) 0).trans rfl, (blk_cell (blk_below h3 hb) 0).trans rfl, Kd.R_below hR hb, below_step hB hb⟩
def Stem_B : List Nat := [0, 0, 3, 0, 15, 31, 63, 127]
theorem Stem_tab : rtab .any (opsOf Tryz.f154 8) = rtab .any (opsOf Tryz.f154 8) := rfl
theorem Stem_bits : waitsOk (rtab .any (opsOf Tryz.f154 8)).2 Stem_B = true := by kernel_rfl
theorem stem_at (g : Nat) (cb : Array Value) (eg : ∀ args w, (callFunc g args).run Tryz.prog w = .ok (.enter g args) w) (c : Nat → Nat) (m : Nat) (hm : m ≤ 6) (hcl : ∀ x, x < 2 ^ m → c x < 256) (w : World) (htab : Tab64 w)
    (hp : ∀ (W : World) (x : Nat), x < 2 ^ m → Below w.heap.size w W → Calls Tryz.prog g (#[.int .i64 (x : Int)] ++ cb) W fun e w' => e = .returned (.int .i64 ((c x : Nat) : Int)) ∧ Below W.heap.size W w') :
    Calls Tryz.prog 154 #[.int .i64 (m : Int), .func (.func g) #[] cb] w fun e w' => ∃ v0_ : Value, e = .returned (v0_) ∧ Kd.R (Kd.int .i64) 3 w' w.heap.size (fun _ => True) v0_ (Pu.cast (Pu.psN m c)) ∧ Below w.heap.size w w' := by
  obtain ⟨K, hK⟩ := Ev.rounds (Pu.all_val (show m ≤ 8 by omega))
  have HALL := Aside0.mk hK
  have HTB := Aside0.mk htab
  have h64 : 2 ^ m ≤ 256 := Pu.pow_256 (by omega)
  have hLL : (stOut m).length = 2 ^ m := (Pu.stOut_ok hm).2.1
  have HEL : Aside0 (∀ i : Nat, i < 2 ^ m → ∃ s, (stOut m)[i]? = some s ∧ rd (Pu.cast (stOut m)) (i : Int) = (s : Int) ∧ s < 2 ^ m) := ⟨fun i hi => by
    have h1 : (stOut m)[i]? = some ((stOut m)[i]'(by omega)) := List.getElem?_eq_getElem (by omega)
    refine ⟨_, h1, ?_, (Pu.stOut_mem hm).1 (List.getElem_mem _)⟩
    unfold rd Pu.cast
    rw [Int.toNat_natCast, List.getD_eq_getElem?_getD, List.getElem?_map, h1]
    rfl⟩
  have HSM : Aside0 (∀ i p, p ∈ stemAt c m i → p < 2 ^ m) := ⟨fun i p h => stemAt_lt hm h⟩
  have HALLS : Aside0 (∀ i, 2 ^ m ≤ i → stemAt c m i = Pu.stemL c (stOut m)) := ⟨fun i hi => stemAt_all c hm hi⟩
  have HQ : Aside0 (∀ x ∈ Pu.stemL c (stOut m), x < 256) := ⟨fun x hx => by have := ((Pu.stemL_mem c hm).1 hx).1; omega⟩
  have HQN : Aside0 ((Pu.stemL c (stOut m)).Nodup) := ⟨Pu.stemL_nodup c _ [] (stOut_nodup hm) List.nodup_nil fun _ _ h => by cases h⟩
  have HPS : Aside0 (Pu.lecR (Pu.stemL c (stOut m)) = Pu.psN m c) := ⟨Pu.lec_stemL c hm⟩
  have HLA : Aside0 ((Pu.cast (Pu.allN m)).length = 2 ^ m) := ⟨by rw [Pu.cast_length, Pu.allN_length (by omega)]⟩
  have HPOS : Aside0 (0 < (Pu.cast (Pu.allN m)).length) := ⟨by rw [HLA.out]; exact Nat.two_pow_pos m⟩
  have HLL : Aside0 ((Pu.cast (stOut m)).length = 2 ^ m) := ⟨by rw [Pu.cast_length, hLL]⟩
  have HST : Aside0 (∀ (gl c0 : Nat) (w3 W : World), Below w3.heap.size w3 W → (Kd.int .i64).R 3 W w3.heap.size (fun _ => True) (.slice (some ⟨gl, 0, none⟩) (2 ^ m) c0) (Pu.cast (Pu.allN m)) → Calls Tryz.prog 220 #[.slice (some ⟨gl, 0, none⟩) (2 ^ m) c0, .func (.func 221) #[] #[]] W fun e w' => e = .returned (.tuple #[]) ∧ (Kd.int .i64).R 3 w' w3.heap.size (fun _ => True) (.slice (some ⟨gl, 0, none⟩) (2 ^ m) c0) (Pu.cast (stOut m)) ∧ Below w3.heap.size w3 w') := ⟨fun gl c0 w3 W hb ho => stable_at gl c0 m hm w3 W hb ho⟩
  have HRD : Aside0 (∀ (gl c0 base : Nat) (W : World), (Kd.int .i64).R 3 W base (fun _ => True) (.slice (some ⟨gl, 0, none⟩) (2 ^ m) c0) (Pu.cast (stOut m)) → Kd.C (Kd.int .i64) W (some ⟨gl, 0, none⟩) (Pu.cast (stOut m)).length (Pu.cast (stOut m))) := ⟨fun gl c0 base W h => (Kd.R_reads' h).2.2⟩
  have HCL : Aside0 (∀ x, x < 2 ^ m → c x < 256) := ⟨hcl⟩
  have HP0 : Aside0 (∀ (W : World) (x : Nat), x < 2 ^ m → Below w.heap.size w W → Calls Tryz.prog g (#[.int .i64 (x : Int)] ++ cb) W fun e w' => e = .returned (.int .i64 ((c x : Nat) : Int)) ∧ Below W.heap.size W w') := ⟨hp⟩
  obtain ⟨N, hN⟩ : ∃ N, N = 2 ^ m := ⟨_, rfl⟩
  have HM : Aside0 (m ≤ 6) := ⟨hm⟩
  clear hK htab hLL hcl hp hm
  rw [← hN] at HEL HSM HALLS HLA HLL HST HRD HCL HP0 h64
  clear hN
  go_enter Tryz.func154, Tryz.ntmps154
  go_wp2_with (first | ((with_reducible refine gw_ rfl ?_); first | (refine be_ 3 #[.func (.func g) #[] cb] 73 ?_; intro gb3 hg w3 hbox hb; have HB3 := Aside0.mk hb; have BK3 := Aside0.mk hbox; clear hb hbox hg) | (refine rl_ (Kd.int .i64) 3 14 ?_; intro v6 w6 ho hb hg_ hnew_; clear hg_ hnew_; have HO6 := Aside0.mk ho; have HB6 := Aside0.mk hb; clear ho hb)) | (go_at_call 121; refine (impl_allSets.calls K (m : Int) (Pu.cast (Pu.allN m)) _ (HTB.out.below HB3.out) HALL.out).mono ?_; rintro e w4 ⟨v, rfl, hR, hb⟩; obtain ⟨gl, c0, hv, hgc⟩ := R_form_int hR HPOS.out; rw [HLA.out] at hv; subst hv; have HO4 := Aside0.mk hR; have HB4 := Aside0.mk hb; clear hR hb hgc) | (go_at_call 220; refine (HST.out gl c0 _ _ HB4.out HO4.out).mono ?_; rintro e w5 ⟨rfl, hR, hb⟩; have HC5 := Aside0.mk (HRD.out gl c0 _ _ hR); have HB5 := Aside0.mk (below_step HB3.out hb); have BK5 := Aside0.mk (blk_below BK3.out hb); clear hR hb HO4 HB4))
  have HP : Aside0 (∀ (W : World) (x : Nat), x < N → Below w5.heap.size w5 W → Calls Tryz.prog g (#[.int .i64 (x : Int)] ++ cb) W fun e w' => e = .returned (.int .i64 ((c x : Nat) : Int)) ∧ Below W.heap.size W w') := ⟨fun W x hx hb => HP0.out W x hx (below_step HB5.out hb)⟩
  go_loopg [6, 17] (N + 1) (fun kx s6 s17 W => ∃ (i : Nat), s17 = .int .i64 (i : Int) ∧ i ≤ N ∧ N - i < kx ∧ Aside0 ((Kd.int .i64).R 3 W w5.heap.size (fun _ => True) s6 (Pu.cast (stemAt c m i))) ∧ Aside0 (Below w5.heap.size w5 W))
  case atStart => exact ⟨0, rfl, by omega, by omega, HO6, HB6⟩
  case round =>
    clear HO6 HB6
    obtain ⟨i, rfl, hiN, hkx, HO, HB⟩ := hrel
    by_cases hlt : i < N
    · have hltz : ((i : Int) < (N : Int)) := by omega
      obtain ⟨s, hget, hrd, hsN⟩ := HEL.out i hlt
      have HS : Aside0 (s < N) := ⟨hsN⟩
      have HS256 : Aside0 (s < 256) := ⟨by omega⟩
      have HLE : Aside0 ((Pu.cast (stemAt c m i)).length + 1 ≤ 300) := ⟨by have := stemAt_len c m i; rw [Pu.cast_length]; omega⟩
      have HMEM : Aside0 (∀ p ∈ stemAt c m i, p < 256 ∧ c p < 256) := ⟨fun p hp => ⟨by have := HSM.out i p hp; omega, HCL.out p (HSM.out i p hp)⟩⟩
      have HPO : Aside0 (∀ (W' : World) (p : Nat), p ∈ stemAt c m i → Below w5.heap.size w5 W' → Calls Tryz.prog g (#[.int .i64 (p : Int)] ++ cb) W' fun e w' => e = .returned (.int .i64 ((c p : Nat) : Int)) ∧ Below W'.heap.size W' w') := ⟨fun W' p hp hb => HP.out W' p (HSM.out i p hp) hb⟩
      have HSTEP : Aside0 (stemAt c m (i + 1) = Pu.stemStep c (stemAt c m i) s) := ⟨stemAt_succ hget⟩
      clear hget hsN
      obtain ⟨ad, e, hx0⟩ := Kd.at_int HC5.out (i : Int) (by omega) (by rw [HLL.out]; exact hltz)
      cases e
      rw [hrd, addr0] at hx0
      clear hrd
      replace hx0 := (HB.out.cell (World.block_lt_of_cell? w5 _ hx0)).trans hx0
      have p0 : (0 ≤ (i : Int)) = True := eq_true (by omega)
      replace hltz := eq_true hltz
      by_cases hcs : c s = s
      · have HN : Aside0 (stemAt c m (i + 1) = stemAt c m i) := ⟨by rw [HSTEP.out]; unfold Pu.stemStep; rw [if_neg (by rw [decide_eq_false (fun h => h hcs)]; simp)]⟩
        have hz1 : (((c s : Nat) : Int) == ((s : Nat) : Int)) = true := by rw [hcs]; simp
        have hz2 : (((c s : Nat) : Int) != ((s : Nat) : Int)) = false := by rw [hcs]; simp
        have hz3 : (((c s : Nat) : Int) = ((s : Nat) : Int)) = True := eq_true (by rw [hcs])
        have hz4 : (c s = s) = True := eq_true hcs
        have hz5 : (c s == s) = true := by rw [hcs]; simp
        have hz6 : (c s != s) = false := by rw [hcs]; simp
        clear hcs HSTEP
        go_wp2_with (first | ((with_reducible refine gw_ rfl ?_); (refine be_ 8 #[.int .i64 0] 3 ?_; intro gb8 hg w14 hbox hb; have HO8 := Aside0.mk (Kd.R_below (Kd.R_elderB HO.out gb8 (Nat.le_of_eq hg.symm)) hb); have HB8 := Aside0.mk (below_step HB.out hb); have BK8 := Aside0.mk hbox; have BK38 := Aside0.mk (blk_below (blk_below BK5.out HB.out) hb); have GE8 := Aside0.mk (show w5.heap.size ≤ gb8 from by rw [hg]; exact below_size HB.out); have NB8 := Aside0.mk (show gb3 ≠ gb8 from by rw [hg]; exact Nat.ne_of_lt (blk_lt (blk_below BK5.out HB.out))); clear hb hbox hg; have hcz_0 : w14.cell? ⟨gb8, 0, none⟩ = some (.int .i64 0) := (blk_cell BK8.out 0).trans rfl; have hfz_0 := blk_frozen BK8.out 0; obtain ⟨A6, c6, e6⟩ := Kd.R_slice HO8.out; subst e6)) | (go_at_call 223; refine (contains_stem g cb eg c A6 c6 (stemAt c m i) s gb8 gb3 w5 _ HS256.out HMEM.out ?h8 ?h3 ?hr ?hb HPO.out).mono ?_; (case h8 => refine blk_put (cs := #[.int .i64 0]) ?_ 0 _ rfl; exact BK8.out); (case h3 => refine blk_far ?_ NB8.out _; exact BK38.out); (case hr => exact Kd.R_mono (Kd.R_far (p := ⟨gb8, 0, none⟩) HO8.out (fun _ hk => hk.2) _) (fun _ _ => trivial)); (case hb => exact below_set HB8.out GE8.out); rintro e w16 ⟨rfl, h8, h3, hR, hb⟩; have HOb := Aside0.mk hR; have HBb := Aside0.mk hb; clear hR hb))
        refine start_ (n := 8) (S := fun w' => w'.cell? ⟨gb8, 0, none⟩ = some (.int .i64 (s : Int)) ∧ w'.cell? ⟨gb3, 0, none⟩ = some (.func (.func g) #[] cb)) (ds := []) (tb_ 8 0) (by kernel_rfl) rfl rfl ⟨h8, h3⟩ (fun hHeld => ?_); refine with_tabW Stem_tab Stem_bits (fun HT_ HW_ => ?_)
        have HBc := Aside0.mk (below_drew1 HBb.out)
        have HOc := Aside0.mk (Kd.R_drew HOb.out)
        change w16.drew.cell? _ = _ at h8 h3
        generalize w16.drew = w10 at *
        refine tk_ 0 25 (tb_ 8 1) hHeld ?_
        refine tk_ 1 26 (tb_ 8 3) hHeld ?_
        refine tk_ 3 28 (tb_ 8 11) hHeld ?_
        refine on_ 2 27 (tb_ 8 15) (fun K hK => ?_)
        refine goesV_ (by rfl) rfl rfl rfl (args := #[.int .i64 (s : Int)]) (by (try simp only [List.map_toArray, List.map_cons, List.map_nil]); first | done | rfl) (eg _ _) ?_
        refine (HP.out _ s HS.out HBc.out).mono ?_
        rintro e w13 ⟨rfl, hb3⟩
        refine ⟨_, rfl, ?_⟩
        have HBd := Aside0.mk (below_step HBc.out hb3)
        have HOd := Aside0.mk (Kd.R_below HOc.out hb3)
        refine hK.out _ _ ⟨((hb3.cell (World.block_lt_of_cell? _ _ h8)).trans h8), ((hb3.cell (World.block_lt_of_cell? _ _ h3)).trans h3)⟩ (fun hHeld => ?_)
        clear hK K
        refine norm_ (a' := ?_) ?_ ?_
        rotate_left
        · show Act.put _ (some 27) _ = _
          simp only [Act.put, List.setIfInBounds_toArray, List.set_cons_zero, List.set_cons_succ, i64_w, i32_w]
          rfl
        refine pl_ 4 29 (tb_ 8 31) ?_
        refine pl_ 5 30 (tb_ 8 63) ?_
        refine pr_ 6 31 (tb_ 8 127) ?_
        refine pl_ 7 32 (tb_ 8 255) ?_
        refine done_ (done_of HT_.out (by kernel_rfl)) ?_
        go_wp2
        go_roundg (N - i)
        case measure => omega
        case rel => exact ⟨i + 1, by first | rfl | go_num | (congr 1; omega), by omega, by omega, ⟨by rw [HN.out]; exact HOd.out⟩, ⟨HBd.out⟩⟩
      · have hz1 : (((c s : Nat) : Int) == ((s : Nat) : Int)) = false := beq_eq_false_iff_ne.mpr (by omega)
        have hz2 : (((c s : Nat) : Int) != ((s : Nat) : Int)) = true := bne_iff_ne.mpr (by omega)
        have hz3 : (((c s : Nat) : Int) = ((s : Nat) : Int)) = False := eq_false (by omega)
        have hz4 : (c s = s) = False := eq_false hcs
        have hz5 : (c s == s) = false := beq_eq_false_iff_ne.mpr hcs
        have hz6 : (c s != s) = true := bne_iff_ne.mpr hcs
        have HCS : Aside0 (decide (c s ≠ s) = true) := ⟨decide_eq_true hcs⟩
        clear hcs
        cases hany : (stemAt c m i).any (preV c s) with
        | true =>
          have HN : Aside0 (stemAt c m (i + 1) = stemAt c m i) := ⟨by rw [HSTEP.out]; unfold Pu.stemStep; rw [if_neg (by rw [free_any, hany]; simp)]⟩
          clear HSTEP HCS
          go_wp2_with (first | ((with_reducible refine gw_ rfl ?_); (refine be_ 8 #[.int .i64 0] 3 ?_; intro gb8 hg w14 hbox hb; have HO8 := Aside0.mk (Kd.R_below (Kd.R_elderB HO.out gb8 (Nat.le_of_eq hg.symm)) hb); have HB8 := Aside0.mk (below_step HB.out hb); have BK8 := Aside0.mk hbox; have BK38 := Aside0.mk (blk_below (blk_below BK5.out HB.out) hb); have GE8 := Aside0.mk (show w5.heap.size ≤ gb8 from by rw [hg]; exact below_size HB.out); have NB8 := Aside0.mk (show gb3 ≠ gb8 from by rw [hg]; exact Nat.ne_of_lt (blk_lt (blk_below BK5.out HB.out))); clear hb hbox hg; have hcz_0 : w14.cell? ⟨gb8, 0, none⟩ = some (.int .i64 0) := (blk_cell BK8.out 0).trans rfl; have hfz_0 := blk_frozen BK8.out 0; obtain ⟨A6, c6, e6⟩ := Kd.R_slice HO8.out; subst e6)) | (go_at_call 223; refine (contains_stem g cb eg c A6 c6 (stemAt c m i) s gb8 gb3 w5 _ HS256.out HMEM.out ?h8 ?h3 ?hr ?hb HPO.out).mono ?_; (case h8 => refine blk_put (cs := #[.int .i64 0]) ?_ 0 _ rfl; exact BK8.out); (case h3 => refine blk_far ?_ NB8.out _; exact BK38.out); (case hr => exact Kd.R_mono (Kd.R_far (p := ⟨gb8, 0, none⟩) HO8.out (fun _ hk => hk.2) _) (fun _ _ => trivial)); (case hb => exact below_set HB8.out GE8.out); rintro e w16 ⟨rfl, h8, h3, hR, hb⟩; have HOb := Aside0.mk hR; have HBb := Aside0.mk hb; clear hR hb))
          clear hany
          refine start_ (n := 8) (S := fun w' => w'.cell? ⟨gb8, 0, none⟩ = some (.int .i64 (s : Int)) ∧ w'.cell? ⟨gb3, 0, none⟩ = some (.func (.func g) #[] cb)) (ds := []) (tb_ 8 0) (by kernel_rfl) rfl rfl ⟨h8, h3⟩ (fun hHeld => ?_); refine with_tabW Stem_tab Stem_bits (fun HT_ HW_ => ?_)
          have HBc := Aside0.mk (below_drew1 HBb.out)
          have HOc := Aside0.mk (Kd.R_drew HOb.out)
          change w16.drew.cell? _ = _ at h8 h3
          generalize w16.drew = w10 at *
          refine tk_ 0 25 (tb_ 8 1) hHeld ?_
          refine tk_ 1 26 (tb_ 8 3) hHeld ?_
          refine tk_ 3 28 (tb_ 8 11) hHeld ?_
          refine on_ 2 27 (tb_ 8 15) (fun K hK => ?_)
          refine goesV_ (by rfl) rfl rfl rfl (args := #[.int .i64 (s : Int)]) (by (try simp only [List.map_toArray, List.map_cons, List.map_nil]); first | done | rfl) (eg _ _) ?_
          refine (HP.out _ s HS.out HBc.out).mono ?_
          rintro e w13 ⟨rfl, hb3⟩
          refine ⟨_, rfl, ?_⟩
          have HBd := Aside0.mk (below_step HBc.out hb3)
          have HOd := Aside0.mk (Kd.R_below HOc.out hb3)
          refine hK.out _ _ ⟨((hb3.cell (World.block_lt_of_cell? _ _ h8)).trans h8), ((hb3.cell (World.block_lt_of_cell? _ _ h3)).trans h3)⟩ (fun hHeld => ?_)
          clear hK K
          refine norm_ (a' := ?_) ?_ ?_
          rotate_left
          · show Act.put _ (some 27) _ = _
            simp only [Act.put, List.setIfInBounds_toArray, List.set_cons_zero, List.set_cons_succ, i64_w, i32_w]
            rfl
          refine pl_ 4 29 (tb_ 8 31) ?_
          refine pl_ 5 30 (tb_ 8 63) ?_
          refine pl_ 6 31 (tb_ 8 127) ?_
          refine pl_ 7 32 (tb_ 8 255) ?_
          refine done_ (done_of HT_.out (by kernel_rfl)) ?_
          go_wp2
          go_roundg (N - i)
          case measure => omega
          case rel => exact ⟨i + 1, by first | rfl | go_num | (congr 1; omega), by omega, by omega, ⟨by rw [HN.out]; exact HOd.out⟩, ⟨HBd.out⟩⟩
        | false =>
          have HN : Aside0 (Pu.cast (stemAt c m (i + 1)) = Pu.cast (stemAt c m i) ++ [(s : Int)]) := ⟨by rw [HSTEP.out]; unfold Pu.stemStep; rw [if_pos (by rw [free_any, hany, HCS.out]; rfl)]; unfold Pu.cast; rw [List.map_append]; rfl⟩
          clear HSTEP HCS
          go_wp2_with (first | ((with_reducible refine gw_ rfl ?_); (refine be_ 8 #[.int .i64 0] 3 ?_; intro gb8 hg w14 hbox hb; have HO8 := Aside0.mk (Kd.R_below (Kd.R_elderB HO.out gb8 (Nat.le_of_eq hg.symm)) hb); have HB8 := Aside0.mk (below_step HB.out hb); have BK8 := Aside0.mk hbox; have BK38 := Aside0.mk (blk_below (blk_below BK5.out HB.out) hb); have GE8 := Aside0.mk (show w5.heap.size ≤ gb8 from by rw [hg]; exact below_size HB.out); have NB8 := Aside0.mk (show gb3 ≠ gb8 from by rw [hg]; exact Nat.ne_of_lt (blk_lt (blk_below BK5.out HB.out))); clear hb hbox hg; have hcz_0 : w14.cell? ⟨gb8, 0, none⟩ = some (.int .i64 0) := (blk_cell BK8.out 0).trans rfl; have hfz_0 := blk_frozen BK8.out 0; obtain ⟨A6, c6, e6⟩ := Kd.R_slice HO8.out; subst e6)) | (go_at_call 223; refine (contains_stem g cb eg c A6 c6 (stemAt c m i) s gb8 gb3 w5 _ HS256.out HMEM.out ?h8 ?h3 ?hr ?hb HPO.out).mono ?_; (case h8 => refine blk_put (cs := #[.int .i64 0]) ?_ 0 _ rfl; exact BK8.out); (case h3 => refine blk_far ?_ NB8.out _; exact BK38.out); (case hr => exact Kd.R_mono (Kd.R_far (p := ⟨gb8, 0, none⟩) HO8.out (fun _ hk => hk.2) _) (fun _ _ => trivial)); (case hb => exact below_set HB8.out GE8.out); rintro e w16 ⟨rfl, h8, h3, hR, hb⟩; have HOb := Aside0.mk hR; have HBb := Aside0.mk hb; clear hR hb))
          clear hany
          refine start_ (n := 8) (S := fun w' => w'.cell? ⟨gb8, 0, none⟩ = some (.int .i64 (s : Int)) ∧ w'.cell? ⟨gb3, 0, none⟩ = some (.func (.func g) #[] cb)) (ds := []) (tb_ 8 0) (by kernel_rfl) rfl rfl ⟨h8, h3⟩ (fun hHeld => ?_); refine with_tabW Stem_tab Stem_bits (fun HT_ HW_ => ?_)
          have HBc := Aside0.mk (below_drew1 HBb.out)
          have HOc := Aside0.mk (Kd.R_drew HOb.out)
          change w16.drew.cell? _ = _ at h8 h3
          generalize w16.drew = w10 at *
          refine tk_ 0 25 (tb_ 8 1) hHeld ?_
          refine tk_ 1 26 (tb_ 8 3) hHeld ?_
          refine tk_ 3 28 (tb_ 8 11) hHeld ?_
          refine on_ 2 27 (tb_ 8 15) (fun K hK => ?_)
          refine goesV_ (by rfl) rfl rfl rfl (args := #[.int .i64 (s : Int)]) (by (try simp only [List.map_toArray, List.map_cons, List.map_nil]); first | done | rfl) (eg _ _) ?_
          refine (HP.out _ s HS.out HBc.out).mono ?_
          rintro e w13 ⟨rfl, hb3⟩
          refine ⟨_, rfl, ?_⟩
          have HBd := Aside0.mk (below_step HBc.out hb3)
          have HOd := Aside0.mk (Kd.R_below HOc.out hb3)
          refine hK.out _ _ ⟨((hb3.cell (World.block_lt_of_cell? _ _ h8)).trans h8), ((hb3.cell (World.block_lt_of_cell? _ _ h3)).trans h3)⟩ (fun hHeld => ?_)
          clear hK K
          refine norm_ (a' := ?_) ?_ ?_
          rotate_left
          · show Act.put _ (some 27) _ = _
            simp only [Act.put, List.setIfInBounds_toArray, List.set_cons_zero, List.set_cons_succ, i64_w, i32_w]
            rfl
          refine pl_ 4 29 (tb_ 8 31) ?_
          refine pl_ 5 30 (tb_ 8 63) ?_
          refine pl_ 6 31 (tb_ 8 127) ?_
          refine pl_ 7 32 (tb_ 8 255) ?_
          refine done_ (done_of HT_.out (by kernel_rfl)) ?_
          go_wp2_with ((with_reducible refine gate_builtin (b := .append) (xs := #[.tmp 33, .tmp 35]) rfl ?_); at_builtin; refine Kd.R_append (Kd.int .i64) (w0 := w5) w5.heap.size rfl (.tmp 33) (.tmp 35) 27 3 (.int .i64 0) 8 rfl Tryz.underlying27 info3 rfl (by decide) (by omega) (.slice A6 (Pu.cast (stemAt c m i)).length c6) (Pu.cast (stemAt c m i)) (s : Int) [.int .i64 (s : Int)] (fun _ => True) (fun _ => False) rfl (by first | (go_simp; done) | (go_simp; rfl)) ?aP (fun _ hk => hk.elim) ?aF ?aO ?aB ?aS ?aL ?_; (case aP => exact rfl); (case aB => exact (by repeat (first | (with_reducible first | exact HBd.out | apply below_alloc | apply pw_below_drewN | apply below_drew1) | exact HBd.out))); (case aF => exact (fun _ _ => trivial)); (case aO => exact (by (with_reducible repeat (first | apply Kd.R_alloc | apply Kd.R_drewN | apply Kd.R_drew)); exact HOd.out)); (case aS => exact (below_size (by repeat (first | (with_reducible first | exact HBd.out | apply below_alloc | apply pw_below_drewN | apply below_drew1) | exact HBd.out)))); (case aL => have := HLE.out; omega); intro v9 w19 ho hb hg hat; have HOe := Aside0.mk ho; have HBe := Aside0.mk hb; clear ho hb hg hat)
          go_roundg (N - i)
          case measure => omega
          case rel => exact ⟨i + 1, by first | rfl | go_num | (congr 1; omega), by omega, by omega, ⟨by rw [HN.out]; exact HOe.out⟩, ⟨HBe.out⟩⟩
    · have hltz : ((i : Int) < (N : Int)) = False := eq_false (by omega)
      have HI : Aside0 (stemAt c m i = Pu.stemL c (stOut m)) := ⟨HALLS.out i (by omega)⟩
      obtain ⟨A6, c6, e6⟩ := Kd.R_slice HO.out
      subst e6
      have HRC : Aside0 ((Kd.int .i64).R 3 wr w5.heap.size (fun _ => True) (.slice A6 (Pu.cast (stemAt c m i)).length c6) (Pu.cast (stemAt c m i))) := ⟨HO.out⟩
      have HBA := Aside0.mk (below_step HB5.out HB.out)
      have HSZ := Aside0.mk (below_size HBA.out)
      rw [HI.out] at HRC ⊢
      have HLEC := Aside0.mk (sortLec_all A6 c6 (Pu.stemL c (stOut m)) wr HQ.out HQN.out HRC.out (HTB.out.below HBA.out))
      go_wp2_with (go_at_call 208; refine (HLEC.out).mono ?_; rintro e w20 ⟨v, rfl, hR, hb⟩; have HOz := Aside0.mk (Kd.R_lower hR HSZ.out); have HBz := Aside0.mk (below_step HBA.out hb); clear hR hb)
      go_ret
      exact ⟨_, rfl, by rw [← HPS.out]; exact HOz.out, HBz.out⟩
def impl_PseudoIntents_stem0.f (a0 : Int) (a1_0 : Int) (l1_1 : List Int) : Option (List Int) := if a0 = a1_0 ∧ Pu.ctxB a1_0 l1_1 = true then some (Pu.cast (Pu.psN a1_0.toNat (Pu.cl a1_0.toNat (l1_1.map Int.toNat)))) else none
theorem pi_closure (m : Nat) (hm : m ≤ 6) (R : List Nat) (hR : R.length ≤ 8) (hbd : ∀ r ∈ R, r < 2 ^ m) (hc : Pu.ctxB (m : Int) (Pu.cast R) = true) (A1_1 : Option Addr) (c1_1 : Nat) (w : World) (hr1_1 : Kd.C (Kd.int .i64) w A1_1 (Pu.cast R).length (Pu.cast R)) (hc1_1 : (Pu.cast R).length ≤ c1_1)
    {g : Nat} (hg : w.heap[g]? = some (.cells #[.int .i64 (m : Int), .slice A1_1 (Pu.cast R).length c1_1] 29 (0, 0))) (W : World) (x : Nat) (hx : x < 2 ^ m) (hb : Below w.heap.size w W) :
    Calls Tryz.prog 165 (#[.int .i64 (x : Int)] ++ #[.pointer (some ⟨g, 0, none⟩)]) W fun e w' => e = .returned (.int .i64 ((Pu.cl m R x : Nat) : Int)) ∧ Below W.heap.size W w' := by
  rw [show (#[.int .i64 (x : Int)] ++ #[.pointer (some ⟨g, 0, none⟩)] : Array Value) = #[.int .i64 (x : Int), .pointer (some ⟨g, 0, none⟩)] from rfl]
  obtain ⟨k, hk⟩ := Ev.rounds (Pu.clI4_val hm hR hbd hx hc)
  have hu := Tryz.underlying29
  have hc0' : W.cell? ⟨g, 0, none⟩ = some (.int .i64 (m : Int)) := (blk_cell (blk_below hg hb) 0).trans rfl
  have hc1' : W.cell? ⟨g, 1, none⟩ = some (.slice A1_1 (Pu.cast R).length c1_1) := (blk_cell (blk_below hg hb) 1).trans rfl
  have HR := Aside0.mk (Kd.C_below hr1_1 hb)
  have HC := Aside0.mk hc1_1
  have HK := Aside0.mk hk
  clear hr1_1 hc1_1 hk hg hx hc hR hbd hm
  generalize Pu.cl m R x = q at *
  generalize Pu.cast R = l at *
  go_enter Tryz.func165, Tryz.ntmps165
  go_wp2_with (go_at_call 163; refine (impl_ClosureOf.calls k (m : Int) A1_1 c1_1 l (x : Int) (q : Int) _ (by first | exact HR.out | exact Kd.C_drewN HR.out _) HC.out HK.out).mono ?_; rintro e w' ⟨rfl, hb2⟩; have HB := Aside0.mk hb2; clear hb2)
  go_ret
  exact ⟨rfl, below_step (by repeat (first | exact Below.refl _ _ | apply below_alloc | apply pw_below_drewN | apply below_drew1)) HB.out⟩
theorem impl_PseudoIntents_stem0.calls (a0 : Int) (a1_0 : Int) (A1_1 : Option Addr) (c1_1 : Nat) (l1_1 : List Int) (r : List Int) (w : World) (hr1_1 : Kd.C (Kd.int .i64) w A1_1 l1_1.length l1_1) (hc1_1 : l1_1.length ≤ c1_1) (htab : Tab64 w) (h : impl_PseudoIntents_stem0.f a0 a1_0 l1_1 = some r)
    {g : Nat} (hg : w.heap[g]? = some (.cells #[.int .i64 a1_0, .slice A1_1 l1_1.length c1_1] 29 (0, 0))) :
    Calls Tryz.prog 154 #[.int .i64 a0, .func (.func 165) #[] #[.pointer (some ⟨g, 0, none⟩)]] w fun e w' => ∃ v0_ : Value, e = .returned (v0_) ∧ Kd.R (Kd.int .i64) 3 w' w.heap.size (fun _ => True) v0_ r ∧ Below w.heap.size w w' := by
  unfold impl_PseudoIntents_stem0.f at h
  by_cases hn : a0 = a1_0 ∧ Pu.ctxB a1_0 l1_1 = true
  · rw [if_pos hn] at h
    obtain rfl := Option.some.inj h
    obtain ⟨rfl, hc⟩ := hn
    have hc2 := hc
    obtain ⟨m, R, rfl, hm, rfl, hR, hbd⟩ := Pu.ctxB_nat hc2
    have eg : ∀ args w, (callFunc 165 args).run Tryz.prog w = .ok (.enter 165 args) w := enters_of Tryz.func165 (by kernel_rfl) rfl
    rw [Int.toNat_natCast, Pu.uncast]
    exact stem_at 165 #[.pointer (some ⟨g, 0, none⟩)] eg (Pu.cl m R) m hm (fun x _ => Pu.cl_256 (by omega) R x) w htab (fun W x hx hb => pi_closure m hm R hR hbd hc A1_1 c1_1 w hr1_1 hc1_1 hg W x hx hb)
  · rw [if_neg hn] at h
    cases h
end Go.Proofs.YtafnamchckehmaaGreatDoor.Pr
namespace Go.Proofs.YtafnamchckehmaaGreatDoor.Pr
open Go.RowKit Go.Proofs.YtafnamchckehmaaGreatDoorW.PrintWords Go.Proofs.YtafnamchckehmaaGreatDoorW.PrintLast Go.Proofs.YtafnamchckehmaaGreatDoorW.PrintMore
attribute [local go_sem] max2_int min2_int max_two min_two max_three min_three max_four min_four
set_option linter.unusedVariables false
set_option linter.unusedSimpArgs false
theorem bnd47_ {α β : Type} {o : Option α} {f : α → Option β} {r : β} (h : o.bind f = some r) : ∃ a, Aside0 (o = some a) ∧ f a = some r := by
 obtain ⟨a, h1, h2⟩ := Option.bind_eq_some_iff.mp h
 exact ⟨a, ⟨h1⟩, h2⟩
theorem q47_2 {P : Prop} (h : P := by repeat (first | (with_reducible first | exact HB.out | apply below_alloc | apply pw_below_drewN | apply below_drew1 | refine below_set ?_ GE1196.out) | exact HB.out)) : P := h
theorem q47_5 {P : Prop} (h : P := by (with_reducible repeat (first | refine blk_drewN ?_ _ | refine blk_drew ?_ | refine blk_alloc ?_ _)); exact BK1196.out) : P := h
def impl_PseudoIntents.f (a0_0 : Int) (l0_1 : List Int) : Option (List Int) := (impl_IsContext.f a0_0 l0_1).bind fun t1197 => (if t1197 = true then ((impl_PseudoIntents_stem0.f a0_0 a0_0 l0_1).bind fun t1198 => (some t1198)) else (some ([] : List Int)))
set_option maxHeartbeats 40000000 in
set_option maxRecDepth 100000 in
theorem impl_PseudoIntents.calls (a0_0 : Int) (A0_1 : Option Addr) (c0_1 : Nat) (l0_1 : List Int) (r : List Int) (w : World) (hr0_1 : Kd.C (Kd.int .i64) w A0_1 l0_1.length l0_1) (hc0_1 : l0_1.length ≤ c0_1) (htab : Tab64 w) (h : impl_PseudoIntents.f a0_0 l0_1 = some r) :
  Calls Tryz.prog 52 #[.agg #[.int .i64 a0_0, .slice A0_1 l0_1.length c0_1]] w fun e w' => ∃ v0_ : Value, e = .returned (v0_) ∧ Kd.R (Kd.int .i64) 3 w' w.heap.size (fun _ => True) v0_ r ∧ Below w.heap.size w w' := by
 have HTB := Aside0.mk htab; clear htab; have hu29 := Tryz.underlying29; have HR0_1 := Aside0.mk hr0_1; have HC0_1 := Aside0.mk hc0_1; clear hr0_1 hc0_1; have HB := Aside0.mk (Below.refl w.heap.size w); have H := h; clear h; unfold impl_PseudoIntents.f at H; obtain ⟨t1197, A2, H⟩ := bnd47_ H
 by_cases c3 : t1197 = true
 ·
  subst c3; rw [if_pos rfl] at H; obtain ⟨t1198, A4, H⟩ := bnd47_ H; obtain rfl := Option.some.inj H
  go_enter Tryz.func52, Tryz.ntmps52
  go_wp2_with ((with_reducible refine gw_ rfl ?_); first | (refine be_ 1 #[.int .i64 a0_0, .slice A0_1 l0_1.length c0_1] 29 ?_; intro gb1196 hg w5 hbox hb; have n_ := ac_ (below_step s1_ hb) <| ac_ (hbox) <| ac_ ((gz_ w hg s1_)) <| Aside0.mk ((gz_ w hg s1_)); clear HB; obtain ⟨HB, BK1196, GW1196, GE1196⟩ := n_; clear hb hbox hg; have hcz6_0 : w5.cell? ⟨gb1196, 0, none⟩ = some (.int .i64 a0_0) := (blk_cell BK1196.out 0).trans rfl; have hcz6_1 : w5.cell? ⟨gb1196, 1, none⟩ = some (.slice A0_1 l0_1.length c0_1) := (blk_cell BK1196.out 1).trans rfl; have hfz6_0 := blk_frozen BK1196.out 0; have hfz6_1 := blk_frozen BK1196.out 1) | (refine gL_ 164 4 Tryz.func164 #[.agg #[.int .i64 a0_0, .slice A0_1 l0_1.length c0_1]] ?_; (with_reducible refine (impl_IsContext.calls a0_0 _ _ l0_1 true _ ?side1 ?side2 A2.out).mono ?_); (case side1 => exact s2_); (case side2 => exact HC0_1.out); rintro e w7 ⟨rfl, hb⟩; refine ⟨_, rfl, ?_⟩; have n_ := ac_ (blk_below (g := gb1196) (o := .cells #[.int .i64 a0_0, .slice A0_1 l0_1.length c0_1] 29 (0, 0)) q47_5 hb) <| Aside0.mk (below_step q47_2 hb); clear BK1196 HB; obtain ⟨BK1196, HB⟩ := n_; (try clear hb); have hcz8_0 : w7.cell? ⟨gb1196, 0, none⟩ = some (.int .i64 a0_0) := (blk_cell BK1196.out 0).trans rfl; have hcz8_1 : w7.cell? ⟨gb1196, 1, none⟩ = some (.slice A0_1 l0_1.length c0_1) := (blk_cell BK1196.out 1).trans rfl; have hfz8_0 := blk_frozen BK1196.out 0; have hfz8_1 := blk_frozen BK1196.out 1) | (refine gL_ 154 9 Tryz.func154 #[.int .i64 a0_0, .func (.func 165) #[] #[.pointer (some ⟨gb1196, 0, none⟩)]] ?_; (with_reducible refine (impl_PseudoIntents_stem0.calls a0_0 a0_0 ?u2_1 ?u2_2 l0_1 t1198 _ ?side1 ?side2 ?tab A4.out ?box0).mono ?_); (case tab => first | exact HTB.out | (refine Tab64.below HTB.out ?_; repeat (first | (with_reducible first | exact HB.out | apply below_alloc | apply pw_below_drewN | apply below_drew1 | refine below_set ?_ GE1196.out) | exact HB.out)) | (repeat (first | exact HTB.out | apply Tab64.drewN | apply Tab64.drew | apply Tab64.alloc))); (case box0 => (with_reducible repeat (first | refine blk_drewN ?_ _ | refine blk_drew ?_ | refine blk_alloc ?_ _)); exact BK1196.out); (case side1 => exact s2_); (case side2 => exact HC0_1.out); rintro e w9 ⟨v1199, rfl, ho0, hb⟩; refine ⟨_, rfl, ?_⟩; have n_ := ac_ (Kd.R_lower ho0 (below_size q47_2)) <| ac_ (blk_below (g := gb1196) (o := .cells #[.int .i64 a0_0, .slice A0_1 l0_1.length c0_1] 29 (0, 0)) q47_5 hb) <| Aside0.mk (below_step q47_2 hb); clear BK1196 HB; obtain ⟨HO1200, BK1196, HB⟩ := n_; (try clear hb ho0)))
  go_ret
  exact ⟨_, (by first | rfl | (simp [errW_none, errW_some] <;> rfl) | (simp [*, errW_none, errW_some] <;> rfl)), (by (with_reducible repeat (first | apply Kd.R_alloc | apply Kd.R_drewN | apply Kd.R_drew)); exact HO1200.out), q47_2⟩
 ·
  replace c3 := Bool.eq_false_iff.mpr c3; subst c3
  rw [if_neg (show ¬ (false = true) by decide)] at H
  obtain rfl := Option.some.inj H
  go_enter Tryz.func52, Tryz.ntmps52
  go_wp2_with ((with_reducible refine gw_ rfl ?_); first | (refine be_ 1 #[.int .i64 a0_0, .slice A0_1 l0_1.length c0_1] 29 ?_; intro gb1196 hg w10 hbox hb; have n_ := ac_ (below_step s1_ hb) <| ac_ (hbox) <| ac_ ((gz_ w hg s1_)) <| Aside0.mk ((gz_ w hg s1_)); clear HB; obtain ⟨HB, BK1196, GW1196, GE1196⟩ := n_; clear hb hbox hg; have hcz11_0 : w10.cell? ⟨gb1196, 0, none⟩ = some (.int .i64 a0_0) := (blk_cell BK1196.out 0).trans rfl; have hcz11_1 : w10.cell? ⟨gb1196, 1, none⟩ = some (.slice A0_1 l0_1.length c0_1) := (blk_cell BK1196.out 1).trans rfl; have hfz11_0 := blk_frozen BK1196.out 0; have hfz11_1 := blk_frozen BK1196.out 1) | (refine gL_ 164 4 Tryz.func164 #[.agg #[.int .i64 a0_0, .slice A0_1 l0_1.length c0_1]] ?_; (with_reducible refine (impl_IsContext.calls a0_0 _ _ l0_1 false _ ?side1 ?side2 A2.out).mono ?_); (case side1 => exact s2_); (case side2 => exact HC0_1.out); rintro e w12 ⟨rfl, hb⟩; refine ⟨_, rfl, ?_⟩; have n_ := ac_ (blk_below (g := gb1196) (o := .cells #[.int .i64 a0_0, .slice A0_1 l0_1.length c0_1] 29 (0, 0)) q47_5 hb) <| Aside0.mk (below_step q47_2 hb); clear BK1196 HB; obtain ⟨BK1196, HB⟩ := n_; (try clear hb)))
  go_ret
  exact ⟨_, (by first | rfl | (simp [errW_none, errW_some] <;> rfl) | (simp [*, errW_none, errW_some] <;> rfl)), (by first | exact Kd.R_nil _ _ _ _ _ | exact Kd.N_nil _ _ _ _ _ | exact Kd.V_nil _ _ _ _ _ | exact Kd.Q_nil _ _ _ _ _ | exact Kd.S_nil _ _ _ _ _), q47_2⟩
theorem bnd48_ {α β : Type} {o : Option α} {f : α → Option β} {r : β} (h : o.bind f = some r) : ∃ a, Aside0 (o = some a) ∧ f a = some r := by
 obtain ⟨a, h1, h2⟩ := Option.bind_eq_some_iff.mp h
 exact ⟨a, ⟨h1⟩, h2⟩
theorem q48_2 {P : Prop} (h : P := by repeat (first | (with_reducible first | exact HB.out | apply below_alloc | apply pw_below_drewN | apply below_drew1 | refine below_set ?_ GE1201.out) | exact HB.out)) : P := h
theorem q48_5 {P : Prop} (h : P := by (with_reducible repeat (first | refine blk_drewN ?_ _ | refine blk_drew ?_ | refine blk_alloc ?_ _)); exact BK1201.out) : P := h
def impl_StemBase.f (a0_0 : Int) (l0_1 : List Int) : Option ((List (S48))) := (impl_PseudoIntents.f a0_0 l0_1).bind fun t1202 => ((impl_StemBase_rulesTo0.f t1202 a0_0 l0_1).bind fun t1205 => (some t1205))
set_option maxHeartbeats 40000000 in
set_option maxRecDepth 100000 in
theorem impl_StemBase.calls (a0_0 : Int) (A0_1 : Option Addr) (c0_1 : Nat) (l0_1 : List Int) (r : List (S48)) (w : World) (hr0_1 : Kd.C (Kd.int .i64) w A0_1 l0_1.length l0_1) (hc0_1 : l0_1.length ≤ c0_1) (htab : Tab64 w) (h : impl_StemBase.f a0_0 l0_1 = some r) :
  Calls Tryz.prog 51 #[.agg #[.int .i64 a0_0, .slice A0_1 l0_1.length c0_1]] w fun e w' => ∃ v0_ : Value, e = .returned (v0_) ∧ Kd.R k48 48 w' w.heap.size (fun _ => True) v0_ r ∧ Below w.heap.size w w' := by
 have HTB := Aside0.mk htab; clear htab; have hu29 := Tryz.underlying29; have HR0_1 := Aside0.mk hr0_1; have HC0_1 := Aside0.mk hc0_1; clear hr0_1 hc0_1; have HB := Aside0.mk (Below.refl w.heap.size w); have H := h; clear h; unfold impl_StemBase.f at H; obtain ⟨t1202, A2, H⟩ := bnd48_ H; obtain ⟨t1205, A3, H⟩ := bnd48_ H; obtain rfl := Option.some.inj H
 go_enter Tryz.func51, Tryz.ntmps51
 go_wp2_with ((with_reducible refine gw_ rfl ?_); first | (refine be_ 1 #[.int .i64 a0_0, .slice A0_1 l0_1.length c0_1] 29 ?_; intro gb1201 hg w4 hbox hb; have n_ := ac_ (below_step s1_ hb) <| ac_ (hbox) <| ac_ ((gz_ w hg s1_)) <| Aside0.mk ((gz_ w hg s1_)); clear HB; obtain ⟨HB, BK1201, GW1201, GE1201⟩ := n_; clear hb hbox hg; have hcz5_0 : w4.cell? ⟨gb1201, 0, none⟩ = some (.int .i64 a0_0) := (blk_cell BK1201.out 0).trans rfl; have hcz5_1 : w4.cell? ⟨gb1201, 1, none⟩ = some (.slice A0_1 l0_1.length c0_1) := (blk_cell BK1201.out 1).trans rfl; have hfz5_0 := blk_frozen BK1201.out 0; have hfz5_1 := blk_frozen BK1201.out 1) | (refine gL_ 52 4 Tryz.func52 #[.agg #[.int .i64 a0_0, .slice A0_1 l0_1.length c0_1]] ?_; (with_reducible refine (impl_PseudoIntents.calls a0_0 _ _ l0_1 t1202 _ ?side1 ?side2 ?tab A2.out).mono ?_); (case tab => first | exact HTB.out | (refine Tab64.below HTB.out ?_; repeat (first | (with_reducible first | exact HB.out | apply below_alloc | apply pw_below_drewN | apply below_drew1 | refine below_set ?_ GE1201.out) | exact HB.out)) | (repeat (first | exact HTB.out | apply Tab64.drewN | apply Tab64.drew | apply Tab64.alloc))); (case side1 => exact s2_); (case side2 => exact HC0_1.out); rintro e w6 ⟨v1203, rfl, ho0, hb⟩; refine ⟨_, rfl, ?_⟩; have n_ := ac_ (Kd.R_lower ho0 (below_size q48_2)) <| ac_ (blk_below (g := gb1201) (o := .cells #[.int .i64 a0_0, .slice A0_1 l0_1.length c0_1] 29 (0, 0)) q48_5 hb) <| Aside0.mk (below_step q48_2 hb); clear BK1201 HB; obtain ⟨HO1204, BK1201, HB⟩ := n_; (try clear hb ho0); have hcz7_0 : w6.cell? ⟨gb1201, 0, none⟩ = some (.int .i64 a0_0) := (blk_cell BK1201.out 0).trans rfl; have hcz7_1 : w6.cell? ⟨gb1201, 1, none⟩ = some (.slice A0_1 l0_1.length c0_1) := (blk_cell BK1201.out 1).trans rfl; have hfz7_0 := blk_frozen BK1201.out 0; have hfz7_1 := blk_frozen BK1201.out 1; obtain ⟨Ao8, co8, eo8⟩ := Kd.R_slice HO1204.out; subst eo8) | (refine gL_ 153 6 Tryz.func153 #[.slice Ao8 t1202.length co8, .func (.func 162) #[] #[.pointer (some ⟨gb1201, 0, none⟩)]] ?_; (with_reducible refine (impl_StemBase_rulesTo0.calls ?u3_1 ?u3_2 t1202 a0_0 ?u3_3 ?u3_4 l0_1 t1205 _ ?side1 ?side2 ?side3 ?side4 A3.out ?box0).mono ?_); (case box0 => (with_reducible repeat (first | refine blk_drewN ?_ _ | refine blk_drew ?_ | refine blk_alloc ?_ _)); exact BK1201.out); (case side1 => repeat (first | exact (Kd.R_reads' HO1204.out).2.2 | (with_reducible refine Kd.C_alloc ?_ _) | (with_reducible refine Kd.C_drewN ?_ _) | (with_reducible refine Kd.C_drew ?_))); (case side2 => exact (Kd.R_reads' HO1204.out).2.1); (case side3 => exact s2_); (case side4 => exact HC0_1.out); rintro e w9 ⟨v1206, rfl, ho0, hb⟩; refine ⟨_, rfl, ?_⟩; have n_ := ac_ (Kd.R_below (by (with_reducible repeat (first | apply Kd.R_alloc | apply Kd.R_drewN | apply Kd.R_drew)); exact HO1204.out) hb) <| ac_ (Kd.R_lower ho0 (below_size q48_2)) <| ac_ (blk_below (g := gb1201) (o := .cells #[.int .i64 a0_0, .slice A0_1 l0_1.length c0_1] 29 (0, 0)) q48_5 hb) <| Aside0.mk (below_step q48_2 hb); clear HO1204 BK1201 HB; obtain ⟨HO1204, HO1207, BK1201, HB⟩ := n_; (try clear hb ho0)))
 go_ret
 exact ⟨_, (by first | rfl | (simp [errW_none, errW_some] <;> rfl) | (simp [*, errW_none, errW_some] <;> rfl)), (by (with_reducible repeat (first | apply Kd.R_alloc | apply Kd.R_drewN | apply Kd.R_drew)); exact HO1207.out), q48_2⟩
set_option maxHeartbeats 40000000
set_option maxRecDepth 100000
theorem bnd50_ {α β : Type} {o : Option α} {f : α → Option β} {r : β} (h : o.bind f = some r) : ∃ a, Aside0 (o = some a) ∧ f a = some r := by
 obtain ⟨a, h1, h2⟩ := Option.bind_eq_some_iff.mp h
 exact ⟨a, ⟨h1⟩, h2⟩
theorem q50_3 {P : Prop} (h : P := by repeat (first | (with_reducible first | exact HB.out | apply below_alloc | apply pw_below_drewN | apply below_drew1 | refine below_set ?_ GE1268.out) | exact HB.out)) : P := h
theorem q50_6 {P : Prop} (h : P := by (with_reducible repeat (first | refine blk_drewN ?_ _ | refine blk_drew ?_ | refine blk_alloc ?_ _)); exact BK1268.out) : P := h
def impl_IsBase.j0 : Nat → List (S48) → Bool → Int → List Int → Option (Bool)
 | 0, _, _, _, _ => none
 | k + 1, x1, x14, x1269000, x1269001 => if x14 = true then (some false) else ((impl_IsBase_ContainsFunc0.f x1 x1269000 x1269001).bind fun t1271 => (if t1271 = true then (some false) else ((impl_StemBase.f x1269000 x1269001).bind fun t1272 => ((impl_allFollow.f x1 t1272).bind fun t1275 => (some t1275)))))
def impl_IsBase.f (k : Nat) (a0_0 : Int) (l0_1 : List Int) (l1 : List (S48)) : Option (Bool) := (impl_IsContext.f a0_0 l0_1).bind fun t1269 => (if t1269 = true then ((impl_AreRules.f a0_0 l1).bind fun t1270 => (impl_IsBase.j0 k l1 (!t1270) a0_0 l0_1)) else (impl_IsBase.j0 k l1 true a0_0 l0_1))
theorem impl_IsBase.calls (k : Nat) (a0_0 : Int) (A0_1 : Option Addr) (c0_1 : Nat) (l0_1 : List Int) (A1 : Option Addr) (c1 : Nat) (l1 : List (S48)) (r : Bool) (w : World) (hr0_1 : Kd.C (Kd.int .i64) w A0_1 l0_1.length l0_1) (hc0_1 : l0_1.length ≤ c0_1) (hr1 : Kd.C k48 w A1 l1.length l1) (hc1 : l1.length ≤ c1) (htab : Tab64 w) (h : impl_IsBase.f k a0_0 l0_1 l1 = some r) :
  Calls Tryz.prog 54 #[.agg #[.int .i64 a0_0, .slice A0_1 l0_1.length c0_1], .slice A1 l1.length c1] w fun e w' => e = .returned (.bool r) ∧ Below w.heap.size w w' := by
 have HTB := Aside0.mk htab; clear htab; have hu29 := Tryz.underlying29; have HR0_1 := Aside0.mk hr0_1; have HC0_1 := Aside0.mk hc0_1; clear hr0_1 hc0_1; have HR1 := Aside0.mk hr1; have HC1 := Aside0.mk hc1; clear hr1 hc1; have HB := Aside0.mk (Below.refl w.heap.size w); have H := h; clear h; unfold impl_IsBase.f at H; have HC3 := Aside0.mk H; clear H
 go_enter Tryz.func54, Tryz.ntmps54
 go_upto_region 1 with (first | (refine be_ 2 #[.int .i64 a0_0, .slice A0_1 l0_1.length c0_1] 29 ?_; intro gb1268 hg w4 hbox hb; have n_ := ac_ (below_step s1_ hb) <| ac_ (hbox) <| ac_ ((gz_ w hg s1_)) <| Aside0.mk ((gz_ w hg s1_)); clear HB; obtain ⟨HB, BK1268, GW1268, GE1268⟩ := n_; clear hb hbox hg))
 (try simp only [Act.put, List.setIfInBounds_toArray, List.set_cons_zero, List.set_cons_succ])
 go_cut [14] (fun v14 wc => ∃ (kq : Nat) (x14_2 : Bool), v14 = .bool x14_2 ∧ Aside0 (impl_IsBase.j0 kq l1 x14_2 a0_0 l0_1 = some r) ∧ Aside0 (kq ≤ k) ∧ Aside0 (wc.heap[gb1268]? = some (.cells #[.int .i64 a0_0, (.slice A0_1 l0_1.length c0_1)] 29 (0, 0))) ∧ Aside0 (Below w.heap.size w wc))
 case first =>
  have H := HC3.out; clear HC3; obtain ⟨t1269, A5, H⟩ := bnd50_ H
  by_cases c6 : t1269 = true
  ·
   subst c6; rw [if_pos rfl] at H; obtain ⟨t1270, A7, H⟩ := bnd50_ H; have H' := Aside0.mk H; clear H; have hcz8_0 : w4.cell? ⟨gb1268, 0, none⟩ = some (.int .i64 a0_0) := (blk_cell BK1268.out 0).trans rfl; have hcz8_1 : w4.cell? ⟨gb1268, 1, none⟩ = some (.slice A0_1 l0_1.length c0_1) := (blk_cell BK1268.out 1).trans rfl; have hfz8_0 := blk_frozen BK1268.out 0; have hfz8_1 := blk_frozen BK1268.out 1
   go_wp2_with (first | ((with_reducible refine gw_ rfl ?_); (refine gL_ 164 6 Tryz.func164 #[.agg #[.int .i64 a0_0, .slice A0_1 l0_1.length c0_1]] ?_; (with_reducible refine (impl_IsContext.calls a0_0 _ _ l0_1 true _ ?side1 ?side2 A5.out).mono ?_); (case side1 => exact s2_); (case side2 => exact HC0_1.out); rintro e w9 ⟨rfl, hb⟩; refine ⟨_, rfl, ?_⟩; have n_ := ac_ (blk_below (g := gb1268) (o := .cells #[.int .i64 a0_0, .slice A0_1 l0_1.length c0_1] 29 (0, 0)) q50_6 hb) <| Aside0.mk (below_step q50_3 hb); clear BK1268 HB; obtain ⟨BK1268, HB⟩ := n_; (try clear hb); have hcz10_0 : w9.cell? ⟨gb1268, 0, none⟩ = some (.int .i64 a0_0) := (blk_cell BK1268.out 0).trans rfl; have hcz10_1 : w9.cell? ⟨gb1268, 1, none⟩ = some (.slice A0_1 l0_1.length c0_1) := (blk_cell BK1268.out 1).trans rfl; have hfz10_0 := blk_frozen BK1268.out 0; have hfz10_1 := blk_frozen BK1268.out 1)) | (go_at_call 81; (with_reducible refine (impl_AreRules.calls a0_0 _ _ l1 t1270 _ ?side1 ?side2 A7.out).mono ?_); (case side1 => exact s14_); (case side2 => exact HC1.out); rintro e w11 ⟨rfl, hb⟩; have n_ := ac_ (blk_below (g := gb1268) (o := .cells #[.int .i64 a0_0, .slice A0_1 l0_1.length c0_1] 29 (0, 0)) q50_6 hb) <| Aside0.mk (below_step q50_3 hb); clear BK1268 HB; obtain ⟨BK1268, HB⟩ := n_; (try clear hb)))
   go_meet
   case rel => exact ⟨_, (!t1270), rf_, H', ⟨(by first | omega | exact Nat.le_refl _)⟩, ⟨q50_6⟩, ⟨q50_3⟩⟩
  ·
   replace c6 := Bool.eq_false_iff.mpr c6; subst c6
   rw [if_neg (show ¬ (false = true) by decide)] at H
   have H' := Aside0.mk H; clear H; have hcz12_0 : w4.cell? ⟨gb1268, 0, none⟩ = some (.int .i64 a0_0) := (blk_cell BK1268.out 0).trans rfl; have hcz12_1 : w4.cell? ⟨gb1268, 1, none⟩ = some (.slice A0_1 l0_1.length c0_1) := (blk_cell BK1268.out 1).trans rfl; have hfz12_0 := blk_frozen BK1268.out 0; have hfz12_1 := blk_frozen BK1268.out 1
   go_wp2_with ((with_reducible refine gw_ rfl ?_); (refine gL_ 164 6 Tryz.func164 #[.agg #[.int .i64 a0_0, .slice A0_1 l0_1.length c0_1]] ?_; (with_reducible refine (impl_IsContext.calls a0_0 _ _ l0_1 false _ ?side1 ?side2 A5.out).mono ?_); (case side1 => exact s2_); (case side2 => exact HC0_1.out); rintro e w13 ⟨rfl, hb⟩; refine ⟨_, rfl, ?_⟩; have n_ := ac_ (blk_below (g := gb1268) (o := .cells #[.int .i64 a0_0, .slice A0_1 l0_1.length c0_1] 29 (0, 0)) q50_6 hb) <| Aside0.mk (below_step q50_3 hb); clear BK1268 HB; obtain ⟨BK1268, HB⟩ := n_; (try clear hb)))
   go_meet
   case rel => exact ⟨_, (true), rf_, H', ⟨(by first | omega | exact Nat.le_refl _)⟩, ⟨q50_6⟩, ⟨q50_3⟩⟩
 case rest =>
  clear HC3
  try clear c1
  try clear p2
  try clear c5
  try clear c6
  try clear hcz10_0
  try clear hcz10_1
  try clear hcz12_0
  try clear hcz12_1
  try clear hcz8_0
  try clear hcz8_1
  try clear hfz10_0
  try clear hfz10_1
  try clear hfz12_0
  try clear hfz12_1
  try clear hfz8_0
  try clear hfz8_1
  obtain ⟨kq, x14_2, rfl, HA, HJ2, BK1268, HB⟩ := hcut
  cases kq with
  | zero => exact absurd HA.out (by simp [impl_IsBase.j0])
  | succ kj2 =>
   have H := HA.out; clear HA
   simp only [impl_IsBase.j0] at H
   by_cases c14 : x14_2 = true
   ·
    subst c14; rw [if_pos rfl] at H; obtain rfl := Option.some.inj H
    go_wp2
    go_ret
    exact ⟨s5_, q50_3⟩
   ·
    replace c14 := Bool.eq_false_iff.mpr c14; subst c14
    rw [if_neg (show ¬ (false = true) by decide)] at H
    obtain ⟨t1271, A15, H⟩ := bnd50_ H
    by_cases c16 : t1271 = true
    ·
     subst c16; rw [if_pos rfl] at H; obtain rfl := Option.some.inj H; have hcz17_0 : wc.cell? ⟨gb1268, 0, none⟩ = some (.int .i64 a0_0) := (blk_cell BK1268.out 0).trans rfl; have hcz17_1 : wc.cell? ⟨gb1268, 1, none⟩ = some (.slice A0_1 l0_1.length c0_1) := (blk_cell BK1268.out 1).trans rfl; have hfz17_0 := blk_frozen BK1268.out 0; have hfz17_1 := blk_frozen BK1268.out 1
     go_wp2_with ((with_reducible refine gw_ rfl ?_); (refine gL_ 167 17 Tryz.func167 #[.slice A1 l1.length c1, .func (.func 168) #[] #[.pointer (some ⟨gb1268, 0, none⟩)]] ?_; (with_reducible refine (impl_IsBase_ContainsFunc0.calls ?u6_1 ?u6_2 l1 a0_0 ?u6_3 ?u6_4 l0_1 true _ ?side1 ?side2 ?side3 ?side4 A15.out ?box0).mono ?_); (case box0 => (with_reducible repeat (first | refine blk_drewN ?_ _ | refine blk_drew ?_ | refine blk_alloc ?_ _)); exact BK1268.out); (case side1 => exact s14_); (case side2 => exact HC1.out); (case side3 => exact s2_); (case side4 => exact HC0_1.out); rintro e w18 ⟨rfl, hb⟩; refine ⟨_, rfl, ?_⟩; have n_ := ac_ (blk_below (g := gb1268) (o := .cells #[.int .i64 a0_0, .slice A0_1 l0_1.length c0_1] 29 (0, 0)) q50_6 hb) <| Aside0.mk (below_step q50_3 hb); clear BK1268 HB; obtain ⟨BK1268, HB⟩ := n_; (try clear hb)))
     go_ret
     exact ⟨s5_, q50_3⟩
    ·
     replace c16 := Bool.eq_false_iff.mpr c16; subst c16
     rw [if_neg (show ¬ (false = true) by decide)] at H
     obtain ⟨t1272, A19, H⟩ := bnd50_ H; obtain ⟨t1275, A20, H⟩ := bnd50_ H; obtain rfl := Option.some.inj H; have hcz21_0 : wc.cell? ⟨gb1268, 0, none⟩ = some (.int .i64 a0_0) := (blk_cell BK1268.out 0).trans rfl; have hcz21_1 : wc.cell? ⟨gb1268, 1, none⟩ = some (.slice A0_1 l0_1.length c0_1) := (blk_cell BK1268.out 1).trans rfl; have hfz21_0 := blk_frozen BK1268.out 0; have hfz21_1 := blk_frozen BK1268.out 1
     go_wp2_with (first | ((with_reducible refine gw_ rfl ?_); (refine gL_ 167 17 Tryz.func167 #[.slice A1 l1.length c1, .func (.func 168) #[] #[.pointer (some ⟨gb1268, 0, none⟩)]] ?_; (with_reducible refine (impl_IsBase_ContainsFunc0.calls ?u7_1 ?u7_2 l1 a0_0 ?u7_3 ?u7_4 l0_1 false _ ?side1 ?side2 ?side3 ?side4 A15.out ?box0).mono ?_); (case box0 => (with_reducible repeat (first | refine blk_drewN ?_ _ | refine blk_drew ?_ | refine blk_alloc ?_ _)); exact BK1268.out); (case side1 => exact s14_); (case side2 => exact HC1.out); (case side3 => exact s2_); (case side4 => exact HC0_1.out); rintro e w22 ⟨rfl, hb⟩; refine ⟨_, rfl, ?_⟩; have n_ := ac_ (blk_below (g := gb1268) (o := .cells #[.int .i64 a0_0, .slice A0_1 l0_1.length c0_1] 29 (0, 0)) q50_6 hb) <| Aside0.mk (below_step q50_3 hb); clear BK1268 HB; obtain ⟨BK1268, HB⟩ := n_; (try clear hb); have hcz23_0 : w22.cell? ⟨gb1268, 0, none⟩ = some (.int .i64 a0_0) := (blk_cell BK1268.out 0).trans rfl; have hcz23_1 : w22.cell? ⟨gb1268, 1, none⟩ = some (.slice A0_1 l0_1.length c0_1) := (blk_cell BK1268.out 1).trans rfl; have hfz23_0 := blk_frozen BK1268.out 0; have hfz23_1 := blk_frozen BK1268.out 1)) | (go_at_call 51; (with_reducible refine (impl_StemBase.calls a0_0 _ _ l0_1 t1272 _ ?side1 ?side2 ?tab A19.out).mono ?_); (case tab => first | exact HTB.out | (refine Tab64.below HTB.out ?_; repeat (first | (with_reducible first | exact HB.out | apply below_alloc | apply pw_below_drewN | apply below_drew1 | refine below_set ?_ GE1268.out) | exact HB.out)) | (repeat (first | exact HTB.out | apply Tab64.drewN | apply Tab64.drew | apply Tab64.alloc))); (case side1 => exact s2_); (case side2 => exact HC0_1.out); rintro e w24 ⟨v1273, rfl, ho0, hb⟩; have n_ := ac_ (Kd.R_lower ho0 (below_size q50_3)) <| ac_ (blk_below (g := gb1268) (o := .cells #[.int .i64 a0_0, .slice A0_1 l0_1.length c0_1] 29 (0, 0)) q50_6 hb) <| Aside0.mk (below_step q50_3 hb); clear BK1268 HB; obtain ⟨HO1274, BK1268, HB⟩ := n_; (try clear hb ho0); obtain ⟨Ao25, co25, eo25⟩ := Kd.R_slice HO1274.out; subst eo25) | (go_at_call 159; (with_reducible refine (impl_allFollow.calls _ _ l1 _ _ t1272 t1275 _ ?side1 ?side2 ?side3 ?side4 A20.out).mono ?_); (case side1 => exact s14_); (case side2 => exact HC1.out); (case side3 => repeat (first | exact (Kd.R_reads' HO1274.out).2.2 | (with_reducible refine Kd.C_alloc ?_ _) | (with_reducible refine Kd.C_drewN ?_ _) | (with_reducible refine Kd.C_drew ?_))); (case side4 => exact (Kd.R_reads' HO1274.out).2.1); rintro e w26 ⟨rfl, hb⟩; have n_ := ac_ (Kd.R_below (by (with_reducible repeat (first | apply Kd.R_alloc | apply Kd.R_drewN | apply Kd.R_drew)); exact HO1274.out) hb) <| ac_ (blk_below (g := gb1268) (o := .cells #[.int .i64 a0_0, .slice A0_1 l0_1.length c0_1] 29 (0, 0)) q50_6 hb) <| Aside0.mk (below_step q50_3 hb); clear HO1274 BK1268 HB; obtain ⟨HO1274, BK1268, HB⟩ := n_; (try clear hb)))
     go_ret
     exact ⟨s5_, q50_3⟩
theorem q50_10 {P : Prop} (h : P := by repeat (first | (with_reducible first | exact HB.out | apply below_alloc | apply pw_below_drewN | apply below_drew1 | refine below_set ?_ GE1293.out) | exact HB.out)) : P := h
theorem q50_13 {P : Prop} (h : P := by (with_reducible repeat (first | refine blk_drewN ?_ _ | refine blk_drew ?_ | refine blk_alloc ?_ _)); exact BK1293.out) : P := h
def impl_IsShortest.f (k : Nat) (a0_0 : Int) (l0_1 : List Int) (l1 : List (S48)) : Option (Bool) := (impl_IsBase.f k a0_0 l0_1 l1).bind fun t1294 => (if t1294 = true then ((impl_StemBase.f a0_0 l0_1).bind fun t1295 => (some ((l1.length : Int) == (t1295.length : Int)))) else (some false))
theorem impl_IsShortest.calls (k : Nat) (a0_0 : Int) (A0_1 : Option Addr) (c0_1 : Nat) (l0_1 : List Int) (A1 : Option Addr) (c1 : Nat) (l1 : List (S48)) (r : Bool) (w : World) (hr0_1 : Kd.C (Kd.int .i64) w A0_1 l0_1.length l0_1) (hc0_1 : l0_1.length ≤ c0_1) (hr1 : Kd.C k48 w A1 l1.length l1) (hc1 : l1.length ≤ c1) (htab : Tab64 w) (h : impl_IsShortest.f k a0_0 l0_1 l1 = some r) :
  Calls Tryz.prog 57 #[.agg #[.int .i64 a0_0, .slice A0_1 l0_1.length c0_1], .slice A1 l1.length c1] w fun e w' => e = .returned (.bool r) ∧ Below w.heap.size w w' := by
 have HTB := Aside0.mk htab; clear htab; have hu29 := Tryz.underlying29; have HR0_1 := Aside0.mk hr0_1; have HC0_1 := Aside0.mk hc0_1; clear hr0_1 hc0_1; have HR1 := Aside0.mk hr1; have HC1 := Aside0.mk hc1; clear hr1 hc1; have HB := Aside0.mk (Below.refl w.heap.size w); have H := h; clear h; unfold impl_IsShortest.f at H; obtain ⟨t1294, A3, H⟩ := bnd50_ H
 by_cases c4 : t1294 = true
 ·
  subst c4; rw [if_pos rfl] at H; obtain ⟨t1295, A5, H⟩ := bnd50_ H; obtain rfl := Option.some.inj H
  go_enter Tryz.func57, Tryz.ntmps57
  go_wp2_with (first | ((with_reducible refine gw_ rfl ?_); (refine gL_ 54 7 Tryz.func54 #[.agg #[.int .i64 a0_0, .slice A0_1 l0_1.length c0_1], .slice A1 l1.length c1] ?_; (with_reducible refine (impl_IsBase.calls k a0_0 _ _ l0_1 _ _ l1 true _ ?side1 ?side2 ?side3 ?side4 ?tab A3.out).mono ?_); (case tab => first | exact HTB.out | (refine Tab64.below HTB.out ?_; repeat (first | (with_reducible first | exact HB.out | apply below_alloc | apply pw_below_drewN | apply below_drew1 | refine below_set ?_ GE1293.out) | exact HB.out)) | (repeat (first | exact HTB.out | apply Tab64.drewN | apply Tab64.drew | apply Tab64.alloc))); (case side1 => exact s2_); (case side2 => exact HC0_1.out); (case side3 => exact s14_); (case side4 => exact HC1.out); rintro e w8 ⟨rfl, hb⟩; refine ⟨_, rfl, ?_⟩; have n_ := ac_ (blk_below (g := gb1293) (o := .cells #[.int .i64 a0_0, .slice A0_1 l0_1.length c0_1] 29 (0, 0)) q50_13 hb) <| Aside0.mk (below_step q50_10 hb); clear BK1293 HB; obtain ⟨BK1293, HB⟩ := n_; (try clear hb); have hcz9_0 : w8.cell? ⟨gb1293, 0, none⟩ = some (.int .i64 a0_0) := (blk_cell BK1293.out 0).trans rfl; have hcz9_1 : w8.cell? ⟨gb1293, 1, none⟩ = some (.slice A0_1 l0_1.length c0_1) := (blk_cell BK1293.out 1).trans rfl; have hfz9_0 := blk_frozen BK1293.out 0; have hfz9_1 := blk_frozen BK1293.out 1)) | ((with_reducible refine gate_dst (N := 2) rfl ?_); (try (refine gate_guard (by rfl) ?_; dsimp only)); refine box_event ?hg (N := 2) ?hd (cs := #[.int .i64 a0_0, .slice A0_1 l0_1.length c0_1]) (t := 29) ?hr ?_; (case hd => rfl); (case hg => rfl); (case hr => first | (go_simp; done) | (go_simp; rfl)); intro gb1293 hg w6 hbox hb; have n_ := ac_ (below_step s1_ hb) <| ac_ (hbox) <| ac_ ((gz_ w hg s1_)) <| Aside0.mk ((gz_ w hg s1_)); clear HB; obtain ⟨HB, BK1293, GW1293, GE1293⟩ := n_; clear hb hbox hg; have hcz7_0 : w6.cell? ⟨gb1293, 0, none⟩ = some (.int .i64 a0_0) := (blk_cell BK1293.out 0).trans rfl; have hcz7_1 : w6.cell? ⟨gb1293, 1, none⟩ = some (.slice A0_1 l0_1.length c0_1) := (blk_cell BK1293.out 1).trans rfl; have hfz7_0 := blk_frozen BK1293.out 0; have hfz7_1 := blk_frozen BK1293.out 1) | (go_at_call 51; (with_reducible refine (impl_StemBase.calls a0_0 _ _ l0_1 t1295 _ ?side1 ?side2 ?tab A5.out).mono ?_); (case tab => first | exact HTB.out | (refine Tab64.below HTB.out ?_; repeat (first | (with_reducible first | exact HB.out | apply below_alloc | apply pw_below_drewN | apply below_drew1 | refine below_set ?_ GE1293.out) | exact HB.out)) | (repeat (first | exact HTB.out | apply Tab64.drewN | apply Tab64.drew | apply Tab64.alloc))); (case side1 => exact s2_); (case side2 => exact HC0_1.out); rintro e w10 ⟨v1296, rfl, ho0, hb⟩; have n_ := ac_ (Kd.R_lower ho0 (below_size q50_10)) <| ac_ (blk_below (g := gb1293) (o := .cells #[.int .i64 a0_0, .slice A0_1 l0_1.length c0_1] 29 (0, 0)) q50_13 hb) <| Aside0.mk (below_step q50_10 hb); clear BK1293 HB; obtain ⟨HO1297, BK1293, HB⟩ := n_; (try clear hb ho0); obtain ⟨Ao11, co11, eo11⟩ := Kd.R_slice HO1297.out; subst eo11))
  go_ret
  exact ⟨(by first | rfl | (simp [errW_none, errW_some] <;> rfl) | (simp [*, errW_none, errW_some] <;> rfl)), q50_10⟩
 ·
  replace c4 := Bool.eq_false_iff.mpr c4; subst c4
  rw [if_neg (show ¬ (false = true) by decide)] at H
  obtain rfl := Option.some.inj H
  go_enter Tryz.func57, Tryz.ntmps57
  go_wp2_with (first | ((with_reducible refine gw_ rfl ?_); (refine gL_ 54 7 Tryz.func54 #[.agg #[.int .i64 a0_0, .slice A0_1 l0_1.length c0_1], .slice A1 l1.length c1] ?_; (with_reducible refine (impl_IsBase.calls k a0_0 _ _ l0_1 _ _ l1 false _ ?side1 ?side2 ?side3 ?side4 ?tab A3.out).mono ?_); (case tab => first | exact HTB.out | (refine Tab64.below HTB.out ?_; repeat (first | (with_reducible first | exact HB.out | apply below_alloc | apply pw_below_drewN | apply below_drew1 | refine below_set ?_ GE1293.out) | exact HB.out)) | (repeat (first | exact HTB.out | apply Tab64.drewN | apply Tab64.drew | apply Tab64.alloc))); (case side1 => exact s2_); (case side2 => exact HC0_1.out); (case side3 => exact s14_); (case side4 => exact HC1.out); rintro e w14 ⟨rfl, hb⟩; refine ⟨_, rfl, ?_⟩; have n_ := ac_ (blk_below (g := gb1293) (o := .cells #[.int .i64 a0_0, .slice A0_1 l0_1.length c0_1] 29 (0, 0)) q50_13 hb) <| Aside0.mk (below_step q50_10 hb); clear BK1293 HB; obtain ⟨BK1293, HB⟩ := n_; (try clear hb))) | ((with_reducible refine gate_dst (N := 2) rfl ?_); (try (refine gate_guard (by rfl) ?_; dsimp only)); refine box_event ?hg (N := 2) ?hd (cs := #[.int .i64 a0_0, .slice A0_1 l0_1.length c0_1]) (t := 29) ?hr ?_; (case hd => rfl); (case hg => rfl); (case hr => first | (go_simp; done) | (go_simp; rfl)); intro gb1293 hg w12 hbox hb; have n_ := ac_ (below_step s1_ hb) <| ac_ (hbox) <| ac_ ((gz_ w hg s1_)) <| Aside0.mk ((gz_ w hg s1_)); clear HB; obtain ⟨HB, BK1293, GW1293, GE1293⟩ := n_; clear hb hbox hg; have hcz13_0 : w12.cell? ⟨gb1293, 0, none⟩ = some (.int .i64 a0_0) := (blk_cell BK1293.out 0).trans rfl; have hcz13_1 : w12.cell? ⟨gb1293, 1, none⟩ = some (.slice A0_1 l0_1.length c0_1) := (blk_cell BK1293.out 1).trans rfl; have hfz13_0 := blk_frozen BK1293.out 0; have hfz13_1 := blk_frozen BK1293.out 1))
  go_ret
  exact ⟨(by first | rfl | (simp [errW_none, errW_some] <;> rfl) | (simp [*, errW_none, errW_some] <;> rfl)), q50_10⟩
end Go.Proofs.YtafnamchckehmaaGreatDoor.Pr
