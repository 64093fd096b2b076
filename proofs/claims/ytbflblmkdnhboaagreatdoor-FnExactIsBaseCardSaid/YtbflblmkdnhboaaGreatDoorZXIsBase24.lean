/- What the law needs of the program's functions as plain functions, of the proofs that their calls answer so, and of plain laws: gathered by a program of this place (pack.py) out of its printed texts. No condition beyond what each statement says. -/
import Derived.Test.YtbflblmkdnhboaaGreatDoorZXIsBase17
import Derived.Test.YtbflblmkdnhboaaGreatDoorZXIsBase23
import Derived.Test.YtbflblmkdnhboaaGreatDoorZXIsBase16
import Derived.Test.YtbflblmkdnhboaaGreatDoorZXIsBase20
import Derived.Test.YtbflblmkdnhboaaGreatDoorZXIsBase2
import Derived.Test.YtbflblmkdnhboaaGreatDoorZXIsBase15
namespace Go.Proofs.YtbflblmkdnhboaaGreatDoor.Pr
open Go.RowKit Go.Proofs.YtbflblmkdnhboaaGreatDoorW.PrintWords Go.Proofs.YtbflblmkdnhboaaGreatDoorW.PrintLast Go.Proofs.YtbflblmkdnhboaaGreatDoorW.PrintMore
set_option linter.unusedVariables false
set_option linter.unusedSimpArgs false
def stemAt (c : Nat → Nat) (m i : Nat) : List Nat := ((stOut m).take i).foldl (Pu.stemStep c) []
theorem stemAt_succ {c : Nat → Nat} {m i s : Nat} (h : (stOut m)[i]? = some s) : stemAt c m (i + 1) = Pu.stemStep c (stemAt c m i) s := by
  unfold stemAt
  rw [List.take_add_one, h, List.foldl_append]
  rfl
theorem stemAt_all (c : Nat → Nat) {m : Nat} (hm : m ≤ 6) {i : Nat} (hi : 2 ^ m ≤ i) : stemAt c m i = Pu.stemL c (stOut m) := by
  unfold stemAt
  rw [List.take_of_length_le (by rw [(Pu.stOut_ok hm).2.1]; exact hi)]
  rfl
theorem mem_foldl_stem {c : Nat → Nat} : ∀ (l out : List Nat) (p : Nat), p ∈ l.foldl (Pu.stemStep c) out → p ∈ out ∨ p ∈ l
  | [], out, p, h => Or.inl h
  | s :: l, out, p, h => by
    rw [List.foldl_cons] at h
    rcases mem_foldl_stem l _ p h with h1 | h1
    · unfold Pu.stemStep at h1
      split at h1
      · rcases List.mem_append.1 h1 with h2 | h2
        · exact Or.inl h2
        · rw [List.mem_singleton] at h2
          exact Or.inr (h2 ▸ List.mem_cons_self)
      · exact Or.inl h1
    · exact Or.inr (List.mem_cons_of_mem _ h1)
theorem len_foldl_stem {c : Nat → Nat} : ∀ (l out : List Nat), (l.foldl (Pu.stemStep c) out).length ≤ out.length + l.length
  | [], out => Nat.le_refl _
  | s :: l, out => by
    rw [List.foldl_cons, List.length_cons]
    refine Nat.le_trans (len_foldl_stem l _) ?_
    unfold Pu.stemStep
    split
    · rw [List.length_append, List.length_singleton]; omega
    · omega
theorem stemAt_lt {c : Nat → Nat} {m i : Nat} (hm : m ≤ 6) {p : Nat} (h : p ∈ stemAt c m i) : p < 2 ^ m := by
  rcases mem_foldl_stem _ _ p h with h1 | h1
  · cases h1
  · exact (Pu.stOut_mem hm).1 (List.mem_of_mem_take h1)
theorem stemAt_len (c : Nat → Nat) (m i : Nat) : (stemAt c m i).length ≤ i := by
  have := len_foldl_stem (c := c) ((stOut m).take i) []
  rw [List.length_nil, List.length_take] at this
  unfold stemAt
  omega
theorem free_any (c : Nat → Nat) (o : List Nat) (s : Nat) : Pu.freeB c o s = !o.any (preV c s) := rfl
theorem stOut_nodup {m : Nat} (hm : m ≤ 6) : (stOut m).Nodup := by
  rw [List.nodup_iff_count]
  intro a
  refine Classical.byContradiction fun hn => ?_
  have h1 : a ∈ stOut m := List.count_pos_iff.1 (by omega)
  have h3 : (List.range (2 ^ m)).length ≤ ((stOut m).erase a).length := List.nodup_range.length_le_of_subset fun y hy => by
    have hy' := (Pu.stOut_mem hm).2 (List.mem_range.1 hy)
    by_cases e : y = a
    · subst e
      exact List.count_pos_iff.1 (by rw [List.count_erase_self]; omega)
    · exact (List.mem_erase_of_ne e).2 hy'
  rw [List.length_range, List.length_erase_of_mem h1, (Pu.stOut_ok hm).2.1] at h3
  have := Nat.two_pow_pos m
  omega
theorem addr0 (gl i : Nat) : (Addr.add ⟨gl, 0, none⟩ (i : Int).toNat) = ⟨gl, i, none⟩ := by
  rw [Int.toNat_natCast]
  unfold Addr.add
  split
  · next h => rw [h]
  · simp
theorem any_cast (c : Nat → Nat) (s : Nat) (o : List Nat) : (Pu.cast o).any (fun x => preV c s x.toNat) = o.any (preV c s) := by
  unfold Pu.cast
  rw [List.any_map]
  rfl
set_option maxHeartbeats 1000000 in
theorem contains_stem (g : Nat) (cb : Array Value) (eg : ∀ args w, (callFunc g args).run Tryz.prog w = .ok (.enter g args) w) (c : Nat → Nat) (A : Option Addr) (cc : Nat) (o : List Nat) (s b8 b3 : Nat) (w5 W : World) (hs : s < 256) (ho : ∀ p ∈ o, p < 256 ∧ c p < 256)
    (h8 : W.heap[b8]? = some (.cells #[.int .i64 (s : Int)] 3 (0, 0))) (h3 : W.heap[b3]? = some (.cells #[.func (.func g) #[] cb] 62 (0, 0)))
    (hR : (Kd.int .i64).R 3 W w5.heap.size (fun _ => True) (.slice A (Pu.cast o).length cc) (Pu.cast o)) (hB : Below w5.heap.size w5 W)
    (hp : ∀ (W' : World) (p : Nat), p ∈ o → Below w5.heap.size w5 W' → Calls Tryz.prog g (#[.int .i64 (p : Int)] ++ cb) W' fun e w' => e = .returned (.int .i64 ((c p : Nat) : Int)) ∧ Below W'.heap.size W' w') :
    Calls Tryz.prog 39 #[.slice A (Pu.cast o).length cc, .func (.func 78) #[] #[.pointer (some ⟨b8, 0, none⟩), .pointer (some ⟨b3, 0, none⟩)]] W fun e w' =>
      e = .returned (.bool (o.any (preV c s))) ∧ w'.cell? ⟨b8, 0, none⟩ = some (.int .i64 (s : Int)) ∧ w'.cell? ⟨b3, 0, none⟩ = some (.func (.func g) #[] cb) ∧ (Kd.int .i64).R 3 w' w5.heap.size (fun _ => True) (.slice A (Pu.cast o).length cc) (Pu.cast o) ∧ Below w5.heap.size w5 w' := by
  have eg2 : ∀ args w, (callFunc 78 args).run Tryz.prog w = .ok (.enter 78 args) w := enters_of Tryz.func78 (by kernel_rfl) rfl
  refine (ContainsFunc_mem 78 #[.pointer (some ⟨b8, 0, none⟩), .pointer (some ⟨b3, 0, none⟩)] eg2 A cc (Pu.cast o) (fun x => preV c s x.toNat) W (Kd.R_reads' hR).2.2 ?_).mono ?_
  · intro W' x hx hb
    obtain ⟨p, hpo, rfl⟩ := List.mem_map.1 (show x ∈ o.map fun (x : Nat) => (x : Int) from hx)
    obtain ⟨h1, h2⟩ := ho p hpo
    rw [show (#[.int .i64 (p : Int)] ++ #[.pointer (some ⟨b8, 0, none⟩), .pointer (some ⟨b3, 0, none⟩)] : Array Value) = #[.int .i64 (p : Int), .pointer (some ⟨b8, 0, none⟩), .pointer (some ⟨b3, 0, none⟩)] from rfl]
    exact stem2_calls g cb eg c b8 b3 s p hs h1 h2 W' ((blk_cell (blk_below h8 hb) 0).trans rfl) ((blk_cell (blk_below h3 hb) 0).trans rfl) (fun W2 hb2 => hp W2 p hpo (below_step (below_step hB hb) hb2))
  · rintro e w' ⟨rfl, hb⟩
    exact ⟨by rw [any_cast], (blk_cell (blk_below h8 hb) 0).trans rfl, (blk_cell (blk_below h3 hb) 0).trans rfl, Kd.R_below hR hb, below_step hB hb⟩
def Stem_B : List Nat := [0, 0, 3, 0, 15, 31, 63, 127]
theorem Stem_tab : rtab .any (opsOf Tryz.f61 8) = rtab .any (opsOf Tryz.f61 8) := rfl
theorem Stem_bits : waitsOk (rtab .any (opsOf Tryz.f61 8)).2 Stem_B = true := by kernel_rfl
set_option maxHeartbeats 8000000 in
set_option maxRecDepth 100000 in
theorem stem_at (g : Nat) (cb : Array Value) (eg : ∀ args w, (callFunc g args).run Tryz.prog w = .ok (.enter g args) w) (c : Nat → Nat) (m : Nat) (hm : m ≤ 6) (hcl : ∀ x, x < 2 ^ m → c x < 256) (w : World) (htab : Tab64 w)
    (hp : ∀ (W : World) (x : Nat), x < 2 ^ m → Below w.heap.size w W → Calls Tryz.prog g (#[.int .i64 (x : Int)] ++ cb) W fun e w' => e = .returned (.int .i64 ((c x : Nat) : Int)) ∧ Below W.heap.size W w') :
    Calls Tryz.prog 61 #[.int .i64 (m : Int), .func (.func g) #[] cb] w fun e w' => ∃ v0_ : Value, e = .returned (v0_) ∧ Kd.R (Kd.int .i64) 3 w' w.heap.size (fun _ => True) v0_ (Pu.cast (Pu.psN m c)) ∧ Below w.heap.size w w' := by
  obtain ⟨K, hK⟩ := Ev.rounds (Pu.all_val (show m ≤ 8 by omega))
  have HALL := Aside0.mk hK
  have HTB := Aside0.mk htab
  have h64 : 2 ^ m ≤ 256 := Pu.pow_256 (by omega)
  have hLL : (stOut m).length = 2 ^ m := (Pu.stOut_ok hm).2.1
  have HEL : Aside0 (∀ i : Nat, i < 2 ^ m → ∃ s, (stOut m)[i]? = some s ∧ rd (Pu.cast (stOut m)) (i : Int) = (s : Int) ∧ s < 2 ^ m) := ⟨fun i hi => by
    have h1 : (stOut m)[i]? = some ((stOut m)[i]'(by omega)) := List.getElem?_eq_getElem (by omega)
    refine ⟨_, h1, ?_, (Pu.stOut_mem hm).1 (List.getElem_mem _)⟩
    unfold rd Pu.cast
    rw [Int.toNat_natCast, List.getD_eq_getElem?_getD, List.getElem?_map, h1]
    rfl⟩
  have HSM : Aside0 (∀ i p, p ∈ stemAt c m i → p < 2 ^ m) := ⟨fun i p h => stemAt_lt hm h⟩
  have HALLS : Aside0 (∀ i, 2 ^ m ≤ i → stemAt c m i = Pu.stemL c (stOut m)) := ⟨fun i hi => stemAt_all c hm hi⟩
  have HQ : Aside0 (∀ x ∈ Pu.stemL c (stOut m), x < 256) := ⟨fun x hx => by have := ((Pu.stemL_mem c hm).1 hx).1; omega⟩
  have HQN : Aside0 ((Pu.stemL c (stOut m)).Nodup) := ⟨Pu.stemL_nodup c _ [] (stOut_nodup hm) List.nodup_nil fun _ _ h => by cases h⟩
  have HPS : Aside0 (Pu.lecR (Pu.stemL c (stOut m)) = Pu.psN m c) := ⟨Pu.lec_stemL c hm⟩
  have HLA : Aside0 ((Pu.cast (Pu.allN m)).length = 2 ^ m) := ⟨by rw [Pu.cast_length, Pu.allN_length (by omega)]⟩
  have HPOS : Aside0 (0 < (Pu.cast (Pu.allN m)).length) := ⟨by rw [HLA.out]; exact Nat.two_pow_pos m⟩
  have HLL : Aside0 ((Pu.cast (stOut m)).length = 2 ^ m) := ⟨by rw [Pu.cast_length, hLL]⟩
  have HST : Aside0 (∀ (gl c0 : Nat) (w3 W : World), Below w3.heap.size w3 W → (Kd.int .i64).R 3 W w3.heap.size (fun _ => True) (.slice (some ⟨gl, 0, none⟩) (2 ^ m) c0) (Pu.cast (Pu.allN m)) → Calls Tryz.prog 75 #[.slice (some ⟨gl, 0, none⟩) (2 ^ m) c0, .func (.func 76) #[] #[]] W fun e w' => e = .returned (.tuple #[]) ∧ (Kd.int .i64).R 3 w' w3.heap.size (fun _ => True) (.slice (some ⟨gl, 0, none⟩) (2 ^ m) c0) (Pu.cast (stOut m)) ∧ Below w3.heap.size w3 w') := ⟨fun gl c0 w3 W hb ho => stable_at gl c0 m hm w3 W hb ho⟩
  have HRD : Aside0 (∀ (gl c0 base : Nat) (W : World), (Kd.int .i64).R 3 W base (fun _ => True) (.slice (some ⟨gl, 0, none⟩) (2 ^ m) c0) (Pu.cast (stOut m)) → Kd.C (Kd.int .i64) W (some ⟨gl, 0, none⟩) (Pu.cast (stOut m)).length (Pu.cast (stOut m))) := ⟨fun gl c0 base W h => (Kd.R_reads' h).2.2⟩
  have HCL : Aside0 (∀ x, x < 2 ^ m → c x < 256) := ⟨hcl⟩
  have HP0 : Aside0 (∀ (W : World) (x : Nat), x < 2 ^ m → Below w.heap.size w W → Calls Tryz.prog g (#[.int .i64 (x : Int)] ++ cb) W fun e w' => e = .returned (.int .i64 ((c x : Nat) : Int)) ∧ Below W.heap.size W w') := ⟨hp⟩
  obtain ⟨N, hN⟩ : ∃ N, N = 2 ^ m := ⟨_, rfl⟩
  have HM : Aside0 (m ≤ 6) := ⟨hm⟩
  clear hK htab hLL hcl hp hm
  rw [← hN] at HEL HSM HALLS HLA HLL HST HRD HCL HP0 h64
  clear hN
  go_enter Tryz.func61, Tryz.ntmps61
  go_wp2_with (first | ((with_reducible refine gate_dst (N := 3) rfl ?_); refine box_event ?hg (N := 3) ?hd (cs := #[.func (.func g) #[] cb]) (t := 62) ?hr ?_; (case hd => rfl); (case hg => rfl); (case hr => first | (go_simp; done) | (go_simp; rfl)); intro gb3 hg w3 hbox hb; have HB3 := Aside0.mk hb; have BK3 := Aside0.mk hbox; clear hb hbox hg) | (go_at_call 74; refine (impl_allSets.calls K (m : Int) (Pu.cast (Pu.allN m)) _ (HTB.out.below HB3.out) HALL.out).mono ?_; rintro e w4 ⟨v, rfl, hR, hb⟩; obtain ⟨gl, c0, hv, hgc⟩ := R_form_int hR HPOS.out; rw [HLA.out] at hv; subst hv; have HO4 := Aside0.mk hR; have HB4 := Aside0.mk hb; clear hR hb hgc) | (go_at_call 75; refine (HST.out gl c0 _ _ HB4.out HO4.out).mono ?_; rintro e w5 ⟨rfl, hR, hb⟩; have HC5 := Aside0.mk (HRD.out gl c0 _ _ hR); have HB5 := Aside0.mk (below_step HB3.out hb); have BK5 := Aside0.mk (blk_below BK3.out hb); clear hR hb HO4 HB4) | ((with_reducible refine gate_dst (N := 14) rfl ?_); refine Kd.R_lit (Kd.int .i64) _ 3 ?hg (N := 14) ?hd (xs := ([] : List Int)) (inner := []) (ok := fun _ => True) (okp := fun _ => True) ?hr ?hp (fun _ hk => hk) trivial (Below.refl _ _) (Nat.le_refl _) (by simp) ?_; (case hd => rfl); (case hg => rfl); (case hr => first | (go_simp; done) | (go_simp; rfl)); (case hp => exact (Reps.none _ _)); intro v6 w6 ho hb hg_ hnew_; clear hg_ hnew_; have HO6 := Aside0.mk ho; have HB6 := Aside0.mk hb; clear ho hb))
  have HP : Aside0 (∀ (W : World) (x : Nat), x < N → Below w5.heap.size w5 W → Calls Tryz.prog g (#[.int .i64 (x : Int)] ++ cb) W fun e w' => e = .returned (.int .i64 ((c x : Nat) : Int)) ∧ Below W.heap.size W w') := ⟨fun W x hx hb => HP0.out W x hx (below_step HB5.out hb)⟩
  go_loopg [6, 17] (N + 1) (fun kx s6 s17 W => ∃ (i : Nat), s17 = .int .i64 (i : Int) ∧ i ≤ N ∧ N - i < kx ∧ Aside0 ((Kd.int .i64).R 3 W w5.heap.size (fun _ => True) s6 (Pu.cast (stemAt c m i))) ∧ Aside0 (Below w5.heap.size w5 W))
  case atStart => exact ⟨0, rfl, by omega, by omega, HO6, HB6⟩
  case round =>
    clear HO6 HB6
    obtain ⟨i, rfl, hiN, hkx, HO, HB⟩ := hrel
    by_cases hlt : i < N
    · have hltz : ((i : Int) < (N : Int)) := by omega
      obtain ⟨s, hget, hrd, hsN⟩ := HEL.out i hlt
      have HS : Aside0 (s < N) := ⟨hsN⟩
      have HS256 : Aside0 (s < 256) := ⟨by omega⟩
      have HLE : Aside0 ((Pu.cast (stemAt c m i)).length + 1 ≤ 300) := ⟨by have := stemAt_len c m i; rw [Pu.cast_length]; omega⟩
      have HMEM : Aside0 (∀ p ∈ stemAt c m i, p < 256 ∧ c p < 256) := ⟨fun p hp => ⟨by have := HSM.out i p hp; omega, HCL.out p (HSM.out i p hp)⟩⟩
      have HPO : Aside0 (∀ (W' : World) (p : Nat), p ∈ stemAt c m i → Below w5.heap.size w5 W' → Calls Tryz.prog g (#[.int .i64 (p : Int)] ++ cb) W' fun e w' => e = .returned (.int .i64 ((c p : Nat) : Int)) ∧ Below W'.heap.size W' w') := ⟨fun W' p hp hb => HP.out W' p (HSM.out i p hp) hb⟩
      have HSTEP : Aside0 (stemAt c m (i + 1) = Pu.stemStep c (stemAt c m i) s) := ⟨stemAt_succ hget⟩
      clear hget hsN
      obtain ⟨ad, e, hx0⟩ := Kd.at_int HC5.out (i : Int) (by omega) (by rw [HLL.out]; exact hltz)
      cases e
      rw [hrd, addr0] at hx0
      clear hrd
      replace hx0 := (HB.out.cell (World.block_lt_of_cell? w5 _ hx0)).trans hx0
      have p0 : (0 ≤ (i : Int)) = True := eq_true (by omega)
      replace hltz := eq_true hltz
      by_cases hcs : c s = s
      · have HN : Aside0 (stemAt c m (i + 1) = stemAt c m i) := ⟨by rw [HSTEP.out]; unfold Pu.stemStep; rw [if_neg (by rw [decide_eq_false (fun h => h hcs)]; simp)]⟩
        have hz1 : (((c s : Nat) : Int) == ((s : Nat) : Int)) = true := by rw [hcs]; simp
        have hz2 : (((c s : Nat) : Int) != ((s : Nat) : Int)) = false := by rw [hcs]; simp
        have hz3 : (((c s : Nat) : Int) = ((s : Nat) : Int)) = True := eq_true (by rw [hcs])
        have hz4 : (c s = s) = True := eq_true hcs
        have hz5 : (c s == s) = true := by rw [hcs]; simp
        have hz6 : (c s != s) = false := by rw [hcs]; simp
        clear hcs HSTEP
        go_wp2_with (first | ((with_reducible refine gate_dst (N := 8) rfl ?_); refine box_event ?hg (N := 8) ?hd (cs := #[.int .i64 0]) (t := 3) ?hr ?_; (case hd => rfl); (case hg => rfl); (case hr => first | (go_simp; done) | (go_simp; rfl)); intro gb8 hg w14 hbox hb; have HO8 := Aside0.mk (Kd.R_below (Kd.R_elderB HO.out gb8 (Nat.le_of_eq hg.symm)) hb); have HB8 := Aside0.mk (below_step HB.out hb); have BK8 := Aside0.mk hbox; have BK38 := Aside0.mk (blk_below (blk_below BK5.out HB.out) hb); have GE8 := Aside0.mk (show w5.heap.size ≤ gb8 from by rw [hg]; exact below_size HB.out); have NB8 := Aside0.mk (show gb3 ≠ gb8 from by rw [hg]; exact Nat.ne_of_lt (blk_lt (blk_below BK5.out HB.out))); clear hb hbox hg; have hcz_0 : w14.cell? ⟨gb8, 0, none⟩ = some (.int .i64 0) := (blk_cell BK8.out 0).trans rfl; have hfz_0 := blk_frozen BK8.out 0; obtain ⟨A6, c6, e6⟩ := Kd.R_slice HO8.out; subst e6) | (go_at_call 39; refine (contains_stem g cb eg c A6 c6 (stemAt c m i) s gb8 gb3 w5 _ HS256.out HMEM.out ?h8 ?h3 ?hr ?hb HPO.out).mono ?_; (case h8 => refine blk_put (cs := #[.int .i64 0]) ?_ 0 _ rfl; exact BK8.out); (case h3 => refine blk_far ?_ NB8.out _; exact BK38.out); (case hr => exact Kd.R_mono (Kd.R_far (p := ⟨gb8, 0, none⟩) HO8.out (fun _ hk => hk.2) _) (fun _ _ => trivial)); (case hb => exact below_set HB8.out GE8.out); rintro e w16 ⟨rfl, h8, h3, hR, hb⟩; have HOb := Aside0.mk hR; have HBb := Aside0.mk hb; clear hR hb))
        refine start_ (n := 8) (S := fun w' => w'.cell? ⟨gb8, 0, none⟩ = some (.int .i64 (s : Int)) ∧ w'.cell? ⟨gb3, 0, none⟩ = some (.func (.func g) #[] cb)) (ds := []) #[false, false, false, false, false, false, false, false] (by kernel_rfl) rfl rfl ⟨h8, h3⟩ (fun hHeld => ?_); refine with_tabW Stem_tab Stem_bits (fun HT_ HW_ => ?_)
        have HBc := Aside0.mk (below_drew1 HBb.out)
        have HOc := Aside0.mk (Kd.R_drew HOb.out)
        change w16.drew.cell? _ = _ at h8 h3
        generalize w16.drew = w10 at *
        refine take_ (i := 0) (N := some 25) (v := ?_) (a' := ?_) #[true, false, false, false, false, false, false, false] rfl rfl (take_ofW HT_.out HW_.out (by kernel_rfl)) (fun _ _ _ h => h) (Or.inl ⟨by rfl, ?_⟩) hHeld ?_ ?_
        rotate_left
        · rintro w' ⟨s0, s1⟩
          go_simp
          with_reducible rfl
        rotate_left
        · simp only [Act.put, List.setIfInBounds_toArray, List.set_cons_zero, List.set_cons_succ, i64_w, i32_w]
          rfl
        refine take_ (i := 1) (N := some 26) (v := ?_) (a' := ?_) #[true, true, false, false, false, false, false, false] rfl rfl (take_ofW HT_.out HW_.out (by kernel_rfl)) (fun _ _ _ h => h) (Or.inl ⟨by rfl, ?_⟩) hHeld ?_ ?_
        rotate_left
        · rintro w' ⟨s0, s1⟩
          go_simp
          with_reducible rfl
        rotate_left
        · simp only [Act.put, List.setIfInBounds_toArray, List.set_cons_zero, List.set_cons_succ, i64_w, i32_w]
          rfl
        refine take_ (i := 3) (N := some 28) (v := ?_) (a' := ?_) #[true, true, false, true, false, false, false, false] rfl rfl (take_ofW HT_.out HW_.out (by kernel_rfl)) (fun _ _ _ h => h) (Or.inl ⟨by rfl, ?_⟩) hHeld ?_ ?_
        rotate_left
        · rintro w' ⟨s0, s1⟩
          go_simp
          with_reducible rfl
        rotate_left
        · simp only [Act.put, List.setIfInBounds_toArray, List.set_cons_zero, List.set_cons_succ, i64_w, i32_w]
          rfl
        refine one_ (i := 2) (N := some 27) #[true, true, true, true, false, false, false, false] rfl rfl (one_of HT_.out (by kernel_rfl)) (by decide) (fun K hK => ?_)
        refine goesV_ (by rfl) rfl rfl rfl (args := #[.int .i64 (s : Int)]) (by (try simp only [List.map_toArray, List.map_cons, List.map_nil]); first | done | rfl) (eg _ _) ?_
        refine (HP.out _ s HS.out HBc.out).mono ?_
        rintro e w13 ⟨rfl, hb3⟩
        refine ⟨_, rfl, ?_⟩
        have HBd := Aside0.mk (below_step HBc.out hb3)
        have HOd := Aside0.mk (Kd.R_below HOc.out hb3)
        refine hK.out _ _ ⟨((hb3.cell (World.block_lt_of_cell? _ _ h8)).trans h8), ((hb3.cell (World.block_lt_of_cell? _ _ h3)).trans h3)⟩ (fun hHeld => ?_)
        clear hK K
        refine norm_ (a' := ?_) ?_ ?_
        rotate_left
        · show Act.put _ (some 27) _ = _
          simp only [Act.put, List.setIfInBounds_toArray, List.set_cons_zero, List.set_cons_succ, i64_w, i32_w]
          rfl
        refine pure_ (i := 4) (N := some 29) (v := ?_) (a' := ?_) #[true, true, true, true, true, false, false, false] rfl rfl (any_of HT_.out (by kernel_rfl)) (fun _ _ _ h => h) (Or.inl ⟨by rfl, ?_⟩) ?_ ?_
        rotate_left
        · intro w'
          go_simp
          with_reducible rfl
        rotate_left
        · simp only [Act.put, List.setIfInBounds_toArray, List.set_cons_zero, List.set_cons_succ, i64_w, i32_w]
          rfl
        refine pure_ (i := 5) (N := some 30) (v := ?_) (a' := ?_) #[true, true, true, true, true, true, false, false] rfl rfl (any_of HT_.out (by kernel_rfl)) (fun _ _ _ h => h) (Or.inl ⟨by rfl, ?_⟩) ?_ ?_
        rotate_left
        · intro w'
          go_simp
          with_reducible rfl
        rotate_left
        · simp only [Act.put, List.setIfInBounds_toArray, List.set_cons_zero, List.set_cons_succ, i64_w, i32_w]
          rfl
        refine pure_ (i := 6) (N := some 31) (v := undef) (a' := ?_) #[true, true, true, true, true, true, true, false] rfl rfl (any_of HT_.out (by kernel_rfl)) (fun _ _ _ h => h) (Or.inr ⟨by rfl, rfl⟩) ?_ ?_
        rotate_left
        · simp only [Act.put, List.setIfInBounds_toArray, List.set_cons_zero, List.set_cons_succ, i64_w, i32_w]
          rfl
        refine pure_ (i := 7) (N := some 32) (v := ?_) (a' := ?_) #[true, true, true, true, true, true, true, true] rfl rfl (any_of HT_.out (by kernel_rfl)) (fun _ _ _ h => h) (Or.inl ⟨by rfl, ?_⟩) ?_ ?_
        rotate_left
        · intro w'
          go_simp
          with_reducible rfl
        rotate_left
        · simp only [Act.put, List.setIfInBounds_toArray, List.set_cons_zero, List.set_cons_succ, i64_w, i32_w]
          rfl
        refine done_ (done_of HT_.out (by kernel_rfl)) ?_
        go_wp2
        go_roundg (N - i)
        case measure => omega
        case rel => exact ⟨i + 1, by first | rfl | go_num | (congr 1; omega), by omega, by omega, ⟨by rw [HN.out]; exact HOd.out⟩, ⟨HBd.out⟩⟩
      · have hz1 : (((c s : Nat) : Int) == ((s : Nat) : Int)) = false := beq_eq_false_iff_ne.mpr (by omega)
        have hz2 : (((c s : Nat) : Int) != ((s : Nat) : Int)) = true := bne_iff_ne.mpr (by omega)
        have hz3 : (((c s : Nat) : Int) = ((s : Nat) : Int)) = False := eq_false (by omega)
        have hz4 : (c s = s) = False := eq_false hcs
        have hz5 : (c s == s) = false := beq_eq_false_iff_ne.mpr hcs
        have hz6 : (c s != s) = true := bne_iff_ne.mpr hcs
        have HCS : Aside0 (decide (c s ≠ s) = true) := ⟨decide_eq_true hcs⟩
        clear hcs
        cases hany : (stemAt c m i).any (preV c s) with
        | true =>
          have HN : Aside0 (stemAt c m (i + 1) = stemAt c m i) := ⟨by rw [HSTEP.out]; unfold Pu.stemStep; rw [if_neg (by rw [free_any, hany]; simp)]⟩
          clear HSTEP HCS
          go_wp2_with (first | ((with_reducible refine gate_dst (N := 8) rfl ?_); refine box_event ?hg (N := 8) ?hd (cs := #[.int .i64 0]) (t := 3) ?hr ?_; (case hd => rfl); (case hg => rfl); (case hr => first | (go_simp; done) | (go_simp; rfl)); intro gb8 hg w14 hbox hb; have HO8 := Aside0.mk (Kd.R_below (Kd.R_elderB HO.out gb8 (Nat.le_of_eq hg.symm)) hb); have HB8 := Aside0.mk (below_step HB.out hb); have BK8 := Aside0.mk hbox; have BK38 := Aside0.mk (blk_below (blk_below BK5.out HB.out) hb); have GE8 := Aside0.mk (show w5.heap.size ≤ gb8 from by rw [hg]; exact below_size HB.out); have NB8 := Aside0.mk (show gb3 ≠ gb8 from by rw [hg]; exact Nat.ne_of_lt (blk_lt (blk_below BK5.out HB.out))); clear hb hbox hg; have hcz_0 : w14.cell? ⟨gb8, 0, none⟩ = some (.int .i64 0) := (blk_cell BK8.out 0).trans rfl; have hfz_0 := blk_frozen BK8.out 0; obtain ⟨A6, c6, e6⟩ := Kd.R_slice HO8.out; subst e6) | (go_at_call 39; refine (contains_stem g cb eg c A6 c6 (stemAt c m i) s gb8 gb3 w5 _ HS256.out HMEM.out ?h8 ?h3 ?hr ?hb HPO.out).mono ?_; (case h8 => refine blk_put (cs := #[.int .i64 0]) ?_ 0 _ rfl; exact BK8.out); (case h3 => refine blk_far ?_ NB8.out _; exact BK38.out); (case hr => exact Kd.R_mono (Kd.R_far (p := ⟨gb8, 0, none⟩) HO8.out (fun _ hk => hk.2) _) (fun _ _ => trivial)); (case hb => exact below_set HB8.out GE8.out); rintro e w16 ⟨rfl, h8, h3, hR, hb⟩; have HOb := Aside0.mk hR; have HBb := Aside0.mk hb; clear hR hb))
          clear hany
          refine start_ (n := 8) (S := fun w' => w'.cell? ⟨gb8, 0, none⟩ = some (.int .i64 (s : Int)) ∧ w'.cell? ⟨gb3, 0, none⟩ = some (.func (.func g) #[] cb)) (ds := []) #[false, false, false, false, false, false, false, false] (by kernel_rfl) rfl rfl ⟨h8, h3⟩ (fun hHeld => ?_); refine with_tabW Stem_tab Stem_bits (fun HT_ HW_ => ?_)
          have HBc := Aside0.mk (below_drew1 HBb.out)
          have HOc := Aside0.mk (Kd.R_drew HOb.out)
          change w16.drew.cell? _ = _ at h8 h3
          generalize w16.drew = w10 at *
          refine take_ (i := 0) (N := some 25) (v := ?_) (a' := ?_) #[true, false, false, false, false, false, false, false] rfl rfl (take_ofW HT_.out HW_.out (by kernel_rfl)) (fun _ _ _ h => h) (Or.inl ⟨by rfl, ?_⟩) hHeld ?_ ?_
          rotate_left
          · rintro w' ⟨s0, s1⟩
            go_simp
            with_reducible rfl
          rotate_left
          · simp only [Act.put, List.setIfInBounds_toArray, List.set_cons_zero, List.set_cons_succ, i64_w, i32_w]
            rfl
          refine take_ (i := 1) (N := some 26) (v := ?_) (a' := ?_) #[true, true, false, false, false, false, false, false] rfl rfl (take_ofW HT_.out HW_.out (by kernel_rfl)) (fun _ _ _ h => h) (Or.inl ⟨by rfl, ?_⟩) hHeld ?_ ?_
          rotate_left
          · rintro w' ⟨s0, s1⟩
            go_simp
            with_reducible rfl
          rotate_left
          · simp only [Act.put, List.setIfInBounds_toArray, List.set_cons_zero, List.set_cons_succ, i64_w, i32_w]
            rfl
          refine take_ (i := 3) (N := some 28) (v := ?_) (a' := ?_) #[true, true, false, true, false, false, false, false] rfl rfl (take_ofW HT_.out HW_.out (by kernel_rfl)) (fun _ _ _ h => h) (Or.inl ⟨by rfl, ?_⟩) hHeld ?_ ?_
          rotate_left
          · rintro w' ⟨s0, s1⟩
            go_simp
            with_reducible rfl
          rotate_left
          · simp only [Act.put, List.setIfInBounds_toArray, List.set_cons_zero, List.set_cons_succ, i64_w, i32_w]
            rfl
          refine one_ (i := 2) (N := some 27) #[true, true, true, true, false, false, false, false] rfl rfl (one_of HT_.out (by kernel_rfl)) (by decide) (fun K hK => ?_)
          refine goesV_ (by rfl) rfl rfl rfl (args := #[.int .i64 (s : Int)]) (by (try simp only [List.map_toArray, List.map_cons, List.map_nil]); first | done | rfl) (eg _ _) ?_
          refine (HP.out _ s HS.out HBc.out).mono ?_
          rintro e w13 ⟨rfl, hb3⟩
          refine ⟨_, rfl, ?_⟩
          have HBd := Aside0.mk (below_step HBc.out hb3)
          have HOd := Aside0.mk (Kd.R_below HOc.out hb3)
          refine hK.out _ _ ⟨((hb3.cell (World.block_lt_of_cell? _ _ h8)).trans h8), ((hb3.cell (World.block_lt_of_cell? _ _ h3)).trans h3)⟩ (fun hHeld => ?_)
          clear hK K
          refine norm_ (a' := ?_) ?_ ?_
          rotate_left
          · show Act.put _ (some 27) _ = _
            simp only [Act.put, List.setIfInBounds_toArray, List.set_cons_zero, List.set_cons_succ, i64_w, i32_w]
            rfl
          refine pure_ (i := 4) (N := some 29) (v := ?_) (a' := ?_) #[true, true, true, true, true, false, false, false] rfl rfl (any_of HT_.out (by kernel_rfl)) (fun _ _ _ h => h) (Or.inl ⟨by rfl, ?_⟩) ?_ ?_
          rotate_left
          · intro w'
            go_simp
            with_reducible rfl
          rotate_left
          · simp only [Act.put, List.setIfInBounds_toArray, List.set_cons_zero, List.set_cons_succ, i64_w, i32_w]
            rfl
          refine pure_ (i := 5) (N := some 30) (v := ?_) (a' := ?_) #[true, true, true, true, true, true, false, false] rfl rfl (any_of HT_.out (by kernel_rfl)) (fun _ _ _ h => h) (Or.inl ⟨by rfl, ?_⟩) ?_ ?_
          rotate_left
          · intro w'
            go_simp
            with_reducible rfl
          rotate_left
          · simp only [Act.put, List.setIfInBounds_toArray, List.set_cons_zero, List.set_cons_succ, i64_w, i32_w]
            rfl
          refine pure_ (i := 6) (N := some 31) (v := ?_) (a' := ?_) #[true, true, true, true, true, true, true, false] rfl rfl (any_of HT_.out (by kernel_rfl)) (fun _ _ _ h => h) (Or.inl ⟨by rfl, ?_⟩) ?_ ?_
          rotate_left
          · intro w'
            go_simp
            with_reducible rfl
          rotate_left
          · simp only [Act.put, List.setIfInBounds_toArray, List.set_cons_zero, List.set_cons_succ, i64_w, i32_w]
            rfl
          refine pure_ (i := 7) (N := some 32) (v := ?_) (a' := ?_) #[true, true, true, true, true, true, true, true] rfl rfl (any_of HT_.out (by kernel_rfl)) (fun _ _ _ h => h) (Or.inl ⟨by rfl, ?_⟩) ?_ ?_
          rotate_left
          · intro w'
            go_simp
            with_reducible rfl
          rotate_left
          · simp only [Act.put, List.setIfInBounds_toArray, List.set_cons_zero, List.set_cons_succ, i64_w, i32_w]
            rfl
          refine done_ (done_of HT_.out (by kernel_rfl)) ?_
          go_wp2
          go_roundg (N - i)
          case measure => omega
          case rel => exact ⟨i + 1, by first | rfl | go_num | (congr 1; omega), by omega, by omega, ⟨by rw [HN.out]; exact HOd.out⟩, ⟨HBd.out⟩⟩
        | false =>
          have HN : Aside0 (Pu.cast (stemAt c m (i + 1)) = Pu.cast (stemAt c m i) ++ [(s : Int)]) := ⟨by rw [HSTEP.out]; unfold Pu.stemStep; rw [if_pos (by rw [free_any, hany, HCS.out]; rfl)]; unfold Pu.cast; rw [List.map_append]; rfl⟩
          clear HSTEP HCS
          go_wp2_with (first | ((with_reducible refine gate_dst (N := 8) rfl ?_); refine box_event ?hg (N := 8) ?hd (cs := #[.int .i64 0]) (t := 3) ?hr ?_; (case hd => rfl); (case hg => rfl); (case hr => first | (go_simp; done) | (go_simp; rfl)); intro gb8 hg w14 hbox hb; have HO8 := Aside0.mk (Kd.R_below (Kd.R_elderB HO.out gb8 (Nat.le_of_eq hg.symm)) hb); have HB8 := Aside0.mk (below_step HB.out hb); have BK8 := Aside0.mk hbox; have BK38 := Aside0.mk (blk_below (blk_below BK5.out HB.out) hb); have GE8 := Aside0.mk (show w5.heap.size ≤ gb8 from by rw [hg]; exact below_size HB.out); have NB8 := Aside0.mk (show gb3 ≠ gb8 from by rw [hg]; exact Nat.ne_of_lt (blk_lt (blk_below BK5.out HB.out))); clear hb hbox hg; have hcz_0 : w14.cell? ⟨gb8, 0, none⟩ = some (.int .i64 0) := (blk_cell BK8.out 0).trans rfl; have hfz_0 := blk_frozen BK8.out 0; obtain ⟨A6, c6, e6⟩ := Kd.R_slice HO8.out; subst e6) | (go_at_call 39; refine (contains_stem g cb eg c A6 c6 (stemAt c m i) s gb8 gb3 w5 _ HS256.out HMEM.out ?h8 ?h3 ?hr ?hb HPO.out).mono ?_; (case h8 => refine blk_put (cs := #[.int .i64 0]) ?_ 0 _ rfl; exact BK8.out); (case h3 => refine blk_far ?_ NB8.out _; exact BK38.out); (case hr => exact Kd.R_mono (Kd.R_far (p := ⟨gb8, 0, none⟩) HO8.out (fun _ hk => hk.2) _) (fun _ _ => trivial)); (case hb => exact below_set HB8.out GE8.out); rintro e w16 ⟨rfl, h8, h3, hR, hb⟩; have HOb := Aside0.mk hR; have HBb := Aside0.mk hb; clear hR hb))
          clear hany
          refine start_ (n := 8) (S := fun w' => w'.cell? ⟨gb8, 0, none⟩ = some (.int .i64 (s : Int)) ∧ w'.cell? ⟨gb3, 0, none⟩ = some (.func (.func g) #[] cb)) (ds := []) #[false, false, false, false, false, false, false, false] (by kernel_rfl) rfl rfl ⟨h8, h3⟩ (fun hHeld => ?_); refine with_tabW Stem_tab Stem_bits (fun HT_ HW_ => ?_)
          have HBc := Aside0.mk (below_drew1 HBb.out)
          have HOc := Aside0.mk (Kd.R_drew HOb.out)
          change w16.drew.cell? _ = _ at h8 h3
          generalize w16.drew = w10 at *
          refine take_ (i := 0) (N := some 25) (v := ?_) (a' := ?_) #[true, false, false, false, false, false, false, false] rfl rfl (take_ofW HT_.out HW_.out (by kernel_rfl)) (fun _ _ _ h => h) (Or.inl ⟨by rfl, ?_⟩) hHeld ?_ ?_
          rotate_left
          · rintro w' ⟨s0, s1⟩
            go_simp
            with_reducible rfl
          rotate_left
          · simp only [Act.put, List.setIfInBounds_toArray, List.set_cons_zero, List.set_cons_succ, i64_w, i32_w]
            rfl
          refine take_ (i := 1) (N := some 26) (v := ?_) (a' := ?_) #[true, true, false, false, false, false, false, false] rfl rfl (take_ofW HT_.out HW_.out (by kernel_rfl)) (fun _ _ _ h => h) (Or.inl ⟨by rfl, ?_⟩) hHeld ?_ ?_
          rotate_left
          · rintro w' ⟨s0, s1⟩
            go_simp
            with_reducible rfl
          rotate_left
          · simp only [Act.put, List.setIfInBounds_toArray, List.set_cons_zero, List.set_cons_succ, i64_w, i32_w]
            rfl
          refine take_ (i := 3) (N := some 28) (v := ?_) (a' := ?_) #[true, true, false, true, false, false, false, false] rfl rfl (take_ofW HT_.out HW_.out (by kernel_rfl)) (fun _ _ _ h => h) (Or.inl ⟨by rfl, ?_⟩) hHeld ?_ ?_
          rotate_left
          · rintro w' ⟨s0, s1⟩
            go_simp
            with_reducible rfl
          rotate_left
          · simp only [Act.put, List.setIfInBounds_toArray, List.set_cons_zero, List.set_cons_succ, i64_w, i32_w]
            rfl
          refine one_ (i := 2) (N := some 27) #[true, true, true, true, false, false, false, false] rfl rfl (one_of HT_.out (by kernel_rfl)) (by decide) (fun K hK => ?_)
          refine goesV_ (by rfl) rfl rfl rfl (args := #[.int .i64 (s : Int)]) (by (try simp only [List.map_toArray, List.map_cons, List.map_nil]); first | done | rfl) (eg _ _) ?_
          refine (HP.out _ s HS.out HBc.out).mono ?_
          rintro e w13 ⟨rfl, hb3⟩
          refine ⟨_, rfl, ?_⟩
          have HBd := Aside0.mk (below_step HBc.out hb3)
          have HOd := Aside0.mk (Kd.R_below HOc.out hb3)
          refine hK.out _ _ ⟨((hb3.cell (World.block_lt_of_cell? _ _ h8)).trans h8), ((hb3.cell (World.block_lt_of_cell? _ _ h3)).trans h3)⟩ (fun hHeld => ?_)
          clear hK K
          refine norm_ (a' := ?_) ?_ ?_
          rotate_left
          · show Act.put _ (some 27) _ = _
            simp only [Act.put, List.setIfInBounds_toArray, List.set_cons_zero, List.set_cons_succ, i64_w, i32_w]
            rfl
          refine pure_ (i := 4) (N := some 29) (v := ?_) (a' := ?_) #[true, true, true, true, true, false, false, false] rfl rfl (any_of HT_.out (by kernel_rfl)) (fun _ _ _ h => h) (Or.inl ⟨by rfl, ?_⟩) ?_ ?_
          rotate_left
          · intro w'
            go_simp
            with_reducible rfl
          rotate_left
          · simp only [Act.put, List.setIfInBounds_toArray, List.set_cons_zero, List.set_cons_succ, i64_w, i32_w]
            rfl
          refine pure_ (i := 5) (N := some 30) (v := ?_) (a' := ?_) #[true, true, true, true, true, true, false, false] rfl rfl (any_of HT_.out (by kernel_rfl)) (fun _ _ _ h => h) (Or.inl ⟨by rfl, ?_⟩) ?_ ?_
          rotate_left
          · intro w'
            go_simp
            with_reducible rfl
          rotate_left
          · simp only [Act.put, List.setIfInBounds_toArray, List.set_cons_zero, List.set_cons_succ, i64_w, i32_w]
            rfl
          refine pure_ (i := 6) (N := some 31) (v := ?_) (a' := ?_) #[true, true, true, true, true, true, true, false] rfl rfl (any_of HT_.out (by kernel_rfl)) (fun _ _ _ h => h) (Or.inl ⟨by rfl, ?_⟩) ?_ ?_
          rotate_left
          · intro w'
            go_simp
            with_reducible rfl
          rotate_left
          · simp only [Act.put, List.setIfInBounds_toArray, List.set_cons_zero, List.set_cons_succ, i64_w, i32_w]
            rfl
          refine pure_ (i := 7) (N := some 32) (v := ?_) (a' := ?_) #[true, true, true, true, true, true, true, true] rfl rfl (any_of HT_.out (by kernel_rfl)) (fun _ _ _ h => h) (Or.inl ⟨by rfl, ?_⟩) ?_ ?_
          rotate_left
          · intro w'
            go_simp
            with_reducible rfl
          rotate_left
          · simp only [Act.put, List.setIfInBounds_toArray, List.set_cons_zero, List.set_cons_succ, i64_w, i32_w]
            rfl
          refine done_ (done_of HT_.out (by kernel_rfl)) ?_
          go_wp2_with ((with_reducible refine gate_builtin (b := .append) (xs := #[.tmp 33, .tmp 35]) rfl ?_); at_builtin; refine Kd.R_append (Kd.int .i64) (w0 := w5) w5.heap.size rfl (.tmp 33) (.tmp 35) 22 3 (.int .i64 0) 8 rfl Tryz.underlying22 info3 rfl (by decide) (by omega) (.slice A6 (Pu.cast (stemAt c m i)).length c6) (Pu.cast (stemAt c m i)) (s : Int) [.int .i64 (s : Int)] (fun _ => True) (fun _ => False) rfl (by first | (go_simp; done) | (go_simp; rfl)) ?aP (fun _ hk => hk.elim) ?aF ?aO ?aB ?aS ?aL ?_; (case aP => exact rfl); (case aB => exact (by repeat (first | (with_reducible first | exact HBd.out | apply below_alloc | apply pw_below_drewN | apply below_drew1) | exact HBd.out))); (case aF => exact (fun _ _ => trivial)); (case aO => exact (by (with_reducible repeat (first | apply Kd.R_alloc | apply Kd.R_drewN | apply Kd.R_drew)); exact HOd.out)); (case aS => exact (below_size (by repeat (first | (with_reducible first | exact HBd.out | apply below_alloc | apply pw_below_drewN | apply below_drew1) | exact HBd.out)))); (case aL => have := HLE.out; omega); intro v9 w19 ho hb hg hat; have HOe := Aside0.mk ho; have HBe := Aside0.mk hb; clear ho hb hg hat)
          go_roundg (N - i)
          case measure => omega
          case rel => exact ⟨i + 1, by first | rfl | go_num | (congr 1; omega), by omega, by omega, ⟨by rw [HN.out]; exact HOe.out⟩, ⟨HBe.out⟩⟩
    · have hltz : ((i : Int) < (N : Int)) = False := eq_false (by omega)
      have HI : Aside0 (stemAt c m i = Pu.stemL c (stOut m)) := ⟨HALLS.out i (by omega)⟩
      obtain ⟨A6, c6, e6⟩ := Kd.R_slice HO.out
      subst e6
      have HRC : Aside0 ((Kd.int .i64).R 3 wr w5.heap.size (fun _ => True) (.slice A6 (Pu.cast (stemAt c m i)).length c6) (Pu.cast (stemAt c m i))) := ⟨HO.out⟩
      have HBA := Aside0.mk (below_step HB5.out HB.out)
      have HSZ := Aside0.mk (below_size HBA.out)
      rw [HI.out] at HRC ⊢
      have HLEC := Aside0.mk (sortLec_all A6 c6 (Pu.stemL c (stOut m)) wr HQ.out HQN.out HRC.out (HTB.out.below HBA.out))
      go_wp2_with (go_at_call 79; refine (HLEC.out).mono ?_; rintro e w20 ⟨v, rfl, hR, hb⟩; have HOz := Aside0.mk (Kd.R_lower hR HSZ.out); have HBz := Aside0.mk (below_step HBA.out hb); clear hR hb)
      go_ret
      exact ⟨_, rfl, by rw [← HPS.out]; exact HOz.out, HBz.out⟩
end Go.Proofs.YtbflblmkdnhboaaGreatDoor.Pr
namespace Go.Proofs.YtbflblmkdnhboaaGreatDoor.Pr
open Go.RowKit Go.Proofs.YtbflblmkdnhboaaGreatDoorW.PrintWords Go.Proofs.YtbflblmkdnhboaaGreatDoorW.PrintLast Go.Proofs.YtbflblmkdnhboaaGreatDoorW.PrintMore
set_option linter.unusedVariables false
def impl_PseudoIntents_stem0.f (a0 : Int) (a1_0 : Int) (l1_1 : List Int) : Option (List Int) := if a0 = a1_0 ∧ Pu.ctxB a1_0 l1_1 = true then some (Pu.cast (Pu.psN a1_0.toNat (Pu.cl a1_0.toNat (l1_1.map Int.toNat)))) else none
theorem pi_closure (m : Nat) (hm : m ≤ 6) (R : List Nat) (hR : R.length ≤ 8) (hbd : ∀ r ∈ R, r < 2 ^ m) (hc : Pu.ctxB (m : Int) (Pu.cast R) = true) (A1_1 : Option Addr) (c1_1 : Nat) (w : World) (hr1_1 : Kd.C (Kd.int .i64) w A1_1 (Pu.cast R).length (Pu.cast R)) (hc1_1 : (Pu.cast R).length ≤ c1_1)
    {g : Nat} (hg : w.heap[g]? = some (.cells #[.int .i64 (m : Int), .slice A1_1 (Pu.cast R).length c1_1] 29 (0, 0))) (W : World) (x : Nat) (hx : x < 2 ^ m) (hb : Below w.heap.size w W) :
    Calls Tryz.prog 62 (#[.int .i64 (x : Int)] ++ #[.pointer (some ⟨g, 0, none⟩)]) W fun e w' => e = .returned (.int .i64 ((Pu.cl m R x : Nat) : Int)) ∧ Below W.heap.size W w' := by
  rw [show (#[.int .i64 (x : Int)] ++ #[.pointer (some ⟨g, 0, none⟩)] : Array Value) = #[.int .i64 (x : Int), .pointer (some ⟨g, 0, none⟩)] from rfl]
  obtain ⟨k, hk⟩ := Ev.rounds (Pu.clI4_val hm hR hbd hx hc)
  have hu := Tryz.underlying29
  have hc0' : W.cell? ⟨g, 0, none⟩ = some (.int .i64 (m : Int)) := (blk_cell (blk_below hg hb) 0).trans rfl
  have hc1' : W.cell? ⟨g, 1, none⟩ = some (.slice A1_1 (Pu.cast R).length c1_1) := (blk_cell (blk_below hg hb) 1).trans rfl
  have HR := Aside0.mk (Kd.C_below hr1_1 hb)
  have HC := Aside0.mk hc1_1
  have HK := Aside0.mk hk
  clear hr1_1 hc1_1 hk hg hx hc hR hbd hm
  generalize Pu.cl m R x = q at *
  generalize Pu.cast R = l at *
  go_enter Tryz.func62, Tryz.ntmps62
  go_wp2_with (go_at_call 46; refine (impl_ClosureOf.calls k (m : Int) A1_1 c1_1 l (x : Int) (q : Int) _ (by first | exact HR.out | exact Kd.C_drewN HR.out _) HC.out HK.out).mono ?_; rintro e w' ⟨rfl, hb2⟩; have HB := Aside0.mk hb2; clear hb2)
  go_ret
  exact ⟨rfl, below_step (by repeat (first | exact Below.refl _ _ | apply below_alloc | apply pw_below_drewN | apply below_drew1)) HB.out⟩
theorem impl_PseudoIntents_stem0.calls (a0 : Int) (a1_0 : Int) (A1_1 : Option Addr) (c1_1 : Nat) (l1_1 : List Int) (r : List Int) (w : World) (hr1_1 : Kd.C (Kd.int .i64) w A1_1 l1_1.length l1_1) (hc1_1 : l1_1.length ≤ c1_1) (htab : Tab64 w) (h : impl_PseudoIntents_stem0.f a0 a1_0 l1_1 = some r)
    {g : Nat} (hg : w.heap[g]? = some (.cells #[.int .i64 a1_0, .slice A1_1 l1_1.length c1_1] 29 (0, 0))) :
    Calls Tryz.prog 61 #[.int .i64 a0, .func (.func 62) #[] #[.pointer (some ⟨g, 0, none⟩)]] w fun e w' => ∃ v0_ : Value, e = .returned (v0_) ∧ Kd.R (Kd.int .i64) 3 w' w.heap.size (fun _ => True) v0_ r ∧ Below w.heap.size w w' := by
  unfold impl_PseudoIntents_stem0.f at h
  by_cases hn : a0 = a1_0 ∧ Pu.ctxB a1_0 l1_1 = true
  · rw [if_pos hn] at h
    obtain rfl := Option.some.inj h
    obtain ⟨rfl, hc⟩ := hn
    have hc2 := hc
    obtain ⟨m, R, rfl, hm, rfl, hR, hbd⟩ := Pu.ctxB_nat hc2
    have eg : ∀ args w, (callFunc 62 args).run Tryz.prog w = .ok (.enter 62 args) w := enters_of Tryz.func62 (by kernel_rfl) rfl
    rw [Int.toNat_natCast, Pu.uncast]
    exact stem_at 62 #[.pointer (some ⟨g, 0, none⟩)] eg (Pu.cl m R) m hm (fun x _ => Pu.cl_256 (by omega) R x) w htab (fun W x hx hb => pi_closure m hm R hR hbd hc A1_1 c1_1 w hr1_1 hc1_1 hg W x hx hb)
  · rw [if_neg hn] at h
    cases h
end Go.Proofs.YtbflblmkdnhboaaGreatDoor.Pr
namespace Go.Proofs.YtbflblmkdnhboaaGreatDoor.Pr
open Go.RowKit Go.Proofs.YtbflblmkdnhboaaGreatDoorW.PrintWords Go.Proofs.YtbflblmkdnhboaaGreatDoorW.PrintLast Go.Proofs.YtbflblmkdnhboaaGreatDoorW.PrintMore
attribute [local go_sem] max2_int min2_int max_two min_two max_three min_three max_four min_four   -- for this text's walks alone
set_option linter.unusedVariables false
set_option linter.unusedSimpArgs false
theorem bnd13_ {α β : Type} {o : Option α} {f : α → Option β} {r : β} (h : o.bind f = some r) : ∃ a, Aside0 (o = some a) ∧ f a = some r := by
 obtain ⟨a, h1, h2⟩ := Option.bind_eq_some_iff.mp h
 exact ⟨a, ⟨h1⟩, h2⟩
theorem q13_1 {P : Prop} (h : P := by repeat (first | exact (Kd.C_below HR0_1.out HB.out) | (with_reducible refine Kd.C_alloc ?_ _) | (with_reducible refine Kd.C_drewN ?_ _) | (with_reducible refine Kd.C_drew ?_))) : P := h
theorem q13_2 {P : Prop} (h : P := by repeat (first | (with_reducible first | exact HB.out | apply below_alloc | apply pw_below_drewN | apply below_drew1 | refine below_set ?_ GE338.out) | exact HB.out)) : P := h
theorem q13_3 {P : Prop} (h : P := by (try simp only [List.map_toArray, List.map_cons, List.map_nil]); first | done | rfl | (simp only [List.length_drop, List.length_take]; rfl)) : P := h
theorem q13_4 {P : Prop} (h : P := by repeat (first | (with_reducible first | exact HB.out | apply below_alloc | apply pw_below_drewN | apply below_drew1) | exact HB.out)) : P := h
theorem q13_5 {P : Prop} (h : P := by (with_reducible repeat (first | refine blk_drewN ?_ _ | refine blk_drew ?_ | refine blk_alloc ?_ _)); exact BK338.out) : P := h
def impl_PseudoIntents.f (a0_0 : Int) (l0_1 : List Int) : Option (List Int) := (impl_IsContext.f a0_0 l0_1).bind fun t339 => (if t339 = true then ((impl_PseudoIntents_stem0.f a0_0 a0_0 l0_1).bind fun t340 => (some t340)) else (some ([] : List Int)))
set_option maxHeartbeats 8000000 in
set_option maxRecDepth 100000 in
theorem impl_PseudoIntents.calls (a0_0 : Int) (A0_1 : Option Addr) (c0_1 : Nat) (l0_1 : List Int) (r : List Int) (w : World) (hr0_1 : Kd.C (Kd.int .i64) w A0_1 l0_1.length l0_1) (hc0_1 : l0_1.length ≤ c0_1) (htab : Tab64 w) (h : impl_PseudoIntents.f a0_0 l0_1 = some r) :
  Calls Tryz.prog 50 #[.agg #[.int .i64 a0_0, .slice A0_1 l0_1.length c0_1]] w fun e w' => ∃ v0_ : Value, e = .returned (v0_) ∧ Kd.R (Kd.int .i64) 3 w' w.heap.size (fun _ => True) v0_ r ∧ Below w.heap.size w w' := by
 have HTB := Aside0.mk htab; clear htab; have hu29 := Tryz.underlying29; have HR0_1 := Aside0.mk hr0_1; have HC0_1 := Aside0.mk hc0_1; clear hr0_1 hc0_1; have HB := Aside0.mk (Below.refl w.heap.size w); have H := h; clear h; unfold impl_PseudoIntents.f at H; obtain ⟨t339, A2, H⟩ := bnd13_ H
 by_cases c3 : t339 = true
 ·
  subst c3; rw [if_pos rfl] at H; obtain ⟨t340, A4, H⟩ := bnd13_ H; obtain rfl := Option.some.inj H
  go_enter Tryz.func50, Tryz.ntmps50
  go_wp2_with (first | ((with_reducible refine gate_dst (N := 1) rfl ?_); refine box_event ?hg (N := 1) ?hd (cs := #[.int .i64 a0_0, .slice A0_1 l0_1.length c0_1]) (t := 29) ?hr ?_; (case hd => rfl); (case hg => rfl); (case hr => first | (go_simp; done) | (go_simp; rfl)); intro gb338 hg w5 hbox hb; have n_ := ac_ (below_step q13_4 hb) <| ac_ (hbox) <| ac_ ((by rw [hg]; exact (below_size q13_4) : w.heap.size ≤ gb338)) <| Aside0.mk ((by rw [hg]; exact (below_size q13_4) : w.heap.size ≤ gb338)); clear HB; obtain ⟨HB, BK338, GW338, GE338⟩ := n_; clear hb hbox hg; have hcz6_0 : w5.cell? ⟨gb338, 0, none⟩ = some (.int .i64 a0_0) := (blk_cell BK338.out 0).trans rfl; have hcz6_1 : w5.cell? ⟨gb338, 1, none⟩ = some (.slice A0_1 l0_1.length c0_1) := (blk_cell BK338.out 1).trans rfl; have hfz6_0 := blk_frozen BK338.out 0; have hfz6_1 := blk_frozen BK338.out 1) | ((with_reducible refine gate_callee (f := 23) rfl ?_); refine goesL_ (some 4) rfl rfl Tryz.func23 (by kernel_rfl) rfl #[.agg #[.int .i64 a0_0, .slice A0_1 l0_1.length c0_1]] rfl q13_3 ?_; (with_reducible refine (impl_IsContext.calls a0_0 _ _ l0_1 true _ ?side1 ?side2 A2.out).mono ?_); (case side1 => exact q13_1); (case side2 => exact HC0_1.out); rintro e w7 ⟨rfl, hb⟩; refine ⟨_, rfl, ?_⟩; have n_ := ac_ (blk_below (g := gb338) (o := .cells #[.int .i64 a0_0, .slice A0_1 l0_1.length c0_1] 29 (0, 0)) q13_5 hb) <| Aside0.mk (below_step q13_2 hb); clear BK338 HB; obtain ⟨BK338, HB⟩ := n_; (try clear hb); have hcz8_0 : w7.cell? ⟨gb338, 0, none⟩ = some (.int .i64 a0_0) := (blk_cell BK338.out 0).trans rfl; have hcz8_1 : w7.cell? ⟨gb338, 1, none⟩ = some (.slice A0_1 l0_1.length c0_1) := (blk_cell BK338.out 1).trans rfl; have hfz8_0 := blk_frozen BK338.out 0; have hfz8_1 := blk_frozen BK338.out 1) | ((with_reducible refine gate_callee (f := 61) rfl ?_); refine goesL_ (some 9) rfl rfl Tryz.func61 (by kernel_rfl) rfl #[.int .i64 a0_0, .func (.func 62) #[] #[.pointer (some ⟨gb338, 0, none⟩)]] rfl q13_3 ?_; (with_reducible refine (impl_PseudoIntents_stem0.calls a0_0 a0_0 ?u1_1 ?u1_2 l0_1 t340 _ ?side1 ?side2 ?tab A4.out ?box0).mono ?_); (case tab => first | exact HTB.out | (refine Tab64.below HTB.out ?_; repeat (first | (with_reducible first | exact HB.out | apply below_alloc | apply pw_below_drewN | apply below_drew1 | refine below_set ?_ GE338.out) | exact HB.out)) | (repeat (first | exact HTB.out | apply Tab64.drewN | apply Tab64.drew | apply Tab64.alloc))); (case box0 => (with_reducible repeat (first | refine blk_drewN ?_ _ | refine blk_drew ?_ | refine blk_alloc ?_ _)); exact BK338.out); (case side1 => exact q13_1); (case side2 => exact HC0_1.out); rintro e w9 ⟨v341, rfl, ho0, hb⟩; refine ⟨_, rfl, ?_⟩; have n_ := ac_ (Kd.R_lower ho0 (below_size q13_2)) <| ac_ (blk_below (g := gb338) (o := .cells #[.int .i64 a0_0, .slice A0_1 l0_1.length c0_1] 29 (0, 0)) q13_5 hb) <| Aside0.mk (below_step q13_2 hb); clear BK338 HB; obtain ⟨HO342, BK338, HB⟩ := n_; (try clear hb ho0)))
  go_ret
  exact ⟨_, (by first | rfl | (simp [errW_none, errW_some] <;> rfl) | (simp [*, errW_none, errW_some] <;> rfl)), (by (with_reducible repeat (first | apply Kd.R_alloc | apply Kd.R_drewN | apply Kd.R_drew)); exact HO342.out), q13_2⟩
 ·
  replace c3 := Bool.eq_false_iff.mpr c3; subst c3
  rw [if_neg (show ¬ (false = true) by decide)] at H
  obtain rfl := Option.some.inj H
  go_enter Tryz.func50, Tryz.ntmps50
  go_wp2_with (first | ((with_reducible refine gate_dst (N := 1) rfl ?_); refine box_event ?hg (N := 1) ?hd (cs := #[.int .i64 a0_0, .slice A0_1 l0_1.length c0_1]) (t := 29) ?hr ?_; (case hd => rfl); (case hg => rfl); (case hr => first | (go_simp; done) | (go_simp; rfl)); intro gb338 hg w10 hbox hb; have n_ := ac_ (below_step q13_4 hb) <| ac_ (hbox) <| ac_ ((by rw [hg]; exact (below_size q13_4) : w.heap.size ≤ gb338)) <| Aside0.mk ((by rw [hg]; exact (below_size q13_4) : w.heap.size ≤ gb338)); clear HB; obtain ⟨HB, BK338, GW338, GE338⟩ := n_; clear hb hbox hg; have hcz11_0 : w10.cell? ⟨gb338, 0, none⟩ = some (.int .i64 a0_0) := (blk_cell BK338.out 0).trans rfl; have hcz11_1 : w10.cell? ⟨gb338, 1, none⟩ = some (.slice A0_1 l0_1.length c0_1) := (blk_cell BK338.out 1).trans rfl; have hfz11_0 := blk_frozen BK338.out 0; have hfz11_1 := blk_frozen BK338.out 1) | ((with_reducible refine gate_callee (f := 23) rfl ?_); refine goesL_ (some 4) rfl rfl Tryz.func23 (by kernel_rfl) rfl #[.agg #[.int .i64 a0_0, .slice A0_1 l0_1.length c0_1]] rfl q13_3 ?_; (with_reducible refine (impl_IsContext.calls a0_0 _ _ l0_1 false _ ?side1 ?side2 A2.out).mono ?_); (case side1 => exact q13_1); (case side2 => exact HC0_1.out); rintro e w12 ⟨rfl, hb⟩; refine ⟨_, rfl, ?_⟩; have n_ := ac_ (blk_below (g := gb338) (o := .cells #[.int .i64 a0_0, .slice A0_1 l0_1.length c0_1] 29 (0, 0)) q13_5 hb) <| Aside0.mk (below_step q13_2 hb); clear BK338 HB; obtain ⟨BK338, HB⟩ := n_; (try clear hb)))
  go_ret
  exact ⟨_, (by first | rfl | (simp [errW_none, errW_some] <;> rfl) | (simp [*, errW_none, errW_some] <;> rfl)), (by first | exact Kd.R_nil _ _ _ _ _ | exact Kd.N_nil _ _ _ _ _ | exact Kd.V_nil _ _ _ _ _ | exact Kd.Q_nil _ _ _ _ _ | exact Kd.S_nil _ _ _ _ _), q13_2⟩
end Go.Proofs.YtbflblmkdnhboaaGreatDoor.Pr
