/- What the law needs of the program's functions as plain functions, of the proofs that their calls answer so, and of plain laws: gathered by a program of this place (pack.py) out of its printed texts. No condition beyond what each statement says. -/
import Derived.Test.YtbflblmkdnhboaaDoorZXShortRules15
import Derived.Test.YtbflblmkdnhboaaDoorZXShortRules19
import Derived.Test.YtbflblmkdnhboaaDoorZXShortRules17
import Derived.Test.YtbflblmkdnhboaaDoorZXShortRules2
import Derived.Test.YtbflblmkdnhboaaDoorZXShortRules14
namespace Go.Proofs.YtbflblmkdnhboaaDoor.Pr
open Go.RowKit Go.Proofs.YtbflblmkdnhboaaDoorW.PrintWords Go.Proofs.YtbflblmkdnhboaaDoorW.PrintLast Go.Proofs.YtbflblmkdnhboaaDoorW.PrintMore
set_option linter.unusedVariables false
set_option linter.unusedSimpArgs false
def stemAt (c : Nat → Nat) (m i : Nat) : List Nat := ((stOut m).take i).foldl (Pu.stemStep c) []
theorem stemAt_succ {c : Nat → Nat} {m i s : Nat} (h : (stOut m)[i]? = some s) : stemAt c m (i + 1) = Pu.stemStep c (stemAt c m i) s := by
  unfold stemAt
  rw [List.take_add_one, h, List.foldl_append]
  rfl
theorem stemAt_all (c : Nat → Nat) {m : Nat} (hm : m ≤ 6) {i : Nat} (hi : 2 ^ m ≤ i) : stemAt c m i = Pu.stemL c (stOut m) := by
  unfold stemAt
  rw [List.take_of_length_le (by rw [(Pu.stOut_ok hm).2.1]; exact hi)]
  rfl
theorem mem_foldl_stem {c : Nat → Nat} : ∀ (l out : List Nat) (p : Nat), p ∈ l.foldl (Pu.stemStep c) out → p ∈ out ∨ p ∈ l
  | [], out, p, h => Or.inl h
  | s :: l, out, p, h => by
    rw [List.foldl_cons] at h
    rcases mem_foldl_stem l _ p h with h1 | h1
    · unfold Pu.stemStep at h1
      split at h1
      · rcases List.mem_append.1 h1 with h2 | h2
        · exact Or.inl h2
        · rw [List.mem_singleton] at h2
          exact Or.inr (h2 ▸ List.mem_cons_self)
      · exact Or.inl h1
    · exact Or.inr (List.mem_cons_of_mem _ h1)
theorem len_foldl_stem {c : Nat → Nat} : ∀ (l out : List Nat), (l.foldl (Pu.stemStep c) out).length ≤ out.length + l.length
  | [], out => Nat.le_refl _
  | s :: l, out => by
    rw [List.foldl_cons, List.length_cons]
    refine Nat.le_trans (len_foldl_stem l _) ?_
    unfold Pu.stemStep
    split
    · rw [List.length_append, List.length_singleton]; omega
    · omega
theorem stemAt_lt {c : Nat → Nat} {m i : Nat} (hm : m ≤ 6) {p : Nat} (h : p ∈ stemAt c m i) : p < 2 ^ m := by
  rcases mem_foldl_stem _ _ p h with h1 | h1
  · cases h1
  · exact (Pu.stOut_mem hm).1 (List.mem_of_mem_take h1)
theorem stemAt_len (c : Nat → Nat) (m i : Nat) : (stemAt c m i).length ≤ i := by
  have := len_foldl_stem (c := c) ((stOut m).take i) []
  rw [List.length_nil, List.length_take] at this
  unfold stemAt
  omega
theorem free_any (c : Nat → Nat) (o : List Nat) (s : Nat) : Pu.freeB c o s = !o.any (preV c s) := rfl
theorem stOut_nodup {m : Nat} (hm : m ≤ 6) : (stOut m).Nodup := by
  rw [List.nodup_iff_count]
  intro a
  refine Classical.byContradiction fun hn => ?_
  have h1 : a ∈ stOut m := List.count_pos_iff.1 (by omega)
  have h3 : (List.range (2 ^ m)).length ≤ ((stOut m).erase a).length := List.nodup_range.length_le_of_subset fun y hy => by
    have hy' := (Pu.stOut_mem hm).2 (List.mem_range.1 hy)
    by_cases e : y = a
    · subst e
      exact List.count_pos_iff.1 (by rw [List.count_erase_self]; omega)
    · exact (List.mem_erase_of_ne e).2 hy'
  rw [List.length_range, List.length_erase_of_mem h1, (Pu.stOut_ok hm).2.1] at h3
  have := Nat.two_pow_pos m
  omega
theorem addr0 (gl i : Nat) : (Addr.add ⟨gl, 0, none⟩ (i : Int).toNat) = ⟨gl, i, none⟩ := by
  rw [Int.toNat_natCast]
  unfold Addr.add
  split
  · next h => rw [h]
  · simp
theorem any_cast (c : Nat → Nat) (s : Nat) (o : List Nat) : (Pu.cast o).any (fun x => preV c s x.toNat) = o.any (preV c s) := by
  unfold Pu.cast
  rw [List.any_map]
  rfl
set_option maxHeartbeats 1000000 in
theorem contains_stem (g : Nat) (cb : Array Value) (eg : ∀ args w, (callFunc g args).run Tryd.prog w = .ok (.enter g args) w) (c : Nat → Nat) (A : Option Addr) (cc : Nat) (o : List Nat) (s b8 b3 : Nat) (w5 W : World) (hs : s < 256) (ho : ∀ p ∈ o, p < 256 ∧ c p < 256)
    (h8 : W.heap[b8]? = some (.cells #[.int .i64 (s : Int)] 3 (0, 0))) (h3 : W.heap[b3]? = some (.cells #[.func (.func g) #[] cb] 50 (0, 0)))
    (hR : (Kd.int .i64).R 3 W w5.heap.size (fun _ => True) (.slice A (Pu.cast o).length cc) (Pu.cast o)) (hB : Below w5.heap.size w5 W)
    (hp : ∀ (W' : World) (p : Nat), p ∈ o → Below w5.heap.size w5 W' → Calls Tryd.prog g (#[.int .i64 (p : Int)] ++ cb) W' fun e w' => e = .returned (.int .i64 ((c p : Nat) : Int)) ∧ Below W'.heap.size W' w') :
    Calls Tryd.prog 79 #[.slice A (Pu.cast o).length cc, .func (.func 101) #[] #[.pointer (some ⟨b8, 0, none⟩), .pointer (some ⟨b3, 0, none⟩)]] W fun e w' =>
      e = .returned (.bool (o.any (preV c s))) ∧ w'.cell? ⟨b8, 0, none⟩ = some (.int .i64 (s : Int)) ∧ w'.cell? ⟨b3, 0, none⟩ = some (.func (.func g) #[] cb) ∧ (Kd.int .i64).R 3 w' w5.heap.size (fun _ => True) (.slice A (Pu.cast o).length cc) (Pu.cast o) ∧ Below w5.heap.size w5 w' := by
  have eg2 : ∀ args w, (callFunc 101 args).run Tryd.prog w = .ok (.enter 101 args) w := enters_of Tryd.func101 (by kernel_rfl) rfl
  refine (ContainsFunc_mem 101 #[.pointer (some ⟨b8, 0, none⟩), .pointer (some ⟨b3, 0, none⟩)] eg2 A cc (Pu.cast o) (fun x => preV c s x.toNat) W (Kd.R_reads' hR).2.2 ?_).mono ?_
  · intro W' x hx hb
    obtain ⟨p, hpo, rfl⟩ := List.mem_map.1 (show x ∈ o.map fun (x : Nat) => (x : Int) from hx)
    obtain ⟨h1, h2⟩ := ho p hpo
    rw [show (#[.int .i64 (p : Int)] ++ #[.pointer (some ⟨b8, 0, none⟩), .pointer (some ⟨b3, 0, none⟩)] : Array Value) = #[.int .i64 (p : Int), .pointer (some ⟨b8, 0, none⟩), .pointer (some ⟨b3, 0, none⟩)] from rfl]
    exact stem2_calls g cb eg c b8 b3 s p hs h1 h2 W' ((blk_cell (blk_below h8 hb) 0).trans rfl) ((blk_cell (blk_below h3 hb) 0).trans rfl) (fun W2 hb2 => hp W2 p hpo (below_step (below_step hB hb) hb2))
  · rintro e w' ⟨rfl, hb⟩
    exact ⟨by rw [any_cast], (blk_cell (blk_below h8 hb) 0).trans rfl, (blk_cell (blk_below h3 hb) 0).trans rfl, Kd.R_below hR hb, below_step hB hb⟩
def Stem_B : List Nat := [0, 0, 3, 0, 15, 31, 63, 127]
theorem Stem_tab : rtab .any (opsOf Tryd.f68 8) = rtab .any (opsOf Tryd.f68 8) := rfl
theorem Stem_bits : waitsOk (rtab .any (opsOf Tryd.f68 8)).2 Stem_B = true := by kernel_rfl
set_option maxHeartbeats 8000000 in
set_option maxRecDepth 100000 in
theorem stem_at (g : Nat) (cb : Array Value) (eg : ∀ args w, (callFunc g args).run Tryd.prog w = .ok (.enter g args) w) (c : Nat → Nat) (m : Nat) (hm : m ≤ 6) (hcl : ∀ x, x < 2 ^ m → c x < 256) (w : World) (htab : Tab64 w)
    (hp : ∀ (W : World) (x : Nat), x < 2 ^ m → Below w.heap.size w W → Calls Tryd.prog g (#[.int .i64 (x : Int)] ++ cb) W fun e w' => e = .returned (.int .i64 ((c x : Nat) : Int)) ∧ Below W.heap.size W w') :
    Calls Tryd.prog 68 #[.int .i64 (m : Int), .func (.func g) #[] cb] w fun e w' => ∃ v0_ : Value, e = .returned (v0_) ∧ Kd.R (Kd.int .i64) 3 w' w.heap.size (fun _ => True) v0_ (Pu.cast (Pu.psN m c)) ∧ Below w.heap.size w w' := by
  obtain ⟨K, hK⟩ := Ev.rounds (Pu.all_val (show m ≤ 8 by omega))
  have HALL := Aside0.mk hK
  have HTB := Aside0.mk htab
  have h64 : 2 ^ m ≤ 256 := Pu.pow_256 (by omega)
  have hLL : (stOut m).length = 2 ^ m := (Pu.stOut_ok hm).2.1
  have HEL : Aside0 (∀ i : Nat, i < 2 ^ m → ∃ s, (stOut m)[i]? = some s ∧ rd (Pu.cast (stOut m)) (i : Int) = (s : Int) ∧ s < 2 ^ m) := ⟨fun i hi => by
    have h1 : (stOut m)[i]? = some ((stOut m)[i]'(by omega)) := List.getElem?_eq_getElem (by omega)
    refine ⟨_, h1, ?_, (Pu.stOut_mem hm).1 (List.getElem_mem _)⟩
    unfold rd Pu.cast
    rw [Int.toNat_natCast, List.getD_eq_getElem?_getD, List.getElem?_map, h1]
    rfl⟩
  have HSM : Aside0 (∀ i p, p ∈ stemAt c m i → p < 2 ^ m) := ⟨fun i p h => stemAt_lt hm h⟩
  have HALLS : Aside0 (∀ i, 2 ^ m ≤ i → stemAt c m i = Pu.stemL c (stOut m)) := ⟨fun i hi => stemAt_all c hm hi⟩
  have HQ : Aside0 (∀ x ∈ Pu.stemL c (stOut m), x < 256) := ⟨fun x hx => by have := ((Pu.stemL_mem c hm).1 hx).1; omega⟩
  have HQN : Aside0 ((Pu.stemL c (stOut m)).Nodup) := ⟨Pu.stemL_nodup c _ [] (stOut_nodup hm) List.nodup_nil fun _ _ h => by cases h⟩
  have HPS : Aside0 (Pu.lecR (Pu.stemL c (stOut m)) = Pu.psN m c) := ⟨Pu.lec_stemL c hm⟩
  have HLA : Aside0 ((Pu.cast (Pu.allN m)).length = 2 ^ m) := ⟨by rw [Pu.cast_length, Pu.allN_length (by omega)]⟩
  have HPOS : Aside0 (0 < (Pu.cast (Pu.allN m)).length) := ⟨by rw [HLA.out]; exact Nat.two_pow_pos m⟩
  have HLL : Aside0 ((Pu.cast (stOut m)).length = 2 ^ m) := ⟨by rw [Pu.cast_length, hLL]⟩
  have HST : Aside0 (∀ (gl c0 : Nat) (w3 W : World), Below w3.heap.size w3 W → (Kd.int .i64).R 3 W w3.heap.size (fun _ => True) (.slice (some ⟨gl, 0, none⟩) (2 ^ m) c0) (Pu.cast (Pu.allN m)) → Calls Tryd.prog 98 #[.slice (some ⟨gl, 0, none⟩) (2 ^ m) c0, .func (.func 99) #[] #[]] W fun e w' => e = .returned (.tuple #[]) ∧ (Kd.int .i64).R 3 w' w3.heap.size (fun _ => True) (.slice (some ⟨gl, 0, none⟩) (2 ^ m) c0) (Pu.cast (stOut m)) ∧ Below w3.heap.size w3 w') := ⟨fun gl c0 w3 W hb ho => stable_at gl c0 m hm w3 W hb ho⟩
  have HRD : Aside0 (∀ (gl c0 base : Nat) (W : World), (Kd.int .i64).R 3 W base (fun _ => True) (.slice (some ⟨gl, 0, none⟩) (2 ^ m) c0) (Pu.cast (stOut m)) → Kd.C (Kd.int .i64) W (some ⟨gl, 0, none⟩) (Pu.cast (stOut m)).length (Pu.cast (stOut m))) := ⟨fun gl c0 base W h => (Kd.R_reads' h).2.2⟩
  have HCL : Aside0 (∀ x, x < 2 ^ m → c x < 256) := ⟨hcl⟩
  have HP0 : Aside0 (∀ (W : World) (x : Nat), x < 2 ^ m → Below w.heap.size w W → Calls Tryd.prog g (#[.int .i64 (x : Int)] ++ cb) W fun e w' => e = .returned (.int .i64 ((c x : Nat) : Int)) ∧ Below W.heap.size W w') := ⟨hp⟩
  obtain ⟨N, hN⟩ : ∃ N, N = 2 ^ m := ⟨_, rfl⟩
  have HM : Aside0 (m ≤ 6) := ⟨hm⟩
  clear hK htab hLL hcl hp hm
  rw [← hN] at HEL HSM HALLS HLA HLL HST HRD HCL HP0 h64
  clear hN
  go_enter Tryd.func68, Tryd.ntmps68
  go_wp2_with (first | ((with_reducible refine gate_dst (N := 3) rfl ?_); refine box_event ?hg (N := 3) ?hd (cs := #[.func (.func g) #[] cb]) (t := 50) ?hr ?_; (case hd => rfl); (case hg => rfl); (case hr => first | (go_simp; done) | (go_simp; rfl)); intro gb3 hg w3 hbox hb; have HB3 := Aside0.mk hb; have BK3 := Aside0.mk hbox; clear hb hbox hg) | (go_at_call 55; refine (impl_allSets.calls K (m : Int) (Pu.cast (Pu.allN m)) _ (HTB.out.below HB3.out) HALL.out).mono ?_; rintro e w4 ⟨v, rfl, hR, hb⟩; obtain ⟨gl, c0, hv, hgc⟩ := R_form_int hR HPOS.out; rw [HLA.out] at hv; subst hv; have HO4 := Aside0.mk hR; have HB4 := Aside0.mk hb; clear hR hb hgc) | (go_at_call 98; refine (HST.out gl c0 _ _ HB4.out HO4.out).mono ?_; rintro e w5 ⟨rfl, hR, hb⟩; have HC5 := Aside0.mk (HRD.out gl c0 _ _ hR); have HB5 := Aside0.mk (below_step HB3.out hb); have BK5 := Aside0.mk (blk_below BK3.out hb); clear hR hb HO4 HB4) | ((with_reducible refine gate_dst (N := 14) rfl ?_); refine Kd.R_lit (Kd.int .i64) _ 3 ?hg (N := 14) ?hd (xs := ([] : List Int)) (inner := []) (ok := fun _ => True) (okp := fun _ => True) ?hr ?hp (fun _ hk => hk) trivial (Below.refl _ _) (Nat.le_refl _) (by simp) ?_; (case hd => rfl); (case hg => rfl); (case hr => first | (go_simp; done) | (go_simp; rfl)); (case hp => exact (Reps.none _ _)); intro v6 w6 ho hb hg_ hnew_; clear hg_ hnew_; have HO6 := Aside0.mk ho; have HB6 := Aside0.mk hb; clear ho hb))
  have HP : Aside0 (∀ (W : World) (x : Nat), x < N → Below w5.heap.size w5 W → Calls Tryd.prog g (#[.int .i64 (x : Int)] ++ cb) W fun e w' => e = .returned (.int .i64 ((c x : Nat) : Int)) ∧ Below W.heap.size W w') := ⟨fun W x hx hb => HP0.out W x hx (below_step HB5.out hb)⟩
  go_loopg [6, 17] (N + 1) (fun kx s6 s17 W => ∃ (i : Nat), s17 = .int .i64 (i : Int) ∧ i ≤ N ∧ N - i < kx ∧ Aside0 ((Kd.int .i64).R 3 W w5.heap.size (fun _ => True) s6 (Pu.cast (stemAt c m i))) ∧ Aside0 (Below w5.heap.size w5 W))
  case atStart => exact ⟨0, rfl, by omega, by omega, HO6, HB6⟩
  case round =>
    clear HO6 HB6
    obtain ⟨i, rfl, hiN, hkx, HO, HB⟩ := hrel
    by_cases hlt : i < N
    · have hltz : ((i : Int) < (N : Int)) := by omega
      obtain ⟨s, hget, hrd, hsN⟩ := HEL.out i hlt
      have HS : Aside0 (s < N) := ⟨hsN⟩
      have HS256 : Aside0 (s < 256) := ⟨by omega⟩
      have HLE : Aside0 ((Pu.cast (stemAt c m i)).length + 1 ≤ 300) := ⟨by have := stemAt_len c m i; rw [Pu.cast_length]; omega⟩
      have HMEM : Aside0 (∀ p ∈ stemAt c m i, p < 256 ∧ c p < 256) := ⟨fun p hp => ⟨by have := HSM.out i p hp; omega, HCL.out p (HSM.out i p hp)⟩⟩
      have HPO : Aside0 (∀ (W' : World) (p : Nat), p ∈ stemAt c m i → Below w5.heap.size w5 W' → Calls Tryd.prog g (#[.int .i64 (p : Int)] ++ cb) W' fun e w' => e = .returned (.int .i64 ((c p : Nat) : Int)) ∧ Below W'.heap.size W' w') := ⟨fun W' p hp hb => HP.out W' p (HSM.out i p hp) hb⟩
      have HSTEP : Aside0 (stemAt c m (i + 1) = Pu.stemStep c (stemAt c m i) s) := ⟨stemAt_succ hget⟩
      clear hget hsN
      obtain ⟨ad, e, hx0⟩ := Kd.at_int HC5.out (i : Int) (by omega) (by rw [HLL.out]; exact hltz)
      cases e
      rw [hrd, addr0] at hx0
      clear hrd
      replace hx0 := (HB.out.cell (World.block_lt_of_cell? w5 _ hx0)).trans hx0
      have p0 : (0 ≤ (i : Int)) = True := eq_true (by omega)
      replace hltz := eq_true hltz
      by_cases hcs : c s = s
      · have HN : Aside0 (stemAt c m (i + 1) = stemAt c m i) := ⟨by rw [HSTEP.out]; unfold Pu.stemStep; rw [if_neg (by rw [decide_eq_false (fun h => h hcs)]; simp)]⟩
        have hz1 : (((c s : Nat) : Int) == ((s : Nat) : Int)) = true := by rw [hcs]; simp
        have hz2 : (((c s : Nat) : Int) != ((s : Nat) : Int)) = false := by rw [hcs]; simp
        have hz3 : (((c s : Nat) : Int) = ((s : Nat) : Int)) = True := eq_true (by rw [hcs])
        have hz4 : (c s = s) = True := eq_true hcs
        have hz5 : (c s == s) = true := by rw [hcs]; simp
        have hz6 : (c s != s) = false := by rw [hcs]; simp
        clear hcs HSTEP
        go_wp2_with (first | ((with_reducible refine gate_dst (N := 8) rfl ?_); refine box_event ?hg (N := 8) ?hd (cs := #[.int .i64 0]) (t := 3) ?hr ?_; (case hd => rfl); (case hg => rfl); (case hr => first | (go_simp; done) | (go_simp; rfl)); intro gb8 hg w14 hbox hb; have HO8 := Aside0.mk (Kd.R_below (Kd.R_elderB HO.out gb8 (Nat.le_of_eq hg.symm)) hb); have HB8 := Aside0.mk (below_step HB.out hb); have BK8 := Aside0.mk hbox; have BK38 := Aside0.mk (blk_below (blk_below BK5.out HB.out) hb); have GE8 := Aside0.mk (show w5.heap.size ≤ gb8 from by rw [hg]; exact below_size HB.out); have NB8 := Aside0.mk (show gb3 ≠ gb8 from by rw [hg]; exact Nat.ne_of_lt (blk_lt (blk_below BK5.out HB.out))); clear hb hbox hg; have hcz_0 : w14.cell? ⟨gb8, 0, none⟩ = some (.int .i64 0) := (blk_cell BK8.out 0).trans rfl; have hfz_0 := blk_frozen BK8.out 0; obtain ⟨A6, c6, e6⟩ := Kd.R_slice HO8.out; subst e6) | (go_at_call 79; refine (contains_stem g cb eg c A6 c6 (stemAt c m i) s gb8 gb3 w5 _ HS256.out HMEM.out ?h8 ?h3 ?hr ?hb HPO.out).mono ?_; (case h8 => refine blk_put (cs := #[.int .i64 0]) ?_ 0 _ rfl; exact BK8.out); (case h3 => refine blk_far ?_ NB8.out _; exact BK38.out); (case hr => exact Kd.R_mono (Kd.R_far (p := ⟨gb8, 0, none⟩) HO8.out (fun _ hk => hk.2) _) (fun _ _ => trivial)); (case hb => exact below_set HB8.out GE8.out); rintro e w16 ⟨rfl, h8, h3, hR, hb⟩; have HOb := Aside0.mk hR; have HBb := Aside0.mk hb; clear hR hb))
        refine start_ (n := 8) (S := fun w' => w'.cell? ⟨gb8, 0, none⟩ = some (.int .i64 (s : Int)) ∧ w'.cell? ⟨gb3, 0, none⟩ = some (.func (.func g) #[] cb)) (ds := []) #[false, false, false, false, false, false, false, false] (by kernel_rfl) rfl rfl ⟨h8, h3⟩ (fun hHeld => ?_); refine with_tabW Stem_tab Stem_bits (fun HT_ HW_ => ?_)
        have HBc := Aside0.mk (below_drew1 HBb.out)
        have HOc := Aside0.mk (Kd.R_drew HOb.out)
        change w16.drew.cell? _ = _ at h8 h3
        generalize w16.drew = w10 at *
        refine take_ (i := 0) (N := some 25) (v := ?_) (a' := ?_) #[true, false, false, false, false, false, false, false] rfl rfl (take_ofW HT_.out HW_.out (by kernel_rfl)) (fun _ _ _ h => h) (Or.inl ⟨by rfl, ?_⟩) hHeld ?_ ?_
        rotate_left
        · rintro w' ⟨s0, s1⟩
          go_simp
          with_reducible rfl
        rotate_left
        · simp only [Act.put, List.setIfInBounds_toArray, List.set_cons_zero, List.set_cons_succ, i64_w, i32_w]
          rfl
        refine take_ (i := 1) (N := some 26) (v := ?_) (a' := ?_) #[true, true, false, false, false, false, false, false] rfl rfl (take_ofW HT_.out HW_.out (by kernel_rfl)) (fun _ _ _ h => h) (Or.inl ⟨by rfl, ?_⟩) hHeld ?_ ?_
        rotate_left
        · rintro w' ⟨s0, s1⟩
          go_simp
          with_reducible rfl
        rotate_left
        · simp only [Act.put, List.setIfInBounds_toArray, List.set_cons_zero, List.set_cons_succ, i64_w, i32_w]
          rfl
        refine take_ (i := 3) (N := some 28) (v := ?_) (a' := ?_) #[true, true, false, true, false, false, false, false] rfl rfl (take_ofW HT_.out HW_.out (by kernel_rfl)) (fun _ _ _ h => h) (Or.inl ⟨by rfl, ?_⟩) hHeld ?_ ?_
        rotate_left
        · rintro w' ⟨s0, s1⟩
          go_simp
          with_reducible rfl
        rotate_left
        · simp only [Act.put, List.setIfInBounds_toArray, List.set_cons_zero, List.set_cons_succ, i64_w, i32_w]
          rfl
        refine one_ (i := 2) (N := some 27) #[true, true, true, true, false, false, false, false] rfl rfl (one_of HT_.out (by kernel_rfl)) (by decide) (fun K hK => ?_)
        refine goesV_ (by rfl) rfl rfl rfl (args := #[.int .i64 (s : Int)]) (by (try simp only [List.map_toArray, List.map_cons, List.map_nil]); first | done | rfl) (eg _ _) ?_
        refine (HP.out _ s HS.out HBc.out).mono ?_
        rintro e w13 ⟨rfl, hb3⟩
        refine ⟨_, rfl, ?_⟩
        have HBd := Aside0.mk (below_step HBc.out hb3)
        have HOd := Aside0.mk (Kd.R_below HOc.out hb3)
        refine hK.out _ _ ⟨((hb3.cell (World.block_lt_of_cell? _ _ h8)).trans h8), ((hb3.cell (World.block_lt_of_cell? _ _ h3)).trans h3)⟩ (fun hHeld => ?_)
        clear hK K
        refine norm_ (a' := ?_) ?_ ?_
        rotate_left
        · show Act.put _ (some 27) _ = _
          simp only [Act.put, List.setIfInBounds_toArray, List.set_cons_zero, List.set_cons_succ, i64_w, i32_w]
          rfl
        refine pure_ (i := 4) (N := some 29) (v := ?_) (a' := ?_) #[true, true, true, true, true, false, false, false] rfl rfl (any_of HT_.out (by kernel_rfl)) (fun _ _ _ h => h) (Or.inl ⟨by rfl, ?_⟩) ?_ ?_
        rotate_left
        · intro w'
          go_simp
          with_reducible rfl
        rotate_left
        · simp only [Act.put, List.setIfInBounds_toArray, List.set_cons_zero, List.set_cons_succ, i64_w, i32_w]
          rfl
        refine pure_ (i := 5) (N := some 30) (v := ?_) (a' := ?_) #[true, true, true, true, true, true, false, false] rfl rfl (any_of HT_.out (by kernel_rfl)) (fun _ _ _ h => h) (Or.inl ⟨by rfl, ?_⟩) ?_ ?_
        rotate_left
        · intro w'
          go_simp
          with_reducible rfl
        rotate_left
        · simp only [Act.put, List.setIfInBounds_toArray, List.set_cons_zero, List.set_cons_succ, i64_w, i32_w]
          rfl
        refine pure_ (i := 6) (N := some 31) (v := undef) (a' := ?_) #[true, true, true, true, true, true, true, false] rfl rfl (any_of HT_.out (by kernel_rfl)) (fun _ _ _ h => h) (Or.inr ⟨by rfl, rfl⟩) ?_ ?_
        rotate_left
        · simp only [Act.put, List.setIfInBounds_toArray, List.set_cons_zero, List.set_cons_succ, i64_w, i32_w]
          rfl
        refine pure_ (i := 7) (N := some 32) (v := ?_) (a' := ?_) #[true, true, true, true, true, true, true, true] rfl rfl (any_of HT_.out (by kernel_rfl)) (fun _ _ _ h => h) (Or.inl ⟨by rfl, ?_⟩) ?_ ?_
        rotate_left
        · intro w'
          go_simp
          with_reducible rfl
        rotate_left
        · simp only [Act.put, List.setIfInBounds_toArray, List.set_cons_zero, List.set_cons_succ, i64_w, i32_w]
          rfl
        refine done_ (done_of HT_.out (by kernel_rfl)) ?_
        go_wp2
        go_roundg (N - i)
        case measure => omega
        case rel => exact ⟨i + 1, by first | rfl | go_num | (congr 1; omega), by omega, by omega, ⟨by rw [HN.out]; exact HOd.out⟩, ⟨HBd.out⟩⟩
      · have hz1 : (((c s : Nat) : Int) == ((s : Nat) : Int)) = false := beq_eq_false_iff_ne.mpr (by omega)
        have hz2 : (((c s : Nat) : Int) != ((s : Nat) : Int)) = true := bne_iff_ne.mpr (by omega)
        have hz3 : (((c s : Nat) : Int) = ((s : Nat) : Int)) = False := eq_false (by omega)
        have hz4 : (c s = s) = False := eq_false hcs
        have hz5 : (c s == s) = false := beq_eq_false_iff_ne.mpr hcs
        have hz6 : (c s != s) = true := bne_iff_ne.mpr hcs
        have HCS : Aside0 (decide (c s ≠ s) = true) := ⟨decide_eq_true hcs⟩
        clear hcs
        cases hany : (stemAt c m i).any (preV c s) with
        | true =>
          have HN : Aside0 (stemAt c m (i + 1) = stemAt c m i) := ⟨by rw [HSTEP.out]; unfold Pu.stemStep; rw [if_neg (by rw [free_any, hany]; simp)]⟩
          clear HSTEP HCS
          go_wp2_with (first | ((with_reducible refine gate_dst (N := 8) rfl ?_); refine box_event ?hg (N := 8) ?hd (cs := #[.int .i64 0]) (t := 3) ?hr ?_; (case hd => rfl); (case hg => rfl); (case hr => first | (go_simp; done) | (go_simp; rfl)); intro gb8 hg w14 hbox hb; have HO8 := Aside0.mk (Kd.R_below (Kd.R_elderB HO.out gb8 (Nat.le_of_eq hg.symm)) hb); have HB8 := Aside0.mk (below_step HB.out hb); have BK8 := Aside0.mk hbox; have BK38 := Aside0.mk (blk_below (blk_below BK5.out HB.out) hb); have GE8 := Aside0.mk (show w5.heap.size ≤ gb8 from by rw [hg]; exact below_size HB.out); have NB8 := Aside0.mk (show gb3 ≠ gb8 from by rw [hg]; exact Nat.ne_of_lt (blk_lt (blk_below BK5.out HB.out))); clear hb hbox hg; have hcz_0 : w14.cell? ⟨gb8, 0, none⟩ = some (.int .i64 0) := (blk_cell BK8.out 0).trans rfl; have hfz_0 := blk_frozen BK8.out 0; obtain ⟨A6, c6, e6⟩ := Kd.R_slice HO8.out; subst e6) | (go_at_call 79; refine (contains_stem g cb eg c A6 c6 (stemAt c m i) s gb8 gb3 w5 _ HS256.out HMEM.out ?h8 ?h3 ?hr ?hb HPO.out).mono ?_; (case h8 => refine blk_put (cs := #[.int .i64 0]) ?_ 0 _ rfl; exact BK8.out); (case h3 => refine blk_far ?_ NB8.out _; exact BK38.out); (case hr => exact Kd.R_mono (Kd.R_far (p := ⟨gb8, 0, none⟩) HO8.out (fun _ hk => hk.2) _) (fun _ _ => trivial)); (case hb => exact below_set HB8.out GE8.out); rintro e w16 ⟨rfl, h8, h3, hR, hb⟩; have HOb := Aside0.mk hR; have HBb := Aside0.mk hb; clear hR hb))
          clear hany
          refine start_ (n := 8) (S := fun w' => w'.cell? ⟨gb8, 0, none⟩ = some (.int .i64 (s : Int)) ∧ w'.cell? ⟨gb3, 0, none⟩ = some (.func (.func g) #[] cb)) (ds := []) #[false, false, false, false, false, false, false, false] (by kernel_rfl) rfl rfl ⟨h8, h3⟩ (fun hHeld => ?_); refine with_tabW Stem_tab Stem_bits (fun HT_ HW_ => ?_)
          have HBc := Aside0.mk (below_drew1 HBb.out)
          have HOc := Aside0.mk (Kd.R_drew HOb.out)
          change w16.drew.cell? _ = _ at h8 h3
          generalize w16.drew = w10 at *
          refine take_ (i := 0) (N := some 25) (v := ?_) (a' := ?_) #[true, false, false, false, false, false, false, false] rfl rfl (take_ofW HT_.out HW_.out (by kernel_rfl)) (fun _ _ _ h => h) (Or.inl ⟨by rfl, ?_⟩) hHeld ?_ ?_
          rotate_left
          · rintro w' ⟨s0, s1⟩
            go_simp
            with_reducible rfl
          rotate_left
          · simp only [Act.put, List.setIfInBounds_toArray, List.set_cons_zero, List.set_cons_succ, i64_w, i32_w]
            rfl
          refine take_ (i := 1) (N := some 26) (v := ?_) (a' := ?_) #[true, true, false, false, false, false, false, false] rfl rfl (take_ofW HT_.out HW_.out (by kernel_rfl)) (fun _ _ _ h => h) (Or.inl ⟨by rfl, ?_⟩) hHeld ?_ ?_
          rotate_left
          · rintro w' ⟨s0, s1⟩
            go_simp
            with_reducible rfl
          rotate_left
          · simp only [Act.put, List.setIfInBounds_toArray, List.set_cons_zero, List.set_cons_succ, i64_w, i32_w]
            rfl
          refine take_ (i := 3) (N := some 28) (v := ?_) (a' := ?_) #[true, true, false, true, false, false, false, false] rfl rfl (take_ofW HT_.out HW_.out (by kernel_rfl)) (fun _ _ _ h => h) (Or.inl ⟨by rfl, ?_⟩) hHeld ?_ ?_
          rotate_left
          · rintro w' ⟨s0, s1⟩
            go_simp
            with_reducible rfl
          rotate_left
          · simp only [Act.put, List.setIfInBounds_toArray, List.set_cons_zero, List.set_cons_succ, i64_w, i32_w]
            rfl
          refine one_ (i := 2) (N := some 27) #[true, true, true, true, false, false, false, false] rfl rfl (one_of HT_.out (by kernel_rfl)) (by decide) (fun K hK => ?_)
          refine goesV_ (by rfl) rfl rfl rfl (args := #[.int .i64 (s : Int)]) (by (try simp only [List.map_toArray, List.map_cons, List.map_nil]); first | done | rfl) (eg _ _) ?_
          refine (HP.out _ s HS.out HBc.out).mono ?_
          rintro e w13 ⟨rfl, hb3⟩
          refine ⟨_, rfl, ?_⟩
          have HBd := Aside0.mk (below_step HBc.out hb3)
          have HOd := Aside0.mk (Kd.R_below HOc.out hb3)
          refine hK.out _ _ ⟨((hb3.cell (World.block_lt_of_cell? _ _ h8)).trans h8), ((hb3.cell (World.block_lt_of_cell? _ _ h3)).trans h3)⟩ (fun hHeld => ?_)
          clear hK K
          refine norm_ (a' := ?_) ?_ ?_
          rotate_left
          · show Act.put _ (some 27) _ = _
            simp only [Act.put, List.setIfInBounds_toArray, List.set_cons_zero, List.set_cons_succ, i64_w, i32_w]
            rfl
          refine pure_ (i := 4) (N := some 29) (v := ?_) (a' := ?_) #[true, true, true, true, true, false, false, false] rfl rfl (any_of HT_.out (by kernel_rfl)) (fun _ _ _ h => h) (Or.inl ⟨by rfl, ?_⟩) ?_ ?_
          rotate_left
          · intro w'
            go_simp
            with_reducible rfl
          rotate_left
          · simp only [Act.put, List.setIfInBounds_toArray, List.set_cons_zero, List.set_cons_succ, i64_w, i32_w]
            rfl
          refine pure_ (i := 5) (N := some 30) (v := ?_) (a' := ?_) #[true, true, true, true, true, true, false, false] rfl rfl (any_of HT_.out (by kernel_rfl)) (fun _ _ _ h => h) (Or.inl ⟨by rfl, ?_⟩) ?_ ?_
          rotate_left
          · intro w'
            go_simp
            with_reducible rfl
          rotate_left
          · simp only [Act.put, List.setIfInBounds_toArray, List.set_cons_zero, List.set_cons_succ, i64_w, i32_w]
            rfl
          refine pure_ (i := 6) (N := some 31) (v := ?_) (a' := ?_) #[true, true, true, true, true, true, true, false] rfl rfl (any_of HT_.out (by kernel_rfl)) (fun _ _ _ h => h) (Or.inl ⟨by rfl, ?_⟩) ?_ ?_
          rotate_left
          · intro w'
            go_simp
            with_reducible rfl
          rotate_left
          · simp only [Act.put, List.setIfInBounds_toArray, List.set_cons_zero, List.set_cons_succ, i64_w, i32_w]
            rfl
          refine pure_ (i := 7) (N := some 32) (v := ?_) (a' := ?_) #[true, true, true, true, true, true, true, true] rfl rfl (any_of HT_.out (by kernel_rfl)) (fun _ _ _ h => h) (Or.inl ⟨by rfl, ?_⟩) ?_ ?_
          rotate_left
          · intro w'
            go_simp
            with_reducible rfl
          rotate_left
          · simp only [Act.put, List.setIfInBounds_toArray, List.set_cons_zero, List.set_cons_succ, i64_w, i32_w]
            rfl
          refine done_ (done_of HT_.out (by kernel_rfl)) ?_
          go_wp2
          go_roundg (N - i)
          case measure => omega
          case rel => exact ⟨i + 1, by first | rfl | go_num | (congr 1; omega), by omega, by omega, ⟨by rw [HN.out]; exact HOd.out⟩, ⟨HBd.out⟩⟩
        | false =>
          have HN : Aside0 (Pu.cast (stemAt c m (i + 1)) = Pu.cast (stemAt c m i) ++ [(s : Int)]) := ⟨by rw [HSTEP.out]; unfold Pu.stemStep; rw [if_pos (by rw [free_any, hany, HCS.out]; rfl)]; unfold Pu.cast; rw [List.map_append]; rfl⟩
          clear HSTEP HCS
          go_wp2_with (first | ((with_reducible refine gate_dst (N := 8) rfl ?_); refine box_event ?hg (N := 8) ?hd (cs := #[.int .i64 0]) (t := 3) ?hr ?_; (case hd => rfl); (case hg => rfl); (case hr => first | (go_simp; done) | (go_simp; rfl)); intro gb8 hg w14 hbox hb; have HO8 := Aside0.mk (Kd.R_below (Kd.R_elderB HO.out gb8 (Nat.le_of_eq hg.symm)) hb); have HB8 := Aside0.mk (below_step HB.out hb); have BK8 := Aside0.mk hbox; have BK38 := Aside0.mk (blk_below (blk_below BK5.out HB.out) hb); have GE8 := Aside0.mk (show w5.heap.size ≤ gb8 from by rw [hg]; exact below_size HB.out); have NB8 := Aside0.mk (show gb3 ≠ gb8 from by rw [hg]; exact Nat.ne_of_lt (blk_lt (blk_below BK5.out HB.out))); clear hb hbox hg; have hcz_0 : w14.cell? ⟨gb8, 0, none⟩ = some (.int .i64 0) := (blk_cell BK8.out 0).trans rfl; have hfz_0 := blk_frozen BK8.out 0; obtain ⟨A6, c6, e6⟩ := Kd.R_slice HO8.out; subst e6) | (go_at_call 79; refine (contains_stem g cb eg c A6 c6 (stemAt c m i) s gb8 gb3 w5 _ HS256.out HMEM.out ?h8 ?h3 ?hr ?hb HPO.out).mono ?_; (case h8 => refine blk_put (cs := #[.int .i64 0]) ?_ 0 _ rfl; exact BK8.out); (case h3 => refine blk_far ?_ NB8.out _; exact BK38.out); (case hr => exact Kd.R_mono (Kd.R_far (p := ⟨gb8, 0, none⟩) HO8.out (fun _ hk => hk.2) _) (fun _ _ => trivial)); (case hb => exact below_set HB8.out GE8.out); rintro e w16 ⟨rfl, h8, h3, hR, hb⟩; have HOb := Aside0.mk hR; have HBb := Aside0.mk hb; clear hR hb))
          clear hany
          refine start_ (n := 8) (S := fun w' => w'.cell? ⟨gb8, 0, none⟩ = some (.int .i64 (s : Int)) ∧ w'.cell? ⟨gb3, 0, none⟩ = some (.func (.func g) #[] cb)) (ds := []) #[false, false, false, false, false, false, false, false] (by kernel_rfl) rfl rfl ⟨h8, h3⟩ (fun hHeld => ?_); refine with_tabW Stem_tab Stem_bits (fun HT_ HW_ => ?_)
          have HBc := Aside0.mk (below_drew1 HBb.out)
          have HOc := Aside0.mk (Kd.R_drew HOb.out)
          change w16.drew.cell? _ = _ at h8 h3
          generalize w16.drew = w10 at *
          refine take_ (i := 0) (N := some 25) (v := ?_) (a' := ?_) #[true, false, false, false, false, false, false, false] rfl rfl (take_ofW HT_.out HW_.out (by kernel_rfl)) (fun _ _ _ h => h) (Or.inl ⟨by rfl, ?_⟩) hHeld ?_ ?_
          rotate_left
          · rintro w' ⟨s0, s1⟩
            go_simp
            with_reducible rfl
          rotate_left
          · simp only [Act.put, List.setIfInBounds_toArray, List.set_cons_zero, List.set_cons_succ, i64_w, i32_w]
            rfl
          refine take_ (i := 1) (N := some 26) (v := ?_) (a' := ?_) #[true, true, false, false, false, false, false, false] rfl rfl (take_ofW HT_.out HW_.out (by kernel_rfl)) (fun _ _ _ h => h) (Or.inl ⟨by rfl, ?_⟩) hHeld ?_ ?_
          rotate_left
          · rintro w' ⟨s0, s1⟩
            go_simp
            with_reducible rfl
          rotate_left
          · simp only [Act.put, List.setIfInBounds_toArray, List.set_cons_zero, List.set_cons_succ, i64_w, i32_w]
            rfl
          refine take_ (i := 3) (N := some 28) (v := ?_) (a' := ?_) #[true, true, false, true, false, false, false, false] rfl rfl (take_ofW HT_.out HW_.out (by kernel_rfl)) (fun _ _ _ h => h) (Or.inl ⟨by rfl, ?_⟩) hHeld ?_ ?_
          rotate_left
          · rintro w' ⟨s0, s1⟩
            go_simp
            with_reducible rfl
          rotate_left
          · simp only [Act.put, List.setIfInBounds_toArray, List.set_cons_zero, List.set_cons_succ, i64_w, i32_w]
            rfl
          refine one_ (i := 2) (N := some 27) #[true, true, true, true, false, false, false, false] rfl rfl (one_of HT_.out (by kernel_rfl)) (by decide) (fun K hK => ?_)
          refine goesV_ (by rfl) rfl rfl rfl (args := #[.int .i64 (s : Int)]) (by (try simp only [List.map_toArray, List.map_cons, List.map_nil]); first | done | rfl) (eg _ _) ?_
          refine (HP.out _ s HS.out HBc.out).mono ?_
          rintro e w13 ⟨rfl, hb3⟩
          refine ⟨_, rfl, ?_⟩
          have HBd := Aside0.mk (below_step HBc.out hb3)
          have HOd := Aside0.mk (Kd.R_below HOc.out hb3)
          refine hK.out _ _ ⟨((hb3.cell (World.block_lt_of_cell? _ _ h8)).trans h8), ((hb3.cell (World.block_lt_of_cell? _ _ h3)).trans h3)⟩ (fun hHeld => ?_)
          clear hK K
          refine norm_ (a' := ?_) ?_ ?_
          rotate_left
          · show Act.put _ (some 27) _ = _
            simp only [Act.put, List.setIfInBounds_toArray, List.set_cons_zero, List.set_cons_succ, i64_w, i32_w]
            rfl
          refine pure_ (i := 4) (N := some 29) (v := ?_) (a' := ?_) #[true, true, true, true, true, false, false, false] rfl rfl (any_of HT_.out (by kernel_rfl)) (fun _ _ _ h => h) (Or.inl ⟨by rfl, ?_⟩) ?_ ?_
          rotate_left
          · intro w'
            go_simp
            with_reducible rfl
          rotate_left
          · simp only [Act.put, List.setIfInBounds_toArray, List.set_cons_zero, List.set_cons_succ, i64_w, i32_w]
            rfl
          refine pure_ (i := 5) (N := some 30) (v := ?_) (a' := ?_) #[true, true, true, true, true, true, false, false] rfl rfl (any_of HT_.out (by kernel_rfl)) (fun _ _ _ h => h) (Or.inl ⟨by rfl, ?_⟩) ?_ ?_
          rotate_left
          · intro w'
            go_simp
            with_reducible rfl
          rotate_left
          · simp only [Act.put, List.setIfInBounds_toArray, List.set_cons_zero, List.set_cons_succ, i64_w, i32_w]
            rfl
          refine pure_ (i := 6) (N := some 31) (v := ?_) (a' := ?_) #[true, true, true, true, true, true, true, false] rfl rfl (any_of HT_.out (by kernel_rfl)) (fun _ _ _ h => h) (Or.inl ⟨by rfl, ?_⟩) ?_ ?_
          rotate_left
          · intro w'
            go_simp
            with_reducible rfl
          rotate_left
          · simp only [Act.put, List.setIfInBounds_toArray, List.set_cons_zero, List.set_cons_succ, i64_w, i32_w]
            rfl
          refine pure_ (i := 7) (N := some 32) (v := ?_) (a' := ?_) #[true, true, true, true, true, true, true, true] rfl rfl (any_of HT_.out (by kernel_rfl)) (fun _ _ _ h => h) (Or.inl ⟨by rfl, ?_⟩) ?_ ?_
          rotate_left
          · intro w'
            go_simp
            with_reducible rfl
          rotate_left
          · simp only [Act.put, List.setIfInBounds_toArray, List.set_cons_zero, List.set_cons_succ, i64_w, i32_w]
            rfl
          refine done_ (done_of HT_.out (by kernel_rfl)) ?_
          go_wp2_with ((with_reducible refine gate_builtin (b := .append) (xs := #[.tmp 33, .tmp 35]) rfl ?_); at_builtin; refine Kd.R_append (Kd.int .i64) (w0 := w5) w5.heap.size rfl (.tmp 33) (.tmp 35) 22 3 (.int .i64 0) 8 rfl Tryd.underlying22 info3 rfl (by decide) (by omega) (.slice A6 (Pu.cast (stemAt c m i)).length c6) (Pu.cast (stemAt c m i)) (s : Int) [.int .i64 (s : Int)] (fun _ => True) (fun _ => False) rfl (by first | (go_simp; done) | (go_simp; rfl)) ?aP (fun _ hk => hk.elim) ?aF ?aO ?aB ?aS ?aL ?_; (case aP => exact rfl); (case aB => exact (by repeat (first | (with_reducible first | exact HBd.out | apply below_alloc | apply pw_below_drewN | apply below_drew1) | exact HBd.out))); (case aF => exact (fun _ _ => trivial)); (case aO => exact (by (with_reducible repeat (first | apply Kd.R_alloc | apply Kd.R_drewN | apply Kd.R_drew)); exact HOd.out)); (case aS => exact (below_size (by repeat (first | (with_reducible first | exact HBd.out | apply below_alloc | apply pw_below_drewN | apply below_drew1) | exact HBd.out)))); (case aL => have := HLE.out; omega); intro v9 w19 ho hb hg hat; have HOe := Aside0.mk ho; have HBe := Aside0.mk hb; clear ho hb hg hat)
          go_roundg (N - i)
          case measure => omega
          case rel => exact ⟨i + 1, by first | rfl | go_num | (congr 1; omega), by omega, by omega, ⟨by rw [HN.out]; exact HOe.out⟩, ⟨HBe.out⟩⟩
    · have hltz : ((i : Int) < (N : Int)) = False := eq_false (by omega)
      have HI : Aside0 (stemAt c m i = Pu.stemL c (stOut m)) := ⟨HALLS.out i (by omega)⟩
      obtain ⟨A6, c6, e6⟩ := Kd.R_slice HO.out
      subst e6
      have HRC : Aside0 ((Kd.int .i64).R 3 wr w5.heap.size (fun _ => True) (.slice A6 (Pu.cast (stemAt c m i)).length c6) (Pu.cast (stemAt c m i))) := ⟨HO.out⟩
      have HBA := Aside0.mk (below_step HB5.out HB.out)
      have HSZ := Aside0.mk (below_size HBA.out)
      rw [HI.out] at HRC ⊢
      have HLEC := Aside0.mk (sortLec_all A6 c6 (Pu.stemL c (stOut m)) wr HQ.out HQN.out HRC.out (HTB.out.below HBA.out))
      go_wp2_with (go_at_call 87; refine (HLEC.out).mono ?_; rintro e w20 ⟨v, rfl, hR, hb⟩; have HOz := Aside0.mk (Kd.R_lower hR HSZ.out); have HBz := Aside0.mk (below_step HBA.out hb); clear hR hb)
      go_ret
      exact ⟨_, rfl, by rw [← HPS.out]; exact HOz.out, HBz.out⟩
end Go.Proofs.YtbflblmkdnhboaaDoor.Pr
namespace Go.Proofs.YtbflblmkdnhboaaDoor.Pr
open Go.RowKit Go.Proofs.YtbflblmkdnhboaaDoorW.PrintWords Go.Proofs.YtbflblmkdnhboaaDoorW.PrintLast Go.Proofs.YtbflblmkdnhboaaDoorW.PrintMore
set_option linter.unusedVariables false
def impl_ShortRules_stem0.f (a0 : Int) (l1 : List S58) : Option (List Int) := if Pu.areV a0 l1 = true then some (Pu.cast (Pu.psN a0.toNat (Pu.clo (Pu.toR l1)))) else none
theorem impl_ShortRules_stem0.calls (a0 : Int) (A1 : Option Addr) (c1 : Nat) (l1 : List S58) (r : List Int) (w : World) (hr1 : Kd.C k58 w A1 l1.length l1) (hc1 : l1.length ≤ c1) (htab : Tab64 w) (h : impl_ShortRules_stem0.f a0 l1 = some r)
    {g : Nat} (hg : w.heap[g]? = some (.cells #[.slice A1 l1.length c1] 35 (0, 0))) :
    Calls Tryd.prog 68 #[.int .i64 a0, .func (.func 67) #[] #[.pointer (some ⟨g, 0, none⟩)]] w fun e w' => ∃ v0_ : Value, e = .returned (v0_) ∧ Kd.R (Kd.int .i64) 3 w' w.heap.size (fun _ => True) v0_ r ∧ Below w.heap.size w w' := by
  unfold impl_ShortRules_stem0.f at h
  by_cases hn : Pu.areV a0 l1 = true
  · rw [if_pos hn] at h
    obtain rfl := Option.some.inj h
    obtain ⟨m, rfl, hm, hl, hany, _⟩ := Pu.areV_nat hn
    have h256 : ∀ x, x < 2 ^ m → x < 256 := fun x hx => Pu.lt_256 (show m ≤ 8 by omega) hx
    have eg : ∀ args w, (callFunc 67 args).run Tryd.prog w = .ok (.enter 67 args) w := enters_of Tryd.func67 (by kernel_rfl) rfl
    rw [Int.toNat_natCast]
    exact stem_at 67 #[.pointer (some ⟨g, 0, none⟩)] eg (Pu.clo (Pu.toR l1)) m hm (fun x hx => (Pu.clo_spec (Pu.small_any hany) (h256 x hx)).1) w htab (fun W x hx hb => sr_closure l1 (by omega) hany A1 c1 w hr1 hc1 hg W x (h256 x hx) hb)
  · rw [if_neg hn] at h
    cases h
end Go.Proofs.YtbflblmkdnhboaaDoor.Pr
namespace Go.Proofs.YtbflblmkdnhboaaDoor.Pr
open Go.RowKit Go.Proofs.YtbflblmkdnhboaaDoorW.PrintWords Go.Proofs.YtbflblmkdnhboaaDoorW.PrintLast Go.Proofs.YtbflblmkdnhboaaDoorW.PrintMore
attribute [local go_sem] max2_int min2_int max_two min_two max_three min_three max_four min_four   -- for this text's walks alone
set_option linter.unusedVariables false
set_option linter.unusedSimpArgs false
theorem q15_1 {P : Prop} (h : P := by repeat (first | exact (Kd.C_below HR1.out HB.out) | (with_reducible refine Kd.C_alloc ?_ _) | (with_reducible refine Kd.C_drewN ?_ _) | (with_reducible refine Kd.C_drew ?_))) : P := h
theorem q15_2 {P : Prop} (h : P := by repeat (first | (with_reducible first | exact HB.out | apply below_alloc | apply pw_below_drewN | apply below_drew1 | refine below_set ?_ GE413.out) | exact HB.out)) : P := h
theorem q15_3 {P : Prop} (h : P := by (try simp only [List.map_toArray, List.map_cons, List.map_nil]); first | done | rfl | (simp only [List.length_drop, List.length_take]; rfl)) : P := h
theorem q15_4 {P : Prop} (h : P := by repeat (first | (with_reducible first | exact HB.out | apply below_alloc | apply pw_below_drewN | apply below_drew1) | exact HB.out)) : P := h
theorem q15_5 {P : Prop} (h : P := by (with_reducible repeat (first | refine blk_drewN ?_ _ | refine blk_drew ?_ | refine blk_alloc ?_ _)); exact BK413.out) : P := h
def impl_ShortRules.f (a0 : Int) (l1 : List (S58)) : Option ((List (S58)) × Bool) := (impl_AreRules.f a0 l1).bind fun t414 => (if t414 = true then ((impl_ShortRules_stem0.f a0 l1).bind fun t415 => ((impl_ShortRules_rulesTo0.f t415 l1).bind fun t418 => (some (t418, true)))) else (some (([] : List (S58)), false)))
set_option maxHeartbeats 8000000 in
set_option maxRecDepth 100000 in
theorem impl_ShortRules.calls (a0 : Int) (A1 : Option Addr) (c1 : Nat) (l1 : List (S58)) (r1 : List (S58)) (r2 : Bool) (w : World) (hr1 : Kd.C k58 w A1 l1.length l1) (hc1 : l1.length ≤ c1) (htab : Tab64 w) (h : impl_ShortRules.f a0 l1 = some (r1, r2)) :
  Calls Tryd.prog 38 #[.int .i64 a0, .slice A1 l1.length c1] w fun e w' => ∃ v0_ : Value, e = .returned (.tuple #[v0_, .bool r2]) ∧ Kd.R k58 58 w' w.heap.size (fun _ => True) v0_ r1 ∧ Below w.heap.size w w' := by
 have HTB := Aside0.mk htab
 clear htab
 have HR1 := Aside0.mk hr1
 have HC1 := Aside0.mk hc1
 clear hr1 hc1
 have HB := Aside0.mk (Below.refl w.heap.size w)
 have H : ((impl_AreRules.f a0 l1).bind fun t414 => (if t414 = true then ((impl_ShortRules_stem0.f a0 l1).bind fun t415 => ((impl_ShortRules_rulesTo0.f t415 l1).bind fun t418 => (some (t418, true)))) else (some (([] : List (S58)), false)))) = some (r1, r2) := h
 clear h
 replace H := Option.bind_eq_some_iff.mp H
 obtain ⟨t414, A30, H⟩ := H
 replace H : (if t414 = true then ((impl_ShortRules_stem0.f a0 l1).bind fun t415 => ((impl_ShortRules_rulesTo0.f t415 l1).bind fun t418 => (some (t418, true)))) else (some (([] : List (S58)), false))) = some (r1, r2) := H
 have A3 := Aside0.mk A30
 clear A30
 by_cases c4 : t414 = true
 ·
  subst c4
  have H1 : ((impl_ShortRules_stem0.f a0 l1).bind fun t415 => ((impl_ShortRules_rulesTo0.f t415 l1).bind fun t418 => (some (t418, true)))) = some (r1, r2) := by rw [if_pos rfl] at H; exact H
  clear H
  have H := H1
  clear H1
  replace H := Option.bind_eq_some_iff.mp H
  obtain ⟨t415, A50, H⟩ := H
  replace H : ((impl_ShortRules_rulesTo0.f t415 l1).bind fun t418 => (some (t418, true))) = some (r1, r2) := H
  have A5 := Aside0.mk A50
  clear A50
  replace H := Option.bind_eq_some_iff.mp H
  obtain ⟨t418, A60, H⟩ := H
  replace H : (some (t418, true)) = some (r1, r2) := H
  have A6 := Aside0.mk A60
  clear A60
  simp only [Option.some.injEq, Prod.mk.injEq] at H
  obtain ⟨rfl, rfl⟩ := H
  go_enter Tryd.func38, Tryd.ntmps38
  go_wp2_with (first | ((with_reducible refine gate_dst (N := 3) rfl ?_); refine box_event ?hg (N := 3) ?hd (cs := #[.slice A1 l1.length c1]) (t := 35) ?hr ?_; (case hd => rfl); (case hg => rfl); (case hr => first | (go_simp; done) | (go_simp; rfl)); intro gb413 hg w7 hbox hb; have n0_ := Aside0.mk (below_step q15_4 hb); have n1_ := Aside0.mk (hbox); have n2_ := Aside0.mk ((by rw [hg]; exact (below_size q15_4) : w.heap.size ≤ gb413)); have n3_ := Aside0.mk ((by rw [hg]; exact (below_size q15_4) : w.heap.size ≤ gb413)); clear HB; have HB := n0_; have BK413 := n1_; have GW413 := n2_; have GE413 := n3_; clear n0_ n1_ n2_ n3_; clear hb hbox hg; have hcz8_0 : w7.cell? ⟨gb413, 0, none⟩ = some (.slice A1 l1.length c1) := (blk_cell BK413.out 0).trans rfl; have hfz8_0 := blk_frozen BK413.out 0) | ((with_reducible refine gate_callee (f := 54) rfl ?_); refine goesL_ (some 9) rfl rfl Tryd.func54 (by kernel_rfl) rfl #[.int .i64 a0, .slice A1 l1.length c1] rfl q15_3 ?_; (with_reducible refine (impl_AreRules.calls a0 _ _ l1 true _ ?side1 ?side2 A3.out).mono ?_); (case side1 => exact q15_1); (case side2 => exact HC1.out); rintro e w9 ⟨rfl, hb⟩; refine ⟨_, rfl, ?_⟩; have n0_ := Aside0.mk (blk_below (g := gb413) (o := .cells #[.slice A1 l1.length c1] 35 (0, 0)) q15_5 hb); have n1_ := Aside0.mk (below_step q15_2 hb); clear BK413; clear HB; have BK413 := n0_; have HB := n1_; clear n0_ n1_; (try clear hb); (try clear hb2); (try clear hk); (try clear hi); have hcz10_0 : w9.cell? ⟨gb413, 0, none⟩ = some (.slice A1 l1.length c1) := (blk_cell BK413.out 0).trans rfl; have hfz10_0 := blk_frozen BK413.out 0) | ((with_reducible refine gate_callee (f := 68) rfl ?_); refine goesL_ (some 14) rfl rfl Tryd.func68 (by kernel_rfl) rfl #[.int .i64 a0, .func (.func 67) #[] #[.pointer (some ⟨gb413, 0, none⟩)]] rfl q15_3 ?_; (with_reducible refine (impl_ShortRules_stem0.calls a0 ?u3_1 ?u3_2 l1 t415 _ ?side1 ?side2 ?tab A5.out ?box0).mono ?_); (case tab => first | exact HTB.out | (refine Tab64.below HTB.out ?_; repeat (first | (with_reducible first | exact HB.out | apply below_alloc | apply pw_below_drewN | apply below_drew1 | refine below_set ?_ GE413.out) | exact HB.out)) | (repeat (first | exact HTB.out | apply Tab64.drewN | apply Tab64.drew | apply Tab64.alloc))); (case box0 => (with_reducible repeat (first | refine blk_drewN ?_ _ | refine blk_drew ?_ | refine blk_alloc ?_ _)); exact BK413.out); (case side1 => exact q15_1); (case side2 => exact HC1.out); rintro e w11 ⟨v416, rfl, ho0, hb⟩; refine ⟨_, rfl, ?_⟩; have n0_ := Aside0.mk (Kd.R_lower ho0 (below_size q15_2)); have n1_ := Aside0.mk (blk_below (g := gb413) (o := .cells #[.slice A1 l1.length c1] 35 (0, 0)) q15_5 hb); have n2_ := Aside0.mk (below_step q15_2 hb); clear BK413; clear HB; have HO417 := n0_; have BK413 := n1_; have HB := n2_; clear n0_ n1_ n2_; (try clear hb); (try clear hb2); (try clear hk); (try clear hi); (try clear ho0); obtain ⟨Ao12, co12, eo12⟩ := Kd.R_slice HO417.out; subst eo12) | ((with_reducible refine gate_callee (f := 64) rfl ?_); refine goesL_ (some 16) rfl rfl Tryd.func64 (by kernel_rfl) rfl #[.slice Ao12 t415.length co12, .func (.func 67) #[] #[.pointer (some ⟨gb413, 0, none⟩)]] rfl q15_3 ?_; (with_reducible refine (impl_ShortRules_rulesTo0.calls ?u4_1 ?u4_2 t415 ?u4_3 ?u4_4 l1 t418 _ ?side1 ?side2 ?side3 ?side4 A6.out ?box0).mono ?_); (case box0 => (with_reducible repeat (first | refine blk_drewN ?_ _ | refine blk_drew ?_ | refine blk_alloc ?_ _)); exact BK413.out); (case side1 => repeat (first | exact (Kd.R_reads' HO417.out).2.2 | (with_reducible refine Kd.C_alloc ?_ _) | (with_reducible refine Kd.C_drewN ?_ _) | (with_reducible refine Kd.C_drew ?_))); (case side2 => exact (Kd.R_reads' HO417.out).2.1); (case side3 => exact q15_1); (case side4 => exact HC1.out); rintro e w13 ⟨v419, rfl, ho0, hb⟩; refine ⟨_, rfl, ?_⟩; have n0_ := Aside0.mk (Kd.R_below (by (with_reducible repeat (first | apply Kd.R_alloc | apply Kd.R_drewN | apply Kd.R_drew)); exact HO417.out) hb); have n1_ := Aside0.mk (Kd.R_lower ho0 (below_size q15_2)); have n2_ := Aside0.mk (blk_below (g := gb413) (o := .cells #[.slice A1 l1.length c1] 35 (0, 0)) q15_5 hb); have n3_ := Aside0.mk (below_step q15_2 hb); clear HO417; clear BK413; clear HB; have HO417 := n0_; have HO420 := n1_; have BK413 := n2_; have HB := n3_; clear n0_ n1_ n2_ n3_; (try clear hb); (try clear hb2); (try clear hk); (try clear hi); (try clear ho0)))
  go_ret2
  exact ⟨_, by first | rfl | (simp [errW_none, errW_some] <;> rfl) | (simp [*, errW_none, errW_some] <;> rfl), by (with_reducible repeat (first | apply Kd.R_alloc | apply Kd.R_drewN | apply Kd.R_drew)); exact HO420.out, by repeat (first | (with_reducible first | exact HB.out | apply below_alloc | apply pw_below_drewN | apply below_drew1 | refine below_set ?_ GE413.out) | exact HB.out)⟩
 ·
  replace c4 := Bool.eq_false_iff.mpr c4
  subst c4
  have H1 : (some (([] : List (S58)), false)) = some (r1, r2) := by rw [if_neg (show ¬ (false = true) by decide)] at H; exact H
  clear H
  have H := H1
  clear H1
  simp only [Option.some.injEq, Prod.mk.injEq] at H
  obtain ⟨rfl, rfl⟩ := H
  go_enter Tryd.func38, Tryd.ntmps38
  go_wp2_with (first | ((with_reducible refine gate_dst (N := 3) rfl ?_); refine box_event ?hg (N := 3) ?hd (cs := #[.slice A1 l1.length c1]) (t := 35) ?hr ?_; (case hd => rfl); (case hg => rfl); (case hr => first | (go_simp; done) | (go_simp; rfl)); intro gb413 hg w14 hbox hb; have n0_ := Aside0.mk (below_step q15_4 hb); have n1_ := Aside0.mk (hbox); have n2_ := Aside0.mk ((by rw [hg]; exact (below_size q15_4) : w.heap.size ≤ gb413)); have n3_ := Aside0.mk ((by rw [hg]; exact (below_size q15_4) : w.heap.size ≤ gb413)); clear HB; have HB := n0_; have BK413 := n1_; have GW413 := n2_; have GE413 := n3_; clear n0_ n1_ n2_ n3_; clear hb hbox hg; have hcz15_0 : w14.cell? ⟨gb413, 0, none⟩ = some (.slice A1 l1.length c1) := (blk_cell BK413.out 0).trans rfl; have hfz15_0 := blk_frozen BK413.out 0) | ((with_reducible refine gate_callee (f := 54) rfl ?_); refine goesL_ (some 9) rfl rfl Tryd.func54 (by kernel_rfl) rfl #[.int .i64 a0, .slice A1 l1.length c1] rfl q15_3 ?_; (with_reducible refine (impl_AreRules.calls a0 _ _ l1 false _ ?side1 ?side2 A3.out).mono ?_); (case side1 => exact q15_1); (case side2 => exact HC1.out); rintro e w16 ⟨rfl, hb⟩; refine ⟨_, rfl, ?_⟩; have n0_ := Aside0.mk (blk_below (g := gb413) (o := .cells #[.slice A1 l1.length c1] 35 (0, 0)) q15_5 hb); have n1_ := Aside0.mk (below_step q15_2 hb); clear BK413; clear HB; have BK413 := n0_; have HB := n1_; clear n0_ n1_; (try clear hb); (try clear hb2); (try clear hk); (try clear hi)))
  go_ret2
  exact ⟨_, by first | rfl | (simp [errW_none, errW_some] <;> rfl) | (simp [*, errW_none, errW_some] <;> rfl), by first | exact Kd.R_nil _ _ _ _ _ | exact Kd.N_nil _ _ _ _ _ | exact Kd.V_nil _ _ _ _ _ | exact Kd.Q_nil _ _ _ _ _ | exact Kd.S_nil _ _ _ _ _, by repeat (first | (with_reducible first | exact HB.out | apply below_alloc | apply pw_below_drewN | apply below_drew1 | refine below_set ?_ GE413.out) | exact HB.out)⟩
end Go.Proofs.YtbflblmkdnhboaaDoor.Pr
