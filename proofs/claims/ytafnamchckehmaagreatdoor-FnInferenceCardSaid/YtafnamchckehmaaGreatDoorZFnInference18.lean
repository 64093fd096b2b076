/- Functions of the program as plain functions, proofs that their calls answer so, and plain laws: what the law needs. No condition beyond what each statement says. -/
import Derived.Test.YtafnamchckehmaaGreatDoorZFnInference17
namespace Go.Proofs.YtafnamchckehmaaGreatDoor.Pu
open Go.RowKit Go.Proofs.YtafnamchckehmaaGreatDoorW.PrintWords Go.Proofs.YtafnamchckehmaaGreatDoorW.PrintLast Go.Proofs.YtafnamchckehmaaGreatDoorW.PrintMore Go.Proofs.YtafnamchckehmaaGreatDoor.Pr
def okP (c : Nat → Nat) (s p : Nat) : Bool := !sub p s || sub (c p) s
def plStep (c : Nat → Nat) (s : Nat) (a : List Nat) : List Nat := if (decide (c s ≠ s) && a.all (okP c s)) = true then a ++ [s] else a
theorem pl_fold (c : Nat → Nat) : ∀ N, foldIdx (plStep c) 0 N [] = pl c N
  | 0 => foldIdx_end _ (Nat.le_refl _) _
  | N + 1 => by rw [foldIdx_last _ (Nat.zero_le _), pl_fold c N]; rfl
theorem plStep_inv (c : Nat → Nat) (s : Nat) (a : List Nat) (h : (∀ p ∈ a, p < s) ∧ a.length ≤ s) : (∀ p ∈ plStep c s a, p < s + 1) ∧ (plStep c s a).length ≤ s + 1 := by
  unfold plStep
  split
  · refine ⟨fun p hp => ?_, by rw [List.length_append, List.length_singleton]; omega⟩
    rcases List.mem_append.1 hp with h1 | h1
    · have := h.1 p h1; omega
    · rw [List.mem_singleton] at h1; omega
  · exact ⟨fun p hp => by have := h.1 p hp; omega, by omega⟩
def srV (n : Int) (l : List IR) : List IR × Bool := if areV n l = true then (ruleMap (fvC l) (cast (psN n.toNat (clo (toR l)))), true) else ([], false)
theorem srV_len (n : Int) (l : List IR) : (srV n l).1.length ≤ 256 := by
  unfold srV ruleMap
  split
  · dsimp only
    rw [List.length_map, cast_length]
    exact keptN_le
  · simp
theorem srI_val (n : Int) (l : List IR) : impl_ShortRules.f n l = some (srV n l) := by
  unfold impl_ShortRules.f srV
  rw [areI_val, Option.bind_some]
  cases h : areV n l with
  | false => rw [if_neg (by decide), if_neg (by decide)]
  | true =>
    obtain ⟨m, rfl, hm, hl, hany, _⟩ := areV_nat h
    rw [if_pos rfl, if_pos rfl]
    unfold impl_ShortRules_stem0.f impl_ShortRules_rulesTo0.f
    rw [if_pos h, Option.bind_some, if_pos ⟨by rw [cast_length]; exact Nat.le_trans keptN_le (by decide), hl, cast_any (fun x hx => lt_256 (show m ≤ 8 by omega) (by rw [Int.toNat_natCast] at hx; exact ((mem_keptN (by omega)).1 hx).1)), hany⟩]
    rfl
theorem srS_inner {n : Int} {l rr : List IR} (hl : l.length ≤ 40) (hany : l.all anyR = true) {s : Nat} (hs : s < 256) {a : List Nat} (ha : ∀ p ∈ a, p < 256) (hal : a.length ≤ 256) {res : List IR × Bool} :
    ∀ (rest : List Nat) (i : Nat) (f : Bool), a.drop i = rest → Ev (fun k => spec_ShortRules.l0 k n l rr (cast (if (f && rest.all (okP (clo (toR l)) s)) = true then a ++ [s] else a)) ((s + 1 : Nat) : Int)) res →
      Ev (fun k => spec_ShortRules.l1 k n l rr (cast a) (s : Int) f (i : Int)) res := by
  intro rest
  induction rest with
  | nil =>
    intro i f h hE
    have hle := drop_nil h
    refine Ev.step (fun k => ?_) hE
    simp only [spec_ShortRules.l1]
    rw [if_neg (by rw [cast_length]; omega), show wrap64 ((s : Int) + 1) = ((s + 1 : Nat) : Int) from by unfold wrap64; omega]
    cases f with
    | false => rw [if_neg (by decide), if_neg (by simp)]
    | true => rw [if_pos rfl, if_pos (by rw [cast_length]; omega), if_pos (by simp), castOne]
  | cons p rest ih =>
    intro i f h hE
    obtain ⟨hi, hx, hd⟩ := drop_cons (d := 0) h
    have hp : p < 256 := ha p (by rw [← hx, List.getD_eq_getElem?_getD, List.getElem?_eq_getElem hi]; exact List.getElem_mem _)
    have hclp : clo (toR l) p < 256 := (clo_spec (small_any hany) hp).1
    refine Ev.step (f := fun k => (spec_l9Closed.f k l (p : Int)).bind fun t => (if f = true then (if (Go.bits .and .i64 (p : Int) (s : Int)) = (p : Int) then (spec_ShortRules.l1 k n l rr (cast a) (s : Int) ((Go.bits .and .i64 t (s : Int)) == t) ((i + 1 : Nat) : Int)) else (spec_ShortRules.l1 k n l rr (cast a) (s : Int) true ((i + 1 : Nat) : Int))) else (spec_ShortRules.l1 k n l rr (cast a) (s : Int) false ((i + 1 : Nat) : Int)))) (fun k => ?_) ?_
    · simp only [spec_ShortRules.l1]
      rw [if_pos (by rw [cast_length]; omega), if_pos (by omega), rdCast, hx, wrap_succ hi (by omega)]
    refine Ev.bind (clS_val l (by omega) hany p hp) ?_
    cases f with
    | false => exact Ev.congr (fun k => by rw [if_neg (by decide)]) (ih (i + 1) false hd (by rw [Bool.false_and] at hE ⊢; exact hE))
    | true =>
      by_cases hsub : sub p s = true
      · have e : okP (clo (toR l)) s p = sub (clo (toR l) p) s := by unfold okP; rw [hsub]; rfl
        rw [Bool.true_and, List.all_cons, e] at hE
        refine Ev.congr (fun k => by rw [if_pos rfl, if_pos ((and_is' hp hs).2 hsub), show (Go.bits .and .i64 ((clo (toR l) p : Nat) : Int) (s : Int) == ((clo (toR l) p : Nat) : Int)) = sub (clo (toR l) p) s from by rw [Bool.eq_iff_iff, beq_iff_eq]; exact and_is' hclp hs]) ?_
        exact ih (i + 1) (sub (clo (toR l) p) s) hd hE
      · have e : okP (clo (toR l)) s p = true := by unfold okP; rw [Bool.not_eq_true] at hsub; rw [hsub]; rfl
        rw [Bool.true_and, List.all_cons, e, Bool.true_and] at hE
        refine Ev.congr (fun k => by rw [if_pos rfl, if_neg (fun h => hsub ((and_is' hp hs).1 h))]) ?_
        exact ih (i + 1) true hd (by rw [Bool.true_and]; exact hE)
theorem rule_oneC (fv : Int → Int) (a : List Int) (x : Int) : ruleMap fv a ++ [⟨x, fv x⟩] = ruleMap fv (a ++ [x]) := by
  unfold ruleMap
  rw [List.map_append]
  rfl
theorem srS_last {l : List IR} (hl : l.length ≤ 40) (hany : l.all anyR = true) (P : List Int) (hlen : P.length ≤ 256) (hmem : ∀ x ∈ P, ∃ s : Nat, x = (s : Int) ∧ s < 256) : ∀ (rest : List Int) (i : Nat), P.drop i = rest → Ev (fun k => spec_ShortRules.l2 k l (ruleMap (fvC l) (P.take i)) P (i : Int)) (ruleMap (fvC l) P, true) := by
  intro rest
  induction rest with
  | nil =>
    intro i h
    have := drop_nil h
    refine Ev.step (f := fun _ => some (ruleMap (fvC l) P, true)) (fun k => ?_) (Ev.now _)
    simp only [spec_ShortRules.l2]
    rw [if_neg (by omega), List.take_of_length_le this]
  | cons x rest ih =>
    intro i h
    obtain ⟨hi, hx, hd⟩ := drop_cons (d := 0) h
    have hget : P[i]? = some x := by
      rw [List.getElem?_eq_getElem hi]
      rw [List.getD_eq_getElem?_getD, List.getElem?_eq_getElem hi] at hx
      exact congrArg some hx
    obtain ⟨s, rfl, hs⟩ := hmem x (List.mem_of_getElem? hget)
    have hrd : rd P (i : Int) = (s : Int) := by
      unfold rd
      rw [Int.toNat_natCast, hx]
    have hnext := ih (i + 1) hd
    rw [List.take_add_one, hget, Option.toList_some, ← rule_oneC] at hnext
    refine Ev.step (f := fun k => (spec_l9Closed.f k l (s : Int)).bind fun t => spec_ShortRules.l2 k l (ruleMap (fvC l) (P.take i) ++ [(⟨(s : Int), t⟩ : IR)]) P ((i + 1 : Nat) : Int)) (fun k => ?_) ?_
    · simp only [spec_ShortRules.l2]
      have hl1 : (ruleMap (fvC l) (P.take i)).length ≤ 256 := by
        unfold ruleMap
        rw [List.length_map, List.length_take]
        omega
      rw [if_pos (by omega), if_pos (by omega), hrd, wrap_succ hi (by omega)]
      congr 1
      funext t
      rw [if_pos (by omega)]
    · refine Ev.bind (clS_val l (by omega) hany s hs) ?_
      have e : fvC l (s : Int) = ((clo (toR l) s : Nat) : Int) := by
        unfold fvC
        rw [Int.toNat_natCast]
      rw [e] at hnext
      exact hnext
theorem srS_val (n : Int) (l : List IR) (hlen : l.length ≤ 1048576) : Ev (fun k => spec_ShortRules.f k n l) (srV n l) := by
  unfold spec_ShortRules.f srV
  simp only [Option.bind_some]
  refine Ev.bind (areS_val n l (by omega)) ?_
  cases h : areV n l with
  | false => exact Ev.congr (fun k => by rw [if_neg (by decide), if_neg (by decide)]) (Ev.now _)
  | true =>
    obtain ⟨m, rfl, hm, hl, hany, _⟩ := areV_nat h
    have hp := pow_256 (show m ≤ 8 by omega)
    have hp1 := Nat.two_pow_pos m
    rw [Int.toNat_natCast, if_pos rfl]
    refine Ev.congr (fun k => by rw [if_pos rfl]) ?_
    refine ev_fold (g := fun k (a : List Nat) i => spec_ShortRules.l0 k (m : Int) l [] (cast a) i) (plStep (clo (toR l))) (fun i a => (∀ p ∈ a, p < i) ∧ a.length ≤ i) (N := 2 ^ m) ?_ (fun i a _ h => plStep_inv _ i a h) (2 ^ m) 0 [] (by omega) ⟨(fun p hp => by cases hp), Nat.le_refl _⟩ ?_
    · intro i a hi ha h
      refine Ev.step (f := fun k => (spec_l9Closed.f k l (i : Int)).bind fun t => if t = (i : Int) then spec_ShortRules.l0 k (m : Int) l [] (cast a) ((i + 1 : Nat) : Int) else spec_ShortRules.l1 k (m : Int) l [] (cast a) (i : Int) true 0) (fun k => ?_) ?_
      · simp only [spec_ShortRules.l0]
        rw [fullS_val, fullV_nat (by omega), Option.bind_some, if_pos (by omega), show wrap64 ((i : Int) + 1) = ((i + 1 : Nat) : Int) from by unfold wrap64; omega]
      · refine Ev.bind (clS_val l (by omega) hany i (by omega)) ?_
        by_cases e : clo (toR l) i = i
        · unfold plStep at h
          rw [decide_eq_false (fun h => h e), Bool.false_and, if_neg (by decide)] at h
          exact Ev.congr (fun k => by rw [if_pos (by rw [e])]) h
        · unfold plStep at h
          rw [decide_eq_true e] at h
          refine Ev.congr (fun k => by rw [if_neg (by omega)]) ?_
          exact srS_inner hl hany (by omega) (fun p hp => by have := ha.1 p hp; omega) (by omega) a 0 true rfl h
    · intro b hbb hinv
      rw [pl_fold] at hbb
      subst hbb
      refine Ev.step (f := fun k => (spec_SortLectic.f k (cast (pl (clo (toR l)) (2 ^ m)))).bind fun t => spec_ShortRules.l2 k l [] t 0) (fun k => ?_) ?_
      · simp only [spec_ShortRules.l0]
        rw [fullS_val, fullV_nat (by omega), Option.bind_some, if_neg (by omega)]
      · refine Ev.bind (sortS_val (fun x hx => by have := hinv.1 x hx; omega) (by omega)) ?_
        rw [lec_pl]
        refine srS_last hl hany _ (by rw [cast_length]; exact keptN_le) (fun x hx => ?_) _ 0 rfl
        unfold cast at hx
        obtain ⟨y, hy, rfl⟩ := List.mem_map.1 hx
        exact ⟨y, rfl, lt_256 (show m ≤ 8 by omega) ((mem_keptN (by omega)).1 hy).1⟩
theorem prf_from {l : List IR} (ha : l.all anyR = true) {b : Nat} : ∀ (d s : Nat), s < 256 → 256 - s ≤ d → sub b (clo (toR l) s) = true → chkFrom l b (prfL l b d s) s = true := by
  intro d
  induction d with
  | zero => intro s hs h; omega
  | succ d ih =>
    intro s hs h hb
    rw [prfL]
    by_cases e : sub b s = true
    · rw [if_pos e]
      exact e
    · have hn : sub b s = false := by simpa using e
      obtain ⟨k, h1, _, _⟩ := pidx_hit ha hs hb hn
      obtain ⟨k1, k2, k3, _, _⟩ := pnext_lt ha hs hb hn
      have hx := List.all_eq_true.1 ha _ (List.getElem_mem k)
      rw [respV_nat hx hs, Bool.or_eq_false_iff] at h1
      have hs1 : sub (toP l[pidx l s]).1 s = true := by simpa using h1.1
      rw [if_neg e, chkFrom]
      dsimp only
      rw [if_pos (by omega), Int.toNat_natCast, if_pos ⟨by rw [getD_of k]; exact hs1, rfl⟩]
      exact ih (pnext l s) k2 (by omega) k3
theorem prf_chk {l : List IR} {r : IR} (h : folV l r = true) : chkV l r (prfV l r).1 = true := by
  obtain ⟨h1, h2, h3⟩ := folV_parts h
  unfold prfV chkV
  rw [if_pos h, h1, h2, Bool.true_and, Bool.true_and]
  exact prf_from h1 256 _ (anyR_nat h2).2.2.1 (by omega) h3
theorem toP_mem {l : List IR} {i : Nat} (hi : i < l.length) : toP (l.getD i z48) ∈ toR l := by
  rw [getD_of hi]
  exact List.mem_map.2 ⟨_, List.getElem_mem hi, rfl⟩
theorem chk_from {l : List IR} (ha : l.all anyR = true) {b : Nat} : ∀ (st : List IS) (s : Nat), s < 256 → chkFrom l b st s = true → sub b (clo (toR l) s) = true := by
  have hR := toR_small ha
  intro st
  induction st with
  | nil => intro s hs h; exact sub_trans h (clo_spec hR hs).2.1
  | cons x st ih =>
    intro s hs h
    rw [chkFrom] at h
    by_cases h1 : 0 ≤ x.f0 ∧ x.f0 < l.length
    · rw [if_pos h1] at h
      have hi : x.f0.toNat < l.length := by omega
      by_cases h2 : sub (toP (l.getD x.f0.toNat z48)).1 s = true ∧ x.f1 = ((s ||| (toP (l.getD x.f0.toNat z48)).2 : Nat) : Int)
      · rw [if_pos h2] at h
        have hm := toP_mem hi
        have h256 : s ||| (toP (l.getD x.f0.toNat z48)).2 < 256 := or256 hs (hR _ hm).2
        obtain ⟨c1, c2, c3, _⟩ := clo_spec hR hs
        have hin : sub (s ||| (toP (l.getD x.f0.toNat z48)).2) (clo (toR l) s) = true := or_sub c2 (c3 _ hm (sub_trans h2.1 c2))
        have := clo_mono hR h256 c1 hin
        rw [clo_idem hR hs] at this
        exact sub_trans (ih _ h256 h) this
      · rw [if_neg h2] at h
        cases h
    · rw [if_neg h1] at h
      cases h
theorem chk_fol {l : List IR} {r : IR} {st : List IS} (h : chkV l r st = true) : folV l r = true := by
  unfold chkV at h
  rw [Bool.and_eq_true, Bool.and_eq_true] at h
  obtain ⟨h1, h2, h3⟩ := h
  unfold folV
  rw [h1, h2, Bool.true_and, Bool.true_and]
  exact chk_from h1 st _ (anyR_nat h2).2.2.1 h3
theorem clo_more {A B : Rules} (hB : small B) (h : ∀ r ∈ A, r ∈ B) {s : Nat} (hs : s < 256) : sub (clo A s) (clo B s) = true := by
  obtain ⟨_, h1, h2, _⟩ := clo_spec hB hs
  exact (clo_spec (fun r hr => hB r (h r hr)) hs).2.2.2 _ h1 fun r hr => h2 r (h r hr)
theorem equiv_of {a b : List IR} (ha : a.all anyR = true) (hb : b.all anyR = true) (h1 : ∀ r ∈ toR a, clo (toR b) r.1 = clo (toR a) r.1) (h2 : ∀ r ∈ toR b, clo (toR a) r.1 = clo (toR b) r.1) : equivV a b = true := by
  have go : ∀ {a b : List IR}, a.all anyR = true → b.all anyR = true → (∀ r ∈ toR b, clo (toR a) r.1 = clo (toR b) r.1) → b.all (folV a) = true := by
    intro a b ha hb h
    refine List.all_eq_true.2 fun r hr => ?_
    have hany := List.all_eq_true.1 hb r hr
    have hm : toP r ∈ toR b := List.mem_map.2 ⟨r, hr, rfl⟩
    unfold folV
    rw [ha, hany, Bool.true_and, Bool.true_and, h _ hm]
    obtain ⟨_, k2, k3, _⟩ := clo_spec (toR_small hb) (anyR_nat hany).2.2.1
    exact k3 _ hm k2
  unfold equivV
  rw [ha, hb, go ha hb h2, go hb ha h1]
  rfl
theorem mem_erase_or {l : List IR} {i : Nat} (hi : i < l.length) {r : Nat × Nat} (hr : r ∈ toR l) : r ∈ toR (l.eraseIdx i) ∨ r = toP (l.getD i z48) := by
  obtain ⟨x, hx, rfl⟩ := List.mem_map.1 hr
  obtain ⟨j, hj, rfl⟩ := List.getElem_of_mem hx
  by_cases e : j = i
  · subst e
    right
    rw [getD_of hj]
  · left
    refine List.mem_map.2 ⟨l[j], ?_, rfl⟩
    rw [List.mem_eraseIdx_iff_getElem?]
    exact ⟨j, e, by rw [List.getElem?_eq_getElem hj]⟩
theorem erase_sub {l : List IR} {i : Nat} {r : Nat × Nat} (hr : r ∈ toR (l.eraseIdx i)) : r ∈ toR l := by
  obtain ⟨x, hx, rfl⟩ := List.mem_map.1 hr
  exact List.mem_map.2 ⟨x, List.mem_of_mem_eraseIdx hx, rfl⟩
theorem all_erase {l : List IR} (ha : l.all anyR = true) (i : Nat) : (l.eraseIdx i).all anyR = true := List.all_eq_true.2 fun x hx => List.all_eq_true.1 ha x (List.mem_of_mem_eraseIdx hx)
theorem red_iff {l : List IR} (ha : l.all anyR = true) {i : Nat} (hi : i < l.length) : redV l (i : Int) = true ↔ sub (toP (l.getD i z48)).2 (clo (toR (l.eraseIdx i)) (toP (l.getD i z48)).1) = true := by
  unfold redV folV
  rw [if_pos (by omega), Int.toNat_natCast, all_erase ha i, show anyR (l.getD i z48) = true from by rw [getD_of hi]; exact List.all_eq_true.1 ha _ (List.getElem_mem hi), Bool.true_and, Bool.true_and]
theorem clo_erase {l : List IR} (ha : l.all anyR = true) {i : Nat} (hi : i < l.length) (h : redV l (i : Int) = true) {s : Nat} (hs : s < 256) : clo (toR (l.eraseIdx i)) s = clo (toR l) s := by
  have hR := toR_small ha
  have hE := toR_small (all_erase ha i)
  rw [red_iff ha hi] at h
  obtain ⟨c1, c2, c3, _⟩ := clo_spec hE hs
  refine sub_antisymm (clo_more hR (fun r hr => erase_sub hr) hs) ((clo_spec hR hs).2.2.2 _ c2 fun r hr hsub => ?_)
  rcases mem_erase_or hi hr with k | k
  · exact c3 r k hsub
  · rw [k] at hsub ⊢
    have hm := hR _ (toP_mem hi)
    have := clo_mono hE hm.1 c1 hsub
    rw [clo_idem hE hs] at this
    exact sub_trans h this
theorem erase_getD {l : List IR} {i j : Nat} (h : j < i) : (l.eraseIdx i).getD j z48 = l.getD j z48 := by
  rw [List.getD_eq_getElem?_getD, List.getD_eq_getElem?_getD, List.getElem?_eraseIdx_of_lt h]
theorem red_less {l : List IR} (ha : l.all anyR = true) {i j : Nat} (hj : j < i) (hi : i < l.length) (h : redV l (j : Int) = false) : redV (l.eraseIdx i) (j : Int) = false := by
  have hlen : (l.eraseIdx i).length + 1 = l.length := by rw [List.length_eraseIdx, if_pos hi]; omega
  rw [← Bool.not_eq_true] at h ⊢
  intro hc
  refine h ?_
  rw [red_iff (all_erase ha i) (by omega), erase_getD hj] at hc
  rw [red_iff ha (by omega)]
  refine sub_trans hc (clo_more (toR_small (all_erase ha j)) (fun r hr => ?_) (toR_small ha _ (toP_mem (show j < l.length by omega))).1)
  obtain ⟨x, hx, rfl⟩ := List.mem_map.1 hr
  refine List.mem_map.2 ⟨x, ?_, rfl⟩
  rw [List.mem_eraseIdx_iff_getElem?] at hx ⊢
  obtain ⟨q, hq, hqx⟩ := hx
  by_cases e : q < i
  · rw [List.getElem?_eraseIdx_of_lt e] at hqx
    exact ⟨q, hq, hqx⟩
  · rw [List.getElem?_eraseIdx_of_ge (by omega)] at hqx
    exact ⟨q + 1, by omega, hqx⟩
theorem mini_spec : ∀ (d : Nat) (l : List IR) (i : Nat), l.all anyR = true → i + d = l.length → (∀ j, j < i → redV l (j : Int) = false) →
    (mini d l i).all anyR = true ∧ (∀ s, s < 256 → clo (toR (mini d l i)) s = clo (toR l) s) ∧ ∀ j, j < (mini d l i).length → redV (mini d l i) (j : Int) = false := by
  intro d
  induction d with
  | zero =>
    intro l i ha h hr
    exact ⟨ha, fun _ _ => rfl, fun j hj => hr j (by rw [mini] at hj; omega)⟩
  | succ d ih =>
    intro l i ha h hr
    rw [mini]
    by_cases e : redV l (i : Int) = true
    · rw [if_pos e]
      have hi : i < l.length := by omega
      obtain ⟨h1, h2, h3⟩ := ih (l.eraseIdx i) i (all_erase ha i) (by rw [List.length_eraseIdx, if_pos hi]; omega) fun j hj => red_less ha hj hi (hr j hj)
      exact ⟨h1, fun s hs => by rw [h2 s hs, clo_erase ha hi e hs], h3⟩
    · rw [if_neg e]
      refine ih l (i + 1) ha (by omega) fun j hj => ?_
      by_cases k : j = i
      · subst k; simpa using e
      · exact hr j (by omega)
theorem mini_equiv {l : List IR} (h : (miniV l).length > 0) : equivV l (miniV l) = true := by
  unfold miniV at h ⊢
  cases ha : l.all anyR with
  | false => rw [ha, if_neg (by decide)] at h; exact absurd h (by decide)
  | true =>
    rw [if_pos rfl]
    obtain ⟨h1, h2, _⟩ := mini_spec l.length l 0 ha (by omega) fun j hj => by omega
    refine equiv_of ha h1 (fun r hr => h2 r.1 (toR_small ha r hr).1) fun r hr => (h2 r.1 (toR_small h1 r hr).1).symm
theorem mini_red (l : List IR) : ∀ j, j < (miniV l).length → redV (miniV l) (j : Int) = false := by
  unfold miniV
  cases ha : l.all anyR with
  | false => rw [if_neg (by decide)]; intro j hj; exact absurd hj (by simp)
  | true =>
    rw [if_pos rfl]
    exact (mini_spec l.length l 0 ha (by omega) fun j hj => by omega).2.2
theorem short_spec {n : Int} {l : List IR} (h : areV n l = true) : equivV l (srV n l).1 = true ∧ (srV n l).1.length ≤ l.length := by
  unfold srV
  rw [if_pos h]
  obtain ⟨m, rfl, hm, hlen, hany, hw⟩ := areV_nat h
  have hin : within m (toR l) := fun r hr => by
    obtain ⟨x, hx, rfl⟩ := List.mem_map.1 hr
    exact hw x hx
  have C := clos_clo (show m ≤ 8 by omega) hin
  have h256 := pow_le_256 (show m ≤ 8 by omega)
  have hP : ∀ s ∈ psN m (clo (toR l)), s < 2 ^ m := fun s hs => ((mem_keptN (show m ≤ 8 by omega)).1 hs).1
  rw [Int.toNat_natCast]
  dsimp only
  have e : toR (ruleMap (fvC l) (cast (psN m (clo (toR l))))) = stN m (clo (toR l)) := toR_map fun s _ => rfl
  constructor
  · refine equiv_of hany (any_map (f := clo (toR l)) (fun s _ => rfl) fun s hs => ⟨by have := hP s hs; omega, by have := C.lt s (hP s hs); omega⟩) (fun r hr => ?_) fun r hr => ?_
    · rw [e]
      exact clo_stN C (by omega) (hin r hr).1
    · rw [e] at hr ⊢
      exact (clo_stN C (by omega) (within_stN C (by omega) r hr).1).symm
  · unfold ruleMap
    rw [List.length_map, cast_length]
    have := base_least C (by omega) hin fun _ _ => rfl
    rwa [show (toR l).length = l.length from List.length_map ..] at this
theorem lred_spec {R : Rules} (hR : small R) {b : Nat} : ∀ (d i s : Nat), s < 256 → sub b (clo R s) = true → sub (lred R b i d s) s = true ∧ sub b (clo R (lred R b i d s)) = true
  | 0, _, s, _, h => ⟨sub_refl s, h⟩
  | d + 1, i, s, hs, h => by
    rw [lred]
    have hsub : sub (lredStep R b s i) s = true ∧ sub b (clo R (lredStep R b s i)) = true := by
      unfold lredStep
      split
      · rename_i k
        exact ⟨sub_iff.2 fun j hj => by rw [testBit_diff, Bool.and_eq_true] at hj; exact hj.1, k.2⟩
      · exact ⟨sub_refl s, h⟩
    have hlt : lredStep R b s i < 256 := Nat.lt_of_le_of_lt (sub_le hsub.1) hs
    obtain ⟨h1, h2⟩ := lred_spec hR d (i + 1) _ hlt hsub.2
    exact ⟨sub_trans h1 hsub.1, h2⟩
theorem toP_lredR (R : Rules) (r : IR) : toP (lredR R r) = (lred R (toP r).2 0 8 (toP r).1, (toP r).2) := by
  unfold lredR
  rfl
theorem left_equiv {n : Int} {l : List IR} (h : areV n l = true) : equivV l (lrV n l).1 = true := by
  unfold lrV
  rw [if_pos h]
  obtain ⟨m, rfl, hm, hlen, hany, hw⟩ := areV_nat h
  have hR := toR_small hany
  have hb : ∀ r ∈ l, sub (toP (lredR (toR l) r)).1 (toP r).1 = true ∧ sub (toP r).2 (clo (toR l) (toP (lredR (toR l) r)).1) = true := by
    intro r hr
    have hmem : toP r ∈ toR l := List.mem_map.2 ⟨r, hr, rfl⟩
    obtain ⟨_, k2, k3, _⟩ := clo_spec hR (hR _ hmem).1
    rw [toP_lredR]
    exact lred_spec hR 8 0 _ (hR _ hmem).1 (k3 _ hmem k2)
  have hall : (l.map (lredR (toR l))).all anyR = true := by
    refine List.all_eq_true.2 fun x hx => ?_
    obtain ⟨r, hr, rfl⟩ := List.mem_map.1 hx
    have hr2 := List.all_eq_true.1 hany r hr
    have h1 := sub_le (hb r hr).1
    have h3 := (anyR_nat hr2).2.2.1
    unfold anyR at hr2 ⊢
    rw [Bool.and_eq_true] at hr2 ⊢
    refine ⟨?_, hr2.2⟩
    rw [toP_lredR] at h1
    unfold lredR isAny
    dsimp only at h1 ⊢
    rw [decide_eq_true_iff]
    omega
  have hL := toR_small hall
  have hclo : ∀ s, s < 256 → clo (toR (l.map (lredR (toR l)))) s = clo (toR l) s := by
    intro s hs
    obtain ⟨c1, c2, c3, _⟩ := clo_spec hR hs
    obtain ⟨d1, d2, d3, _⟩ := clo_spec hL hs
    refine sub_antisymm ((clo_spec hL hs).2.2.2 _ c2 fun q hq hsub => ?_) ((clo_spec hR hs).2.2.2 _ d2 fun q hq hsub => ?_)
    · obtain ⟨x, hx, rfl⟩ := List.mem_map.1 hq
      obtain ⟨r, hr, rfl⟩ := List.mem_map.1 hx
      have hq1 := (hL _ hq).1
      have := clo_mono hR hq1 c1 hsub
      rw [clo_idem hR hs] at this
      have h2 := (hb r hr).2
      rw [show (toP (lredR (toR l) r)).2 = (toP r).2 from rfl]
      exact sub_trans h2 this
    · obtain ⟨r, hr, rfl⟩ := List.mem_map.1 hq
      have hm2 : toP (lredR (toR l) r) ∈ toR (l.map (lredR (toR l))) := List.mem_map.2 ⟨_, List.mem_map.2 ⟨r, hr, rfl⟩, rfl⟩
      have := d3 _ hm2 (sub_trans (hb r hr).1 hsub)
      rwa [show (toP (lredR (toR l) r)).2 = (toP r).2 from rfl] at this
  exact equiv_of hany hall (fun r hr => hclo r.1 (hR r hr).1) fun r hr => (hclo r.1 (hL r hr).1).symm
theorem sameS_loop (l : List IS) (hl : l.length ≤ 9223372036854775807) : ∀ (rest : List IS) (i : Nat), l.drop i = rest → Ev (fun k => laws_sameSteps.l0 k l l (i : Int)) true := by
  intro rest
  induction rest with
  | nil =>
    intro i h
    have := drop_nil h
    refine Ev.step (f := fun _ => some true) (fun k => ?_) (Ev.now _)
    simp only [laws_sameSteps.l0]
    rw [if_neg (by omega)]
  | cons x rest ih =>
    intro i h
    obtain ⟨hi, hx, hd⟩ := drop_cons (d := z110) h
    refine Ev.step (fun k => ?_) (ih (i + 1) hd)
    simp only [laws_sameSteps.l0]
    rw [if_pos (by omega), if_pos (by omega), if_pos (by omega), wrap_succ hi hl]
    simp
theorem sameS_self (l : List IS) (hl : l.length ≤ 9223372036854775807) : Ev (fun k => laws_sameSteps.f k l l) true := by
  unfold laws_sameSteps.f
  refine Ev.congr (fun k => by rw [if_pos rfl]) ?_
  exact sameS_loop l hl l 0 rfl
theorem inf_last (y u : List IR) (n : Int) (hy : ∀ j, j < y.length → redV y (j : Int) = false) (hl : y.length ≤ 1048576) : ∀ (d i : Nat), i + d = y.length → Ev (fun k => laws_FnInference.l0 k y u (srV n u).1 (srV n u).2 (lrV n u).1 (lrV n u).2 (i : Int)) true := by
  intro d
  induction d with
  | zero =>
    intro i h
    cases ha : areV n u with
    | false =>
      have e : (srV n u).2 = false := by unfold srV; rw [ha, if_neg (by decide)]
      refine Ev.step (f := fun _ => some true) (fun k => ?_) (Ev.now _)
      simp only [laws_FnInference.l0]
      rw [if_neg (by omega), if_neg (by rw [e]; decide)]
    | true =>
      have e : (srV n u).2 = true := by unfold srV; rw [ha, if_pos rfl]
      have e2 : (lrV n u).2 = true := by unfold lrV; rw [ha, if_pos rfl]
      obtain ⟨s1, s2⟩ := short_spec ha
      have s3 := left_equiv ha
      refine Ev.step (f := fun _ => some true) (fun k => ?_) (Ev.now _)
      simp only [laws_FnInference.l0]
      rw [if_neg (by omega), if_pos (by rw [e]), equivI_val, s1, Option.bind_some, if_pos rfl, if_pos (by rw [e2]), equivI_val, s3, Option.bind_some, if_pos rfl, decide_eq_true (by omega)]
  | succ d ih =>
    intro i h
    have hi : i < y.length := by omega
    refine Ev.step (f := fun k => (impl_IsRedundant.f k y (i : Int)).bind fun t => (if t = true then (some false) else (laws_FnInference.l0 k y u (srV n u).1 (srV n u).2 (lrV n u).1 (lrV n u).2 ((i + 1 : Nat) : Int)))) (fun k => ?_) ?_
    · simp only [laws_FnInference.l0]
      rw [if_pos (by omega), wrap_succ hi (by omega)]
    · refine Ev.bind (redI_val y hl (i : Int)) ?_
      rw [hy i hi]
      exact Ev.congr (fun k => by rw [if_neg (by decide)]) (ih (i + 1) (by omega))
theorem inf_j1 (x u : List IR) (n : Int) (hx : x.length ≤ 1000) : Ev (fun k => laws_FnInference.j1 k x (miniV x) u (srV n u).1 (srV n u).2 (lrV n u).1 (lrV n u).2 false) true := by
  have hm := miniV_length x
  have hj : Ev (fun k => laws_FnInference.j2 k (miniV x) u (srV n u).1 (srV n u).2 (lrV n u).1 (lrV n u).2 false) true := by
    refine Ev.step (fun k => ?_) (inf_last (miniV x) u n (mini_red x) (by omega) (miniV x).length 0 (by omega))
    simp only [laws_FnInference.j2]
    rw [if_neg (by decide)]
    rfl
  by_cases h : ((miniV x).length : Int) > 0
  · refine Ev.step (fun k => ?_) hj
    simp only [laws_FnInference.j1]
    rw [if_neg (by decide), if_pos h, equivI_val, mini_equiv (by omega), Option.bind_some]
    rfl
  · refine Ev.step (fun k => ?_) hj
    simp only [laws_FnInference.j1]
    rw [if_neg (by decide), if_neg h]
theorem inf_j0 (p : List IR) (a b : Int) (q : List IR) (c d : Int) (st : List IS) (x u : List IR) (n : Int) (hp : p.length ≤ 1000) (hq : q.length ≤ 1000) (hst : st.length ≤ 1000) (hx : x.length ≤ 1000) :
    Ev (fun k => laws_FnInference.j0 k p (prfV p ⟨a, b⟩).1 (prfV p ⟨a, b⟩).2 q st x (miniV x) u (srV n u).1 (srV n u).2 (lrV n u).1 (lrV n u).2 false a b c d) true := by
  have hpl := prfV_length p ⟨a, b⟩
  have hj := inf_j1 x u n hx
  have two : Ev (fun k => (spec_CheckProof.f k q c d st).bind fun t1113 => (if t1113 = true then ((spec_Follows.f k q c d).bind fun t1114 => (laws_FnInference.j1 k x (miniV x) u (srV n u).1 (srV n u).2 (lrV n u).1 (lrV n u).2 (!t1114))) else (laws_FnInference.j1 k x (miniV x) u (srV n u).1 (srV n u).2 (lrV n u).1 (lrV n u).2 false))) true := by
    refine Ev.bind (chkS_val q (by omega) c d st (by omega)) ?_
    cases hc : chkV q ⟨c, d⟩ st with
    | false => exact Ev.congr (fun k => by rw [if_neg (by decide)]) hj
    | true =>
      refine Ev.congr (fun k => by rw [if_pos rfl]) ?_
      refine Ev.bind (folS_val q (by omega) c d) ?_
      rw [chk_fol hc]
      exact hj
  by_cases hok : (prfV p ⟨a, b⟩).2 = true
  · have hf : folV p ⟨a, b⟩ = true := by
      unfold prfV at hok
      by_cases h : folV p ⟨a, b⟩ = true
      · exact h
      · rw [if_neg h] at hok; cases hok
    refine Ev.step (f := fun k => (impl_CheckProof.f k p a b (prfV p ⟨a, b⟩).1).bind fun t1112 => (if t1112 = true then ((spec_CheckProof.f k q c d st).bind fun t1113 => (if t1113 = true then ((spec_Follows.f k q c d).bind fun t1114 => (laws_FnInference.j1 k x (miniV x) u (srV n u).1 (srV n u).2 (lrV n u).1 (lrV n u).2 (!t1114))) else (laws_FnInference.j1 k x (miniV x) u (srV n u).1 (srV n u).2 (lrV n u).1 (lrV n u).2 false))) else (laws_FnInference.j1 k x (miniV x) u (srV n u).1 (srV n u).2 (lrV n u).1 (lrV n u).2 true))) (fun k => ?_) ?_
    · simp only [laws_FnInference.j0]
      rw [if_neg (by decide), if_pos hok]
    · refine Ev.bind (chkI_val p (by omega) a b _ (by omega)) ?_
      rw [prf_chk hf]
      exact Ev.congr (fun k => by rw [if_pos rfl]) two
  · refine Ev.step (fun k => ?_) two
    simp only [laws_FnInference.j0]
    rw [if_neg (by decide), if_neg hok]
theorem FnInference (l0 : List Int) (_ : l0.length ≤ 9223372036854775807) (_ : ∀ x ∈ l0, (Lit.int .u8 x).wf = true) : ∃ k, laws_FnInference.f k l0 = some true := by
  apply Ev.rounds
  unfold laws_FnInference.f laws_big.f
  simp only [Option.bind_some]
  by_cases hbig : (l0.length : Int) > 1048576
  · exact Ev.congr (fun k => by rw [if_pos (decide_eq_true hbig)]) (Ev.now true)
  · have hb : l0.length ≤ 1048576 := by omega
    refine Ev.congr (fun k => by rw [if_neg (by simpa using hbig)]) ?_
    obtain ⟨⟨p, a, b⟩, e1, hp⟩ := follows_ex l0 hb
    obtain ⟨⟨q, c, d, st⟩, e2, hq, hst⟩ := chk_ex l0 hb
    obtain ⟨x, e3, hx⟩ := minim_ex l0 hb
    obtain ⟨⟨n, u⟩, e4, hu⟩ := areRules_ex l0 hb
    obtain ⟨⟨y, z⟩, e5, hy, hz⟩ := equiv_ex l0 hb
    obtain ⟨⟨r, i⟩, e6, hr⟩ := redun_ex l0 hb
    dsimp only at hp hq hst hu hy hz hr
    have d1 : Ev (fun k => spec_DrawProofOf.f k l0) (p, a, b) := by unfold spec_DrawProofOf.f; exact Ev.bind e1 (Ev.now _)
    have d4 : Ev (fun k => spec_DrawShortRules.f k l0) (n, u) := by unfold spec_DrawShortRules.f; exact Ev.bind e4 (Ev.now _)
    have hpl := prfV_length p ⟨a, b⟩
    have hml := miniV_length x
    have hsl := srV_len n u
    have hll := lrV_length n u
    refine Ev.bind d1 ?_
    dsimp only
    refine Ev.bind (prfI_val p (by omega) a b) ?_
    refine Ev.bind (prfS_val p (by omega) a b) ?_
    refine Ev.bind e2 ?_
    dsimp only
    refine Ev.bind e3 ?_
    refine Ev.bind (miniI_val x (by omega)) ?_
    refine Ev.bind d4 ?_
    dsimp only
    simp only [srI_val, Option.bind_some]
    refine Ev.bind (srS_val n u (by omega)) ?_
    refine Ev.bind (lrI_val n u (by omega)) ?_
    refine Ev.bind (lrS_val n u (by omega)) ?_
    refine Ev.bind e5 ?_
    dsimp only
    refine Ev.bind e6 ?_
    dsimp only
    refine Ev.congr (fun k => by rw [if_neg (by simp)]) ?_
    refine Ev.bind (sameS_self _ (by omega)) ?_
    refine Ev.congr (fun k => by rw [if_pos rfl]) ?_
    refine Ev.bind (chkI_val q (by omega) c d st (by omega)) ?_
    refine Ev.bind (chkS_val q (by omega) c d st (by omega)) ?_
    refine Ev.congr (fun k => by rw [if_neg (by simp)]) ?_
    refine Ev.bind (miniS_val x (by omega)) ?_
    refine Ev.bind (sameR_self _ (by omega)) ?_
    refine Ev.congr (fun k => by rw [if_pos rfl, if_neg (by simp)]) ?_
    refine Ev.bind (sameR_self _ (by omega)) ?_
    refine Ev.congr (fun k => by rw [if_pos rfl, if_neg (by simp)]) ?_
    refine Ev.bind (sameR_self _ (by omega)) ?_
    refine Ev.congr (fun k => by rw [if_pos rfl]) ?_
    simp only [equivI_val, Option.bind_some]
    refine Ev.bind (equivS_val y z (by omega) (by omega)) ?_
    refine Ev.congr (fun k => by rw [if_neg (by simp)]) ?_
    refine Ev.bind (redI_val r (by omega) i) ?_
    refine Ev.bind (redS_val r (by omega) i) ?_
    rw [show (redV r i != redV r i) = false by simp]
    exact inf_j0 p a b q c d st x u n (by omega) (by omega) (by omega) (by omega)
end Go.Proofs.YtafnamchckehmaaGreatDoor.Pu
