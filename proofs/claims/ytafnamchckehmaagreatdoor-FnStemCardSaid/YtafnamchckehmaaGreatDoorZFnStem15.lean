/- Functions of the program as plain functions, proofs that their calls answer so, and plain laws: what the law needs. No condition beyond what each statement says. -/
import Derived.Test.YtafnamchckehmaaGreatDoorZFnStem14
namespace Go.Proofs.YtafnamchckehmaaGreatDoor.Pu
open Go.Proofs.YtafnamchckehmaaGreatDoor.Pr
theorem lecR_congr {A B : List Nat} (h : ∀ x, x ∈ A ↔ x ∈ B) : lecR A = lecR B := by
  unfold lecR
  exact lecF_congr fun s _ => decide_eq_decide.2 (h s)
def freeB (c : Nat → Nat) (out : List Nat) (s : Nat) : Bool := !out.any fun p => decide (p ≠ s) && (sub p s && !sub (c p) s)
def stemStep (c : Nat → Nat) (out : List Nat) (s : Nat) : List Nat := if decide (c s ≠ s) && freeB c out s then out ++ [s] else out
def stemL (c : Nat → Nat) (L : List Nat) : List Nat := L.foldl (stemStep c) []
theorem upTo_pair (f : Nat → Nat) : ∀ l : List Nat, upTo f l = true → l.Pairwise fun x y => f x ≤ f y
  | [], _ => List.Pairwise.nil
  | [x], _ => List.pairwise_singleton _ _
  | x :: y :: l, h => by
    unfold upTo at h
    rw [Bool.and_eq_true, Nat.ble_eq] at h
    have ih := upTo_pair f (y :: l) h.2
    refine List.Pairwise.cons (fun z hz => ?_) ih
    rcases List.mem_cons.1 hz with rfl | hz'
    · exact h.1
    · exact Nat.le_trans h.1 ((List.pairwise_cons.1 ih).1 z hz')
theorem pc_mono_all : ((List.range 256).all fun s => (List.range 256).all fun p => !(sub p s) || p == s || Nat.blt (pc p) (pc s)) = true := by decide +kernel
theorem pc_mono {p s : Nat} (hp : p < 256) (hs : s < 256) (h : sub p s = true) (hne : p ≠ s) : pc p < pc s := by
  have h1 := List.all_eq_true.1 (List.all_eq_true.1 pc_mono_all s (List.mem_range.2 hs)) p (List.mem_range.2 hp)
  rw [h] at h1
  simp only [Bool.not_true, Bool.false_or, Bool.or_eq_true, beq_iff_eq, Nat.blt_eq] at h1
  exact h1.resolve_left hne
theorem stOut_ok {m : Nat} (hm : m ≤ 6) : (∀ x, x < 2 ^ m → x ∈ stOut m) ∧ (stOut m).length = 2 ^ m ∧ (stOut m).Pairwise fun x y => pc x ≤ pc y := by
  have h := stGood_all ⟨m, by omega⟩
  unfold stGood at h
  rw [Bool.and_eq_true, Bool.and_eq_true, beq_iff_eq] at h
  obtain ⟨⟨h1, h2⟩, h3⟩ := h
  refine ⟨fun x hx => ?_, h1, upTo_pair pc _ h3⟩
  have := List.all_eq_true.1 h2 x (List.mem_range.2 hx)
  simpa using this
theorem stOut_mem {m : Nat} (hm : m ≤ 6) {x : Nat} : x ∈ stOut m ↔ x < 2 ^ m := by
  obtain ⟨h1, h2, _⟩ := stOut_ok hm
  refine ⟨fun hx => ?_, h1 x⟩
  refine Classical.byContradiction fun hn => ?_
  have hs : (List.range (2 ^ m)) ⊆ (stOut m).erase x := fun y hy => by
    have hy' := List.mem_range.1 hy
    have : y ≠ x := fun e => hn (e ▸ hy')
    exact (List.mem_erase_of_ne this).2 (h1 y hy')
  have h3 := List.nodup_range.length_le_of_subset hs
  rw [List.length_range, List.length_erase_of_mem hx] at h3
  have := Nat.two_pow_pos m
  omega
theorem stem_inv (c : Nat → Nat) {m : Nat} (hm : m ≤ 8) {L : List Nat} (hL : ∀ x, x ∈ L ↔ x < 2 ^ m) (hp : L.Pairwise fun x y => pc x ≤ pc y) :
    ∀ (rest done : List Nat), L = done ++ rest → ∀ out : List Nat, (∀ p, p ∈ out ↔ p ∈ done ∧ isP c p = true) → ∀ p, p ∈ rest.foldl (stemStep c) out ↔ p ∈ L ∧ isP c p = true := by
  have h8 := pow_256 hm
  intro rest
  induction rest with
  | nil =>
    intro done h out ho p
    rw [List.append_nil] at h
    rw [h]
    exact ho p
  | cons s rest ih =>
    intro done h out ho
    rw [List.foldl_cons]
    refine ih (done ++ [s]) (by rw [h, List.append_assoc]; rfl) _ fun p => ?_
    have hsL : s ∈ L := by rw [h]; simp
    have hs := (hL s).1 hsL
    have hfree : freeB c out s = true ↔ ∀ p, isP c p = true → sub p s = true → p ≠ s → sub (c p) s = true := by
      unfold freeB
      rw [Bool.not_eq_true', List.any_eq_false]
      constructor
      · intro hf p hP hsub hne
        have hlt : p < 2 ^ m := Nat.lt_of_le_of_lt (sub_le hsub) hs
        have hpL := (hL p).2 hlt
        have hpc := pc_mono (by omega) (by omega) hsub hne
        have hdone : p ∈ done := by
          rw [h, List.mem_append] at hpL
          rcases hpL with hd | hr
          · exact hd
          · rw [h] at hp
            have h1 := (List.pairwise_append.1 hp).2.1
            rcases List.mem_cons.1 hr with e | hr'
            · exact absurd e hne
            · have := (List.pairwise_cons.1 h1).1 p hr'
              omega
        have := hf p ((ho p).2 ⟨hdone, hP⟩)
        rw [decide_eq_true hne, hsub] at this
        simpa using this
      · intro hf p hpo
        obtain ⟨_, hP⟩ := (ho p).1 hpo
        by_cases hne : p = s
        · rw [decide_eq_false (fun h => h hne)]; simp
        · cases hsub : sub p s with
          | false => simp
          | true => rw [hf p hP hsub hne]; simp
    have hstep : (decide (c s ≠ s) && freeB c out s) = true ↔ isP c s = true := by
      rw [Bool.and_eq_true, decide_eq_true_iff, hfree, isP_iff]
    unfold stemStep
    by_cases hc : (decide (c s ≠ s) && freeB c out s) = true
    · rw [if_pos hc, List.mem_append, List.mem_append, List.mem_singleton, ho p]
      constructor
      · rintro (⟨h1, h2⟩ | rfl)
        · exact ⟨Or.inl h1, h2⟩
        · exact ⟨Or.inr rfl, hstep.1 hc⟩
      · rintro ⟨h1 | h1, h2⟩
        · exact Or.inl ⟨h1, h2⟩
        · exact Or.inr h1
    · rw [if_neg hc, ho p, List.mem_append, List.mem_singleton]
      constructor
      · rintro ⟨h1, h2⟩
        exact ⟨Or.inl h1, h2⟩
      · rintro ⟨h1 | rfl, h2⟩
        · exact ⟨h1, h2⟩
        · exact absurd (hstep.2 h2) hc
theorem stemL_mem (c : Nat → Nat) {m : Nat} (hm : m ≤ 6) {p : Nat} : p ∈ stemL c (stOut m) ↔ p < 2 ^ m ∧ isP c p = true := by
  have := stem_inv c (show m ≤ 8 by omega) (fun x => stOut_mem hm) (stOut_ok hm).2.2 (stOut m) [] rfl [] (fun p => by simp) p
  rw [stOut_mem hm] at this
  exact this
def psN (m : Nat) (c : Nat → Nat) : List Nat := keptN m (isP c)
theorem lec_stemL (c : Nat → Nat) {m : Nat} (hm : m ≤ 6) : lecR (stemL c (stOut m)) = psN m c := by
  unfold psN keptN
  refine lecR_congr fun x => ?_
  rw [stemL_mem c hm, List.mem_filter, List.mem_range]
theorem lec_pl (c : Nat → Nat) (m : Nat) : lecR (pl c (2 ^ m)) = psN m c := by
  unfold psN keptN
  refine lecR_congr fun x => ?_
  rw [mem_pl, List.mem_filter, List.mem_range]
theorem stemL_nodup (c : Nat → Nat) : ∀ (L out : List Nat), L.Nodup → out.Nodup → (∀ x ∈ L, x ∉ out) → (L.foldl (stemStep c) out).Nodup
  | [], out, _, ho, _ => ho
  | s :: L, out, hL, ho, hd => by
    rw [List.foldl_cons]
    have hn := List.nodup_cons.1 hL
    refine stemL_nodup c L _ hn.2 ?_ ?_
    · unfold stemStep
      split
      · rw [List.nodup_append]
        refine ⟨ho, by simp, fun a ha b hb => ?_⟩
        rw [List.mem_singleton] at hb
        subst hb
        exact fun e => hd b List.mem_cons_self (e ▸ ha)
      · exact ho
    · intro x hx
      unfold stemStep
      split
      · rw [List.mem_append, List.mem_singleton]
        rintro (h | rfl)
        · exact hd x (List.mem_cons_of_mem _ hx) h
        · exact hn.1 hx
      · exact hd x (List.mem_cons_of_mem _ hx)
end Go.Proofs.YtafnamchckehmaaGreatDoor.Pu
namespace Go.Proofs.YtafnamchckehmaaGreatDoor.Pu
open Go.RowKit Go.Proofs.YtafnamchckehmaaGreatDoorW.PrintWords Go.Proofs.YtafnamchckehmaaGreatDoorW.PrintLast Go.Proofs.YtafnamchckehmaaGreatDoorW.PrintMore Go.Proofs.YtafnamchckehmaaGreatDoor.Pr
theorem and_eq_sub' {a b : Nat} (ha : a < 256) (hb : b < 256) : (Go.bits .and .i64 (b : Int) (a : Int) = (a : Int)) ↔ sub a b = true := by
  rw [and_nat (by omega) (by omega), Nat.and_comm, ← and_nat (by omega) (by omega), and_eq_sub ha hb]
theorem l10_loop (l f : List IR) (hl : l.length ≤ 9223372036854775807) (hf : f.length ≤ 9223372036854775807) (ha : l.all anyR = true) (hb : f.all anyR = true) : ∀ (rest : List IR) (i : Nat), l.drop i = rest → Ev (fun k => spec_l10All.l0 k l f (i : Int)) (rest.all (folV f)) := by
  intro rest
  induction rest with
  | nil =>
    intro i h
    have := drop_nil h
    refine Ev.step (f := fun _ => some true) (fun k => ?_) (Ev.now _)
    simp only [spec_l10All.l0]
    rw [if_neg (by omega)]
  | cons x rest ih =>
    intro i h
    obtain ⟨hi, hx, hr⟩ := drop_cons (d := z48) h
    have hax := anyR_rest h ha
    obtain ⟨e1, e2, h1, h2⟩ := anyR_nat hax
    refine Ev.step (f := fun k => (spec_l9Closed.f k f ((toP x).1 : Int)).bind fun t => if (Go.bits .and .i64 t ((toP x).2 : Int)) = ((toP x).2 : Int) then spec_l10All.l0 k l f ((i + 1 : Nat) : Int) else some false) (fun k => ?_) ?_
    · simp only [spec_l10All.l0]
      rw [if_pos (by omega), if_pos (by omega), rdR, hx, e1, e2, wrap_succ hi hl]
    · refine Ev.bind (clS_val f hf hb _ h1) ?_
      have hlt := (clo_spec (toR_small hb) h1).1
      have hv : folV f x = sub (toP x).2 (clo (toR f) (toP x).1) := by unfold folV; rw [hb, hax]; simp
      rw [List.all_cons, hv]
      cases hs : sub (toP x).2 (clo (toR f) (toP x).1) with
      | true => exact Ev.congr (fun k => by rw [if_pos ((and_eq_sub' h2 hlt).2 hs)]) (ih (i + 1) hr)
      | false => exact Ev.congr (fun k => by rw [if_neg (by rw [and_eq_sub' h2 hlt, hs]; decide)]) (Ev.now false)
theorem l10_val (l f : List IR) (hl : l.length ≤ 9223372036854775807) (hf : f.length ≤ 9223372036854775807) (ha : l.all anyR = true) (hb : f.all anyR = true) : Ev (fun k => spec_l10All.f k l f) (l.all (folV f)) := l10_loop l f hl hf ha hb l 0 rfl
end Go.Proofs.YtafnamchckehmaaGreatDoor.Pu
namespace Go.Proofs.YtafnamchckehmaaGreatDoor.Pu
def stN (m : Nat) (c : Nat → Nat) : Rules := (psN m c).map fun s => (s, c s)
theorem mem_stN {m : Nat} (hm : m ≤ 8) {c : Nat → Nat} {r : Nat × Nat} : r ∈ stN m c ↔ r ∈ stemR c m := by
  rw [mem_stemR]
  unfold stN
  rw [List.mem_map]
  constructor
  · rintro ⟨p, hp, rfl⟩
    obtain ⟨h1, h2⟩ := (mem_keptN hm).1 hp
    exact ⟨h1, h2, rfl⟩
  · rintro ⟨h1, h2, h3⟩
    exact ⟨r.1, (mem_keptN hm).2 ⟨h1, h2⟩, by rw [← h3]⟩
theorem psN_pl {m : Nat} (hm : m ≤ 8) (c : Nat → Nat) : (psN m c).length = (pl c (2 ^ m)).length := by
  rw [← lec_pl, lecR_length (fun x hx => by have := (mem_pl.1 hx).1; have := pow_le_256 hm; omega) (pl_nodup c _)]
theorem small_stN {m : Nat} {c : Nat → Nat} (C : Clos m c) (hm : m ≤ 8) : small (stN m c) := fun r hr => small_stem C hm r ((mem_stN hm).1 hr)
theorem clo_stN {m : Nat} {c : Nat → Nat} (C : Clos m c) (hm : m ≤ 8) {s : Nat} (hs : s < 2 ^ m) : clo (stN m c) s = c s := by
  have := pow_le_256 hm
  rw [clo_congr (small_stN C hm) (fun r => mem_stN hm) (by omega), clo_stem C hm hs]
theorem psN_nodup (m : Nat) (c : Nat → Nat) : (psN m c).Nodup := lecR_nodup _
theorem stN_erase {m : Nat} (hm : m ≤ 8) {c : Nat → Nat} {k : Nat} (hk : k < (psN m c).length) : resp ((stN m c).eraseIdx k) ((psN m c)[k]) := by
  intro r hr hs
  have hmem : r ∈ stN m c := List.mem_of_mem_eraseIdx hr
  obtain ⟨h1, h2, h3⟩ := mem_stemR.1 ((mem_stN hm).1 hmem)
  have hP := ((mem_keptN hm).1 (List.getElem_mem hk)).2
  have hne : r.1 ≠ (psN m c)[k] := by
    intro e
    obtain ⟨j, hj, hjk⟩ := List.mem_eraseIdx_iff_getElem?.1 hr
    rw [stN, List.getElem?_map] at hjk
    cases hq : (psN m c)[j]? with
    | none => rw [hq] at hjk; cases hjk
    | some q =>
      rw [hq] at hjk
      have hr1 : q = r.1 := by have := Option.some.inj hjk; rw [← this]
      obtain ⟨hj', hq'⟩ := List.getElem?_eq_some_iff.1 hq
      refine hj ((List.getElem?_inj hj' (psN_nodup m c)).1 ?_)
      rw [List.getElem?_eq_getElem hj', List.getElem?_eq_getElem hk, hq', hr1, e]
  rw [h3]
  exact psd_resp hP h2 hne hs
theorem base_clo {m : Nat} {c : Nat → Nat} (C : Clos m c) (hm : m ≤ 8) {L : Rules} (hL : within m L) (hh : ∀ r ∈ L, sub r.2 (c r.1) = true) (hf : ∀ r ∈ stN m c, sub r.2 (clo L r.1) = true) {s : Nat} (hs : s < 2 ^ m) : clo L s = c s := by
  have h256 := pow_le_256 hm
  have hLs := within_small hm hL
  have hcs := C.lt s hs
  refine sub_antisymm ?_ ?_
  · refine (clo_spec hLs (by omega)).2.2.2 _ (C.ext s hs) fun r hr hsub => ?_
    have h1 := C.mono r.1 (c s) (hL r hr).1 hcs hsub
    rw [C.idem s hs] at h1
    exact sub_trans (hh r hr) h1
  · rw [← clo_stN C hm hs]
    refine (clo_spec (small_stN C hm) (by omega)).2.2.2 _ (clo_spec hLs (by omega)).2.1 fun r hr hsub => ?_
    have h1 := clo_mono hLs (s := r.1) (t := clo L s) (small_stN C hm r hr).1 (clo_spec hLs (by omega)).1 hsub
    rw [clo_idem hLs (by omega)] at h1
    exact sub_trans (hf r hr) h1
theorem base_least {m : Nat} {c : Nat → Nat} (C : Clos m c) (hm : m ≤ 8) {L : Rules} (hL : within m L) (h : ∀ s, s < 2 ^ m → clo L s = c s) : (psN m c).length ≤ L.length := by
  rw [psN_pl hm]
  exact stem_least C hm (within_small hm hL) h
open Go.RowKit Go.Proofs.YtafnamchckehmaaGreatDoorW.PrintWords Go.Proofs.YtafnamchckehmaaGreatDoorW.PrintLast Go.Proofs.YtafnamchckehmaaGreatDoorW.PrintMore Go.Proofs.YtafnamchckehmaaGreatDoor.Pr
theorem toR_map {P : List Nat} {f : Nat → Nat} {fv : Int → Int} (hf : ∀ s ∈ P, fv (s : Int) = ((f s : Nat) : Int)) : toR (ruleMap fv (cast P)) = P.map fun s => (s, f s) := by
  have e : cast P = P.map fun (x : Nat) => (x : Int) := rfl
  unfold toR ruleMap
  rw [e, List.map_map, List.map_map]
  refine List.map_congr_left fun s hs => ?_
  show toP ⟨(s : Int), fv (s : Int)⟩ = (s, f s)
  rw [hf s hs]
  rfl
theorem ruleMap_length (fv : Int → Int) (l : List Int) : (ruleMap fv l).length = l.length := List.length_map ..
theorem erase_map {α β : Type} (f : α → β) : ∀ (l : List α) (i : Nat), (l.eraseIdx i).map f = (l.map f).eraseIdx i
  | [], _ => rfl
  | _ :: _, 0 => rfl
  | x :: l, i + 1 => by rw [List.map_cons, List.eraseIdx_cons_succ, List.eraseIdx_cons_succ, List.map_cons, erase_map f l i]
theorem ite_is {α : Type} {c : Prop} [Decidable c] {x y r : α} (h : c) (hx : x = r) : (if c then x else y) = r := by rw [if_pos h]; exact hx
theorem bind_is {α β : Type} {a : α} {f : α → Option β} {r : Option β} (h : f a = r) : (some a).bind f = r := h
theorem small_sum : ∀ n m : Nat, n ≤ 1048576 → m ≤ 1048576 → n + m < 8796093022208 := fun n m _ _ => by omega
theorem small_one : ∀ n : Nat, n ≤ 1048576 → n < 8796093022208 := fun n _ => by omega
end Go.Proofs.YtafnamchckehmaaGreatDoor.Pu
