/- What the law needs of the program's functions as plain functions, of the proofs that their calls answer so, and of plain laws: gathered by a program of this place (pack.py) out of its printed texts. No condition beyond what each statement says. -/
import Derived.Test.YtbflblmkdnhboaaDoorZXShortRules2
import Derived.Test.YtbflblmkdnhboaaDoorZXShortRules6
import Derived.Test.YtbflblmkdnhboaaDoorZXShortRules8
import Derived.Test.YtbflblmkdnhboaaDoorZXShortRules12
import Derived.Test.YtbflblmkdnhboaaDoorZXShortRules3
import Derived.Test.YtbflblmkdnhboaaDoorZXShortRules5
import Derived.Test.YtbflblmkdnhboaaDoorZXShortRules20
import Derived.Test.YtbflblmkdnhboaaDoorZXShortRules4
import Derived.Test.YtbflblmkdnhboaaDoorZXShortRules13
import Derived.Test.YtbflblmkdnhboaaDoorZXShortRules18
import Derived.Test.YtbflblmkdnhboaaDoorZXShortRules7
import Derived.Test.YtbflblmkdnhboaaDoorZXShortRules17
import Derived.Test.YtbflblmkdnhboaaDoorZXShortRules16
import Derived.Test.YtbflblmkdnhboaaDoorZXShortRules21
namespace Go.Proofs.YtbflblmkdnhboaaDoor.Pu
open Go.RowKit Go.Proofs.YtbflblmkdnhboaaDoorW.PrintWords Go.Proofs.YtbflblmkdnhboaaDoorW.PrintLast Go.Proofs.YtbflblmkdnhboaaDoorW.PrintMore Go.Proofs.YtbflblmkdnhboaaDoor.Pr
def okP (c : Nat → Nat) (s p : Nat) : Bool := !sub p s || sub (c p) s
def plStep (c : Nat → Nat) (s : Nat) (a : List Nat) : List Nat := if (decide (c s ≠ s) && a.all (okP c s)) = true then a ++ [s] else a
theorem pl_fold (c : Nat → Nat) : ∀ N, foldIdx (plStep c) 0 N [] = pl c N
  | 0 => foldIdx_end _ (Nat.le_refl _) _
  | N + 1 => by rw [foldIdx_last _ (Nat.zero_le _), pl_fold c N]; rfl
theorem plStep_inv (c : Nat → Nat) (s : Nat) (a : List Nat) (h : (∀ p ∈ a, p < s) ∧ a.length ≤ s) : (∀ p ∈ plStep c s a, p < s + 1) ∧ (plStep c s a).length ≤ s + 1 := by
  unfold plStep
  split
  · refine ⟨fun p hp => ?_, by rw [List.length_append, List.length_singleton]; omega⟩
    rcases List.mem_append.1 hp with h1 | h1
    · have := h.1 p h1; omega
    · rw [List.mem_singleton] at h1; omega
  · exact ⟨fun p hp => by have := h.1 p hp; omega, by omega⟩
end Go.Proofs.YtbflblmkdnhboaaDoor.Pu
namespace Go.Proofs.YtbflblmkdnhboaaDoor.Pu
open Go.RowKit Go.Proofs.YtbflblmkdnhboaaDoorW.PrintWords Go.Proofs.YtbflblmkdnhboaaDoorW.PrintLast Go.Proofs.YtbflblmkdnhboaaDoorW.PrintMore Go.Proofs.YtbflblmkdnhboaaDoor.Pr
def srV (n : Int) (l : List IR) : List IR × Bool := if areV n l = true then (ruleMap (fvC l) (cast (psN n.toNat (clo (toR l)))), true) else ([], false)
theorem srV_len (n : Int) (l : List IR) : (srV n l).1.length ≤ 256 := by
  unfold srV ruleMap
  split
  · dsimp only
    rw [List.length_map, cast_length]
    exact keptN_le
  · simp
theorem srI_val (n : Int) (l : List IR) : impl_ShortRules.f n l = some (srV n l) := by
  unfold impl_ShortRules.f srV
  rw [areI_val, Option.bind_some]
  cases h : areV n l with
  | false => rw [if_neg (by decide), if_neg (by decide)]
  | true =>
    obtain ⟨m, rfl, hm, hl, hany, _⟩ := areV_nat h
    rw [if_pos rfl, if_pos rfl]
    unfold impl_ShortRules_stem0.f impl_ShortRules_rulesTo0.f
    rw [if_pos h, Option.bind_some, if_pos ⟨by rw [cast_length]; exact Nat.le_trans keptN_le (by decide), hl, cast_any (fun x hx => lt_256 (show m ≤ 8 by omega) (by rw [Int.toNat_natCast] at hx; exact ((mem_keptN (by omega)).1 hx).1)), hany⟩]
    rfl
theorem srS_inner {n : Int} {l rr : List IR} (hl : l.length ≤ 40) (hany : l.all anyR = true) {s : Nat} (hs : s < 256) {a : List Nat} (ha : ∀ p ∈ a, p < 256) (hal : a.length ≤ 256) {res : List IR × Bool} :
    ∀ (rest : List Nat) (i : Nat) (f : Bool), a.drop i = rest → Ev (fun k => spec_ShortRules.l0 k n l rr (cast (if (f && rest.all (okP (clo (toR l)) s)) = true then a ++ [s] else a)) ((s + 1 : Nat) : Int)) res →
      Ev (fun k => spec_ShortRules.l1 k n l rr (cast a) (s : Int) f (i : Int)) res := by
  intro rest
  induction rest with
  | nil =>
    intro i f h hE
    have hle := drop_nil h
    refine Ev.step (fun k => ?_) hE
    simp only [spec_ShortRules.l1]
    rw [if_neg (by rw [cast_length]; omega), show wrap64 ((s : Int) + 1) = ((s + 1 : Nat) : Int) from by unfold wrap64; omega]
    cases f with
    | false => rw [if_neg (by decide), if_neg (by simp)]
    | true => rw [if_pos rfl, if_pos (by rw [cast_length]; omega), if_pos (by simp), castOne]
  | cons p rest ih =>
    intro i f h hE
    obtain ⟨hi, hx, hd⟩ := drop_cons (d := 0) h
    have hp : p < 256 := ha p (by rw [← hx, List.getD_eq_getElem?_getD, List.getElem?_eq_getElem hi]; exact List.getElem_mem _)
    have hclp : clo (toR l) p < 256 := (clo_spec (small_any hany) hp).1
    refine Ev.step (f := fun k => (spec_l9Closed.f k l (p : Int)).bind fun t => (if f = true then (if (Go.bits .and .i64 (p : Int) (s : Int)) = (p : Int) then (spec_ShortRules.l1 k n l rr (cast a) (s : Int) ((Go.bits .and .i64 t (s : Int)) == t) ((i + 1 : Nat) : Int)) else (spec_ShortRules.l1 k n l rr (cast a) (s : Int) true ((i + 1 : Nat) : Int))) else (spec_ShortRules.l1 k n l rr (cast a) (s : Int) false ((i + 1 : Nat) : Int)))) (fun k => ?_) ?_
    · simp only [spec_ShortRules.l1]
      rw [if_pos (by rw [cast_length]; omega), if_pos (by omega), rdCast, hx, wrap_succ hi (by omega)]
    refine Ev.bind (clS_val l (by omega) hany p hp) ?_
    cases f with
    | false => exact Ev.congr (fun k => by rw [if_neg (by decide)]) (ih (i + 1) false hd (by rw [Bool.false_and] at hE ⊢; exact hE))
    | true =>
      by_cases hsub : sub p s = true
      · have e : okP (clo (toR l)) s p = sub (clo (toR l) p) s := by unfold okP; rw [hsub]; rfl
        rw [Bool.true_and, List.all_cons, e] at hE
        refine Ev.congr (fun k => by rw [if_pos rfl, if_pos ((and_is' hp hs).2 hsub), show (Go.bits .and .i64 ((clo (toR l) p : Nat) : Int) (s : Int) == ((clo (toR l) p : Nat) : Int)) = sub (clo (toR l) p) s from by rw [Bool.eq_iff_iff, beq_iff_eq]; exact and_is' hclp hs]) ?_
        exact ih (i + 1) (sub (clo (toR l) p) s) hd hE
      · have e : okP (clo (toR l)) s p = true := by unfold okP; rw [Bool.not_eq_true] at hsub; rw [hsub]; rfl
        rw [Bool.true_and, List.all_cons, e, Bool.true_and] at hE
        refine Ev.congr (fun k => by rw [if_pos rfl, if_neg (fun h => hsub ((and_is' hp hs).1 h))]) ?_
        exact ih (i + 1) true hd (by rw [Bool.true_and]; exact hE)
theorem rule_oneC (fv : Int → Int) (a : List Int) (x : Int) : ruleMap fv a ++ [⟨x, fv x⟩] = ruleMap fv (a ++ [x]) := by
  unfold ruleMap
  rw [List.map_append]
  rfl
theorem srS_last {l : List IR} (hl : l.length ≤ 40) (hany : l.all anyR = true) (P : List Int) (hlen : P.length ≤ 256) (hmem : ∀ x ∈ P, ∃ s : Nat, x = (s : Int) ∧ s < 256) : ∀ (rest : List Int) (i : Nat), P.drop i = rest → Ev (fun k => spec_ShortRules.l2 k l (ruleMap (fvC l) (P.take i)) P (i : Int)) (ruleMap (fvC l) P, true) := by
  intro rest
  induction rest with
  | nil =>
    intro i h
    have := drop_nil h
    refine Ev.step (f := fun _ => some (ruleMap (fvC l) P, true)) (fun k => ?_) (Ev.now _)
    simp only [spec_ShortRules.l2]
    rw [if_neg (by omega), List.take_of_length_le this]
  | cons x rest ih =>
    intro i h
    obtain ⟨hi, hx, hd⟩ := drop_cons (d := 0) h
    have hget : P[i]? = some x := by
      rw [List.getElem?_eq_getElem hi]
      rw [List.getD_eq_getElem?_getD, List.getElem?_eq_getElem hi] at hx
      exact congrArg some hx
    obtain ⟨s, rfl, hs⟩ := hmem x (List.mem_of_getElem? hget)
    have hrd : rd P (i : Int) = (s : Int) := by
      unfold rd
      rw [Int.toNat_natCast, hx]
    have hnext := ih (i + 1) hd
    rw [List.take_add_one, hget, Option.toList_some, ← rule_oneC] at hnext
    refine Ev.step (f := fun k => (spec_l9Closed.f k l (s : Int)).bind fun t => spec_ShortRules.l2 k l (ruleMap (fvC l) (P.take i) ++ [(⟨(s : Int), t⟩ : IR)]) P ((i + 1 : Nat) : Int)) (fun k => ?_) ?_
    · simp only [spec_ShortRules.l2]
      have hl1 : (ruleMap (fvC l) (P.take i)).length ≤ 256 := by
        unfold ruleMap
        rw [List.length_map, List.length_take]
        omega
      rw [if_pos (by omega), if_pos (by omega), hrd, wrap_succ hi (by omega)]
      congr 1
      funext t
      rw [if_pos (by omega)]
    · refine Ev.bind (clS_val l (by omega) hany s hs) ?_
      have e : fvC l (s : Int) = ((clo (toR l) s : Nat) : Int) := by
        unfold fvC
        rw [Int.toNat_natCast]
      rw [e] at hnext
      exact hnext
theorem srS_val (n : Int) (l : List IR) (hlen : l.length ≤ 1048576) : Ev (fun k => spec_ShortRules.f k n l) (srV n l) := by
  unfold spec_ShortRules.f srV
  simp only [Option.bind_some]
  refine Ev.bind (areS_val n l (by omega)) ?_
  cases h : areV n l with
  | false => exact Ev.congr (fun k => by rw [if_neg (by decide), if_neg (by decide)]) (Ev.now _)
  | true =>
    obtain ⟨m, rfl, hm, hl, hany, _⟩ := areV_nat h
    have hp := pow_256 (show m ≤ 8 by omega)
    have hp1 := Nat.two_pow_pos m
    rw [Int.toNat_natCast, if_pos rfl]
    refine Ev.congr (fun k => by rw [if_pos rfl]) ?_
    refine ev_fold (g := fun k (a : List Nat) i => spec_ShortRules.l0 k (m : Int) l [] (cast a) i) (plStep (clo (toR l))) (fun i a => (∀ p ∈ a, p < i) ∧ a.length ≤ i) (N := 2 ^ m) ?_ (fun i a _ h => plStep_inv _ i a h) (2 ^ m) 0 [] (by omega) ⟨(fun p hp => by cases hp), Nat.le_refl _⟩ ?_
    · intro i a hi ha h
      refine Ev.step (f := fun k => (spec_l9Closed.f k l (i : Int)).bind fun t => if t = (i : Int) then spec_ShortRules.l0 k (m : Int) l [] (cast a) ((i + 1 : Nat) : Int) else spec_ShortRules.l1 k (m : Int) l [] (cast a) (i : Int) true 0) (fun k => ?_) ?_
      · simp only [spec_ShortRules.l0]
        rw [fullS_val, fullV_nat (by omega), Option.bind_some, if_pos (by omega), show wrap64 ((i : Int) + 1) = ((i + 1 : Nat) : Int) from by unfold wrap64; omega]
      · refine Ev.bind (clS_val l (by omega) hany i (by omega)) ?_
        by_cases e : clo (toR l) i = i
        · unfold plStep at h
          rw [decide_eq_false (fun h => h e), Bool.false_and, if_neg (by decide)] at h
          exact Ev.congr (fun k => by rw [if_pos (by rw [e])]) h
        · unfold plStep at h
          rw [decide_eq_true e] at h
          refine Ev.congr (fun k => by rw [if_neg (by omega)]) ?_
          exact srS_inner hl hany (by omega) (fun p hp => by have := ha.1 p hp; omega) (by omega) a 0 true rfl h
    · intro b hbb hinv
      rw [pl_fold] at hbb
      subst hbb
      refine Ev.step (f := fun k => (spec_SortLectic.f k (cast (pl (clo (toR l)) (2 ^ m)))).bind fun t => spec_ShortRules.l2 k l [] t 0) (fun k => ?_) ?_
      · simp only [spec_ShortRules.l0]
        rw [fullS_val, fullV_nat (by omega), Option.bind_some, if_neg (by omega)]
      · refine Ev.bind (sortS_val (fun x hx => by have := hinv.1 x hx; omega) (by omega)) ?_
        rw [lec_pl]
        refine srS_last hl hany _ (by rw [cast_length]; exact keptN_le) (fun x hx => ?_) _ 0 rfl
        unfold cast at hx
        obtain ⟨y, hy, rfl⟩ := List.mem_map.1 hx
        exact ⟨y, rfl, lt_256 (show m ≤ 8 by omega) ((mem_keptN (by omega)).1 hy).1⟩
end Go.Proofs.YtbflblmkdnhboaaDoor.Pu
namespace Go.Proofs.YtbflblmkdnhboaaDoor.Pu
open Go.RowKit Go.Proofs.YtbflblmkdnhboaaDoorW.PrintWords Go.Proofs.YtbflblmkdnhboaaDoorW.PrintLast Go.Proofs.YtbflblmkdnhboaaDoorW.PrintMore Go.Proofs.YtbflblmkdnhboaaDoor.Pr
theorem FnExactShortRules (n : Int) (l : List LR) (_ : (Lit.int .i64 n).wf = true) (hl : l.length ≤ 9223372036854775807) (_ : ∀ x ∈ l, (Lit.int .i64 x.f0).wf = true ∧ (Lit.int .i64 x.f1).wf = true) : ∃ k, laws_FnExactShortRules.f k n l = some true := by
  apply Ev.rounds
  unfold laws_FnExactShortRules.f
  obtain ⟨m, hm, hm2⟩ := sz_val l hl
  rw [hm]
  simp only [Option.bind_some]
  by_cases h : m < 0
  · exact Ev.congr (fun k => by rw [if_pos h]) (Ev.now true)
  · have hle := hm2 (by omega)
    have hlc : (l.map conv).length ≤ 1048576 := by rw [List.length_map]; exact hle
    have hS := srS_val n (l.map conv) hlc
    have hI := srI_val n (l.map conv)
    have hq := srV_len n (l.map conv)
    generalize srV n (l.map conv) = q at hS hI hq
    refine Ev.congr (fun k => by rw [if_neg h]) ?_
    refine Ev.bind (toRule_val l hle) ?_
    refine Ev.bind hS ?_
    refine Ev.bind (toRule_val l hle) ?_
    refine Ev.congr (fun k => by rw [hI, Option.bind_some]) ?_
    refine Ev.bind (eqRule_self q.1 (by omega)) ?_
    refine Ev.congr (fun k => by rw [if_pos rfl, show (q.2 != q.2) = false from by simp]) ?_
    refine Ev.step (fun k => by simp only [laws_FnExactShortRules.j0]; rw [if_neg (by decide)]) ?_
    refine Ev.bind (toRule_val l hle) ?_
    refine Ev.bind (eqRule_self _ (by omega)) ?_
    refine Ev.congr (fun k => by rw [if_pos rfl]) ?_
    refine Ev.bind (mark_val _ hlc) ?_
    refine Ev.congr (fun k => by rw [if_neg (mark_pos _)]) ?_
    refine Ev.bind (eqRule_self q.1 (by omega)) ?_
    refine Ev.congr (fun k => by rw [if_pos rfl, show (q.2 != q.2) = false from by simp]) ?_
    refine Ev.step (fun k => by simp only [laws_FnExactShortRules.j1]; rw [if_neg (by decide)]) ?_
    refine Ev.bind (mark_val q.1 (by omega)) ?_
    refine Ev.bind (held_val q.1 (by omega)) ?_
    refine Ev.congr (fun k => by rw [if_neg (mark_pos _), if_pos rfl]) ?_
    refine Ev.bind (toRule_val l hle) ?_
    refine Ev.congr (fun k => by rw [hI, Option.bind_some]) ?_
    refine Ev.bind (eqRule_self q.1 (by omega)) ?_
    refine Ev.congr (fun k => by rw [if_pos rfl, show (q.2 != q.2) = false from by simp]) ?_
    refine Ev.step (fun k => by simp only [laws_FnExactShortRules.j2]; rw [if_neg (by decide)]) ?_
    refine Ev.bind (held_val q.1 (by omega)) ?_
    exact Ev.congr (fun k => by rw [if_neg (mark_pos _), if_pos rfl]) (Ev.now true)
end Go.Proofs.YtbflblmkdnhboaaDoor.Pu
