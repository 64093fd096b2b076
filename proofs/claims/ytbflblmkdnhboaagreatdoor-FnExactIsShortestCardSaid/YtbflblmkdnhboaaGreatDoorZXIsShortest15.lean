/- What the law needs of the program's functions as plain functions, of the proofs that their calls answer so, and of plain laws: gathered by a program of this place (pack.py) out of its printed texts. No condition beyond what each statement says. -/
import Derived.Test.YtbflblmkdnhboaaGreatDoorZXIsShortest14
import Derived.Test.YtbflblmkdnhboaaGreatDoorZXIsShortest4
import Derived.Test.YtbflblmkdnhboaaGreatDoorZXIsShortest13
import Derived.Test.YtbflblmkdnhboaaGreatDoorZXIsShortest11
import Derived.Test.YtbflblmkdnhboaaGreatDoorZXIsShortest8
import Derived.Test.YtbflblmkdnhboaaGreatDoorZXIsShortest5
import Derived.Test.YtbflblmkdnhboaaGreatDoorZXIsShortest12
import Derived.Test.YtbflblmkdnhboaaGreatDoorZXIsShortest6
namespace Go.Proofs.YtbflblmkdnhboaaGreatDoor.Pu
open Go.RowKit Go.Proofs.YtbflblmkdnhboaaGreatDoorW.PrintWords Go.Proofs.YtbflblmkdnhboaaGreatDoorW.PrintLast Go.Proofs.YtbflblmkdnhboaaGreatDoorW.PrintMore Go.Proofs.YtbflblmkdnhboaaGreatDoor.Pr
def okP (c : Nat → Nat) (s p : Nat) : Bool := !sub p s || sub (c p) s
def plStep (c : Nat → Nat) (s : Nat) (a : List Nat) : List Nat := if (decide (c s ≠ s) && a.all (okP c s)) = true then a ++ [s] else a
theorem pl_fold (c : Nat → Nat) : ∀ N, foldIdx (plStep c) 0 N [] = pl c N
  | 0 => foldIdx_end _ (Nat.le_refl _) _
  | N + 1 => by rw [foldIdx_last _ (Nat.zero_le _), pl_fold c N]; rfl
theorem plStep_inv (c : Nat → Nat) (s : Nat) (a : List Nat) (h : (∀ p ∈ a, p < s) ∧ a.length ≤ s) : (∀ p ∈ plStep c s a, p < s + 1) ∧ (plStep c s a).length ≤ s + 1 := by
  unfold plStep
  split
  · refine ⟨fun p hp => ?_, by rw [List.length_append, List.length_singleton]; omega⟩
    rcases List.mem_append.1 hp with h1 | h1
    · have := h.1 p h1; omega
    · rw [List.mem_singleton] at h1; omega
  · exact ⟨fun p hp => by have := h.1 p hp; omega, by omega⟩
theorem psS_inner {m : Nat} (hm : m ≤ 8) {R : List Nat} (hR : R.length ≤ 8) (hrow : ∀ i, row R i < 256) {s : Nat} (hs : s < 256) {a : List Nat} (ha : ∀ p ∈ a, p < 256) (hal : a.length ≤ 256) {res : List Int} :
    ∀ (rest : List Nat) (i : Nat) (f : Bool), a.drop i = rest → Ev (fun k => spec_l10Pseudo.l0 k (cast (if (f && rest.all (okP (cl m R) s)) = true then a ++ [s] else a)) ((s + 1 : Nat) : Int) (m : Int) (cast R)) res →
      Ev (fun k => spec_l10Pseudo.l1 k (cast a) (s : Int) f (i : Int) (m : Int) (cast R)) res := by
  intro rest
  induction rest with
  | nil =>
    intro i f h hE
    have hle := drop_nil h
    refine Ev.step (fun k => ?_) hE
    simp only [spec_l10Pseudo.l1]
    rw [if_neg (by rw [cast_length]; omega), show wrap64 ((s : Int) + 1) = ((s + 1 : Nat) : Int) from by unfold wrap64; omega]
    cases f with
    | false => rw [if_neg (by decide), if_neg (by simp)]
    | true => rw [if_pos rfl, if_pos (by rw [cast_length]; omega), if_pos (by simp), castOne]
  | cons p rest ih =>
    intro i f h hE
    obtain ⟨hi, hx, hd⟩ := drop_cons (d := 0) h
    have hp : p < 256 := ha p (by rw [← hx, List.getD_eq_getElem?_getD, List.getElem?_eq_getElem hi]; exact List.getElem_mem _)
    have hclp : cl m R p < 256 := cl_256 hm R p
    cases f with
    | false =>
      refine Ev.step (fun k => ?_) (ih (i + 1) false hd (by rw [Bool.false_and] at hE ⊢; exact hE))
      simp only [spec_l10Pseudo.l1]
      rw [if_pos (by rw [cast_length]; omega), if_neg (by decide), wrap_succ hi (by omega)]
    | true =>
      by_cases hsub : sub p s = true
      · have e : okP (cl m R) s p = sub (cl m R p) s := by unfold okP; rw [hsub]; rfl
        rw [Bool.true_and, List.all_cons, e] at hE
        have hih := ih (i + 1) (sub (cl m R p) s) hd hE
        refine Ev.step (f := fun k => (spec_l4Closure.f k (m : Int) (cast R) (p : Int)).bind fun t => (spec_l4Closure.f k (m : Int) (cast R) (p : Int)).bind fun u => spec_l10Pseudo.l1 k (cast a) (s : Int) (Go.bits .and .i64 t (s : Int) == u) ((i + 1 : Nat) : Int) (m : Int) (cast R)) (fun k => ?_) ?_
        · simp only [spec_l10Pseudo.l1]
          rw [if_pos (by rw [cast_length]; omega), if_pos trivial, if_pos (by omega), rdCast, hx, if_pos ((and_is' hp hs).2 hsub), wrap_succ hi (by omega)]
        · refine Ev.bind (clS4_val m hm R hR hrow p hp) ?_
          refine Ev.bind (clS4_val m hm R hR hrow p hp) ?_
          rw [show (Go.bits .and .i64 ((cl m R p : Nat) : Int) (s : Int) == ((cl m R p : Nat) : Int)) = sub (cl m R p) s from by rw [Bool.eq_iff_iff, beq_iff_eq]; exact and_is' hclp hs]
          exact hih
      · have e : okP (cl m R) s p = true := by unfold okP; rw [Bool.not_eq_true] at hsub; rw [hsub]; rfl
        rw [Bool.true_and, List.all_cons, e, Bool.true_and] at hE
        refine Ev.step (fun k => ?_) (ih (i + 1) true hd (by rw [Bool.true_and]; exact hE))
        simp only [spec_l10Pseudo.l1]
        rw [if_pos (by rw [cast_length]; omega), if_pos trivial, if_pos (by omega), rdCast, hx, if_neg (fun h => hsub ((and_is' hp hs).1 h)), wrap_succ hi (by omega)]
theorem psS_val {m : Nat} (hm : m ≤ 6) {R : List Nat} (hR : R.length ≤ 8) (hrow : ∀ i, row R i < 256) : Ev (fun k => spec_l10Pseudo.f k (m : Int) (cast R)) (cast (psN m (cl m R))) := by
  have hp := pow_256 (show m ≤ 8 by omega)
  have hp1 := Nat.two_pow_pos m
  unfold spec_l10Pseudo.f
  refine ev_fold (g := fun k (a : List Nat) i => spec_l10Pseudo.l0 k (cast a) i (m : Int) (cast R)) (plStep (cl m R)) (fun i a => (∀ p ∈ a, p < i) ∧ a.length ≤ i) (N := 2 ^ m) ?_ (fun i a _ h => plStep_inv _ i a h) (2 ^ m) 0 [] (by omega) ⟨(fun p hp => by cases hp), Nat.le_refl _⟩ ?_
  · intro i a hi ha h
    refine Ev.step (f := fun k => (spec_l4Closure.f k (m : Int) (cast R) (i : Int)).bind fun t => if t = (i : Int) then spec_l10Pseudo.l0 k (cast a) ((i + 1 : Nat) : Int) (m : Int) (cast R) else spec_l10Pseudo.l1 k (cast a) (i : Int) true 0 (m : Int) (cast R)) (fun k => ?_) ?_
    · simp only [spec_l10Pseudo.l0]
      rw [fullS_val, fullV_nat (by omega), Option.bind_some, if_pos (by omega), show wrap64 ((i : Int) + 1) = ((i + 1 : Nat) : Int) from by unfold wrap64; omega]
    · refine Ev.bind (clS4_val m (by omega) R hR hrow i (by omega)) ?_
      by_cases e : cl m R i = i
      · unfold plStep at h
        rw [decide_eq_false (fun h => h e), Bool.false_and, if_neg (by decide)] at h
        exact Ev.congr (fun k => by rw [if_pos (by rw [e])]) h
      · unfold plStep at h
        rw [decide_eq_true e] at h
        refine Ev.congr (fun k => by rw [if_neg (by omega)]) ?_
        exact psS_inner (by omega) hR hrow (by omega) (fun p hp => by have := ha.1 p hp; omega) (by omega) a 0 true rfl h
  · intro b hbb hinv
    rw [pl_fold] at hbb
    subst hbb
    refine Ev.step (f := fun k => (spec_SortLectic.f k (cast (pl (cl m R) (2 ^ m)))).bind fun t => some t) (fun k => ?_) ?_
    · simp only [spec_l10Pseudo.l0]
      rw [fullS_val, fullV_nat (by omega), Option.bind_some, if_neg (by omega)]
    · refine Ev.bind (sortS_val (fun x hx => by have := hinv.1 x hx; omega) (by omega)) ?_
      rw [lec_pl]
      exact Ev.now _
def piV (n : Int) (l : List Int) : List Int := if ctxB n l = true then cast (psN n.toNat (cl n.toNat (l.map Int.toNat))) else []
theorem piI_val (n : Int) (l : List Int) : impl_PseudoIntents.f n l = some (piV n l) := by
  unfold impl_PseudoIntents.f piV
  rw [ctxI_val, Option.bind_some]
  cases hc : ctxB n l with
  | false => rw [if_neg (by decide), if_neg (by decide)]
  | true =>
    rw [if_pos rfl, if_pos rfl]
    unfold impl_PseudoIntents_stem0.f
    rw [if_pos ⟨rfl, hc⟩]
    rfl
theorem piV_len (n : Int) (l : List Int) : (piV n l).length ≤ 256 := by
  unfold piV
  split
  · rw [cast_length]; exact keptN_le
  · simp
end Go.Proofs.YtbflblmkdnhboaaGreatDoor.Pu
namespace Go.Proofs.YtbflblmkdnhboaaGreatDoor.Pu
open Go.RowKit Go.Proofs.YtbflblmkdnhboaaGreatDoorW.PrintWords Go.Proofs.YtbflblmkdnhboaaGreatDoorW.PrintLast Go.Proofs.YtbflblmkdnhboaaGreatDoorW.PrintMore Go.Proofs.YtbflblmkdnhboaaGreatDoor.Pr
def sbV (n : Int) (l : List Int) : List IR := ruleMap (fvS n l) (piV n l)
theorem sbV_len (n : Int) (l : List Int) : (sbV n l).length ≤ 256 := by
  unfold sbV ruleMap
  rw [List.length_map]
  exact piV_len n l
theorem piV_ok (n : Int) (l : List Int) : okD (piV n l) n l := by
  have hlen := piV_len n l
  refine ⟨by omega, ?_, ?_⟩
  · unfold piV
    cases hc : ctxB n l with
    | false => rw [if_neg (by decide)]; rfl
    | true =>
      obtain ⟨m, R, rfl, hm, rfl, _, _⟩ := ctxB_nat hc
      rw [if_pos rfl, Int.toNat_natCast, List.all_eq_true]
      intro x hx
      unfold cast at hx
      obtain ⟨y, hy, rfl⟩ := List.mem_map.1 hx
      exact isSetB_mk (by omega) ((mem_keptN (by omega)).1 hy).1
  · unfold piV
    cases hc : ctxB n l with
    | false => rw [if_neg (by decide)]; exact Or.inl rfl
    | true => exact Or.inr rfl
theorem sbI_val (n : Int) (l : List Int) : impl_StemBase.f n l = some (sbV n l) := by
  unfold impl_StemBase.f
  rw [piI_val, Option.bind_some]
  unfold impl_StemBase_rulesTo0.f
  rw [if_pos (piV_ok n l)]
  rfl
theorem rule_oneS (fv : Int → Int) (a : List Int) (x : Int) : ruleMap fv a ++ [⟨x, fv x⟩] = ruleMap fv (a ++ [x]) := by
  unfold ruleMap
  rw [List.map_append]
  rfl
theorem stS_val {m : Nat} (hm : m ≤ 6) {R : List Nat} (hR : R.length ≤ 8) (hrow : ∀ i, row R i < 256) : Ev (fun k => spec_l10Stem.f k (m : Int) (cast R)) (ruleMap (fvS (m : Int) (cast R)) (cast (psN m (cl m R)))) := by
  unfold spec_l10Stem.f
  refine Ev.bind (psS_val hm hR hrow) ?_
  have hlen : (cast (psN m (cl m R))).length ≤ 256 := by rw [cast_length]; exact keptN_le
  have hmem : ∀ x ∈ cast (psN m (cl m R)), ∃ s : Nat, x = (s : Int) ∧ s < 256 := fun x hx => by
    unfold cast at hx
    obtain ⟨y, hy, rfl⟩ := List.mem_map.1 hx
    exact ⟨y, rfl, lt_256 (show m ≤ 8 by omega) ((mem_keptN (by omega)).1 hy).1⟩
  generalize cast (psN m (cl m R)) = P at hlen hmem ⊢
  have loop : ∀ (rest : List Int) (i : Nat), P.drop i = rest → Ev (fun k => spec_l10Stem.l0 k (ruleMap (fvS (m : Int) (cast R)) (P.take i)) P (i : Int) (m : Int) (cast R)) (ruleMap (fvS (m : Int) (cast R)) P) := by
    intro rest
    induction rest with
    | nil =>
      intro i h
      have := drop_nil h
      refine Ev.step (f := fun _ => some (ruleMap (fvS (m : Int) (cast R)) P)) (fun k => ?_) (Ev.now _)
      simp only [spec_l10Stem.l0]
      rw [if_neg (by omega), List.take_of_length_le this]
    | cons x rest ih =>
      intro i h
      obtain ⟨hi, hx, hd⟩ := drop_cons (d := 0) h
      have hget : P[i]? = some x := by
        rw [List.getElem?_eq_getElem hi]
        rw [List.getD_eq_getElem?_getD, List.getElem?_eq_getElem hi] at hx
        exact congrArg some hx
      obtain ⟨s, rfl, hs⟩ := hmem x (List.mem_of_getElem? hget)
      have hrd : rd P (i : Int) = (s : Int) := by
        unfold rd
        rw [Int.toNat_natCast, hx]
      have hnext := ih (i + 1) hd
      rw [List.take_add_one, hget, Option.toList_some, ← rule_oneS] at hnext
      refine Ev.step (f := fun k => (spec_l4Closure.f k (m : Int) (cast R) (s : Int)).bind fun t => spec_l10Stem.l0 k (ruleMap (fvS (m : Int) (cast R)) (P.take i) ++ [(⟨(s : Int), t⟩ : IR)]) P ((i + 1 : Nat) : Int) (m : Int) (cast R)) (fun k => ?_) ?_
      · simp only [spec_l10Stem.l0]
        have hl1 : (ruleMap (fvS (m : Int) (cast R)) (P.take i)).length ≤ 256 := by
          unfold ruleMap
          rw [List.length_map, List.length_take]
          omega
        rw [if_pos (by omega), if_pos (by omega), hrd, wrap_succ hi (by omega)]
        congr 1
        funext t
        rw [if_pos (by omega)]
      · refine Ev.bind (clS4_val m (by omega) R hR hrow s hs) ?_
        have e : fvS (m : Int) (cast R) (s : Int) = ((cl m R s : Nat) : Int) := by
          unfold fvS
          rw [Int.toNat_natCast, Int.toNat_natCast, uncast]
        rw [e] at hnext
        exact hnext
  exact loop P 0 rfl
end Go.Proofs.YtbflblmkdnhboaaGreatDoor.Pu
namespace Go.Proofs.YtbflblmkdnhboaaGreatDoor.Pu
open Go.RowKit Go.Proofs.YtbflblmkdnhboaaGreatDoorW.PrintWords Go.Proofs.YtbflblmkdnhboaaGreatDoorW.PrintLast Go.Proofs.YtbflblmkdnhboaaGreatDoorW.PrintMore Go.Proofs.YtbflblmkdnhboaaGreatDoor.Pr
def isbV (n : Int) (l : List Int) (q : List IR) : Bool := ctxB n l && (areV n q && (q.all (fun r => holdV n l r.f0 r.f1) && (sbV n l).all (folV q)))
theorem isbI_val (n : Int) (l : List Int) (hl : l.length ≤ 1048576) (q : List IR) : Ev (fun k => impl_IsBase.f k n l q) (isbV n l q) := by
  unfold impl_IsBase.f isbV
  simp only [ctxI_val, Option.bind_some]
  cases hc : ctxB n l with
  | false =>
    refine Ev.congr (fun k => by rw [if_neg (by decide)]) ?_
    exact Ev.step (f := fun _ => some false) (fun k => by simp only [impl_IsBase.j0, if_true]) (Ev.now _)
  | true =>
    refine Ev.congr (fun k => by rw [if_pos rfl, areI_val, Option.bind_some]) ?_
    cases ha : areV n q with
    | false => exact Ev.step (f := fun _ => some false) (fun k => by simp only [impl_IsBase.j0, Bool.not_false, if_true]) (Ev.now _)
    | true =>
      refine Ev.step (f := fun k => (impl_IsBase_ContainsFunc0.f q n l).bind fun t => (if t = true then (some false) else ((impl_StemBase.f n l).bind fun u => ((impl_allFollow.f q u).bind fun v => some v)))) (fun k => by simp only [impl_IsBase.j0]; rw [if_neg (by decide)]) ?_
      unfold impl_IsBase_ContainsFunc0.f
      refine Ev.congr (fun k => by rw [if_pos hl, Option.bind_some, sbI_val, Option.bind_some]) ?_
      have e : (q.any fun r => !holdV n l r.f0 r.f1) = !(q.all fun r => holdV n l r.f0 r.f1) := by rw [List.all_eq_not_any_not, Bool.not_not]
      rw [e]
      cases hh : (q.all fun r => holdV n l r.f0 r.f1) with
      | false => exact Ev.congr (fun k => by rw [if_pos (by rfl)]; rfl) (Ev.now _)
      | true => exact Ev.congr (fun k => by rw [if_neg (by decide)]; rfl) (Ev.now _)
theorem sb_any (n : Int) (l : List Int) : (sbV n l).all anyR = true := by
  unfold sbV piV
  cases hc : ctxB n l with
  | false => rw [if_neg (by decide)]; rfl
  | true =>
    obtain ⟨m, R, rfl, hm, rfl, hR, hb⟩ := ctxB_nat hc
    rw [Int.toNat_natCast, uncast, if_pos rfl, List.all_eq_true]
    intro r hr
    unfold ruleMap at hr
    obtain ⟨x, hx, rfl⟩ := List.mem_map.1 hr
    obtain ⟨s, hs, rfl⟩ := List.mem_map.1 (show x ∈ (psN m (cl m R)).map fun (x : Nat) => (x : Int) from hx)
    have h1 := lt_256 (show m ≤ 8 by omega) ((mem_keptN (show m ≤ 8 by omega)).1 hs).1
    unfold anyR fvS isAny
    rw [Int.toNat_natCast, Int.toNat_natCast, uncast, Bool.and_eq_true, decide_eq_true_iff, decide_eq_true_iff]
    have h2 := cl_256 (show m ≤ 8 by omega) R s
    dsimp only
    omega
theorem isbS_loop {m : Nat} (hm : m ≤ 6) {R : List Nat} (hR : R.length ≤ 8) (hrow : ∀ i, row R i < 256) (hc : ctxB (m : Int) (cast R) = true) (q : List IR) (hq : q.length ≤ 1048576) (hany : q.all anyR = true) : ∀ (rest : List IR) (i : Nat), q.drop i = rest →
    Ev (fun k => spec_IsBase.l0 k q (i : Int) (m : Int) (cast R)) (rest.all (fun r => holdV (m : Int) (cast R) r.f0 r.f1) && (sbV (m : Int) (cast R)).all (folV q)) := by
  intro rest
  induction rest with
  | nil =>
    intro i h
    have hle := drop_nil h
    refine Ev.step (f := fun k => (spec_l10Stem.f k (m : Int) (cast R)).bind fun t => (spec_l10All.f k t q).bind fun u => some u) (fun k => ?_) ?_
    · simp only [spec_IsBase.l0]
      rw [if_neg (by omega)]
    · refine Ev.bind (stS_val hm hR hrow) ?_
      have e : ruleMap (fvS (m : Int) (cast R)) (cast (psN m (cl m R))) = sbV (m : Int) (cast R) := by
        unfold sbV piV
        rw [hc, if_pos rfl, Int.toNat_natCast, uncast]
      rw [e, List.all_nil, Bool.true_and]
      have hlen := sbV_len (m : Int) (cast R)
      exact Ev.bind (l10_val _ q (by omega) (by omega) (sb_any _ _) hany) (Ev.now _)
  | cons x rest ih =>
    intro i h
    obtain ⟨hi, hx, hd⟩ := drop_cons (d := z41) h
    have hlR : (cast R).length ≤ 1048576 := by rw [cast_length]; omega
    refine Ev.step (f := fun k => (spec_HoldsIn.f k (m : Int) (cast R) x.f0 x.f1).bind fun t => (if t = true then (spec_IsBase.l0 k q ((i + 1 : Nat) : Int) (m : Int) (cast R)) else (some false))) (fun k => ?_) ?_
    · simp only [spec_IsBase.l0]
      rw [if_pos (by omega), if_pos (by omega), rdR, hx, wrap_succ hi (by omega)]
    · refine Ev.bind (holdS_val _ _ hlR _ _) ?_
      rw [List.all_cons]
      cases holdV (m : Int) (cast R) x.f0 x.f1 with
      | false => exact Ev.congr (fun k => by rw [if_neg (by decide)]) (by rw [Bool.false_and, Bool.false_and]; exact Ev.now _)
      | true => exact Ev.congr (fun k => by rw [if_pos rfl]) (by rw [Bool.true_and]; exact ih (i + 1) hd)
theorem isbS_val (n : Int) (l : List Int) (hl : l.length ≤ 1048576) (q : List IR) (hq : q.length ≤ 1048576) : Ev (fun k => spec_IsBase.f k n l q) (isbV n l q) := by
  unfold spec_IsBase.f isbV
  refine Ev.bind (ctxS_val n l (by omega)) ?_
  cases hc : ctxB n l with
  | false =>
    refine Ev.congr (fun k => by rw [if_neg (by decide)]) ?_
    exact Ev.step (f := fun _ => some false) (fun k => by simp only [spec_IsBase.j0, if_true]) (Ev.now _)
  | true =>
    refine Ev.congr (fun k => by rw [if_pos rfl]) ?_
    refine Ev.bind (areS_val n q (by omega)) ?_
    cases ha : areV n q with
    | false => exact Ev.step (f := fun _ => some false) (fun k => by simp only [spec_IsBase.j0, Bool.not_false, if_true]) (Ev.now _)
    | true =>
      obtain ⟨m, R, rfl, hm, rfl, hR, hb⟩ := ctxB_nat hc
      obtain ⟨_, _, _, hq40, hany, _⟩ := areV_nat ha
      have hrow := fun i => lt_256 (show m ≤ 8 by omega) (row_lt hb i)
      refine Ev.step (f := fun k => spec_IsBase.l0 k q 0 (m : Int) (cast R)) (fun k => by simp only [spec_IsBase.j0]; rw [if_neg (by decide)]) ?_
      rw [Bool.true_and, Bool.true_and]
      exact isbS_loop hm hR hrow hc q hq hany q 0 rfl
def isshV (n : Int) (l : List Int) (q : List IR) : Bool := isbV n l q && decide (q.length = (sbV n l).length)
theorem isshI_val (n : Int) (l : List Int) (hl : l.length ≤ 1048576) (q : List IR) : Ev (fun k => impl_IsShortest.f k n l q) (isshV n l q) := by
  unfold impl_IsShortest.f isshV
  refine Ev.bind (isbI_val n l hl q) ?_
  cases isbV n l q with
  | false => exact Ev.congr (fun k => by rw [if_neg (by decide)]; rfl) (Ev.now _)
  | true =>
    refine Ev.congr (fun k => by rw [if_pos rfl, sbI_val, Option.bind_some]) ?_
    rw [Bool.true_and, show ((q.length : Int) == ((sbV n l).length : Int)) = decide (q.length = (sbV n l).length) from by rw [Bool.eq_iff_iff, beq_iff_eq, decide_eq_true_iff]; omega]
    exact Ev.now _
theorem isshS_val (n : Int) (l : List Int) (hl : l.length ≤ 1048576) (q : List IR) (hq : q.length ≤ 1048576) : Ev (fun k => spec_IsShortest.f k n l q) (isshV n l q) := by
  unfold spec_IsShortest.f isshV
  refine Ev.bind (isbS_val n l hl q hq) ?_
  cases hb : isbV n l q with
  | false => exact Ev.congr (fun k => by rw [if_neg (by decide)]; rfl) (Ev.now _)
  | true =>
    have hc : ctxB n l = true := by
      unfold isbV at hb
      rw [Bool.and_eq_true] at hb
      exact hb.1
    have hc2 := hc
    obtain ⟨m, R, rfl, hm, rfl, hR, hbd⟩ := ctxB_nat hc2
    have hrow := fun i => lt_256 (show m ≤ 8 by omega) (row_lt hbd i)
    refine Ev.congr (fun k => by rw [if_pos rfl]) ?_
    refine Ev.bind (psS_val hm hR hrow) ?_
    have e : (sbV (m : Int) (cast R)).length = (cast (psN m (cl m R))).length := by
      unfold sbV piV ruleMap
      rw [hc, if_pos rfl, List.length_map, Int.toNat_natCast, uncast]
    rw [Bool.true_and, e, show ((q.length : Int) == ((cast (psN m (cl m R))).length : Int)) = decide (q.length = (cast (psN m (cl m R))).length) from by rw [Bool.eq_iff_iff, beq_iff_eq, decide_eq_true_iff]; omega]
    exact Ev.now _
end Go.Proofs.YtbflblmkdnhboaaGreatDoor.Pu
namespace Go.Proofs.YtbflblmkdnhboaaGreatDoor.Pu
open Go.RowKit Go.Proofs.YtbflblmkdnhboaaGreatDoorW.PrintWords Go.Proofs.YtbflblmkdnhboaaGreatDoorW.PrintLast Go.Proofs.YtbflblmkdnhboaaGreatDoorW.PrintMore Go.Proofs.YtbflblmkdnhboaaGreatDoor.Pr
theorem szC_leissh {n : Int} {l : List Int} {m : Int} (h : laws_szContext.f n l 1048576 = some m) (hl : l.length ≤ 9223372036854775807) : m ≤ 1048576 := by
  unfold laws_szContext.f laws_szIntS.f at h
  have hw : wrap64 (1048576 - (l.length : Int)) = 1048576 - (l.length : Int) := by unfold wrap64; omega
  rw [hw] at h
  by_cases h1 : (1048576 - (l.length : Int)) < 0
  · rw [if_pos h1, Option.bind_some, if_pos (by decide)] at h
    have := Option.some.inj h
    omega
  · rw [if_neg h1, Option.bind_some, if_neg h1] at h
    have := Option.some.inj h
    omega
theorem FnExactIsShortest (x0 : S24) (q : List LR) (_ : (Lit.int .i64 x0.f0).wf = true ∧ ∀ x ∈ x0.f1, (Lit.int .i64 x).wf = true) (hl : x0.f1.length ≤ 9223372036854775807) (hlq : q.length ≤ 9223372036854775807) (_ : ∀ x ∈ q, (Lit.int .i64 x.f0).wf = true ∧ (Lit.int .i64 x.f1).wf = true) : ∃ k, laws_FnExactIsShortest.f k x0.f0 x0.f1 q = some true := by
  apply Ev.rounds
  unfold laws_FnExactIsShortest.f
  obtain ⟨m, hm, hm2⟩ := szC_val x0.f0 x0.f1 hl
  have hmle := szC_leissh hm hl
  rw [hm]
  simp only [Option.bind_some]
  by_cases h : m < 0
  · exact Ev.congr (fun k => by rw [if_pos h]) (Ev.now true)
  · have hle := hm2 (by omega)
    obtain ⟨m', hm', hm2'⟩ := sz_more q hlq m (by omega) hmle
    refine Ev.congr (fun k => by rw [if_neg h, hm', Option.bind_some]) ?_
    by_cases h' : m' < 0
    · exact Ev.congr (fun k => by rw [if_pos h']) (Ev.now true)
    · have hle' := hm2' (by omega)
      have hlc : (q.map conv).length ≤ 1048576 := by rw [List.length_map]; exact hle'
      refine Ev.congr (fun k => by rw [if_neg h']) ?_
      refine Ev.bind (toC_val _ _ hle) ?_
      refine Ev.bind (toRule_val q hle') ?_
      refine Ev.bind (isshS_val x0.f0 x0.f1 hle _ hlc) ?_
      refine Ev.bind (toC_val _ _ hle) ?_
      refine Ev.bind (toRule_val q hle') ?_
      refine Ev.bind (isshI_val x0.f0 x0.f1 hle _) ?_
      refine Ev.congr (fun k => by rw [if_neg (by simp)]) ?_
      refine Ev.bind (toC_val _ _ hle) ?_
      refine Ev.bind (eqC_self x0.f0 x0.f1 hl) ?_
      refine Ev.congr (fun k => by rw [if_pos rfl]) ?_
      refine Ev.bind (toRule_val q hle') ?_
      refine Ev.bind (eqRule_self _ (by omega)) ?_
      exact Ev.congr (fun k => by rw [if_pos rfl]) (Ev.now true)
end Go.Proofs.YtbflblmkdnhboaaGreatDoor.Pu
