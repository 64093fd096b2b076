/- Functions of the program as plain functions, proofs that their calls answer so, and plain laws: what the law needs. No condition beyond what each statement says. -/
import Derived.Test.YtafnamchckehmaaGreatDoorZFnStem17
namespace Go.Proofs.YtafnamchckehmaaGreatDoor.Pu
open Go.RowKit Go.Proofs.YtafnamchckehmaaGreatDoorW.PrintWords Go.Proofs.YtafnamchckehmaaGreatDoorW.PrintLast Go.Proofs.YtafnamchckehmaaGreatDoorW.PrintMore Go.Proofs.YtafnamchckehmaaGreatDoor.Pr
def okP (c : Nat → Nat) (s p : Nat) : Bool := !sub p s || sub (c p) s
def plStep (c : Nat → Nat) (s : Nat) (a : List Nat) : List Nat := if (decide (c s ≠ s) && a.all (okP c s)) = true then a ++ [s] else a
theorem pl_fold (c : Nat → Nat) : ∀ N, foldIdx (plStep c) 0 N [] = pl c N
  | 0 => foldIdx_end _ (Nat.le_refl _) _
  | N + 1 => by rw [foldIdx_last _ (Nat.zero_le _), pl_fold c N]; rfl
theorem plStep_inv (c : Nat → Nat) (s : Nat) (a : List Nat) (h : (∀ p ∈ a, p < s) ∧ a.length ≤ s) : (∀ p ∈ plStep c s a, p < s + 1) ∧ (plStep c s a).length ≤ s + 1 := by
  unfold plStep
  split
  · refine ⟨fun p hp => ?_, by rw [List.length_append, List.length_singleton]; omega⟩
    rcases List.mem_append.1 hp with h1 | h1
    · have := h.1 p h1; omega
    · rw [List.mem_singleton] at h1; omega
  · exact ⟨fun p hp => by have := h.1 p hp; omega, by omega⟩
theorem psS_inner {m : Nat} (hm : m ≤ 8) {R : List Nat} (hR : R.length ≤ 8) (hrow : ∀ i, row R i < 256) {s : Nat} (hs : s < 256) {a : List Nat} (ha : ∀ p ∈ a, p < 256) (hal : a.length ≤ 256) {res : List Int} :
    ∀ (rest : List Nat) (i : Nat) (f : Bool), a.drop i = rest → Ev (fun k => spec_l10Pseudo.l0 k (cast (if (f && rest.all (okP (cl m R) s)) = true then a ++ [s] else a)) ((s + 1 : Nat) : Int) (m : Int) (cast R)) res →
      Ev (fun k => spec_l10Pseudo.l1 k (cast a) (s : Int) f (i : Int) (m : Int) (cast R)) res := by
  intro rest
  induction rest with
  | nil =>
    intro i f h hE
    have hle := drop_nil h
    refine Ev.step (fun k => ?_) hE
    simp only [spec_l10Pseudo.l1]
    rw [if_neg (by rw [cast_length]; omega), show wrap64 ((s : Int) + 1) = ((s + 1 : Nat) : Int) from by unfold wrap64; omega]
    cases f with
    | false => rw [if_neg (by decide), if_neg (by simp)]
    | true => rw [if_pos rfl, if_pos (by rw [cast_length]; omega), if_pos (by simp), castOne]
  | cons p rest ih =>
    intro i f h hE
    obtain ⟨hi, hx, hd⟩ := drop_cons (d := 0) h
    have hp : p < 256 := ha p (by rw [← hx, List.getD_eq_getElem?_getD, List.getElem?_eq_getElem hi]; exact List.getElem_mem _)
    have hclp : cl m R p < 256 := cl_256 hm R p
    cases f with
    | false =>
      refine Ev.step (fun k => ?_) (ih (i + 1) false hd (by rw [Bool.false_and] at hE ⊢; exact hE))
      simp only [spec_l10Pseudo.l1]
      rw [if_pos (by rw [cast_length]; omega), if_neg (by decide), wrap_succ hi (by omega)]
    | true =>
      by_cases hsub : sub p s = true
      · have e : okP (cl m R) s p = sub (cl m R p) s := by unfold okP; rw [hsub]; rfl
        rw [Bool.true_and, List.all_cons, e] at hE
        have hih := ih (i + 1) (sub (cl m R p) s) hd hE
        refine Ev.step (f := fun k => (spec_l4Closure.f k (m : Int) (cast R) (p : Int)).bind fun t => (spec_l4Closure.f k (m : Int) (cast R) (p : Int)).bind fun u => spec_l10Pseudo.l1 k (cast a) (s : Int) (Go.bits .and .i64 t (s : Int) == u) ((i + 1 : Nat) : Int) (m : Int) (cast R)) (fun k => ?_) ?_
        · simp only [spec_l10Pseudo.l1]
          rw [if_pos (by rw [cast_length]; omega), if_pos trivial, if_pos (by omega), rdCast, hx, if_pos ((and_is' hp hs).2 hsub), wrap_succ hi (by omega)]
        · refine Ev.bind (clS4_val m hm R hR hrow p hp) ?_
          refine Ev.bind (clS4_val m hm R hR hrow p hp) ?_
          rw [show (Go.bits .and .i64 ((cl m R p : Nat) : Int) (s : Int) == ((cl m R p : Nat) : Int)) = sub (cl m R p) s from by rw [Bool.eq_iff_iff, beq_iff_eq]; exact and_is' hclp hs]
          exact hih
      · have e : okP (cl m R) s p = true := by unfold okP; rw [Bool.not_eq_true] at hsub; rw [hsub]; rfl
        rw [Bool.true_and, List.all_cons, e, Bool.true_and] at hE
        refine Ev.step (fun k => ?_) (ih (i + 1) true hd (by rw [Bool.true_and]; exact hE))
        simp only [spec_l10Pseudo.l1]
        rw [if_pos (by rw [cast_length]; omega), if_pos trivial, if_pos (by omega), rdCast, hx, if_neg (fun h => hsub ((and_is' hp hs).1 h)), wrap_succ hi (by omega)]
theorem psS_val {m : Nat} (hm : m ≤ 6) {R : List Nat} (hR : R.length ≤ 8) (hrow : ∀ i, row R i < 256) : Ev (fun k => spec_l10Pseudo.f k (m : Int) (cast R)) (cast (psN m (cl m R))) := by
  have hp := pow_256 (show m ≤ 8 by omega)
  have hp1 := Nat.two_pow_pos m
  unfold spec_l10Pseudo.f
  refine ev_fold (g := fun k (a : List Nat) i => spec_l10Pseudo.l0 k (cast a) i (m : Int) (cast R)) (plStep (cl m R)) (fun i a => (∀ p ∈ a, p < i) ∧ a.length ≤ i) (N := 2 ^ m) ?_ (fun i a _ h => plStep_inv _ i a h) (2 ^ m) 0 [] (by omega) ⟨(fun p hp => by cases hp), Nat.le_refl _⟩ ?_
  · intro i a hi ha h
    refine Ev.step (f := fun k => (spec_l4Closure.f k (m : Int) (cast R) (i : Int)).bind fun t => if t = (i : Int) then spec_l10Pseudo.l0 k (cast a) ((i + 1 : Nat) : Int) (m : Int) (cast R) else spec_l10Pseudo.l1 k (cast a) (i : Int) true 0 (m : Int) (cast R)) (fun k => ?_) ?_
    · simp only [spec_l10Pseudo.l0]
      rw [fullS_val, fullV_nat (by omega), Option.bind_some, if_pos (by omega), show wrap64 ((i : Int) + 1) = ((i + 1 : Nat) : Int) from by unfold wrap64; omega]
    · refine Ev.bind (clS4_val m (by omega) R hR hrow i (by omega)) ?_
      by_cases e : cl m R i = i
      · unfold plStep at h
        rw [decide_eq_false (fun h => h e), Bool.false_and, if_neg (by decide)] at h
        exact Ev.congr (fun k => by rw [if_pos (by rw [e])]) h
      · unfold plStep at h
        rw [decide_eq_true e] at h
        refine Ev.congr (fun k => by rw [if_neg (by omega)]) ?_
        exact psS_inner (by omega) hR hrow (by omega) (fun p hp => by have := ha.1 p hp; omega) (by omega) a 0 true rfl h
  · intro b hbb hinv
    rw [pl_fold] at hbb
    subst hbb
    refine Ev.step (f := fun k => (spec_SortLectic.f k (cast (pl (cl m R) (2 ^ m)))).bind fun t => some t) (fun k => ?_) ?_
    · simp only [spec_l10Pseudo.l0]
      rw [fullS_val, fullV_nat (by omega), Option.bind_some, if_neg (by omega)]
    · refine Ev.bind (sortS_val (fun x hx => by have := hinv.1 x hx; omega) (by omega)) ?_
      rw [lec_pl]
      exact Ev.now _
def piV (n : Int) (l : List Int) : List Int := if ctxB n l = true then cast (psN n.toNat (cl n.toNat (l.map Int.toNat))) else []
theorem piS_val (n : Int) (l : List Int) (hl : l.length ≤ 1048576) : Ev (fun k => spec_PseudoIntents.f k n l) (piV n l) := by
  unfold spec_PseudoIntents.f piV
  refine Ev.bind (ctxS_val n l (by omega)) ?_
  cases hc : ctxB n l with
  | false => exact Ev.congr (fun k => by rw [if_neg (by decide), if_neg (by decide)]) (Ev.now _)
  | true =>
    obtain ⟨m, R, rfl, hm, rfl, hR, hb⟩ := ctxB_nat hc
    have hrow := fun i => lt_256 (show m ≤ 8 by omega) (row_lt hb i)
    rw [Int.toNat_natCast, uncast, if_pos rfl]
    refine Ev.congr (fun k => by rw [if_pos rfl]) ?_
    exact Ev.bind (psS_val hm hR hrow) (Ev.now _)
theorem piI_val (n : Int) (l : List Int) : impl_PseudoIntents.f n l = some (piV n l) := by
  unfold impl_PseudoIntents.f piV
  rw [ctxI_val, Option.bind_some]
  cases hc : ctxB n l with
  | false => rw [if_neg (by decide), if_neg (by decide)]
  | true =>
    rw [if_pos rfl, if_pos rfl]
    unfold impl_PseudoIntents_stem0.f
    rw [if_pos ⟨rfl, hc⟩]
    rfl
theorem piV_len (n : Int) (l : List Int) : (piV n l).length ≤ 256 := by
  unfold piV
  split
  · rw [cast_length]; exact keptN_le
  · simp
def sbV (n : Int) (l : List Int) : List IR := ruleMap (fvS n l) (piV n l)
theorem sbV_len (n : Int) (l : List Int) : (sbV n l).length ≤ 256 := by
  unfold sbV ruleMap
  rw [List.length_map]
  exact piV_len n l
theorem piV_ok (n : Int) (l : List Int) : okD (piV n l) n l := by
  have hlen := piV_len n l
  refine ⟨by omega, ?_, ?_⟩
  · unfold piV
    cases hc : ctxB n l with
    | false => rw [if_neg (by decide)]; rfl
    | true =>
      obtain ⟨m, R, rfl, hm, rfl, _, _⟩ := ctxB_nat hc
      rw [if_pos rfl, Int.toNat_natCast, List.all_eq_true]
      intro x hx
      unfold cast at hx
      obtain ⟨y, hy, rfl⟩ := List.mem_map.1 hx
      exact isSetB_mk (by omega) ((mem_keptN (by omega)).1 hy).1
  · unfold piV
    cases hc : ctxB n l with
    | false => rw [if_neg (by decide)]; exact Or.inl rfl
    | true => exact Or.inr rfl
theorem sbI_val (n : Int) (l : List Int) : impl_StemBase.f n l = some (sbV n l) := by
  unfold impl_StemBase.f
  rw [piI_val, Option.bind_some]
  unfold impl_StemBase_rulesTo0.f
  rw [if_pos (piV_ok n l)]
  rfl
theorem rule_oneS (fv : Int → Int) (a : List Int) (x : Int) : ruleMap fv a ++ [⟨x, fv x⟩] = ruleMap fv (a ++ [x]) := by
  unfold ruleMap
  rw [List.map_append]
  rfl
theorem stS_val {m : Nat} (hm : m ≤ 6) {R : List Nat} (hR : R.length ≤ 8) (hrow : ∀ i, row R i < 256) : Ev (fun k => spec_l10Stem.f k (m : Int) (cast R)) (ruleMap (fvS (m : Int) (cast R)) (cast (psN m (cl m R)))) := by
  unfold spec_l10Stem.f
  refine Ev.bind (psS_val hm hR hrow) ?_
  have hlen : (cast (psN m (cl m R))).length ≤ 256 := by rw [cast_length]; exact keptN_le
  have hmem : ∀ x ∈ cast (psN m (cl m R)), ∃ s : Nat, x = (s : Int) ∧ s < 256 := fun x hx => by
    unfold cast at hx
    obtain ⟨y, hy, rfl⟩ := List.mem_map.1 hx
    exact ⟨y, rfl, lt_256 (show m ≤ 8 by omega) ((mem_keptN (by omega)).1 hy).1⟩
  generalize cast (psN m (cl m R)) = P at hlen hmem ⊢
  have loop : ∀ (rest : List Int) (i : Nat), P.drop i = rest → Ev (fun k => spec_l10Stem.l0 k (ruleMap (fvS (m : Int) (cast R)) (P.take i)) P (i : Int) (m : Int) (cast R)) (ruleMap (fvS (m : Int) (cast R)) P) := by
    intro rest
    induction rest with
    | nil =>
      intro i h
      have := drop_nil h
      refine Ev.step (f := fun _ => some (ruleMap (fvS (m : Int) (cast R)) P)) (fun k => ?_) (Ev.now _)
      simp only [spec_l10Stem.l0]
      rw [if_neg (by omega), List.take_of_length_le this]
    | cons x rest ih =>
      intro i h
      obtain ⟨hi, hx, hd⟩ := drop_cons (d := 0) h
      have hget : P[i]? = some x := by
        rw [List.getElem?_eq_getElem hi]
        rw [List.getD_eq_getElem?_getD, List.getElem?_eq_getElem hi] at hx
        exact congrArg some hx
      obtain ⟨s, rfl, hs⟩ := hmem x (List.mem_of_getElem? hget)
      have hrd : rd P (i : Int) = (s : Int) := by
        unfold rd
        rw [Int.toNat_natCast, hx]
      have hnext := ih (i + 1) hd
      rw [List.take_add_one, hget, Option.toList_some, ← rule_oneS] at hnext
      refine Ev.step (f := fun k => (spec_l4Closure.f k (m : Int) (cast R) (s : Int)).bind fun t => spec_l10Stem.l0 k (ruleMap (fvS (m : Int) (cast R)) (P.take i) ++ [(⟨(s : Int), t⟩ : IR)]) P ((i + 1 : Nat) : Int) (m : Int) (cast R)) (fun k => ?_) ?_
      · simp only [spec_l10Stem.l0]
        have hl1 : (ruleMap (fvS (m : Int) (cast R)) (P.take i)).length ≤ 256 := by
          unfold ruleMap
          rw [List.length_map, List.length_take]
          omega
        rw [if_pos (by omega), if_pos (by omega), hrd, wrap_succ hi (by omega)]
        congr 1
        funext t
        rw [if_pos (by omega)]
      · refine Ev.bind (clS4_val m (by omega) R hR hrow s hs) ?_
        have e : fvS (m : Int) (cast R) (s : Int) = ((cl m R s : Nat) : Int) := by
          unfold fvS
          rw [Int.toNat_natCast, Int.toNat_natCast, uncast]
        rw [e] at hnext
        exact hnext
  exact loop P 0 rfl
theorem sbS_val (n : Int) (l : List Int) (hl : l.length ≤ 1048576) : Ev (fun k => spec_StemBase.f k n l) (sbV n l) := by
  unfold spec_StemBase.f sbV piV
  refine Ev.bind (ctxS_val n l (by omega)) ?_
  cases hc : ctxB n l with
  | false => exact Ev.congr (fun k => by rw [if_neg (by decide), if_neg (by decide)]; rfl) (Ev.now _)
  | true =>
    obtain ⟨m, R, rfl, hm, rfl, hR, hb⟩ := ctxB_nat hc
    have hrow := fun i => lt_256 (show m ≤ 8 by omega) (row_lt hb i)
    rw [Int.toNat_natCast, uncast, if_pos rfl]
    refine Ev.congr (fun k => by rw [if_pos rfl]) ?_
    exact Ev.bind (stS_val hm hR hrow) (Ev.now _)
def isbV (n : Int) (l : List Int) (q : List IR) : Bool := ctxB n l && (areV n q && (q.all (fun r => holdV n l r.f0 r.f1) && (sbV n l).all (folV q)))
theorem isbI_val (n : Int) (l : List Int) (hl : l.length ≤ 1048576) (q : List IR) : Ev (fun k => impl_IsBase.f k n l q) (isbV n l q) := by
  unfold impl_IsBase.f isbV
  simp only [ctxI_val, Option.bind_some]
  cases hc : ctxB n l with
  | false =>
    refine Ev.congr (fun k => by rw [if_neg (by decide)]) ?_
    exact Ev.step (f := fun _ => some false) (fun k => by simp only [impl_IsBase.j0, if_true]) (Ev.now _)
  | true =>
    refine Ev.congr (fun k => by rw [if_pos rfl, areI_val, Option.bind_some]) ?_
    cases ha : areV n q with
    | false => exact Ev.step (f := fun _ => some false) (fun k => by simp only [impl_IsBase.j0, Bool.not_false, if_true]) (Ev.now _)
    | true =>
      refine Ev.step (f := fun k => (impl_IsBase_ContainsFunc0.f q n l).bind fun t => (if t = true then (some false) else ((impl_StemBase.f n l).bind fun u => ((impl_allFollow.f q u).bind fun v => some v)))) (fun k => by simp only [impl_IsBase.j0]; rw [if_neg (by decide)]) ?_
      unfold impl_IsBase_ContainsFunc0.f
      refine Ev.congr (fun k => by rw [if_pos hl, Option.bind_some, sbI_val, Option.bind_some]) ?_
      have e : (q.any fun r => !holdV n l r.f0 r.f1) = !(q.all fun r => holdV n l r.f0 r.f1) := by rw [List.all_eq_not_any_not, Bool.not_not]
      rw [e]
      cases hh : (q.all fun r => holdV n l r.f0 r.f1) with
      | false => exact Ev.congr (fun k => by rw [if_pos (by rfl)]; rfl) (Ev.now _)
      | true => exact Ev.congr (fun k => by rw [if_neg (by decide)]; rfl) (Ev.now _)
theorem sb_any (n : Int) (l : List Int) : (sbV n l).all anyR = true := by
  unfold sbV piV
  cases hc : ctxB n l with
  | false => rw [if_neg (by decide)]; rfl
  | true =>
    obtain ⟨m, R, rfl, hm, rfl, hR, hb⟩ := ctxB_nat hc
    rw [Int.toNat_natCast, uncast, if_pos rfl, List.all_eq_true]
    intro r hr
    unfold ruleMap at hr
    obtain ⟨x, hx, rfl⟩ := List.mem_map.1 hr
    obtain ⟨s, hs, rfl⟩ := List.mem_map.1 (show x ∈ (psN m (cl m R)).map fun (x : Nat) => (x : Int) from hx)
    have h1 := lt_256 (show m ≤ 8 by omega) ((mem_keptN (show m ≤ 8 by omega)).1 hs).1
    unfold anyR fvS isAny
    rw [Int.toNat_natCast, Int.toNat_natCast, uncast, Bool.and_eq_true, decide_eq_true_iff, decide_eq_true_iff]
    have h2 := cl_256 (show m ≤ 8 by omega) R s
    dsimp only
    omega
theorem isbS_loop {m : Nat} (hm : m ≤ 6) {R : List Nat} (hR : R.length ≤ 8) (hrow : ∀ i, row R i < 256) (hc : ctxB (m : Int) (cast R) = true) (q : List IR) (hq : q.length ≤ 1048576) (hany : q.all anyR = true) : ∀ (rest : List IR) (i : Nat), q.drop i = rest →
    Ev (fun k => spec_IsBase.l0 k q (i : Int) (m : Int) (cast R)) (rest.all (fun r => holdV (m : Int) (cast R) r.f0 r.f1) && (sbV (m : Int) (cast R)).all (folV q)) := by
  intro rest
  induction rest with
  | nil =>
    intro i h
    have hle := drop_nil h
    refine Ev.step (f := fun k => (spec_l10Stem.f k (m : Int) (cast R)).bind fun t => (spec_l10All.f k t q).bind fun u => some u) (fun k => ?_) ?_
    · simp only [spec_IsBase.l0]
      rw [if_neg (by omega)]
    · refine Ev.bind (stS_val hm hR hrow) ?_
      have e : ruleMap (fvS (m : Int) (cast R)) (cast (psN m (cl m R))) = sbV (m : Int) (cast R) := by
        unfold sbV piV
        rw [hc, if_pos rfl, Int.toNat_natCast, uncast]
      rw [e, List.all_nil, Bool.true_and]
      have hlen := sbV_len (m : Int) (cast R)
      exact Ev.bind (l10_val _ q (by omega) (by omega) (sb_any _ _) hany) (Ev.now _)
  | cons x rest ih =>
    intro i h
    obtain ⟨hi, hx, hd⟩ := drop_cons (d := z48) h
    have hlR : (cast R).length ≤ 1048576 := by rw [cast_length]; omega
    refine Ev.step (f := fun k => (spec_HoldsIn.f k (m : Int) (cast R) x.f0 x.f1).bind fun t => (if t = true then (spec_IsBase.l0 k q ((i + 1 : Nat) : Int) (m : Int) (cast R)) else (some false))) (fun k => ?_) ?_
    · simp only [spec_IsBase.l0]
      rw [if_pos (by omega), if_pos (by omega), rdR, hx, wrap_succ hi (by omega)]
    · refine Ev.bind (holdS_val _ _ hlR _ _) ?_
      rw [List.all_cons]
      cases holdV (m : Int) (cast R) x.f0 x.f1 with
      | false => exact Ev.congr (fun k => by rw [if_neg (by decide)]) (by rw [Bool.false_and, Bool.false_and]; exact Ev.now _)
      | true => exact Ev.congr (fun k => by rw [if_pos rfl]) (by rw [Bool.true_and]; exact ih (i + 1) hd)
theorem isbS_val (n : Int) (l : List Int) (hl : l.length ≤ 1048576) (q : List IR) (hq : q.length ≤ 1048576) : Ev (fun k => spec_IsBase.f k n l q) (isbV n l q) := by
  unfold spec_IsBase.f isbV
  refine Ev.bind (ctxS_val n l (by omega)) ?_
  cases hc : ctxB n l with
  | false =>
    refine Ev.congr (fun k => by rw [if_neg (by decide)]) ?_
    exact Ev.step (f := fun _ => some false) (fun k => by simp only [spec_IsBase.j0, if_true]) (Ev.now _)
  | true =>
    refine Ev.congr (fun k => by rw [if_pos rfl]) ?_
    refine Ev.bind (areS_val n q (by omega)) ?_
    cases ha : areV n q with
    | false => exact Ev.step (f := fun _ => some false) (fun k => by simp only [spec_IsBase.j0, Bool.not_false, if_true]) (Ev.now _)
    | true =>
      obtain ⟨m, R, rfl, hm, rfl, hR, hb⟩ := ctxB_nat hc
      obtain ⟨_, _, _, hq40, hany, _⟩ := areV_nat ha
      have hrow := fun i => lt_256 (show m ≤ 8 by omega) (row_lt hb i)
      refine Ev.step (f := fun k => spec_IsBase.l0 k q 0 (m : Int) (cast R)) (fun k => by simp only [spec_IsBase.j0]; rw [if_neg (by decide)]) ?_
      rw [Bool.true_and, Bool.true_and]
      exact isbS_loop hm hR hrow hc q hq hany q 0 rfl
def isshV (n : Int) (l : List Int) (q : List IR) : Bool := isbV n l q && decide (q.length = (sbV n l).length)
theorem isshI_val (n : Int) (l : List Int) (hl : l.length ≤ 1048576) (q : List IR) : Ev (fun k => impl_IsShortest.f k n l q) (isshV n l q) := by
  unfold impl_IsShortest.f isshV
  refine Ev.bind (isbI_val n l hl q) ?_
  cases isbV n l q with
  | false => exact Ev.congr (fun k => by rw [if_neg (by decide)]; rfl) (Ev.now _)
  | true =>
    refine Ev.congr (fun k => by rw [if_pos rfl, sbI_val, Option.bind_some]) ?_
    rw [Bool.true_and, show ((q.length : Int) == ((sbV n l).length : Int)) = decide (q.length = (sbV n l).length) from by rw [Bool.eq_iff_iff, beq_iff_eq, decide_eq_true_iff]; omega]
    exact Ev.now _
theorem isshS_val (n : Int) (l : List Int) (hl : l.length ≤ 1048576) (q : List IR) (hq : q.length ≤ 1048576) : Ev (fun k => spec_IsShortest.f k n l q) (isshV n l q) := by
  unfold spec_IsShortest.f isshV
  refine Ev.bind (isbS_val n l hl q hq) ?_
  cases hb : isbV n l q with
  | false => exact Ev.congr (fun k => by rw [if_neg (by decide)]; rfl) (Ev.now _)
  | true =>
    have hc : ctxB n l = true := by
      unfold isbV at hb
      rw [Bool.and_eq_true] at hb
      exact hb.1
    have hc2 := hc
    obtain ⟨m, R, rfl, hm, rfl, hR, hbd⟩ := ctxB_nat hc2
    have hrow := fun i => lt_256 (show m ≤ 8 by omega) (row_lt hbd i)
    refine Ev.congr (fun k => by rw [if_pos rfl]) ?_
    refine Ev.bind (psS_val hm hR hrow) ?_
    have e : (sbV (m : Int) (cast R)).length = (cast (psN m (cl m R))).length := by
      unfold sbV piV ruleMap
      rw [hc, if_pos rfl, List.length_map, Int.toNat_natCast, uncast]
    rw [Bool.true_and, e, show ((q.length : Int) == ((cast (psN m (cl m R))).length : Int)) = decide (q.length = (cast (psN m (cl m R))).length) from by rw [Bool.eq_iff_iff, beq_iff_eq, decide_eq_true_iff]; omega]
    exact Ev.now _
theorem sbV_nat {m : Nat} {R : List Nat} (hc : ctxB (m : Int) (cast R) = true) : sbV (m : Int) (cast R) = ruleMap (fvS (m : Int) (cast R)) (cast (psN m (cl m R))) := by
  unfold sbV piV
  rw [hc, if_pos rfl, Int.toNat_natCast, uncast]
theorem piV_nat {m : Nat} {R : List Nat} (hc : ctxB (m : Int) (cast R) = true) : piV (m : Int) (cast R) = cast (psN m (cl m R)) := by
  unfold piV
  rw [hc, if_pos rfl, Int.toNat_natCast, uncast]
theorem fvS_nat (m : Nat) (R : List Nat) (s : Nat) : fvS (m : Int) (cast R) (s : Int) = ((cl m R s : Nat) : Int) := by
  unfold fvS
  rw [Int.toNat_natCast, Int.toNat_natCast, uncast]
theorem toR_sb {m : Nat} {R : List Nat} (hc : ctxB (m : Int) (cast R) = true) : toR (sbV (m : Int) (cast R)) = stN m (cl m R) := by
  rw [sbV_nat hc]
  exact toR_map fun s _ => fvS_nat m R s
theorem sb_length {m : Nat} {R : List Nat} (hc : ctxB (m : Int) (cast R) = true) : (sbV (m : Int) (cast R)).length = (psN m (cl m R)).length := by rw [sbV_nat hc, ruleMap_length, cast_length]
theorem ps_lt {m : Nat} (hm : m ≤ 8) {c : Nat → Nat} : ∀ s ∈ psN m c, s < 2 ^ m := fun _ hs => ((mem_keptN hm).1 hs).1
theorem base_short {n : Int} {l : List Int} {q : List IR} (h : isbV n l q = true) : (sbV n l).length ≤ q.length := by
  unfold isbV at h
  rw [Bool.and_eq_true, Bool.and_eq_true, Bool.and_eq_true] at h
  obtain ⟨hc, ha, hh, hf⟩ := h
  have hc2 := hc
  obtain ⟨m, R, rfl, hm, rfl, hR, hb⟩ := ctxB_nat hc2
  obtain ⟨m', e, _, _, hany, hw⟩ := areV_nat ha
  have e := Int.natCast_inj.1 e
  subst e
  have hin : within m (toR q) := fun r hr => by
    obtain ⟨x, hx, rfl⟩ := List.mem_map.1 hr
    exact hw x hx
  have hclo : ∀ s, s < 2 ^ m → clo (toR q) s = cl m R s := fun s hs => by
    refine base_clo (clos_cl m R) (by omega) hin (fun r hr => ?_) (fun r hr => ?_) hs
    · obtain ⟨x, hx, rfl⟩ := List.mem_map.1 hr
      have := List.all_eq_true.1 hh x hx
      unfold holdV at this
      rw [Bool.and_eq_true, Int.toNat_natCast, uncast] at this
      exact this.2
    · rw [← toR_sb hc] at hr
      obtain ⟨x, hx, rfl⟩ := List.mem_map.1 hr
      have := List.all_eq_true.1 hf x hx
      unfold folV at this
      rw [Bool.and_eq_true, Bool.and_eq_true] at this
      exact this.2.2
  have := base_least (clos_cl m R) (by omega) hin hclo
  rw [sb_length hc]
  rwa [show (toR q).length = q.length from List.length_map ..] at this
theorem mem_sb {m : Nat} {R : List Nat} (hc : ctxB (m : Int) (cast R) = true) {r : IR} (hr : r ∈ sbV (m : Int) (cast R)) : ∃ s, s ∈ psN m (cl m R) ∧ r = ⟨(s : Int), ((cl m R s : Nat) : Int)⟩ := by
  rw [sbV_nat hc] at hr
  unfold ruleMap at hr
  obtain ⟨x, hx, rfl⟩ := List.mem_map.1 hr
  obtain ⟨s, hs, rfl⟩ := List.mem_map.1 (show x ∈ (psN m (cl m R)).map fun (x : Nat) => (x : Int) from hx)
  exact ⟨s, hs, by rw [fvS_nat]⟩
theorem isb_self {m : Nat} (hm : m ≤ 5) {R : List Nat} (hc : ctxB (m : Int) (cast R) = true) : isbV (m : Int) (cast R) (sbV (m : Int) (cast R)) = true := by
  have h256 := pow_le_256 (show m ≤ 8 by omega)
  have h32 : 2 ^ m ≤ 32 := show 2 ^ m ≤ 2 ^ 5 from Nat.pow_le_pow_right (by decide) hm
  have hlen : (psN m (cl m R)).length ≤ 2 ^ m := by
    unfold psN
    rw [keptN_length (by omega)]
    exact Nat.le_trans (List.length_filter_le _ _) (by rw [List.length_range]; exact Nat.le_refl _)
  have hany := sb_any (m : Int) (cast R)
  unfold isbV
  rw [hc, Bool.true_and, Bool.and_eq_true, Bool.and_eq_true]
  refine ⟨?_, List.all_eq_true.2 fun r hr => ?_, List.all_eq_true.2 fun r hr => ?_⟩
  · unfold areV
    rw [Bool.and_eq_true, Bool.and_eq_true, decide_eq_true_iff, decide_eq_true_iff, sb_length hc]
    refine ⟨⟨by omega, by omega⟩, List.all_eq_true.2 fun r hr => ?_⟩
    obtain ⟨s, hs, rfl⟩ := mem_sb hc hr
    unfold ruleB
    rw [isSetB_mk (by omega) (ps_lt (by omega) s hs), isSetB_mk (by omega) (cl_lt m R s)]
    rfl
  · obtain ⟨s, hs, rfl⟩ := mem_sb hc hr
    unfold holdV atsB
    dsimp only
    rw [hc, isSetB_mk (by omega) (ps_lt (by omega) s hs), isSetB_mk (by omega) (cl_lt m R s), Int.toNat_natCast, Int.toNat_natCast, Int.toNat_natCast, uncast, sub_refl]
    rfl
  · have hr2 := List.all_eq_true.1 hany r hr
    unfold folV
    rw [hany, hr2, Bool.true_and, Bool.true_and, toR_sb hc]
    obtain ⟨s, hs, rfl⟩ := mem_sb hc hr
    show sub (cl m R s) (clo (stN m (cl m R)) s) = true
    rw [clo_stN (clos_cl m R) (by omega) (ps_lt (by omega) s hs)]
    exact sub_refl _
theorem fol_erase {m : Nat} (hm : m ≤ 6) {R : List Nat} (hc : ctxB (m : Int) (cast R) = true) {i : Nat} (hi : i < (psN m (cl m R)).length) : folV ((sbV (m : Int) (cast R)).eraseIdx i) ((sbV (m : Int) (cast R)).getD i z48) = false := by
  have h256 := pow_le_256 (show m ≤ 8 by omega)
  have hi2 : i < (sbV (m : Int) (cast R)).length := by rw [sb_length hc]; exact hi
  have hp := (mem_keptN (show m ≤ 8 by omega)).1 (List.getElem_mem hi)
  have e : toP ((sbV (m : Int) (cast R)).getD i z48) = ((psN m (cl m R))[i], cl m R (psN m (cl m R))[i]) := by
    have h1 : (toR (sbV (m : Int) (cast R)))[i]? = some (toP ((sbV (m : Int) (cast R)).getD i z48)) := by
      unfold toR
      rw [List.getElem?_map, List.getD_eq_getElem?_getD, List.getElem?_eq_getElem hi2]
      rfl
    rw [toR_sb hc] at h1
    unfold stN at h1
    rw [List.getElem?_map, List.getElem?_eq_getElem hi] at h1
    exact (Option.some.inj h1).symm
  cases hf : folV ((sbV (m : Int) (cast R)).eraseIdx i) ((sbV (m : Int) (cast R)).getD i z48) with
  | false => rfl
  | true =>
    exfalso
    unfold folV at hf
    rw [Bool.and_eq_true, Bool.and_eq_true, e] at hf
    have hs := hf.2.2
    dsimp only at hs
    have et : toR ((sbV (m : Int) (cast R)).eraseIdx i) = (stN m (cl m R)).eraseIdx i := by
      rw [← toR_sb hc]
      exact erase_map toP _ i
    have hsm : small (toR ((sbV (m : Int) (cast R)).eraseIdx i)) := toR_small hf.1
    rw [et] at hs hsm
    rw [(clo_fix hsm (show (psN m (cl m R))[i] < 256 by omega)).2 (stN_erase (show m ≤ 8 by omega) hi)] at hs
    exact (isP_iff.1 hp.2).1 (sub_antisymm hs (sub_cl hp.1))
theorem stem_last {m : Nat} (hm : m ≤ 5) {R : List Nat} (hR : R.length ≤ 8) (_hb : ∀ r ∈ R, r < 2 ^ m) (hc : ctxB (m : Int) (cast R) = true) : ∀ (d i : Nat), i + d = (psN m (cl m R)).length →
    Ev (fun k => laws_FnStem.l1 k (sbV (m : Int) (cast R)) (piV (m : Int) (cast R)) (i : Int) (m : Int) (cast R)) true := by
  have hlen := sbV_len (m : Int) (cast R)
  have hsl := sb_length hc
  have hpl : (piV (m : Int) (cast R)).length = (psN m (cl m R)).length := by rw [piV_nat hc, cast_length]
  intro d
  induction d with
  | zero =>
    intro i h
    refine Ev.step (f := fun k => (impl_IsBase.f k (m : Int) (cast R) (sbV (m : Int) (cast R))).bind fun t => some t) (fun k => ?_) ?_
    · simp only [laws_FnStem.l1]
      rw [if_neg (by omega), if_pos (by omega)]
    · refine Ev.bind (isbI_val _ _ (by rw [cast_length]; omega) _) ?_
      rw [isb_self hm hc]
      exact Ev.now true
  | succ d ih =>
    intro i h
    have hi : i < (psN m (cl m R)).length := by omega
    have hw : wrap64 ((i : Int) + 1) = ((i + 1 : Nat) : Int) := by unfold wrap64; omega
    have he : ([] : List IR) ++ (sbV (m : Int) (cast R)).take i ++ (sbV (m : Int) (cast R)).drop (i + 1) = (sbV (m : Int) (cast R)).eraseIdx i := by
      rw [List.nil_append, List.eraseIdx_eq_take_drop_succ]
    have hf0 : ((sbV (m : Int) (cast R)).getD i z48).f0 = rd (piV (m : Int) (cast R)) (i : Int) := by
      rw [rd_nat, piV_nat hc, sbV_nat hc]
      unfold ruleMap
      rw [List.getD_eq_getElem?_getD, List.getElem?_map, List.getD_eq_getElem?_getD, List.getElem?_eq_getElem (by rw [cast_length]; exact hi)]
      rfl
    have htl : ((sbV (m : Int) (cast R)).take i).length ≤ 256 := by rw [List.length_take]; omega
    have hdl : ((sbV (m : Int) (cast R)).drop (i + 1)).length ≤ 256 := by rw [List.length_drop]; omega
    refine Ev.step (f := fun k => (spec_Follows.f k ((sbV (m : Int) (cast R)).eraseIdx i) ((sbV (m : Int) (cast R)).getD i z48).f0 ((sbV (m : Int) (cast R)).getD i z48).f1).bind fun t => if t = true then some false else laws_FnStem.l1 k (sbV (m : Int) (cast R)) (piV (m : Int) (cast R)) ((i + 1 : Nat) : Int) (m : Int) (cast R)) (fun k => ?_) ?_
    · simp only [laws_FnStem.l1]
      rw [if_pos (by omega), hw]
      refine bind_is (ite_is (by omega) (ite_is (by omega) (bind_is (ite_is (small_sum _ _ (Nat.zero_le _) (by rw [Int.toNat_natCast]; omega)) (bind_is (ite_is (by omega) (ite_is (by omega) (bind_is (ite_is (small_sum _ _ (by rw [List.nil_append, Int.toNat_natCast]; omega) (by rw [Int.toNat_natCast]; omega)) ?_)))))))))
      rw [Int.toNat_natCast, Int.toNat_natCast, he, rdR]
      congr 1
      funext t
      rw [if_pos (show (i : Int) < ((piV (m : Int) (cast R)).length : Int) by omega), if_pos hf0]
    · refine Ev.bind (folS_val _ (by rw [List.length_eraseIdx]; split <;> omega) _ _) ?_
      have hff := fol_erase (show m ≤ 6 by omega) hc hi
      refine Ev.congr (fun k => ?_) (ih (i + 1) (by omega))
      rw [show (⟨((sbV (m : Int) (cast R)).getD i z48).f0, ((sbV (m : Int) (cast R)).getD i z48).f1⟩ : IR) = (sbV (m : Int) (cast R)).getD i z48 from rfl, hff, if_neg (by decide)]
theorem stem_tail {m : Nat} (hm : m ≤ 5) {R : List Nat} (hR : R.length ≤ 8) (hb : ∀ r ∈ R, r < 2 ^ m) (hc : ctxB (m : Int) (cast R) = true) : Ev (fun k => laws_FnStem.l0 k (sbV (m : Int) (cast R)) (piV (m : Int) (cast R)) 0 (m : Int) (cast R)) true := by
  have hp := pow_256 (show m ≤ 8 by omega)
  have hp1 := Nat.two_pow_pos m
  have hlen := sbV_len (m : Int) (cast R)
  refine ev_fold (g := fun k (_ : Unit) i => laws_FnStem.l0 k (sbV (m : Int) (cast R)) (piV (m : Int) (cast R)) i (m : Int) (cast R)) (fun _ a => a) (fun _ _ => True) (N := 2 ^ m) ?_ (fun _ _ _ _ => trivial) (2 ^ m) 0 () (by omega) trivial ?_
  · intro i _ hi _ h
    refine Ev.step (f := fun k => (spec_ClosedBy.f k (sbV (m : Int) (cast R)) (i : Int)).bind fun t => ((spec_ClosureOf.f k (m : Int) (cast R) (i : Int)).bind fun u => if t = u then laws_FnStem.l0 k (sbV (m : Int) (cast R)) (piV (m : Int) (cast R)) ((i + 1 : Nat) : Int) (m : Int) (cast R) else some false)) (fun k => ?_) ?_
    · simp only [laws_FnStem.l0]
      rw [fullS_val, fullV_nat (by omega), Option.bind_some, if_pos (by omega), show wrap64 ((i : Int) + 1) = ((i + 1 : Nat) : Int) from by unfold wrap64; omega]
    · refine Ev.bind (closedS_val _ (by omega) (i : Int)) ?_
      refine Ev.bind (clofS_val (by omega) hR hb hc hi) ?_
      rw [cloV_nat (sb_any _ _) (by omega), toR_sb hc, clo_stN (clos_cl m R) (by omega) hi]
      exact Ev.congr (fun k => by rw [if_pos rfl]) h
  · intro _ _ _
    refine Ev.step (fun k => ?_) (stem_last hm hR hb hc (psN m (cl m R)).length 0 (by omega))
    simp only [laws_FnStem.l0]
    rw [fullS_val, fullV_nat (by omega), Option.bind_some, if_neg (by omega)]
    rfl
theorem case10_ex (b : List Int) (hb : b.length ≤ 1048576) : ∃ v : Int × List Int × List IR, Ev (fun k => spec_l10Case.f k b) v ∧ v.2.1.length ≤ 9 ∧ v.2.2.length ≤ 1000 := by
  obtain ⟨h1, e1⟩ := new_ex b hb
  obtain ⟨⟨n, l, i2, h2⟩, e2, hl, k2, _⟩ := bent3_ex b hb 0 h1 (by decide)
  dsimp only at hl k2
  obtain ⟨y, i3, h3, e3, y0, y1, k3⟩ := below_ex b hb i2 h2 k2 5
  have hlen := sbV_len n l
  generalize hq : sbV n l = q at hlen
  have he : Ev (fun k => spec_StemBase.f k n l) q := by rw [← hq]; exact sbS_val n l (by omega)
  clear hq
  have go : ∀ w, Ev (fun k => if y = 0 then (if (q.length : Int) > 0 then ((spec_l1Below.f b i3 h3 (q.length : Int)).bind fun bt443 => ((some (([] : List IR) : List IR)).bind fun y446 => (if 0 ≤ bt443.1 then (if bt443.1 ≤ (q.length : Int) then ((some (q.take (bt443.1 : Int).toNat : List IR)).bind fun y449 => (if y446.length + y449.length < 8796093022208 then ((some (y446 ++ y449 : List IR)).bind fun y453 => (if 0 ≤ (wrap64 (bt443.1 + 1)) then (if (wrap64 (bt443.1 + 1)) ≤ (q.length : Int) then ((some (q.drop ((wrap64 (bt443.1 + 1)) : Int).toNat : List IR)).bind fun y456 => (if y453.length + y456.length < 8796093022208 then (some (n, l, (y453 ++ y456))) else (none))) else (none)) else (none))) else (none))) else (none)) else (none)))) else (some (n, l, q))) else (if y = 1 then ((spec_l1Min.f n 6).bind fun t463 => ((spec_l1Max.f 0 t463).bind fun t464 => ((spec_l9Make.f b i3 h3 t464).bind fun bt465 => (if q.length < 8796093022208 then (some (n, l, (q ++ [(⟨bt465.1, bt465.2.1⟩ : IR)]))) else (none))))) else (if y = 2 then (if (q.length : Int) > 0 then (if 0 < (q.length : Int) then (some (n, l, (q.set (0 : Int).toNat (⟨(rd_T48 q 0).f0, wrap64 (((rd_T48 q 0).f1) - (Go.bits .and .i64 ((rd_T48 q 0).f0) ((rd_T48 q 0).f1)))⟩ : IR)))) else (none)) else (some (n, l, q))) else (some (n, l, q))))) w → Ev (fun k => spec_l10Case.f k b) w := by
    intro w hw
    unfold spec_l10Case.f
    refine Ev.bind e1 (Ev.bind e2 (Ev.bind he ?_))
    dsimp only
    rw [e3]
    exact hw
  by_cases c0 : y = 0
  · by_cases c1 : (q.length : Int) > 0
    · obtain ⟨x, i4, h4, e4, x0, x1, k4⟩ := below_ex b hb i3 h3 k3 (q.length : Int)
      have x1 := x1 (by omega)
      obtain ⟨j, rfl⟩ : ∃ j : Nat, x = (j : Int) := ⟨x.toNat, by omega⟩
      have hw : wrap64 ((j : Int) + 1) = ((j + 1 : Nat) : Int) := by unfold wrap64; omega
      refine ⟨(n, l, ([] ++ q.take j) ++ q.drop (j + 1)), go _ (Ev.congr (fun k => ?_) (Ev.now _)), hl, ?_⟩
      · rw [if_pos c0, if_pos c1, e4]
        have ht : (q.take j).length ≤ 1048576 := by rw [List.length_take]; omega
        have hd : (q.drop (j + 1)).length ≤ 1048576 := by rw [List.length_drop]; omega
        refine bind_is (bind_is (ite_is (by dsimp only; omega) (ite_is (by dsimp only; omega) (bind_is (ite_is (small_sum _ _ (Nat.zero_le _) (by dsimp only; rw [Int.toNat_natCast]; exact ht)) (bind_is (ite_is (by dsimp only; omega) (ite_is (by dsimp only; omega) (bind_is (ite_is (small_sum _ _ (by dsimp only; rw [List.nil_append, Int.toNat_natCast]; exact ht) (by dsimp only; rw [hw, Int.toNat_natCast]; exact hd)) ?_))))))))))
        dsimp only
        rw [hw, Int.toNat_natCast, Int.toNat_natCast]
      · dsimp only
        rw [List.length_append, List.length_append, List.length_nil, List.length_take, List.length_drop]
        omega
    · exact ⟨(n, l, q), go _ (Ev.congr (fun k => by rw [if_pos c0, if_neg c1]) (Ev.now _)), hl, by dsimp only; omega⟩
  · by_cases c1 : y = 1
    · obtain ⟨t, et⟩ : ∃ t, spec_l1Min.f n 6 = some t := by unfold spec_l1Min.f; split <;> exact ⟨_, rfl⟩
      obtain ⟨u, eu⟩ : ∃ u, spec_l1Max.f 0 t = some u := by unfold spec_l1Max.f; split <;> exact ⟨_, rfl⟩
      obtain ⟨x, z, i4, h4, e4, k4⟩ := make9_ex b hb i3 h3 k3 u
      refine ⟨(n, l, q ++ [⟨x, z⟩]), go _ (Ev.congr (fun k => ?_) (Ev.now _)), hl, by dsimp only; rw [List.length_append, List.length_singleton]; omega⟩
      rw [if_neg c0, if_pos c1, et, Option.bind_some, eu, Option.bind_some, e4, Option.bind_some, if_pos (small_one _ (by omega))]
    · by_cases c2 : y = 2
      · by_cases c3 : (q.length : Int) > 0
        · exact ⟨_, go _ (Ev.congr (fun k => by rw [if_neg c0, if_neg c1, if_pos c2, if_pos c3, if_pos (by omega)]) (Ev.now _)), hl, by dsimp only; rw [List.length_set]; omega⟩
        · exact ⟨(n, l, q), go _ (Ev.congr (fun k => by rw [if_neg c0, if_neg c1, if_pos c2, if_neg c3]) (Ev.now _)), hl, by dsimp only; omega⟩
      · exact ⟨(n, l, q), go _ (Ev.congr (fun k => by rw [if_neg c0, if_neg c1, if_neg c2]) (Ev.now _)), hl, by dsimp only; omega⟩
theorem FnStem (l0 : List Int) (_ : l0.length ≤ 9223372036854775807) (_ : ∀ x ∈ l0, (Lit.int .u8 x).wf = true) : ∃ k, laws_FnStem.f k l0 = some true := by
  apply Ev.rounds
  unfold laws_FnStem.f laws_big.f
  simp only [Option.bind_some]
  by_cases hbig : (l0.length : Int) > 1048576
  · exact Ev.congr (fun k => by rw [if_pos (decide_eq_true hbig)]) (Ev.now true)
  · have hb : l0.length ≤ 1048576 := by omega
    refine Ev.congr (fun k => by rw [if_neg (by simpa using hbig)]) ?_
    obtain ⟨h1, e1⟩ := new_ex l0 hb
    obtain ⟨⟨n, l, i2, h2⟩, e2, hl, _, hn7⟩ := bent3_ex l0 hb 0 h1 (by decide)
    dsimp only at hl hn7
    obtain ⟨⟨n2, l2, q⟩, e3, hl2, hq⟩ := case10_ex l0 hb
    dsimp only at hl2 hq
    have d1 : Ev (fun k => spec_DrawStemBase.f k l0) (n, l) := by unfold spec_DrawStemBase.f; exact Ev.bind e1 (Ev.bind e2 (Ev.now _))
    have d2 : Ev (fun k => spec_DrawIsBase.f k l0) (n2, l2, q) := by unfold spec_DrawIsBase.f; exact Ev.bind e3 (Ev.now _)
    have hsl := sbV_len n l
    have hpl := piV_len n l
    refine Ev.bind d1 ?_
    dsimp only
    simp only [sbI_val, piI_val, Option.bind_some]
    refine Ev.bind d2 ?_
    dsimp only
    refine Ev.bind (isbI_val n2 l2 (by omega) q) ?_
    refine Ev.bind (sbS_val n l (by omega)) ?_
    refine Ev.bind (sameR_self _ (by omega)) ?_
    refine Ev.congr (fun k => by rw [if_pos rfl]) ?_
    refine Ev.bind (piS_val n l (by omega)) ?_
    refine Ev.bind (sameI_self _ (by omega)) ?_
    refine Ev.congr (fun k => by rw [if_pos rfl]) ?_
    refine Ev.bind (isbS_val n2 l2 (by omega) q (by omega)) ?_
    refine Ev.congr (fun k => by rw [if_neg (by simp)]) ?_
    refine Ev.bind (isshI_val n2 l2 (by omega) q) ?_
    refine Ev.bind (isshS_val n2 l2 (by omega) q (by omega)) ?_
    refine Ev.congr (fun k => by rw [if_neg (by simp)]) ?_
    refine Ev.bind (countI4_val n l) ?_
    refine Ev.bind (countS4_val n l (by omega)) ?_
    refine Ev.congr (fun k => by rw [if_pos rfl]) ?_
    have hj : Ev (fun k => laws_FnStem.j0 k (sbV n l) (piV n l) false n l) true := by
      refine Ev.step (f := fun k => (spec_IsContext.f k n l).bind fun t => if t = true then laws_FnStem.l0 k (sbV n l) (piV n l) 0 n l else some (((sbV n l).length : Int) == 0)) (fun k => ?_) ?_
      · simp only [laws_FnStem.j0]
        rw [if_neg (by decide)]
      · refine Ev.bind (ctxS_val n l (by omega)) ?_
        cases hc : ctxB n l with
        | false =>
          refine Ev.congr (fun k => by rw [if_neg (by decide)]) ?_
          have : sbV n l = [] := by
            unfold sbV piV
            rw [hc, if_neg (by decide)]
            rfl
          rw [this]
          exact Ev.now true
        | true =>
          refine Ev.congr (fun k => by rw [if_pos rfl]) ?_
          have hc2 := hc
          obtain ⟨m, R, rfl, hm, rfl, hR, hbd⟩ := ctxB_nat hc2
          exact stem_tail (by omega) hR hbd hc
    cases hi : isbV n2 l2 q with
    | false => exact Ev.congr (fun k => by rw [if_neg (by decide)]) hj
    | true =>
      refine Ev.congr (fun k => by rw [if_pos rfl]) ?_
      have := base_short hi
      rw [decide_eq_false (show ¬ ((q.length : Int) < ((sbV n2 l2).length : Int)) by omega)]
      exact hj
end Go.Proofs.YtafnamchckehmaaGreatDoor.Pu
