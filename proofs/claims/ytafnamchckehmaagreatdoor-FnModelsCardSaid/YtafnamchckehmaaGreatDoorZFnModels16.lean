/- What the law needs of the program's functions as plain functions, of the proofs that their calls answer so, and of plain laws: gathered by a program of this place (pack.py) out of its printed texts. No condition beyond what each statement says. -/
import Derived.Test.YtafnamchckehmaaGreatDoorZFnModels4
import Derived.Test.YtafnamchckehmaaGreatDoorZFnModels2
import Derived.Test.YtafnamchckehmaaGreatDoorZFnModels12
import Derived.Test.YtafnamchckehmaaGreatDoorZFnModels15
import Derived.Test.YtafnamchckehmaaGreatDoorZFnModels3
import Derived.Test.YtafnamchckehmaaGreatDoorZFnModels9
import Derived.Shelf.Abstract
import Derived.Test.YtafnamchckehmaaGreatDoorZFnModels14
import Derived.Test.YtafnamchckehmaaGreatDoorZFnModels10
import Derived.Test.YtafnamchckehmaaGreatDoorZFnModels5
import Derived.Test.YtafnamchckehmaaGreatDoorZFnModels6
import Derived.Test.YtafnamchckehmaaGreatDoorZFnModels8
import Derived.Test.YtafnamchckehmaaGreatDoorZFnModels13
import Derived.Test.YtafnamchckehmaaGreatDoorZFnModels11
namespace Go.Proofs.YtafnamchckehmaaGreatDoor.Pu
open Go.RowKit Go.Proofs.YtafnamchckehmaaGreatDoorW.PrintWords Go.Proofs.YtafnamchckehmaaGreatDoorW.PrintLast Go.Proofs.YtafnamchckehmaaGreatDoorW.PrintMore Go.Proofs.YtafnamchckehmaaGreatDoor.Pr
def srV (n : Int) (l : List IR) : List IR × Bool := if areV n l = true then (ruleMap (fvC l) (cast (psN n.toNat (clo (toR l)))), true) else ([], false)
theorem srV_len (n : Int) (l : List IR) : (srV n l).1.length ≤ 256 := by
  unfold srV ruleMap
  split
  · dsimp only
    rw [List.length_map, cast_length]
    exact keptN_le
  · simp
theorem srS_inner {n : Int} {l rr : List IR} (hl : l.length ≤ 40) (hany : l.all anyR = true) {s : Nat} (hs : s < 256) {a : List Nat} (ha : ∀ p ∈ a, p < 256) (hal : a.length ≤ 256) {res : List IR × Bool} :
    ∀ (rest : List Nat) (i : Nat) (f : Bool), a.drop i = rest → Ev (fun k => spec_ShortRules.l0 k n l rr (cast (if (f && rest.all (okP (clo (toR l)) s)) = true then a ++ [s] else a)) ((s + 1 : Nat) : Int)) res →
      Ev (fun k => spec_ShortRules.l1 k n l rr (cast a) (s : Int) f (i : Int)) res := by
  intro rest
  induction rest with
  | nil =>
    intro i f h hE
    have hle := drop_nil h
    refine Ev.step (fun k => ?_) hE
    simp only [spec_ShortRules.l1]
    rw [if_neg (by rw [cast_length]; omega), show wrap64 ((s : Int) + 1) = ((s + 1 : Nat) : Int) from by unfold wrap64; omega]
    cases f with
    | false => rw [if_neg (by decide), if_neg (by simp)]
    | true => rw [if_pos rfl, if_pos (by rw [cast_length]; omega), if_pos (by simp), castOne]
  | cons p rest ih =>
    intro i f h hE
    obtain ⟨hi, hx, hd⟩ := drop_cons (d := 0) h
    have hp : p < 256 := ha p (by rw [← hx, List.getD_eq_getElem?_getD, List.getElem?_eq_getElem hi]; exact List.getElem_mem _)
    have hclp : clo (toR l) p < 256 := (clo_spec (small_any hany) hp).1
    refine Ev.step (f := fun k => (spec_l9Closed.f k l (p : Int)).bind fun t => (if f = true then (if (Go.bits .and .i64 (p : Int) (s : Int)) = (p : Int) then (spec_ShortRules.l1 k n l rr (cast a) (s : Int) ((Go.bits .and .i64 t (s : Int)) == t) ((i + 1 : Nat) : Int)) else (spec_ShortRules.l1 k n l rr (cast a) (s : Int) true ((i + 1 : Nat) : Int))) else (spec_ShortRules.l1 k n l rr (cast a) (s : Int) false ((i + 1 : Nat) : Int)))) (fun k => ?_) ?_
    · simp only [spec_ShortRules.l1]
      rw [if_pos (by rw [cast_length]; omega), if_pos (by omega), rdCast, hx, wrap_succ hi (by omega)]
    refine Ev.bind (clS_val l (by omega) hany p hp) ?_
    cases f with
    | false => exact Ev.congr (fun k => by rw [if_neg (by decide)]) (ih (i + 1) false hd (by rw [Bool.false_and] at hE ⊢; exact hE))
    | true =>
      by_cases hsub : sub p s = true
      · have e : okP (clo (toR l)) s p = sub (clo (toR l) p) s := by unfold okP; rw [hsub]; rfl
        rw [Bool.true_and, List.all_cons, e] at hE
        refine Ev.congr (fun k => by rw [if_pos rfl, if_pos ((and_is' hp hs).2 hsub), show (Go.bits .and .i64 ((clo (toR l) p : Nat) : Int) (s : Int) == ((clo (toR l) p : Nat) : Int)) = sub (clo (toR l) p) s from by rw [Bool.eq_iff_iff, beq_iff_eq]; exact and_is' hclp hs]) ?_
        exact ih (i + 1) (sub (clo (toR l) p) s) hd hE
      · have e : okP (clo (toR l)) s p = true := by unfold okP; rw [Bool.not_eq_true] at hsub; rw [hsub]; rfl
        rw [Bool.true_and, List.all_cons, e, Bool.true_and] at hE
        refine Ev.congr (fun k => by rw [if_pos rfl, if_neg (fun h => hsub ((and_is' hp hs).1 h))]) ?_
        exact ih (i + 1) true hd (by rw [Bool.true_and]; exact hE)
theorem rule_oneC (fv : Int → Int) (a : List Int) (x : Int) : ruleMap fv a ++ [⟨x, fv x⟩] = ruleMap fv (a ++ [x]) := by
  unfold ruleMap
  rw [List.map_append]
  rfl
theorem srS_last {l : List IR} (hl : l.length ≤ 40) (hany : l.all anyR = true) (P : List Int) (hlen : P.length ≤ 256) (hmem : ∀ x ∈ P, ∃ s : Nat, x = (s : Int) ∧ s < 256) : ∀ (rest : List Int) (i : Nat), P.drop i = rest → Ev (fun k => spec_ShortRules.l2 k l (ruleMap (fvC l) (P.take i)) P (i : Int)) (ruleMap (fvC l) P, true) := by
  intro rest
  induction rest with
  | nil =>
    intro i h
    have := drop_nil h
    refine Ev.step (f := fun _ => some (ruleMap (fvC l) P, true)) (fun k => ?_) (Ev.now _)
    simp only [spec_ShortRules.l2]
    rw [if_neg (by omega), List.take_of_length_le this]
  | cons x rest ih =>
    intro i h
    obtain ⟨hi, hx, hd⟩ := drop_cons (d := 0) h
    have hget : P[i]? = some x := by
      rw [List.getElem?_eq_getElem hi]
      rw [List.getD_eq_getElem?_getD, List.getElem?_eq_getElem hi] at hx
      exact congrArg some hx
    obtain ⟨s, rfl, hs⟩ := hmem x (List.mem_of_getElem? hget)
    have hrd : rd P (i : Int) = (s : Int) := by
      unfold rd
      rw [Int.toNat_natCast, hx]
    have hnext := ih (i + 1) hd
    rw [List.take_add_one, hget, Option.toList_some, ← rule_oneC] at hnext
    refine Ev.step (f := fun k => (spec_l9Closed.f k l (s : Int)).bind fun t => spec_ShortRules.l2 k l (ruleMap (fvC l) (P.take i) ++ [(⟨(s : Int), t⟩ : IR)]) P ((i + 1 : Nat) : Int)) (fun k => ?_) ?_
    · simp only [spec_ShortRules.l2]
      have hl1 : (ruleMap (fvC l) (P.take i)).length ≤ 256 := by
        unfold ruleMap
        rw [List.length_map, List.length_take]
        omega
      rw [if_pos (by omega), if_pos (by omega), hrd, wrap_succ hi (by omega)]
      congr 1
      funext t
      rw [if_pos (by omega)]
    · refine Ev.bind (clS_val l (by omega) hany s hs) ?_
      have e : fvC l (s : Int) = ((clo (toR l) s : Nat) : Int) := by
        unfold fvC
        rw [Int.toNat_natCast]
      rw [e] at hnext
      exact hnext
theorem srS_val (n : Int) (l : List IR) (hlen : l.length ≤ 1048576) : Ev (fun k => spec_ShortRules.f k n l) (srV n l) := by
  unfold spec_ShortRules.f srV
  simp only [Option.bind_some]
  refine Ev.bind (areS_val n l (by omega)) ?_
  cases h : areV n l with
  | false => exact Ev.congr (fun k => by rw [if_neg (by decide), if_neg (by decide)]) (Ev.now _)
  | true =>
    obtain ⟨m, rfl, hm, hl, hany, _⟩ := areV_nat h
    have hp := pow_256 (show m ≤ 8 by omega)
    have hp1 := Nat.two_pow_pos m
    rw [Int.toNat_natCast, if_pos rfl]
    refine Ev.congr (fun k => by rw [if_pos rfl]) ?_
    refine ev_fold (g := fun k (a : List Nat) i => spec_ShortRules.l0 k (m : Int) l [] (cast a) i) (plStep (clo (toR l))) (fun i a => (∀ p ∈ a, p < i) ∧ a.length ≤ i) (N := 2 ^ m) ?_ (fun i a _ h => plStep_inv _ i a h) (2 ^ m) 0 [] (by omega) ⟨(fun p hp => by cases hp), Nat.le_refl _⟩ ?_
    · intro i a hi ha h
      refine Ev.step (f := fun k => (spec_l9Closed.f k l (i : Int)).bind fun t => if t = (i : Int) then spec_ShortRules.l0 k (m : Int) l [] (cast a) ((i + 1 : Nat) : Int) else spec_ShortRules.l1 k (m : Int) l [] (cast a) (i : Int) true 0) (fun k => ?_) ?_
      · simp only [spec_ShortRules.l0]
        rw [fullS_val, fullV_nat (by omega), Option.bind_some, if_pos (by omega), show wrap64 ((i : Int) + 1) = ((i + 1 : Nat) : Int) from by unfold wrap64; omega]
      · refine Ev.bind (clS_val l (by omega) hany i (by omega)) ?_
        by_cases e : clo (toR l) i = i
        · unfold plStep at h
          rw [decide_eq_false (fun h => h e), Bool.false_and, if_neg (by decide)] at h
          exact Ev.congr (fun k => by rw [if_pos (by rw [e])]) h
        · unfold plStep at h
          rw [decide_eq_true e] at h
          refine Ev.congr (fun k => by rw [if_neg (by omega)]) ?_
          exact srS_inner hl hany (by omega) (fun p hp => by have := ha.1 p hp; omega) (by omega) a 0 true rfl h
    · intro b hbb hinv
      rw [pl_fold] at hbb
      subst hbb
      refine Ev.step (f := fun k => (spec_SortLectic.f k (cast (pl (clo (toR l)) (2 ^ m)))).bind fun t => spec_ShortRules.l2 k l [] t 0) (fun k => ?_) ?_
      · simp only [spec_ShortRules.l0]
        rw [fullS_val, fullV_nat (by omega), Option.bind_some, if_neg (by omega)]
      · refine Ev.bind (sortS_val (fun x hx => by have := hinv.1 x hx; omega) (by omega)) ?_
        rw [lec_pl]
        refine srS_last hl hany _ (by rw [cast_length]; exact keptN_le) (fun x hx => ?_) _ 0 rfl
        unfold cast at hx
        obtain ⟨y, hy, rfl⟩ := List.mem_map.1 hx
        exact ⟨y, rfl, lt_256 (show m ≤ 8 by omega) ((mem_keptN (by omega)).1 hy).1⟩
end Go.Proofs.YtafnamchckehmaaGreatDoor.Pu
namespace Go.Proofs.YtafnamchckehmaaGreatDoor.Pu
open Go.RowKit Go.Proofs.YtafnamchckehmaaGreatDoorW.PrintWords Go.Proofs.YtafnamchckehmaaGreatDoorW.PrintLast Go.Proofs.YtafnamchckehmaaGreatDoorW.PrintMore Go.Proofs.YtafnamchckehmaaGreatDoor.Pr
def sbV (n : Int) (l : List Int) : List IR := ruleMap (fvS n l) (piV n l)
theorem rule_oneS (fv : Int → Int) (a : List Int) (x : Int) : ruleMap fv a ++ [⟨x, fv x⟩] = ruleMap fv (a ++ [x]) := by
  unfold ruleMap
  rw [List.map_append]
  rfl
theorem stS_val {m : Nat} (hm : m ≤ 6) {R : List Nat} (hR : R.length ≤ 8) (hrow : ∀ i, row R i < 256) : Ev (fun k => spec_l10Stem.f k (m : Int) (cast R)) (ruleMap (fvS (m : Int) (cast R)) (cast (psN m (cl m R)))) := by
  unfold spec_l10Stem.f
  refine Ev.bind (psS_val hm hR hrow) ?_
  have hlen : (cast (psN m (cl m R))).length ≤ 256 := by rw [cast_length]; exact keptN_le
  have hmem : ∀ x ∈ cast (psN m (cl m R)), ∃ s : Nat, x = (s : Int) ∧ s < 256 := fun x hx => by
    unfold cast at hx
    obtain ⟨y, hy, rfl⟩ := List.mem_map.1 hx
    exact ⟨y, rfl, lt_256 (show m ≤ 8 by omega) ((mem_keptN (by omega)).1 hy).1⟩
  generalize cast (psN m (cl m R)) = P at hlen hmem ⊢
  have loop : ∀ (rest : List Int) (i : Nat), P.drop i = rest → Ev (fun k => spec_l10Stem.l0 k (ruleMap (fvS (m : Int) (cast R)) (P.take i)) P (i : Int) (m : Int) (cast R)) (ruleMap (fvS (m : Int) (cast R)) P) := by
    intro rest
    induction rest with
    | nil =>
      intro i h
      have := drop_nil h
      refine Ev.step (f := fun _ => some (ruleMap (fvS (m : Int) (cast R)) P)) (fun k => ?_) (Ev.now _)
      simp only [spec_l10Stem.l0]
      rw [if_neg (by omega), List.take_of_length_le this]
    | cons x rest ih =>
      intro i h
      obtain ⟨hi, hx, hd⟩ := drop_cons (d := 0) h
      have hget : P[i]? = some x := by
        rw [List.getElem?_eq_getElem hi]
        rw [List.getD_eq_getElem?_getD, List.getElem?_eq_getElem hi] at hx
        exact congrArg some hx
      obtain ⟨s, rfl, hs⟩ := hmem x (List.mem_of_getElem? hget)
      have hrd : rd P (i : Int) = (s : Int) := by
        unfold rd
        rw [Int.toNat_natCast, hx]
      have hnext := ih (i + 1) hd
      rw [List.take_add_one, hget, Option.toList_some, ← rule_oneS] at hnext
      refine Ev.step (f := fun k => (spec_l4Closure.f k (m : Int) (cast R) (s : Int)).bind fun t => spec_l10Stem.l0 k (ruleMap (fvS (m : Int) (cast R)) (P.take i) ++ [(⟨(s : Int), t⟩ : IR)]) P ((i + 1 : Nat) : Int) (m : Int) (cast R)) (fun k => ?_) ?_
      · simp only [spec_l10Stem.l0]
        have hl1 : (ruleMap (fvS (m : Int) (cast R)) (P.take i)).length ≤ 256 := by
          unfold ruleMap
          rw [List.length_map, List.length_take]
          omega
        rw [if_pos (by omega), if_pos (by omega), hrd, wrap_succ hi (by omega)]
        congr 1
        funext t
        rw [if_pos (by omega)]
      · refine Ev.bind (clS4_val m (by omega) R hR hrow s hs) ?_
        have e : fvS (m : Int) (cast R) (s : Int) = ((cl m R s : Nat) : Int) := by
          unfold fvS
          rw [Int.toNat_natCast, Int.toNat_natCast, uncast]
        rw [e] at hnext
        exact hnext
  exact loop P 0 rfl
theorem sbS_val (n : Int) (l : List Int) (hl : l.length ≤ 1048576) : Ev (fun k => spec_StemBase.f k n l) (sbV n l) := by
  unfold spec_StemBase.f sbV piV
  refine Ev.bind (ctxS_val n l (by omega)) ?_
  cases hc : ctxB n l with
  | false => exact Ev.congr (fun k => by rw [if_neg (by decide), if_neg (by decide)]; rfl) (Ev.now _)
  | true =>
    obtain ⟨m, R, rfl, hm, rfl, hR, hb⟩ := ctxB_nat hc
    have hrow := fun i => lt_256 (show m ≤ 8 by omega) (row_lt hb i)
    rw [Int.toNat_natCast, uncast, if_pos rfl]
    refine Ev.congr (fun k => by rw [if_pos rfl]) ?_
    exact Ev.bind (stS_val hm hR hrow) (Ev.now _)
end Go.Proofs.YtafnamchckehmaaGreatDoor.Pu
namespace Go.Proofs.YtafnamchckehmaaGreatDoor.Pu
open Go.RowKit Go.Proofs.YtafnamchckehmaaGreatDoorW.PrintWords Go.Proofs.YtafnamchckehmaaGreatDoorW.PrintLast Go.Proofs.YtafnamchckehmaaGreatDoorW.PrintMore Go.Proofs.YtafnamchckehmaaGreatDoor.Pr
theorem same2_loop (l : List Int) (hl : l.length ≤ 9223372036854775807) : ∀ (rest : List Int) (i : Nat), l.drop i = rest → Ev (fun k => spec_l2Same.l0 k l l (i : Int)) true := by
  intro rest
  induction rest with
  | nil =>
    intro i h
    have := drop_nil h
    refine Ev.step (f := fun _ => some true) (fun k => ?_) (Ev.now _)
    simp only [spec_l2Same.l0]
    rw [if_neg (by omega)]
  | cons x rest ih =>
    intro i h
    obtain ⟨hi, hx, hd⟩ := drop_cons (d := 0) h
    refine Ev.step (fun k => ?_) (ih (i + 1) hd)
    simp only [spec_l2Same.l0]
    rw [if_pos (by omega), if_pos (by omega), if_pos (by omega), if_pos trivial, wrap_succ hi hl]
theorem eqCtx_self (n : Int) (l : List Int) (hl : l.length ≤ 9223372036854775807) : Ev (fun k => spec_EqualContext.f k n l n l) true := by
  unfold spec_EqualContext.f spec_l2Same.f
  refine Ev.congr (fun k => by rw [if_pos rfl, if_pos rfl]) ?_
  exact Ev.bind (same2_loop l hl l 0 rfl) (Ev.now _)
theorem intents_con {m : Nat} {R : List Nat} (hc : ctxB (m : Int) (cast R) = true) : (conV (m : Int) (cast R)).map (·.f1) = cast (keptN m (closedQ m R)) := by
  rw [conV_nat hc]
  unfold conN cast
  rw [List.map_map]
  rfl
theorem fam_ctx {n : Int} {l : List Int} (h : (cofV n l).2.2 = true) : (conV (cofV n l).1 (cofV n l).2.1).map (·.f1) = l := by
  unfold cofV at h ⊢
  cases hf : famV n l with
  | false => rw [hf, if_neg (by decide)] at h; cases h
  | true =>
    rw [hf, if_pos rfl] at h
    rw [if_pos rfl]
    by_cases h8 : ((irV (l.map Int.toNat) n.toNat).length : Int) > 8
    · rw [if_pos h8] at h; cases h
    · rw [if_neg h8]
      have hf2 := hf
      obtain ⟨m, L, rfl, hm, rfl, hlt⟩ := famV_nat hf2
      rw [uncast, Int.toNat_natCast] at h8 ⊢
      obtain ⟨F, hs⟩ := famV_fam hm hf
      have hc := ctxB_mk hm (R := irV L m) (by omega) fun r hr => hlt r (mem_irV.1 hr).1
      dsimp only
      rw [intents_con hc]
      exact congrArg cast (fam_list (show m ≤ 8 by omega) F hs)
theorem mod_fam {m : Nat} (hm : m ≤ 8) {q : List IR} (h : within m (toR q)) : Fam m (modN m q) ∧ lecS (modN m q) := ⟨clos_fam hm (clos_clo hm h), kept_sorted m _⟩
theorem are_within {m : Nat} {q : List IR} (hw : ∀ r ∈ q, (toP r).1 < 2 ^ m ∧ (toP r).2 < 2 ^ m) : within m (toR q) := fun r hr => by
  obtain ⟨x, hx, rfl⟩ := List.mem_map.1 hr
  exact hw x hx
theorem rules_ctx {n : Int} {q : List IR} (h : (corV n q).2.2 = true) : (conV (corV n q).1 (corV n q).2.1).map (·.f1) = (modV n q).1 ∧ sbV (corV n q).1 (corV n q).2.1 = (srV n q).1 := by
  have ha : areV n q = true := by
    cases ha : areV n q with
    | true => rfl
    | false =>
      unfold corV irmV at h
      rw [ha] at h
      simp at h
  have ha2 := ha
  obtain ⟨m, rfl, hm, hlen, hany, hw⟩ := areV_nat ha2
  have hin := are_within hw
  obtain ⟨F, hs⟩ := mod_fam (show m ≤ 8 by omega) hin
  unfold corV irmV at h ⊢
  rw [ha, if_pos rfl] at h ⊢
  dsimp only at h ⊢
  rw [if_pos rfl, Int.toNat_natCast, cast_length] at h ⊢
  by_cases h8 : ((irV (modN m q) m).length : Int) > 8
  · rw [if_pos h8] at h; cases h
  · rw [if_neg h8]
    dsimp only
    have hc := ctxB_mk hm (R := irV (modN m q) m) (by omega) fun r hr => F.lt r (mem_irV.1 hr).1
    constructor
    · rw [intents_con hc]
      unfold modV
      rw [ha, if_pos rfl, Int.toNat_natCast]
      exact congrArg cast (fam_list (show m ≤ 8 by omega) F hs)
    · have hcl : ∀ s, s < 2 ^ m → cl m (irV (modN m q) m) s = clo (toR q) s := by
        refine clos_eq (clos_cl m _) (clos_clo (show m ≤ 8 by omega) hin) fun s hs' => ?_
        rw [fam_iff F hs']
        unfold modN
        rw [mem_keptN (show m ≤ 8 by omega)]
        unfold modQ
        rw [decide_eq_true_iff]
        exact ⟨fun k => k.2, fun k => ⟨hs', k⟩⟩
      unfold sbV piV srV
      rw [hc, if_pos rfl, ha, if_pos rfl, Int.toNat_natCast, uncast]
      dsimp only
      rw [psN_congr hcl]
      unfold ruleMap
      refine List.map_congr_left fun x hx => ?_
      obtain ⟨s, hs', rfl⟩ := List.mem_map.1 (show x ∈ (psN m (clo (toR q))).map fun (x : Nat) => (x : Int) from hx)
      have := hcl s ((mem_keptN (show m ≤ 8 by omega)).1 hs').1
      unfold fvS fvC
      rw [Int.toNat_natCast, Int.toNat_natCast, uncast, this]
theorem models_j1 (n : Int) (q : List IR) (hq : q.length ≤ 1048576) : Ev (fun k => laws_FnModels.j1 k n q (corV n q).2.2 (modV n q).1 false (corV n q).1 (corV n q).2.1) true := by
  have hcl := corV_len n q
  have hml := modV_len n q
  have hsl := srV_len n q
  refine Ev.step (f := fun k => (spec_ShortRules.f k n q).bind fun bt731 => (if (corV n q).2.2 = true then ((spec_Concepts.f k (corV n q).1 (corV n q).2.1).bind fun t735 => ((laws_intents.f k t735).bind fun t738 => ((laws_sameInts.f k t738 (modV n q).1).bind fun t741 => (if t741 = true then ((spec_StemBase.f k (corV n q).1 (corV n q).2.1).bind fun t742 => ((laws_sameRules.f k t742 bt731.1).bind fun t745 => (some t745))) else (some false))))) else (some true))) (fun k => ?_) ?_
  · simp only [laws_FnModels.j1]
    rw [if_neg (by decide)]
  · refine Ev.bind (srS_val n q hq) ?_
    by_cases hok : (corV n q).2.2 = true
    · obtain ⟨k1, k2⟩ := rules_ctx hok
      refine Ev.congr (fun k => by rw [if_pos hok]) ?_
      refine Ev.bind (conS_val _ _ (by omega)) ?_
      refine Ev.bind (intents_val _ (conV_len _ _)) ?_
      rw [k1]
      refine Ev.bind (sameI_self _ (by omega)) ?_
      refine Ev.congr (fun k => by rw [if_pos rfl]) ?_
      refine Ev.bind (sbS_val _ _ (by omega)) ?_
      rw [k2]
      exact Ev.bind (sameR_self _ (by omega)) (Ev.now _)
    · exact Ev.congr (fun k => by rw [if_neg hok]) (Ev.now true)
theorem models_j0 (n : Int) (q : List IR) (hq : q.length ≤ 1048576) (n2 : Int) (l : List Int) (hl : l.length ≤ 1048576) : Ev (fun k => laws_FnModels.j0 k n q (corV n q).2.2 (modV n q).1 (modV n q).2 l (cofV n2 l).2.2 false (corV n q).1 (corV n q).2.1 (cofV n2 l).1 (cofV n2 l).2.1) true := by
  have hj := models_j1 n q hq
  have hcl := cofV_len n2 l
  have hml := modV_len n q
  have two : Ev (fun k => if (cofV n2 l).2.2 = true then ((spec_Concepts.f k (cofV n2 l).1 (cofV n2 l).2.1).bind fun t717 => ((laws_intents.f k t717).bind fun t720 => ((laws_sameInts.f k t720 l).bind fun t723 => (laws_FnModels.j1 k n q (corV n q).2.2 (modV n q).1 (!t723) (corV n q).1 (corV n q).2.1)))) else (laws_FnModels.j1 k n q (corV n q).2.2 (modV n q).1 false (corV n q).1 (corV n q).2.1)) true := by
    by_cases h3 : (cofV n2 l).2.2 = true
    · refine Ev.congr (fun k => by rw [if_pos h3]) ?_
      refine Ev.bind (conS_val _ _ (by omega)) ?_
      refine Ev.bind (intents_val _ (conV_len _ _)) ?_
      rw [fam_ctx h3]
      refine Ev.bind (sameI_self _ (by omega)) ?_
      exact hj
    · exact Ev.congr (fun k => by rw [if_neg h3]) hj
  cases ha : areV n q with
  | false =>
    have e : (modV n q).2 = false := by unfold modV; rw [ha, if_neg (by decide)]
    refine Ev.step (fun k => ?_) two
    simp only [laws_FnModels.j0]
    rw [if_neg (by decide), if_neg (by rw [e]; decide)]
  | true =>
    have e : (modV n q).2 = true := by unfold modV; rw [ha, if_pos rfl]
    have hfam : famV n (modV n q).1 = true := by
      unfold modV
      rw [ha, if_pos rfl]
      obtain ⟨m, rfl, hm, hlen, hany, hw⟩ := areV_nat ha
      obtain ⟨F, hs⟩ := mod_fam (show m ≤ 8 by omega) (are_within hw)
      rw [Int.toNat_natCast]
      exact fam_famV hm F hs
    refine Ev.step (f := fun k => (impl_IsClosureFamily.f k n (modV n q).1).bind fun t716 => (if t716 = true then (if (cofV n2 l).2.2 = true then ((spec_Concepts.f k (cofV n2 l).1 (cofV n2 l).2.1).bind fun t717 => ((laws_intents.f k t717).bind fun t720 => ((laws_sameInts.f k t720 l).bind fun t723 => (laws_FnModels.j1 k n q (corV n q).2.2 (modV n q).1 (!t723) (corV n q).1 (corV n q).2.1)))) else (laws_FnModels.j1 k n q (corV n q).2.2 (modV n q).1 false (corV n q).1 (corV n q).2.1)) else (laws_FnModels.j1 k n q (corV n q).2.2 (modV n q).1 true (corV n q).1 (corV n q).2.1))) (fun k => ?_) ?_
    · simp only [laws_FnModels.j0]
      rw [if_neg (by decide), if_pos (by rw [e])]
    · refine Ev.bind (famI_val n _ (by omega)) ?_
      rw [hfam]
      exact Ev.congr (fun k => by rw [if_pos rfl]) two
theorem FnModels (l0 : List Int) (_ : l0.length ≤ 9223372036854775807) (_ : ∀ x ∈ l0, (Lit.int .u8 x).wf = true) : ∃ k, laws_FnModels.f k l0 = some true := by
  apply Ev.rounds
  unfold laws_FnModels.f laws_big.f
  simp only [Option.bind_some]
  by_cases hbig : (l0.length : Int) > 1048576
  · exact Ev.congr (fun k => by rw [if_pos (decide_eq_true hbig)]) (Ev.now true)
  · have hb : l0.length ≤ 1048576 := by omega
    refine Ev.congr (fun k => by rw [if_neg (by simpa using hbig)]) ?_
    obtain ⟨⟨n, q⟩, e1, hq⟩ := areRules_ex l0 hb
    dsimp only at hq
    obtain ⟨⟨n2, l⟩, e2, hl⟩ := fam13_ex l0 hb
    dsimp only at hl
    have d1 : Ev (fun k => spec_DrawContextOfRules.f k l0) (n, q) := by unfold spec_DrawContextOfRules.f; exact Ev.bind e1 (Ev.now _)
    have d2 : Ev (fun k => spec_DrawContextOfFamily.f k l0) (n2, l) := by unfold spec_DrawContextOfFamily.f; exact Ev.bind e2 (Ev.now _)
    have h1 := corV_len n q
    have h2 := modV_len n q
    have h3 := irmV_len n q
    have h4 := cofV_len n2 l
    refine Ev.bind d1 ?_
    dsimp only
    refine Ev.bind (corI_val n q (by omega)) ?_
    refine Ev.bind (corS_val n q (by omega)) ?_
    refine Ev.bind (modI_val n q (by omega)) ?_
    refine Ev.bind (modS_val n q (by omega)) ?_
    refine Ev.bind (irmI_val n q (by omega)) ?_
    refine Ev.bind (irmS_val n q (by omega)) ?_
    refine Ev.bind d2 ?_
    dsimp only
    refine Ev.bind (cofI_val n2 l (by omega)) ?_
    refine Ev.bind (cofS_val n2 l (by omega)) ?_
    refine Ev.congr (fun k => by rw [if_neg (by simp)]) ?_
    refine Ev.bind (eqCtx_self _ _ (by omega)) ?_
    refine Ev.congr (fun k => by rw [if_pos rfl, if_neg (by simp)]) ?_
    refine Ev.bind (sameI_self _ (by omega)) ?_
    refine Ev.congr (fun k => by rw [if_pos rfl, if_neg (by simp)]) ?_
    refine Ev.bind (sameI_self _ (by omega)) ?_
    refine Ev.congr (fun k => by rw [if_pos rfl, if_neg (by simp)]) ?_
    refine Ev.bind (eqCtx_self _ _ (by omega)) ?_
    refine Ev.congr (fun k => by rw [if_pos rfl]) ?_
    refine Ev.bind (famI_val n2 l (by omega)) ?_
    refine Ev.bind (famS_val n2 l (by omega)) ?_
    rw [show (famV n2 l != famV n2 l) = false by simp]
    exact models_j0 n q (by omega) n2 l (by omega)
end Go.Proofs.YtafnamchckehmaaGreatDoor.Pu
