/- What the law needs of the program's functions as plain functions, of the proofs that their calls answer so, and of plain laws: gathered by a program of this place (pack.py) out of its printed texts. No condition beyond what each statement says. -/
import Derived.Test.YtafnamchckehmaaGreatDoorZFnDirect8
import Derived.Test.YtafnamchckehmaaGreatDoorZFnDirect13
import Derived.Test.YtafnamchckehmaaGreatDoorZFnDirect12
import Derived.Test.YtafnamchckehmaaGreatDoorZFnDirect9
import Derived.Test.YtafnamchckehmaaGreatDoorZFnDirect2
import Derived.Test.YtafnamchckehmaaGreatDoorZFnDirect10
import Derived.Test.YtafnamchckehmaaGreatDoorZFnDirect11
import Derived.Test.YtafnamchckehmaaGreatDoorZFnDirect6
import Derived.Shelf.Abstract
import Derived.Test.YtafnamchckehmaaGreatDoorZFnDirect5
import Derived.Test.YtafnamchckehmaaGreatDoorZFnDirect3
import Derived.Test.YtafnamchckehmaaGreatDoorZFnDirect7
namespace Go.Proofs.YtafnamchckehmaaGreatDoor.Pu
open Go.RowKit Go.Proofs.YtafnamchckehmaaGreatDoorW.PrintWords Go.Proofs.YtafnamchckehmaaGreatDoorW.PrintLast Go.Proofs.YtafnamchckehmaaGreatDoorW.PrintMore Go.Proofs.YtafnamchckehmaaGreatDoor.Pr
def dbV (n : Int) (l : List Int) : List IR := ruleMap (fvD n l) (ppV n l)
theorem dbV_len (n : Int) (l : List Int) : (dbV n l).length ≤ 256 := by
  unfold dbV ruleMap
  rw [List.length_map]
  exact ppV_len n l
theorem ppV_ok (n : Int) (l : List Int) : okD (ppV n l) n l := by
  have hlen := ppV_len n l
  refine ⟨by omega, ?_, ?_⟩
  · unfold ppV
    cases hc : ctxB n l with
    | false => rw [if_neg (by decide)]; rfl
    | true =>
      obtain ⟨m, R, rfl, hm, rfl, _, _⟩ := ctxB_nat hc
      rw [if_pos rfl, Int.toNat_natCast, List.all_eq_true]
      intro x hx
      unfold cast at hx
      obtain ⟨y, hy, rfl⟩ := List.mem_map.1 hx
      exact isSetB_mk (by omega) ((mem_keptN (by omega)).1 hy).1
  · unfold ppV
    cases hc : ctxB n l with
    | false => rw [if_neg (by decide)]; exact Or.inl rfl
    | true => exact Or.inr rfl
theorem dbI_val (n : Int) (l : List Int) : Ev (fun k => impl_DirectBase.f k n l) (dbV n l) := by
  unfold impl_DirectBase.f
  refine Ev.bind (ppI_val n l) ?_
  unfold impl_DirectBase_rulesTo0.f
  rw [if_pos (ppV_ok n l)]
  exact Ev.now _
theorem rule_one (fv : Int → Int) (a : List Int) (x : Int) : ruleMap fv a ++ [⟨x, fv x⟩] = ruleMap fv (a ++ [x]) := by
  unfold ruleMap
  rw [List.map_append]
  rfl
theorem dbS_val (n : Int) (l : List Int) (hl : l.length ≤ 1048576) : Ev (fun k => spec_DirectBase.f k n l) (dbV n l) := by
  have hok := ppV_ok n l
  have hlen := ppV_len n l
  unfold spec_DirectBase.f dbV
  refine Ev.bind (ppS_val n l hl) ?_
  generalize ppV n l = P at hok hlen ⊢
  have loop : ∀ (rest : List Int) (i : Nat), P.drop i = rest → Ev (fun k => spec_DirectBase.l0 k (ruleMap (fvD n l) (P.take i)) P (i : Int) n l) (ruleMap (fvD n l) P) := by
    intro rest
    induction rest with
    | nil =>
      intro i h
      have := drop_nil h
      refine Ev.step (f := fun _ => some (ruleMap (fvD n l) P)) (fun k => ?_) (Ev.now _)
      simp only [spec_DirectBase.l0]
      rw [if_neg (by omega), List.take_of_length_le this]
    | cons x rest ih =>
      intro i h
      obtain ⟨hi, hx, hd⟩ := drop_cons (d := 0) h
      have hmem : x ∈ P := by
        rw [← hx, List.getD_eq_getElem?_getD, List.getElem?_eq_getElem hi]
        exact List.getElem_mem _
      have hnew : Ev (fun k => spec_l12New.f k n l x) (fvD n l x) := by
        obtain ⟨m, R, s, rfl, hm, rfl, hR, hbd, rfl, hs, _⟩ := okD_nat hok hmem
        unfold fvD
        rw [Int.toNat_natCast, Int.toNat_natCast, uncast]
        exact newS_val hm hR hbd hs
      have ht : P.take (i + 1) = P.take i ++ [x] := by
        rw [List.take_succ_eq_append_getElem hi]
        congr 2
        rw [← hx, List.getD_eq_getElem?_getD, List.getElem?_eq_getElem hi]
        rfl
      have hnext := ih (i + 1) hd
      rw [ht, ← rule_one] at hnext
      refine Ev.step (f := fun k => (spec_l12New.f k n l x).bind fun t => spec_DirectBase.l0 k (ruleMap (fvD n l) (P.take i) ++ [⟨x, t⟩]) P ((i + 1 : Nat) : Int) n l) (fun k => ?_) ?_
      · simp only [spec_DirectBase.l0]
        have hlt : (ruleMap (fvD n l) (P.take i)).length < 8796093022208 := by
          unfold ruleMap
          rw [List.length_map, List.length_take]
          omega
        simp only [if_pos hlt]
        rw [if_pos (by omega), if_pos (by omega), rd_nat, hx, wrap_succ hi (by omega)]
      · exact Ev.bind hnew hnext
  exact loop P 0 rfl
end Go.Proofs.YtafnamchckehmaaGreatDoor.Pu
namespace Go.Proofs.YtafnamchckehmaaGreatDoor.Pu
open Go.RowKit Go.Proofs.YtafnamchckehmaaGreatDoorW.PrintWords Go.Proofs.YtafnamchckehmaaGreatDoorW.PrintLast Go.Proofs.YtafnamchckehmaaGreatDoorW.PrintMore Go.Proofs.YtafnamchckehmaaGreatDoor.Pr
def sbV (n : Int) (l : List Int) : List IR := ruleMap (fvS n l) (piV n l)
theorem sbV_len (n : Int) (l : List Int) : (sbV n l).length ≤ 256 := by
  unfold sbV ruleMap
  rw [List.length_map]
  exact piV_len n l
theorem rule_oneS (fv : Int → Int) (a : List Int) (x : Int) : ruleMap fv a ++ [⟨x, fv x⟩] = ruleMap fv (a ++ [x]) := by
  unfold ruleMap
  rw [List.map_append]
  rfl
theorem stS_val {m : Nat} (hm : m ≤ 6) {R : List Nat} (hR : R.length ≤ 8) (hrow : ∀ i, row R i < 256) : Ev (fun k => spec_l10Stem.f k (m : Int) (cast R)) (ruleMap (fvS (m : Int) (cast R)) (cast (psN m (cl m R)))) := by
  unfold spec_l10Stem.f
  refine Ev.bind (psS_val hm hR hrow) ?_
  have hlen : (cast (psN m (cl m R))).length ≤ 256 := by rw [cast_length]; exact keptN_le
  have hmem : ∀ x ∈ cast (psN m (cl m R)), ∃ s : Nat, x = (s : Int) ∧ s < 256 := fun x hx => by
    unfold cast at hx
    obtain ⟨y, hy, rfl⟩ := List.mem_map.1 hx
    exact ⟨y, rfl, lt_256 (show m ≤ 8 by omega) ((mem_keptN (by omega)).1 hy).1⟩
  generalize cast (psN m (cl m R)) = P at hlen hmem ⊢
  have loop : ∀ (rest : List Int) (i : Nat), P.drop i = rest → Ev (fun k => spec_l10Stem.l0 k (ruleMap (fvS (m : Int) (cast R)) (P.take i)) P (i : Int) (m : Int) (cast R)) (ruleMap (fvS (m : Int) (cast R)) P) := by
    intro rest
    induction rest with
    | nil =>
      intro i h
      have := drop_nil h
      refine Ev.step (f := fun _ => some (ruleMap (fvS (m : Int) (cast R)) P)) (fun k => ?_) (Ev.now _)
      simp only [spec_l10Stem.l0]
      rw [if_neg (by omega), List.take_of_length_le this]
    | cons x rest ih =>
      intro i h
      obtain ⟨hi, hx, hd⟩ := drop_cons (d := 0) h
      have hget : P[i]? = some x := by
        rw [List.getElem?_eq_getElem hi]
        rw [List.getD_eq_getElem?_getD, List.getElem?_eq_getElem hi] at hx
        exact congrArg some hx
      obtain ⟨s, rfl, hs⟩ := hmem x (List.mem_of_getElem? hget)
      have hrd : rd P (i : Int) = (s : Int) := by
        unfold rd
        rw [Int.toNat_natCast, hx]
      have hnext := ih (i + 1) hd
      rw [List.take_add_one, hget, Option.toList_some, ← rule_oneS] at hnext
      refine Ev.step (f := fun k => (spec_l4Closure.f k (m : Int) (cast R) (s : Int)).bind fun t => spec_l10Stem.l0 k (ruleMap (fvS (m : Int) (cast R)) (P.take i) ++ [(⟨(s : Int), t⟩ : IR)]) P ((i + 1 : Nat) : Int) (m : Int) (cast R)) (fun k => ?_) ?_
      · simp only [spec_l10Stem.l0]
        have hl1 : (ruleMap (fvS (m : Int) (cast R)) (P.take i)).length ≤ 256 := by
          unfold ruleMap
          rw [List.length_map, List.length_take]
          omega
        rw [if_pos (by omega), if_pos (by omega), hrd, wrap_succ hi (by omega)]
        congr 1
        funext t
        rw [if_pos (by omega)]
      · refine Ev.bind (clS4_val m (by omega) R hR hrow s hs) ?_
        have e : fvS (m : Int) (cast R) (s : Int) = ((cl m R s : Nat) : Int) := by
          unfold fvS
          rw [Int.toNat_natCast, Int.toNat_natCast, uncast]
        rw [e] at hnext
        exact hnext
  exact loop P 0 rfl
theorem sbS_val (n : Int) (l : List Int) (hl : l.length ≤ 1048576) : Ev (fun k => spec_StemBase.f k n l) (sbV n l) := by
  unfold spec_StemBase.f sbV piV
  refine Ev.bind (ctxS_val n l (by omega)) ?_
  cases hc : ctxB n l with
  | false => exact Ev.congr (fun k => by rw [if_neg (by decide), if_neg (by decide)]; rfl) (Ev.now _)
  | true =>
    obtain ⟨m, R, rfl, hm, rfl, hR, hb⟩ := ctxB_nat hc
    have hrow := fun i => lt_256 (show m ≤ 8 by omega) (row_lt hb i)
    rw [Int.toNat_natCast, uncast, if_pos rfl]
    refine Ev.congr (fun k => by rw [if_pos rfl]) ?_
    exact Ev.bind (stS_val hm hR hrow) (Ev.now _)
end Go.Proofs.YtafnamchckehmaaGreatDoor.Pu
namespace Go.Proofs.YtafnamchckehmaaGreatDoor.Pu
open Go.RowKit Go.Proofs.YtafnamchckehmaaGreatDoorW.PrintWords Go.Proofs.YtafnamchckehmaaGreatDoorW.PrintLast Go.Proofs.YtafnamchckehmaaGreatDoorW.PrintMore Go.Proofs.YtafnamchckehmaaGreatDoor.Pr
theorem dbV_nat {m : Nat} {R : List Nat} (hc : ctxB (m : Int) (cast R) = true) : dbV (m : Int) (cast R) = ruleMap (fvD (m : Int) (cast R)) (cast (ppN m R)) := by
  unfold dbV ppV
  rw [hc, if_pos rfl, Int.toNat_natCast, uncast]
theorem fvD_nat (m : Nat) (R : List Nat) (s : Nat) : fvD (m : Int) (cast R) (s : Int) = ((newN m R s : Nat) : Int) := by
  unfold fvD
  rw [Int.toNat_natCast, Int.toNat_natCast, uncast]
theorem toR_db {m : Nat} {R : List Nat} (hc : ctxB (m : Int) (cast R) = true) : toR (dbV (m : Int) (cast R)) = dbR m R := by
  rw [dbV_nat hc]
  exact toR_map fun s _ => fvD_nat m R s
theorem db_any {m : Nat} (hm : m ≤ 6) {R : List Nat} (hc : ctxB (m : Int) (cast R) = true) : (dbV (m : Int) (cast R)).all anyR = true := by
  rw [dbV_nat hc]
  refine any_map (f := newN m R) (fun s _ => fvD_nat m R s) fun s hs => ⟨lt_256 (show m ≤ 8 by omega) ((mem_keptN (show m ≤ 8 by omega)).1 hs).1, lt_256 (show m ≤ 8 by omega) (newN_lt R s)⟩
theorem isdir_ex (b : List Int) (hb : b.length ≤ 1048576) : ∃ v : Int × List IR, Ev (fun k => spec_DrawIsDirect.f k b) v ∧ v.2.length ≤ 256 := by
  obtain ⟨h1, e1⟩ := new_ex b hb
  obtain ⟨⟨n, l, i2, h2⟩, e2, _, hl, k2⟩ := draw3_ex b hb 0 h1 (by decide)
  dsimp only at hl k2
  obtain ⟨o, i3, h3, eo, k3⟩ := once_ex b hb i2 h2 k2 2
  have go : ∀ w, Ev (fun k => if o = true then ((spec_StemBase.f k n l).bind fun t => (some (n, t))) else ((spec_l1Once.f b i3 h3 3).bind fun bt => (if bt.1 = true then ((spec_l9Bent.f k b bt.2.1 bt.2.2 n).bind fun bu => (some (n, bu.1))) else ((spec_DirectBase.f k n l).bind fun t => (some (n, t)))))) w → Ev (fun k => spec_DrawIsDirect.f k b) w := by
    intro w hw
    unfold spec_DrawIsDirect.f
    refine Ev.bind e1 (Ev.bind e2 ?_)
    dsimp only
    refine Ev.congr (fun k => ?_) hw
    rw [eo, Option.bind_some]
  cases o with
  | true =>
    refine ⟨(n, sbV n l), go _ (Ev.congr (fun k => by rw [if_pos rfl]) (Ev.bind (sbS_val n l (by omega)) (Ev.now _))), sbV_len n l⟩
  | false =>
    obtain ⟨o2, i4, h4, eo2, k4⟩ := once_ex b hb i3 h3 k3 3
    cases o2 with
    | true =>
      obtain ⟨⟨q, i5, h5⟩, e5, hq, _⟩ := bent9_ex b hb i4 h4 k4 n
      dsimp only at hq
      have e6 : Ev (fun k => (spec_l9Bent.f k b i4 h4 n).bind fun bu => (some (n, bu.1))) (n, q) := Ev.bind e5 (Ev.now _)
      refine ⟨(n, q), go _ (Ev.congr (fun k => ?_) e6), by dsimp only; omega⟩
      rw [if_neg (by decide), eo2, Option.bind_some]
      dsimp only
      rw [if_pos rfl]
    | false =>
      have e6 : Ev (fun k => (spec_DirectBase.f k n l).bind fun t => (some (n, t))) (n, dbV n l) := Ev.bind (dbS_val n l (by omega)) (Ev.now _)
      refine ⟨(n, dbV n l), go _ (Ev.congr (fun k => ?_) e6), dbV_len n l⟩
      rw [if_neg (by decide), eo2, Option.bind_some]
      dsimp only
      rw [if_neg (by decide)]
theorem dir_tail {m : Nat} (hm : m ≤ 6) {R : List Nat} (hR : R.length ≤ 8) (hb : ∀ r ∈ R, r < 2 ^ m) (hc : ctxB (m : Int) (cast R) = true) : Ev (fun k => laws_FnDirect.l0 k (dbV (m : Int) (cast R)) 0 (m : Int) (cast R)) true := by
  have hp := pow_256 (show m ≤ 8 by omega)
  have hp1 := Nat.two_pow_pos m
  have hlen := dbV_len (m : Int) (cast R)
  refine ev_fold (g := fun k (_ : Unit) i => laws_FnDirect.l0 k (dbV (m : Int) (cast R)) i (m : Int) (cast R)) (fun _ a => a) (fun _ _ => True) (N := 2 ^ m) ?_ (fun _ _ _ _ => trivial) (2 ^ m) 0 () (by omega) trivial ?_
  · intro i _ hi _ h
    refine Ev.step (f := fun k => (spec_IsContext.f k (m : Int) (cast R)).bind fun t => laws_FnDirect.j2 k (dbV (m : Int) (cast R)) (i : Int) t (m : Int) (cast R)) (fun k => ?_) ?_
    · simp only [laws_FnDirect.l0]
      rw [fullS_val, fullV_nat (by omega), Option.bind_some, if_pos (by omega)]
    · refine Ev.bind (ctxS_val _ _ (by rw [cast_length]; omega)) ?_
      rw [hc]
      refine Ev.step (f := fun k => (impl_OneStep.f k (dbV (m : Int) (cast R)) (i : Int)).bind fun t => ((spec_ClosureOf.f k (m : Int) (cast R) (i : Int)).bind fun u => if t = u then laws_FnDirect.l0 k (dbV (m : Int) (cast R)) ((i + 1 : Nat) : Int) (m : Int) (cast R) else some false)) (fun k => ?_) ?_
      · simp only [laws_FnDirect.j2]
        rw [if_pos trivial, show wrap64 ((i : Int) + 1) = ((i + 1 : Nat) : Int) from by unfold wrap64; omega]
      · refine Ev.bind (oneI_val _ (by omega) (i : Int)) ?_
        refine Ev.bind (clofS_val hm hR hb hc hi) ?_
        rw [stepV_nat (db_any hm hc) (by omega), toR_db hc, step_db (by omega) R hi]
        exact Ev.congr (fun k => by rw [if_pos rfl]) h
  · intro _ _ _
    refine Ev.step (f := fun k => laws_FnDirect.j2 k (dbV (m : Int) (cast R)) ((2 ^ m : Nat) : Int) false (m : Int) (cast R)) (fun k => ?_) ?_
    · simp only [laws_FnDirect.l0]
      rw [fullS_val, fullV_nat (by omega), Option.bind_some, if_neg (by omega)]
    · refine Ev.step (f := fun k => (spec_StemBase.f k (m : Int) (cast R)).bind fun t => if ((dbV (m : Int) (cast R)).length : Int) ≥ (t.length : Int) then (some true) else ((spec_IsContext.f k (m : Int) (cast R)).bind fun u => some (!u))) (fun k => ?_) ?_
      · simp only [laws_FnDirect.j2]
        rw [if_neg (by decide)]
      · refine Ev.bind (sbS_val _ _ (by rw [cast_length]; omega)) ?_
        have h1 : (sbV (m : Int) (cast R)).length = (psN m (cl m R)).length := by
          unfold sbV piV
          rw [hc, if_pos rfl, Int.toNat_natCast, uncast, ruleMap_length, cast_length]
        have h2 : (dbV (m : Int) (cast R)).length = (ppN m R).length := by rw [dbV_nat hc, ruleMap_length, cast_length]
        have h3 := db_least (show m ≤ 8 by omega) R
        exact Ev.congr (fun k => by rw [if_pos (by omega)]) (Ev.now true)
theorem dir_none (n : Int) (l : List Int) (hl : l.length ≤ 1048576) (hc : ctxB n l = false) : Ev (fun k => laws_FnDirect.l0 k (dbV n l) 0 n l) true := by
  have e : Ev (fun k => laws_FnDirect.j2 k (dbV n l) 0 false n l) true := by
    refine Ev.step (f := fun k => (spec_StemBase.f k n l).bind fun t => if ((dbV n l).length : Int) ≥ (t.length : Int) then (some true) else ((spec_IsContext.f k n l).bind fun u => some (!u))) (fun k => ?_) ?_
    · simp only [laws_FnDirect.j2]
      rw [if_neg (by decide)]
    · refine Ev.bind (sbS_val n l hl) ?_
      have h1 : (sbV n l).length = 0 := by
        unfold sbV piV
        rw [hc, if_neg (by decide)]
        rfl
      exact Ev.congr (fun k => by rw [if_pos (by omega)]) (Ev.now true)
  by_cases h : (0 : Int) ≤ fullV n
  · refine Ev.step (f := fun k => (spec_IsContext.f k n l).bind fun t => laws_FnDirect.j2 k (dbV n l) 0 t n l) (fun k => ?_) ?_
    · simp only [laws_FnDirect.l0]
      rw [fullS_val, Option.bind_some, if_pos h]
    · refine Ev.bind (ctxS_val n l (by omega)) ?_
      rw [hc]
      exact e
  · refine Ev.step (fun k => ?_) e
    simp only [laws_FnDirect.l0]
    rw [fullS_val, Option.bind_some, if_neg h]
theorem FnDirect (l0 : List Int) (_ : l0.length ≤ 9223372036854775807) (_ : ∀ x ∈ l0, (Lit.int .u8 x).wf = true) : ∃ k, laws_FnDirect.f k l0 = some true := by
  apply Ev.rounds
  unfold laws_FnDirect.f laws_big.f
  simp only [Option.bind_some]
  by_cases hbig : (l0.length : Int) > 1048576
  · exact Ev.congr (fun k => by rw [if_pos (decide_eq_true hbig)]) (Ev.now true)
  · have hb : l0.length ≤ 1048576 := by omega
    refine Ev.congr (fun k => by rw [if_neg (by simpa using hbig)]) ?_
    obtain ⟨h1, e1⟩ := new_ex l0 hb
    obtain ⟨⟨n, l, i2, h2⟩, e2, hl, _, _⟩ := bent3_ex l0 hb 0 h1 (by decide)
    dsimp only at hl
    obtain ⟨⟨q, s⟩, e3, hq⟩ := closedBy_ex l0 hb
    dsimp only at hq
    obtain ⟨⟨n2, q2⟩, e4, hq2⟩ := isdir_ex l0 hb
    dsimp only at hq2
    have d1 : Ev (fun k => spec_DrawDirectBase.f k l0) (n, l) := by unfold spec_DrawDirectBase.f; exact Ev.bind e1 (Ev.bind e2 (Ev.now _))
    have d2 : Ev (fun k => spec_DrawOneStep.f k l0) (q, s) := by unfold spec_DrawOneStep.f; exact Ev.bind e3 (Ev.now _)
    have hdl := dbV_len n l
    have hpl := ppV_len n l
    refine Ev.bind d1 ?_
    dsimp only
    refine Ev.bind (dbI_val n l) ?_
    refine Ev.bind (ppI_val n l) ?_
    refine Ev.bind d2 ?_
    dsimp only
    refine Ev.bind e4 ?_
    dsimp only
    refine Ev.bind (dbS_val n l (by omega)) ?_
    refine Ev.bind (sameR_self _ (by omega)) ?_
    refine Ev.congr (fun k => by rw [if_pos rfl]) ?_
    refine Ev.bind (ppS_val n l (by omega)) ?_
    refine Ev.bind (sameI_self _ (by omega)) ?_
    refine Ev.congr (fun k => by rw [if_pos rfl]) ?_
    refine Ev.bind (oneI_val q (by omega) s) ?_
    refine Ev.bind (oneS_val q (by omega) s) ?_
    refine Ev.congr (fun k => by rw [if_pos rfl]) ?_
    refine Ev.bind (dirI_val n2 q2 (by omega)) ?_
    refine Ev.bind (dirS_val n2 q2 (by omega)) ?_
    have hlen : (((ppV n l).length : Int) != ((dbV n l).length : Int)) = false := by
      unfold dbV
      rw [ruleMap_length]
      simp
    refine Ev.congr (fun k => by rw [if_neg (by simp), hlen]) ?_
    refine Ev.step (f := fun k => laws_FnDirect.l0 k (dbV n l) 0 n l) (fun k => ?_) ?_
    · simp only [laws_FnDirect.j0]
      rw [if_neg (by decide)]
    · cases hc : ctxB n l with
      | false => exact dir_none n l (by omega) hc
      | true =>
        have hc2 := hc
        obtain ⟨m, R, rfl, hm, rfl, hR, hbd⟩ := ctxB_nat hc2
        exact dir_tail hm hR hbd hc
end Go.Proofs.YtafnamchckehmaaGreatDoor.Pu
