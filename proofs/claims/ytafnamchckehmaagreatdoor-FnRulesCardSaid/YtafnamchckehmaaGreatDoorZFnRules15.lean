/- Functions of the program as plain functions, proofs that their calls answer so, and plain laws: what the law needs. No condition beyond what each statement says. -/
import Derived.Test.YtafnamchckehmaaGreatDoorZFnRules13
import Derived.Test.YtafnamchckehmaaGreatDoorZFnRules14
namespace Go.Proofs.YtafnamchckehmaaGreatDoor.Pu
open Go.RowKit Go.Proofs.YtafnamchckehmaaGreatDoorW.PrintWords Go.Proofs.YtafnamchckehmaaGreatDoorW.PrintLast Go.Proofs.YtafnamchckehmaaGreatDoorW.PrintMore Go.Proofs.YtafnamchckehmaaGreatDoor.Pr
theorem respV_two {a b s : Nat} (ha : a < 256) (hb : b < 256) (hs : s < 256) : respV ⟨(a : Int), (b : Int)⟩ (s : Int) = (!sub a s || sub b s) := by
  unfold respV anyR isAny toP
  dsimp only
  rw [decide_eq_true (show (0 : Int) ≤ (a : Int) ∧ (a : Int) < 256 by omega), decide_eq_true (show (0 : Int) ≤ (b : Int) ∧ (b : Int) < 256 by omega), decide_eq_true (show (0 : Int) ≤ (s : Int) ∧ (s : Int) < 256 by omega), Int.toNat_natCast, Int.toNat_natCast, Int.toNat_natCast]
  rfl
theorem hold_rows {m : Nat} (hm : m ≤ 6) {R : List Nat} (hb : ∀ r ∈ R, r < 2 ^ m) (hc : ctxB (m : Int) (cast R) = true) {a b : Nat} (ha : a < 2 ^ m) (hbb : b < 2 ^ m) : holdV (m : Int) (cast R) (a : Int) (b : Int) = R.all fun r => respV ⟨(a : Int), (b : Int)⟩ (r : Int) := by
  have h256 := pow_256 (show m ≤ 8 by omega)
  unfold holdV atsB
  rw [hc, isSetB_mk (by omega) ha, isSetB_mk (by omega) hbb, Int.toNat_natCast, Int.toNat_natCast, Int.toNat_natCast, uncast, Bool.eq_iff_iff, List.all_eq_true]
  simp only [Bool.and_true, Bool.true_and]
  constructor
  · intro h r hr
    rw [respV_two (by omega) (by omega) (by have := hb r hr; omega)]
    cases hs : sub a r with
    | false => rfl
    | true =>
      obtain ⟨i, hi, e⟩ := List.getElem_of_mem hr
      have er : row R i = r := by unfold row; rw [List.getD_eq_getElem?_getD, List.getElem?_eq_getElem hi]; exact e
      rw [sub_trans h (by rw [← er]; exact cl_sub_row hi (by rw [er]; exact hs))]
      rfl
  · intro h
    refine sub_iff.2 fun j hj => testBit_cl.2 ⟨?_, fun g hg hs => ?_⟩
    · rcases Nat.lt_or_ge j m with k | k
      · exact k
      · rw [lt_two_pow_iff.1 hbb j k] at hj; cases hj
    · have hm2 : row R g ∈ R := by
        unfold row
        rw [List.getD_eq_getElem?_getD, List.getElem?_eq_getElem hg]
        exact List.getElem_mem hg
      have := h _ hm2
      rw [respV_two (by omega) (by omega) (by have := hb _ hm2; omega), hs] at this
      exact sub_iff.1 (by simpa using this) j hj
def goodQ (q : List IR) (c d : Int) (j : Nat) : Bool := !decide (clo (toR q) j = j) || respV ⟨c, d⟩ (j : Int)
theorem fol_sets {q : List IR} {c d : Int} (h1 : areV 6 q = true) (h2 : areV 6 [⟨c, d⟩] = true) : folV q ⟨c, d⟩ = (List.range' 0 64).all (goodQ q c d) := by
  obtain ⟨m, e, _, _, hany, hw⟩ := areV_nat h1
  obtain ⟨m', e', _, _, hany', hw'⟩ := areV_nat h2
  have e : m = 6 := by omega
  have e' : m' = 6 := by omega
  subst e e'
  have hr := hw' ⟨c, d⟩ List.mem_cons_self
  have hra := List.all_eq_true.1 hany' ⟨c, d⟩ List.mem_cons_self
  obtain ⟨f0, f1, _, _⟩ := anyR_nat hra
  have hin : within 6 (toR q) := fun r hr => by
    obtain ⟨x, hx, rfl⟩ := List.mem_map.1 hr
    exact hw x hx
  have hsm := within_small (show 6 ≤ 8 by omega) hin
  generalize hxa : (toP (⟨c, d⟩ : IR)).1 = a at *
  generalize hxb : (toP (⟨c, d⟩ : IR)).2 = b at *
  dsimp only at f0 f1
  subst f0 f1
  have ha : a < 64 := hr.1
  have hb : b < 64 := hr.2
  unfold folV
  rw [hany, hra, hxa, hxb, Bool.true_and, Bool.true_and, Bool.eq_iff_iff, List.all_eq_true]
  constructor
  · intro h j hj
    have hj : j < 64 := by rw [List.mem_range'] at hj; obtain ⟨i, hi, e⟩ := hj; omega
    unfold goodQ
    by_cases hc : clo (toR q) j = j
    · rw [decide_eq_true hc, respV_two (by omega) (by omega) (by omega)]
      cases hs : sub a j with
      | false => rfl
      | true =>
        have := clo_mono hsm (s := a) (t := j) (by omega) (by omega) hs
        rw [hc] at this
        rw [sub_trans h this]
        rfl
    · rw [decide_eq_false hc]
      rfl
  · intro h
    have hlt := clo_in (show 6 ≤ 8 by omega) hin (s := a) ha
    have hlt : clo (toR q) a < 64 := hlt
    have := h (clo (toR q) a) (by rw [List.mem_range']; exact ⟨clo (toR q) a, hlt, by omega⟩)
    unfold goodQ at this
    rw [clo_idem hsm (by omega), decide_eq_true rfl, respV_two (by omega) (by omega) (by omega), (clo_spec hsm (show a < 256 by omega)).2.1] at this
    simpa using this
theorem rules_l1 (q : List IR) (hq : q.length ≤ 1000) (hany : q.all anyR = true) (c d : Int) (f : Bool) : ∀ (e i : Nat) (acc : Bool), i + e = 64 → (acc && (List.range' i e).all (goodQ q c d)) = f → Ev (fun k => laws_FnRules.l1 k q f acc (i : Int) c d) true := by
  intro e
  induction e with
  | zero =>
    intro i acc h hf
    rw [List.range'_zero, List.all_nil, Bool.and_true] at hf
    refine Ev.step (f := fun _ => some (acc == f)) (fun k => ?_) (by rw [hf, beq_self_eq_true]; exact Ev.now true)
    simp only [laws_FnRules.l1]
    rw [if_neg (by omega)]
  | succ e ih =>
    intro i acc h hf
    rw [List.range'_succ, List.all_cons] at hf
    refine Ev.step (f := fun k => (impl_ClosedBy.f k q (i : Int)).bind fun t1507 => (if t1507 = (i : Int) then (if acc = true then ((impl_Respects.f c d (i : Int)).bind fun t1508 => (laws_FnRules.l1 k q f t1508 ((i + 1 : Nat) : Int) c d)) else (laws_FnRules.l1 k q f false ((i + 1 : Nat) : Int) c d)) else (laws_FnRules.l1 k q f acc ((i + 1 : Nat) : Int) c d))) (fun k => ?_) ?_
    · simp only [laws_FnRules.l1]
      rw [if_pos (by omega), show wrap64 ((i : Int) + 1) = ((i + 1 : Nat) : Int) from by unfold wrap64; omega]
    · refine Ev.bind (closedI_val q (by omega) (i : Int)) ?_
      rw [cloV_nat hany (show i < 256 by omega)]
      have hg : goodQ q c d i = (!decide (clo (toR q) i = i) || respV ⟨c, d⟩ (i : Int)) := rfl
      rw [hg] at hf
      by_cases hc : clo (toR q) i = i
      · rw [decide_eq_true hc, Bool.not_true, Bool.false_or] at hf
        refine Ev.congr (fun k => by rw [if_pos (by rw [hc])]) ?_
        cases acc with
        | true =>
          refine Ev.congr (fun k => by rw [if_pos rfl, respI_val, Option.bind_some]) ?_
          exact ih (i + 1) _ (by omega) (by rw [← hf, Bool.true_and])
        | false =>
          refine Ev.congr (fun k => by rw [if_neg (by decide)]) ?_
          exact ih (i + 1) false (by omega) (by rw [← hf, Bool.false_and, Bool.false_and])
      · rw [decide_eq_false hc, Bool.not_false, Bool.true_or, Bool.true_and] at hf
        refine Ev.congr (fun k => by rw [if_neg (by omega)]) ?_
        exact ih (i + 1) acc (by omega) hf
theorem rules_j4 (q : List IR) (hq : q.length ≤ 1000) (c d : Int) : Ev (fun k => laws_FnRules.j4 k q (folV q ⟨c, d⟩) c d) true := by
  have hj : Ev (fun k => laws_FnRules.j5 k q (folV q ⟨c, d⟩) true c d) true := by
    refine Ev.step (f := fun _ => some true) (fun k => ?_) (Ev.now _)
    simp only [laws_FnRules.j5]
    rw [if_pos trivial]
  refine Ev.step (f := fun k => (spec_AreRules.f k 6 q).bind fun t1502 => (if t1502 = true then ((spec_AreRules.f k 6 (([(⟨c, d⟩ : IR)] : List IR))).bind fun t1506 => (laws_FnRules.j5 k q (folV q ⟨c, d⟩) (!t1506) c d)) else (laws_FnRules.j5 k q (folV q ⟨c, d⟩) true c d))) (fun k => ?_) ?_
  · simp only [laws_FnRules.j4]
  · refine Ev.bind (areS_val 6 q (by omega)) ?_
    cases h1 : areV 6 q with
    | false => exact Ev.congr (fun k => by rw [if_neg (by decide)]) hj
    | true =>
      refine Ev.congr (fun k => by rw [if_pos rfl]) ?_
      refine Ev.bind (areS_val 6 [(⟨c, d⟩ : IR)] (show 1 ≤ 9223372036854775807 by decide)) ?_
      cases h2 : areV 6 [(⟨c, d⟩ : IR)] with
      | false => exact hj
      | true =>
        obtain ⟨_, _, _, _, hany, _⟩ := areV_nat h1
        refine Ev.step (fun k => ?_) (rules_l1 q hq hany c d (folV q ⟨c, d⟩) 64 0 true rfl (by rw [fol_sets h1 h2, Bool.true_and]))
        simp only [laws_FnRules.j5]
        rw [if_neg (by decide)]
        rfl
theorem rules_l0 (h : Bool) (q : List IR) (hq : q.length ≤ 1000) (n : Int) (R : List Nat) (hR : R.length ≤ 1000) (a b c d : Int) : ∀ (rest : List Nat) (i : Nat) (acc : Bool), R.drop i = rest → (acc && rest.all fun r => respV ⟨a, b⟩ (r : Int)) = h → Ev (fun k => laws_FnRules.l0 k h q (folV q ⟨c, d⟩) acc (i : Int) n (cast R) a b c d) true := by
  intro rest
  induction rest with
  | nil =>
    intro i acc hd hf
    have := drop_nil hd
    rw [List.all_nil, Bool.and_true] at hf
    refine Ev.step (fun k => ?_) (rules_j4 q hq c d)
    simp only [laws_FnRules.l0]
    rw [if_neg (by rw [cast_length]; omega), if_neg (by rw [hf]; simp)]
  | cons x rest ih =>
    intro i acc hd hf
    obtain ⟨hi, hx, hd2⟩ := drop_cons (d := 0) hd
    rw [List.all_cons] at hf
    cases acc with
    | true =>
      refine Ev.step (fun k => ?_) (ih (i + 1) (respV ⟨a, b⟩ (x : Int)) hd2 (by rw [← hf, Bool.true_and]))
      simp only [laws_FnRules.l0]
      rw [if_pos (by rw [cast_length]; omega), if_pos trivial, if_pos (by omega), respI_val, Option.bind_some, rd_row, show row R i = x from hx, wrap_succ hi (by omega)]
    | false =>
      refine Ev.step (fun k => ?_) (ih (i + 1) false hd2 (by rw [← hf, Bool.false_and, Bool.false_and]))
      simp only [laws_FnRules.l0]
      rw [if_pos (by rw [cast_length]; omega), if_neg (by decide), wrap_succ hi (by omega)]
theorem rules_j1 (q : List IR) (hq : q.length ≤ 1000) (n : Int) (l : List Int) (hl : l.length ≤ 1000) (a b c d : Int) : Ev (fun k => laws_FnRules.j1 k (holdV n l a b) q (folV q ⟨c, d⟩) false n l a b c d) true := by
  have hj : Ev (fun k => laws_FnRules.j2 k (holdV n l a b) q (folV q ⟨c, d⟩) false n l a b c d) true := by
    refine Ev.step (fun k => ?_) (rules_j4 q hq c d)
    simp only [laws_FnRules.j2]
    rw [if_neg (by decide)]
  refine Ev.step (f := fun k => (spec_IsContext.f k n l).bind fun t1497 => (if t1497 = true then ((spec_IsSet.f n a).bind fun t1498 => (if t1498 = true then ((spec_IsSet.f n b).bind fun t1499 => (laws_FnRules.j2 k (holdV n l a b) q (folV q ⟨c, d⟩) t1499 n l a b c d)) else (laws_FnRules.j2 k (holdV n l a b) q (folV q ⟨c, d⟩) false n l a b c d))) else (laws_FnRules.j2 k (holdV n l a b) q (folV q ⟨c, d⟩) false n l a b c d))) (fun k => ?_) ?_
  · simp only [laws_FnRules.j1]
    rw [if_neg (by decide)]
  · refine Ev.bind (ctxS_val n l (by omega)) ?_
    cases hc : ctxB n l with
    | false => exact Ev.congr (fun k => by rw [if_neg (by decide)]) hj
    | true =>
      simp only [specSet_val, Option.bind_some]
      refine Ev.congr (fun k => by rw [if_pos trivial]) ?_
      cases ha : isSetB n a with
      | false => exact Ev.congr (fun k => by rw [if_neg (by decide)]) hj
      | true =>
        refine Ev.congr (fun k => by rw [if_pos rfl]) ?_
        cases hb : isSetB n b with
        | false => exact hj
        | true =>
          have hc2 := hc
          obtain ⟨m, R, rfl, hm, rfl, hR, hbd⟩ := ctxB_nat hc2
          obtain ⟨m', a', _, e, ha', rfl⟩ := isSetB_nat ha
          obtain ⟨m2, b', _, e2, hb', rfl⟩ := isSetB_nat hb
          have e := Int.natCast_inj.1 e
          have e2 := Int.natCast_inj.1 e2
          subst e e2
          refine Ev.step (fun k => ?_) (rules_l0 (holdV (m : Int) (cast R) (a' : Int) (b' : Int)) q hq (m : Int) R (by omega) (a' : Int) (b' : Int) c d R 0 true rfl (by rw [Bool.true_and, hold_rows hm hbd hc ha' hb']))
          simp only [laws_FnRules.j2]
          rw [if_pos trivial]
          rfl
theorem rules_j0 (q y : List IR) (hq : q.length ≤ 1000) (hy : y.length ≤ 5) (n : Int) (l : List Int) (hl : l.length ≤ 1000) (a b c d : Int) : Ev (fun k => laws_FnRules.j0 k (holdV n l a b) q (folV q ⟨c, d⟩) y (rtV y) false n l a b c d) true := by
  have hj := rules_j1 q hq n l hl a b c d
  have hs := rtV_size hy
  refine Ev.step (f := fun k => (impl_ParseRules.f k (rtV y)).bind fun bt1492 => (if (rtV y).toList = ([] : List UInt8) then (laws_FnRules.j1 k (holdV n l a b) q (folV q ⟨c, d⟩) false n l a b c d) else (if bt1492.2 = true then ((laws_sameRules.f k bt1492.1 y).bind fun t1496 => (laws_FnRules.j1 k (holdV n l a b) q (folV q ⟨c, d⟩) (!t1496) n l a b c d)) else (laws_FnRules.j1 k (holdV n l a b) q (folV q ⟨c, d⟩) true n l a b c d)))) (fun k => ?_) ?_
  · simp only [laws_FnRules.j0]
    rw [if_neg (by decide)]
  · refine Ev.bind (rulesI_val (rtV y) (by omega)) ?_
    by_cases he : (rtV y).toList = ([] : List UInt8)
    · exact Ev.congr (fun k => by rw [if_pos he]) hj
    · refine Ev.congr (fun k => by rw [if_neg he]) ?_
      rw [round_trip (by omega) he]
      refine Ev.congr (fun k => by rw [if_pos rfl]) ?_
      refine Ev.bind (sameR_self y (by omega)) ?_
      exact hj
theorem FnRules (l0 : List Int) (_ : l0.length ≤ 9223372036854775807) (_ : ∀ x ∈ l0, (Lit.int .u8 x).wf = true) : ∃ k, laws_FnRules.f k l0 = some true := by
  apply Ev.rounds
  unfold laws_FnRules.f laws_big.f
  simp only [Option.bind_some]
  by_cases hbig : (l0.length : Int) > 1048576
  · exact Ev.congr (fun k => by rw [if_pos (decide_eq_true hbig)]) (Ev.now true)
  · have hb : l0.length ≤ 1048576 := by omega
    refine Ev.congr (fun k => by rw [if_neg (by simpa using hbig)]) ?_
    obtain ⟨⟨n, l, a, b⟩, e1, hl⟩ := holds_ex l0 hb
    obtain ⟨⟨q, c, d⟩, e2, hq⟩ := follows_ex l0 hb
    obtain ⟨⟨p, s⟩, e3, hp⟩ := closedBy_ex l0 hb
    obtain ⟨⟨x, y, z⟩, e4⟩ := respects_ex l0 hb
    obtain ⟨⟨m, u⟩, e5, hu⟩ := areRules_ex l0 hb
    obtain ⟨t, e6, ht⟩ := parse_ex l0 hb
    obtain ⟨v, e7, hv⟩ := rulesText_ex l0 hb
    dsimp only at hl hq hp hu
    have hrl := rulesV_len t
    refine Ev.bind e1 ?_
    dsimp only
    refine Ev.bind (holdI_val n l (by omega) a b) ?_
    refine Ev.bind e2 ?_
    dsimp only
    refine Ev.bind (folI_val q (by omega) c d) ?_
    refine Ev.bind e3 ?_
    dsimp only
    refine Ev.bind (closedI_val p (by omega) s) ?_
    refine Ev.bind e4 ?_
    dsimp only
    refine Ev.bind e5 ?_
    dsimp only
    refine Ev.bind e6 ?_
    refine Ev.bind (rulesI_val t (by omega)) ?_
    refine Ev.bind (rulesS_val t (by omega)) ?_
    refine Ev.bind e7 ?_
    refine Ev.bind (rtI_val v (by omega)) ?_
    refine Ev.bind (holdS_val n l (by omega) a b) ?_
    refine Ev.congr (fun k => by rw [if_neg (by simp)]) ?_
    refine Ev.bind (folS_val q (by omega) c d) ?_
    refine Ev.congr (fun k => by rw [if_neg (by simp)]) ?_
    refine Ev.bind (closedS_val p (by omega) s) ?_
    refine Ev.congr (fun k => by rw [if_pos rfl]) ?_
    simp only [respI_val, respS_val, areI_val, Option.bind_some]
    refine Ev.congr (fun k => by rw [if_neg (by simp)]) ?_
    refine Ev.bind (areS_val m u (by omega)) ?_
    refine Ev.congr (fun k => by rw [if_neg (by simp), if_neg (by simp)]) ?_
    refine Ev.bind (sameR_self _ (by omega)) ?_
    refine Ev.congr (fun k => by rw [if_pos rfl]) ?_
    refine Ev.bind (rtS_val v (by omega)) ?_
    refine Ev.congr (fun k => by rw [if_pos rfl]) ?_
    refine Ev.bind (ruleTextI_val x y) ?_
    refine Ev.bind (ruleTextS_val x y) ?_
    rw [show ((ruleText ⟨x, y⟩).toList != (ruleText ⟨x, y⟩).toList) = false by simp]
    exact rules_j0 q v (by omega) hv n l (by omega) a b c d
end Go.Proofs.YtafnamchckehmaaGreatDoor.Pu
