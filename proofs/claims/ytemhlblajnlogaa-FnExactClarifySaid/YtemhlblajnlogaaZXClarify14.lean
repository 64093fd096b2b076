/- What the law needs of the program's functions as plain functions, of the proofs that their calls answer so, and of plain laws: gathered by a program of this place (pack.py) out of its printed texts. No condition beyond what each statement says. -/
import Derived.Test.YtemhlblajnlogaaZXClarify3
import Derived.Test.YtemhlblajnlogaaZXClarify11
import Derived.Test.YtemhlblajnlogaaZXClarify10
import Derived.Test.YtemhlblajnlogaaZXClarify2
import Derived.Test.YtemhlblajnlogaaZXClarify4
import Derived.Test.YtemhlblajnlogaaZXClarify6
import Derived.Test.YtemhlblajnlogaaZXClarify5
import Derived.Test.YtemhlblajnlogaaZXClarify9
import Derived.Test.YtemhlblajnlogaaZXClarify12
import Derived.Test.YtemhlblajnlogaaZXClarify7
import Derived.Test.YtemhlblajnlogaaZXClarify8
import Derived.Test.YtemhlblajnlogaaZXClarify13
namespace Go.Proofs.Ytemhlblajnlogaa.Pu
open Go.RowKit Go.Proofs.YtemhlblajnlogaaW.PrintWords Go.Proofs.YtemhlblajnlogaaW.PrintLast Go.Proofs.YtemhlblajnlogaaW.PrintMore Go.Proofs.Ytemhlblajnlogaa.Pr
def ctxB (n : Int) (l : List Int) : Bool := decide (0 ≤ n ∧ n ≤ 6) && decide ((l.length : Int) ≤ 8) && l.all (isSetB n)
theorem ctxI_val (n : Int) (l : List Int) : impl_IsContext.f n l = some (ctxB n l) := rfl
theorem ctxS_loop (n : Int) (l : List Int) (hl : l.length ≤ 9223372036854775807) : ∀ (rest : List Int) (i : Nat), l.drop i = rest → Ev (fun k => spec_IsContext.l0 k (i : Int) n l) (decide (0 ≤ n ∧ n ≤ 6) && decide ((l.length : Int) ≤ 8) && rest.all (isSetB n)) := by
  intro rest
  induction rest with
  | nil =>
    intro i h
    have := drop_nil h
    refine Ev.step (f := fun _ => some (decide (0 ≤ n ∧ n ≤ 6) && decide ((l.length : Int) ≤ 8))) (fun k => ?_) ?_
    · simp only [spec_IsContext.l0]
      rw [if_neg (by omega), l1In_val, Option.bind_some]
      by_cases h6 : 0 ≤ n ∧ n ≤ 6
      · rw [decide_eq_true h6]; rfl
      · rw [decide_eq_false h6]; rfl
    · rw [List.all_nil, Bool.and_true]; exact Ev.now _
  | cons x rest ih =>
    intro i h
    obtain ⟨hi, hx, hd⟩ := drop_cons (d := 0) h
    cases hq : isSetB n x with
    | true =>
      refine Ev.step (f := fun k => spec_IsContext.l0 k ((i + 1 : Nat) : Int) n l) (fun k => ?_) ?_
      · simp only [spec_IsContext.l0]
        rw [if_pos (by omega), if_pos (by omega), rd_nat, hx, specSet_val, Option.bind_some, hq, if_pos rfl, wrap_succ hi hl]
      · rw [List.all_cons, hq, Bool.true_and]; exact ih (i + 1) hd
    | false =>
      refine Ev.step (f := fun _ => some false) (fun k => ?_) ?_
      · simp only [spec_IsContext.l0]
        rw [if_pos (by omega), if_pos (by omega), rd_nat, hx, specSet_val, Option.bind_some, hq, if_neg (by decide)]
      · rw [List.all_cons, hq, Bool.false_and, Bool.and_false]; exact Ev.now _
theorem ctxS_val (n : Int) (l : List Int) (hl : l.length ≤ 9223372036854775807) : Ev (fun k => spec_IsContext.f k n l) (ctxB n l) := ctxS_loop n l hl l 0 rfl
theorem row_lt {R : List Nat} {q : Nat} (h : ∀ r ∈ R, r < 2 ^ q) (i : Nat) : row R i < 2 ^ q := by
  unfold row
  rw [List.getD_eq_getElem?_getD]
  cases h' : R[i]? with
  | none => exact Nat.two_pow_pos q
  | some x => exact h x (List.mem_of_getElem? h')
theorem ctxB_nat {n : Int} {l : List Int} (h : ctxB n l = true) : ∃ (m : Nat) (R : List Nat), n = (m : Int) ∧ m ≤ 6 ∧ l = cast R ∧ R.length ≤ 8 ∧ ∀ r ∈ R, r < 2 ^ m := by
  unfold ctxB at h
  rw [Bool.and_eq_true, Bool.and_eq_true, decide_eq_true_iff, decide_eq_true_iff, List.all_eq_true] at h
  obtain ⟨⟨h1, h2⟩, h3⟩ := h
  have hx : ∀ x ∈ l, 0 ≤ x ∧ x.toNat < 2 ^ n.toNat := by
    intro x hx
    obtain ⟨m, a, hm, e1, ha, e2⟩ := isSetB_nat (h3 x hx)
    subst e2
    refine ⟨by omega, ?_⟩
    rw [e1, Int.toNat_natCast, Int.toNat_natCast]
    exact ha
  refine ⟨n.toNat, l.map Int.toNat, by omega, by omega, cast_of fun x h => (hx x h).1, by rw [List.length_map]; omega, fun r hr => ?_⟩
  obtain ⟨x, hx', rfl⟩ := List.mem_map.1 hr
  exact (hx x hx').2
theorem rd_row (R : List Nat) (i : Nat) : rd (cast R) (i : Int) = ((row R i : Nat) : Int) := rd_cast R i
theorem fullI_val (n : Int) : impl_FullSet.f n = some (fullV n) := by
  unfold impl_FullSet.f fullV
  rw [within_val, Option.bind_some]
  by_cases h : 0 ≤ n ∧ n ≤ 8
  · rw [if_pos h, if_pos (decide_eq_true h), if_pos h.1, upper_val n h.1 h.2]
  · rw [if_neg h, if_neg (by simpa using h)]
theorem fullN {m : Nat} (h : m ≤ 8) : fullV (m : Int) = ((full m : Nat) : Int) := fullV_nat h
theorem uncast (R : List Nat) : (cast R).map Int.toNat = R := by
  unfold cast
  rw [List.map_map]
  conv => rhs; rw [← List.map_id R]
  exact List.map_congr_left fun x _ => by simp
theorem full_256 {m : Nat} (h : m ≤ 8) : full m < 256 := lt_256 h (full_lt m)
theorem ctxB_mk {m : Nat} (hm : m ≤ 6) {R : List Nat} (hR : R.length ≤ 8) (hb : ∀ r ∈ R, r < 2 ^ m) : ctxB (m : Int) (cast R) = true := by
  unfold ctxB
  rw [decide_eq_true (by omega), decide_eq_true (by rw [cast_length]; omega), Bool.true_and, Bool.true_and, List.all_eq_true]
  intro x hx
  unfold cast at hx
  obtain ⟨r, hr, rfl⟩ := List.mem_map.1 hx
  exact isSetB_mk (by omega) (hb r hr)
theorem full_sub_row {m r : Nat} (h : r < 2 ^ m) : full m - r = diff (full m) r := by
  rw [diff_eq_sub]
  have : full m &&& r = r := by
    have := sub_full h
    unfold sub at this
    rw [Nat.and_comm]
    exact eq_of_beq this
  rw [this]
end Go.Proofs.Ytemhlblajnlogaa.Pu
namespace Go.Proofs.Ytemhlblajnlogaa.Pu
open Go.RowKit Go.Proofs.YtemhlblajnlogaaW.PrintWords Go.Proofs.YtemhlblajnlogaaW.PrintLast Go.Proofs.YtemhlblajnlogaaW.PrintMore Go.Proofs.Ytemhlblajnlogaa.Pr
def atsB (n : Int) (l : List Int) (a : Int) : Bool := ctxB n l && isSetB n a
theorem ats_nat {n : Int} {l : List Int} {a : Int} (h : atsB n l a = true) : ctxB n l = true ∧ ∃ (m : Nat) (R : List Nat) (a' : Nat), n = (m : Int) ∧ m ≤ 6 ∧ l = cast R ∧ R.length ≤ 8 ∧ (∀ r ∈ R, r < 2 ^ m) ∧ a = (a' : Int) ∧ a' < 2 ^ m := by
  unfold atsB at h
  rw [Bool.and_eq_true] at h
  obtain ⟨hc, hs⟩ := h
  obtain ⟨m, R, rfl, hm, rfl, hR, hb⟩ := ctxB_nat hc
  obtain ⟨m', a', _, e, ha, rfl⟩ := isSetB_nat hs
  obtain rfl : m = m' := by omega
  exact ⟨hc, m, R, a', rfl, hm, rfl, hR, hb, rfl, ha⟩
end Go.Proofs.Ytemhlblajnlogaa.Pu
namespace Go.Proofs.Ytemhlblajnlogaa.Pu
open Go.RowKit Go.Proofs.YtemhlblajnlogaaW.PrintWords Go.Proofs.YtemhlblajnlogaaW.PrintLast Go.Proofs.YtemhlblajnlogaaW.PrintMore Go.Proofs.Ytemhlblajnlogaa.Pr
/-- the elements of a set, ascending -/
def elN (s : Nat) : List Nat := (List.range 8).filter fun (e : Nat) => s.testBit e
theorem elN_length (s : Nat) : (elN s).length ≤ 8 := by
  have := List.length_filter_le (fun (e : Nat) => s.testBit e) (List.range 8)
  rw [List.length_range] at this
  exact this
theorem elN_le (s i : Nat) : row (elN s) i ≤ 7 := by
  unfold row
  rw [List.getD_eq_getElem?_getD]
  cases h : (elN s)[i]? with
  | none => exact Nat.zero_le _
  | some x =>
    have := List.mem_range.1 (List.mem_filter.1 (List.mem_of_getElem? h)).1
    show x ≤ 7
    omega
/-- the elements of c numbered anew: those that are in s -/
def pack (s c : Nat) : Nat := ofBits (fun k => s.testBit (row (elN c) k)) (elN c).length
set_option maxRecDepth 100000 in
theorem countI_all : ∀ a : Fin 256, impl_CountOf.f ((a.val : Nat) : Int) = some (((elN a.val).length : Nat) : Int) := by decide +kernel
theorem countI_val {a : Nat} (ha : a < 256) : impl_CountOf.f (a : Int) = some (((elN a).length : Nat) : Int) := countI_all ⟨a, ha⟩
theorem elemsV_nat {a : Nat} (ha : a < 256) : elemsV (a : Int) = cast (elN a) := by
  unfold elemsV isAny
  rw [decide_eq_true (by omega), if_pos rfl, Int.toNat_natCast]
  rfl
theorem renI_val {s c : Nat} (hs : s < 256) (hc : c < 256) : Ev (fun k => impl_renumbered.f k (s : Int) (c : Int)) ((pack s c : Nat) : Int) := by
  unfold impl_renumbered.f
  refine Ev.bind (elemsI_val (c : Int)) ?_
  rw [elemsV_nat hc]
  have hl := elN_length c
  refine ev_fold (g := fun k (a : Nat) i => impl_renumbered.l0 k (s : Int) (a : Int) (cast (elN c)) ((cast (elN c)).length : Int) i) (bitStep fun k => s.testBit (row (elN c) k)) (fun _ a => a < 2 ^ (elN c).length) (N := (elN c).length) ?_ (fun i a hi h => bitStep_lt hi h) (elN c).length 0 0 (by omega) (Nat.two_pow_pos _) ?_
  · intro i a hi ha h
    have ha' := lt_256 hl ha
    have h7 := elN_le c i
    refine Ev.step (fun k => ?_) h
    simp only [impl_renumbered.l0]
    rw [if_pos (by rw [cast_length]; omega), if_pos (by omega), if_pos (by rw [cast_length]; omega), rd_row, if_pos (by omega), bit01 _ _ (by omega) (by omega), or_shl ha' (by omega), wrap_succ hi (by omega)]
    rfl
  · intro b hb _
    refine Ev.step (f := fun _ => some (b : Int)) (fun k => ?_) ?_
    · simp only [impl_renumbered.l0]
      rw [if_neg (by rw [cast_length]; omega)]
    · rw [hb, fold_bits]; exact Ev.now _
/-- the places that are not in o, and their rows with the attributes of c numbered anew -/
def leftR (R : List Nat) (o c i : Nat) : List Nat := ((List.range i).filter fun (j : Nat) => !o.testBit j).map fun j => pack (row R j) c
theorem leftR_length (R : List Nat) (o c i : Nat) : (leftR R o c i).length ≤ i := by
  unfold leftR
  rw [List.length_map]
  have := List.length_filter_le (fun (j : Nat) => !o.testBit j) (List.range i)
  rw [List.length_range] at this
  exact this
theorem leftR_succ (R : List Nat) (o c i : Nat) : leftR R o c (i + 1) = if o.testBit i = true then leftR R o c i else leftR R o c i ++ [pack (row R i) c] := by
  unfold leftR
  rw [List.range_succ, List.filter_append, List.map_append]
  by_cases h : o.testBit i = true
  · rw [if_pos h, List.filter_cons_of_neg (by rw [h]; decide), List.filter_nil, List.map_nil, List.append_nil]
  · rw [if_neg h, List.filter_cons_of_pos (by simpa using h), List.filter_nil]
    rfl
theorem cast_append (a b : List Nat) : cast (a ++ b) = cast a ++ cast b := by unfold cast; rw [List.map_append]
theorem hasI_nat {c i : Nat} (hc : c < 256) (hi : i ≤ 7) : impl_HasElement.f (c : Int) (i : Int) = some (c.testBit i) := by
  rw [hasI_val]
  unfold hasV isAny
  rw [decide_eq_true (by omega), decide_eq_true (by omega)]
  simp
theorem withI_val (m : Nat) (hm : m ≤ 8) (R : List Nat) (hR : R.length ≤ 8) (hrow : ∀ i, row R i < 256) (o at_ : Nat) (ho : o < 256) (hat : at_ < 256) :
    Ev (fun k => impl_without.f k (m : Int) (cast R) (o : Int) (at_ : Int)) ((((elN (diff (full m) at_)).length : Nat) : Int), cast (leftR R o (diff (full m) at_) R.length)) := by
  unfold impl_without.f
  have hf := full_256 hm
  have hd : diff (full m) at_ < 256 := Nat.lt_of_le_of_lt (diff_le _ _) hf
  refine Ev.congr (fun k => by rw [fullI_val, Option.bind_some, fullN hm, andNot_nat (by omega) (by omega), countI_val hd, Option.bind_some]) ?_
  generalize diff (full m) at_ = c at *
  refine ev_fold (g := fun k (a : List Int) i => impl_without.l0 k (o : Int) (c : Int) (cast R) ((cast R).length : Int) i (((elN c).length : Nat) : Int) a) (fun i _ => cast (leftR R o c (i + 1))) (fun i a => a = cast (leftR R o c i)) (N := R.length) ?_ (fun i a hi h => rfl) R.length 0 [] (by omega) rfl ?_
  · intro i a hi ha h
    have hl := leftR_length R o c i
    have hal : a.length ≤ 8 := by rw [ha, cast_length]; omega
    rw [leftR_succ] at h
    by_cases h1 : o.testBit i = true
    · rw [if_pos h1, ← ha] at h
      refine Ev.step (fun k => ?_) h
      simp only [impl_without.l0]
      rw [if_pos (by rw [cast_length]; omega), if_pos (by omega), if_pos (by rw [cast_length]; omega), hasI_nat ho (by omega), Option.bind_some, if_pos h1, wrap_succ hi (by omega)]
    · rw [if_neg h1, cast_append, ← ha] at h
      refine Ev.step (f := fun k => (impl_renumbered.f k ((row R i : Nat) : Int) (c : Int)).bind fun t => impl_without.l0 k (o : Int) (c : Int) (cast R) ((cast R).length : Int) ((i + 1 : Nat) : Int) (((elN c).length : Nat) : Int) (a ++ [t])) (fun k => ?_) ?_
      · simp only [impl_without.l0]
        rw [if_pos (by rw [cast_length]; omega), if_pos (by omega), if_pos (by rw [cast_length]; omega), hasI_nat ho (by omega), Option.bind_some, if_neg h1, wrap_succ hi (by omega), rd_row]
        simp only [if_pos (show a.length < 17592186044416 by omega)]
      · exact Ev.bind (renI_val (hrow i) hd) h
  · intro b _ hb'
    refine Ev.step (f := fun _ => some ((((elN c).length : Nat) : Int), b)) (fun k => ?_) ?_
    · simp only [impl_without.l0]
      rw [if_neg (by rw [cast_length]; omega)]
    · rw [hb']; exact Ev.now _
theorem elN_full {m : Nat} (h : m ≤ 8) : elN (full m) = List.range m := by
  have h' : m = 0 ∨ m = 1 ∨ m = 2 ∨ m = 3 ∨ m = 4 ∨ m = 5 ∨ m = 6 ∨ m = 7 ∨ m = 8 := by omega
  rcases h' with rfl | rfl | rfl | rfl | rfl | rfl | rfl | rfl | rfl <;> decide +kernel
theorem row_range {m i : Nat} (h : i < m) : row (List.range m) i = i := by
  unfold row
  rw [List.getD_eq_getElem?_getD, List.getElem?_range h]
  rfl
theorem pack_full {m s : Nat} (hm : m ≤ 8) (hs : s < 2 ^ m) : pack s (full m) = s := by
  unfold pack
  rw [elN_full hm, List.length_range]
  exact (eq_ofBits hs fun i hi => by rw [row_range hi]).symm
theorem diff_zero (a : Nat) : diff a 0 = a := by unfold diff; rw [Nat.and_zero, Nat.xor_zero]
/-- the rows that are left -/
def keptR (R : List Nat) (o i : Nat) : List Nat := ((List.range i).filter fun (j : Nat) => !o.testBit j).map fun j => row R j
theorem leftR_full {m : Nat} (hm : m ≤ 8) {R : List Nat} (hb : ∀ r ∈ R, r < 2 ^ m) (o i : Nat) : leftR R o (full m) i = keptR R o i := by
  unfold leftR keptR
  exact List.map_congr_left fun j _ => pack_full hm (row_lt hb j)
theorem keptR_succ (R : List Nat) (o i : Nat) : keptR R o (i + 1) = if o.testBit i = true then keptR R o i else keptR R o i ++ [row R i] := by
  unfold keptR
  rw [List.range_succ, List.filter_append, List.map_append]
  by_cases h : o.testBit i = true
  · rw [if_pos h, List.filter_cons_of_neg (by rw [h]; decide), List.filter_nil, List.map_nil, List.append_nil]
  · rw [if_neg h, List.filter_cons_of_pos (by simpa using h), List.filter_nil]
    rfl
end Go.Proofs.Ytemhlblajnlogaa.Pu
namespace Go.Proofs.Ytemhlblajnlogaa.Pu
open Go.RowKit Go.Proofs.YtemhlblajnlogaaW.PrintWords Go.Proofs.YtemhlblajnlogaaW.PrintLast Go.Proofs.YtemhlblajnlogaaW.PrintMore Go.Proofs.Ytemhlblajnlogaa.Pr
set_option maxRecDepth 100000 in
theorem countS_all : ∀ a : Fin 256, spec_CountOf.f 10 ((a.val : Nat) : Int) = some (((elN a.val).length : Nat) : Int) := by decide +kernel
theorem countS_val {a : Nat} (ha : a < 256) : Ev (fun k => spec_CountOf.f k (a : Int)) (((elN a).length : Nat) : Int) := Ev.of (fun k => spec_CountOf.mono _ k) (countS_all ⟨a, ha⟩)
/-- the elements of c below e -/
def elB (c e : Nat) : List Nat := (List.range e).filter fun (j : Nat) => c.testBit j
theorem elB_succ (c e : Nat) : elB c (e + 1) = if c.testBit e = true then elB c e ++ [e] else elB c e := by
  unfold elB
  rw [List.range_succ, List.filter_append]
  by_cases h : c.testBit e = true
  · rw [if_pos h, List.filter_cons_of_pos h, List.filter_nil]
  · rw [if_neg h, List.filter_cons_of_neg h, List.filter_nil, List.append_nil]
theorem elB_length (c e : Nat) : (elB c e).length ≤ e := by
  have := List.length_filter_le (fun (j : Nat) => c.testBit j) (List.range e)
  rw [List.length_range] at this
  exact this
theorem row_append_lt {L : List Nat} {x i : Nat} (h : i < L.length) : row (L ++ [x]) i = row L i := by
  unfold row
  rw [List.getD_eq_getElem?_getD, List.getD_eq_getElem?_getD, List.getElem?_append_left h]
theorem row_append_self (L : List Nat) (x : Nat) : row (L ++ [x]) L.length = x := by
  unfold row
  rw [List.getD_eq_getElem?_getD, List.getElem?_append_right (Nat.le_refl _), Nat.sub_self]
  rfl
def packB (s c e : Nat) : Nat := ofBits (fun k => s.testBit (row (elB c e) k)) (elB c e).length
theorem packB_succ (s c e : Nat) : packB s c (e + 1) = if c.testBit e = true then (if s.testBit e = true then packB s c e ||| 2 ^ (elB c e).length else packB s c e) else packB s c e := by
  unfold packB
  rw [elB_succ]
  by_cases h : c.testBit e = true
  · rw [if_pos h, if_pos h, List.length_append, List.length_singleton, ofBits, row_append_self]
    rw [ofBits_congr (g := fun k => s.testBit (row (elB c e) k)) (fun i hi => by rw [row_append_lt hi])]
    by_cases h' : s.testBit e = true
    · rw [if_pos h', if_pos h']
    · rw [if_neg h', if_neg h', Nat.or_zero]
  · rw [if_neg h, if_neg h]
theorem packS_val {s c : Nat} (hs : s < 256) (hc : c < 256) : Ev (fun k => spec_l7Pack.f k (s : Int) (c : Int)) ((pack s c : Nat) : Int) := by
  unfold spec_l7Pack.f
  refine ev_fold (g := fun k (a : Nat × Nat) i => spec_l7Pack.l0 k (s : Int) (c : Int) (a.1 : Int) (a.2 : Int) i) (fun e _ => (packB s c (e + 1), (elB c (e + 1)).length)) (fun e a => a = (packB s c e, (elB c e).length)) (N := 8) ?_ (fun i a hi h => rfl) 8 0 (0, 0) rfl rfl ?_
  · intro i a hi ha h
    subst ha
    have hl := elB_length c i
    have hp : packB s c i < 256 := lt_256 (show (elB c i).length ≤ 8 by omega) (ofBits_lt _ _)
    refine Ev.step (fun k => ?_) h
    simp only [spec_l7Pack.l0]
    rw [if_pos (by omega), l2Has_val c i (by omega) (by omega), Option.bind_some, l2Has_val s i (by omega) (by omega), Option.bind_some, packB_succ, elB_succ, wrapU_small _ (by omega) (by omega), show wrap64 ((i : Int) + 1) = ((i + 1 : Nat) : Int) from by unfold wrap64; omega, show wrap64 (((elB c i).length : Int) + 1) = (((elB c i).length + 1 : Nat) : Int) from by unfold wrap64; omega]
    by_cases h1 : c.testBit i = true
    · rw [if_pos h1, if_pos h1, if_pos h1, List.length_append, List.length_singleton]
      by_cases h2 : s.testBit i = true
      · rw [if_pos h2, if_pos h2, if_pos (by omega), or_bit hp (by omega)]
      · rw [if_neg h2, if_neg h2]
    · rw [if_neg h1, if_neg h1, if_neg h1]
  · intro b hb hb'
    refine Ev.step (f := fun _ => some (b.1 : Int)) (fun k => ?_) ?_
    · simp only [spec_l7Pack.l0]
      rw [if_neg (by decide)]
    · rw [hb']; exact Ev.now _
def dropAV (n : Int) (l : List Int) (a : Int) : Int × List Int × Bool := if atsB n l a = true then ((((elN (diff (full n.toNat) a.toNat)).length : Nat) : Int), cast (leftR (l.map Int.toNat) 0 (diff (full n.toNat) a.toNat) l.length), true) else (0, [], false)
theorem dropAV_length (n : Int) (l : List Int) (a : Int) : (dropAV n l a).2.1.length ≤ l.length := by
  unfold dropAV
  split
  · show (cast _).length ≤ _
    rw [cast_length]
    exact leftR_length _ _ _ _
  · exact Nat.zero_le _
theorem dropAS_val (n : Int) (l : List Int) (hl : l.length ≤ 1048576) (a : Int) : Ev (fun k => spec_DropAttributes.f k n l a) (dropAV n l a) := by
  unfold spec_DropAttributes.f dropAV
  refine Ev.bind (ctxS_val n l (by omega)) ?_
  cases hc : ctxB n l with
  | false =>
    rw [show atsB n l a = false from by unfold atsB; rw [hc]; rfl, if_neg (by decide)]
    refine Ev.congr (fun k => by rw [if_neg (by decide)]) ?_
    refine Ev.step (f := fun _ => some (0, [], false)) (fun k => ?_) (Ev.now _)
    simp only [spec_DropAttributes.j0]
    rw [if_true]
  | true =>
    refine Ev.congr (fun k => by rw [if_pos rfl, specSet_val, Option.bind_some, show isSetB n a = atsB n l a from by unfold atsB; rw [hc, Bool.true_and]]) ?_
    cases h : atsB n l a with
    | false =>
      rw [if_neg (by decide)]
      refine Ev.step (f := fun _ => some (0, [], false)) (fun k => ?_) (Ev.now _)
      simp only [spec_DropAttributes.j0, Bool.not_false]
      rw [if_true]
    | true =>
      obtain ⟨_, m, R, a', rfl, hm, rfl, hR, hb, rfl, ha⟩ := ats_nat h
      have hrow := fun i => lt_256 (show m ≤ 8 by omega) (row_lt hb i)
      have hf := full_256 (show m ≤ 8 by omega)
      have hle : a' ≤ full m := by unfold full; omega
      have hd : diff (full m) a' < 256 := Nat.lt_of_le_of_lt (diff_le _ _) hf
      rw [if_pos rfl, uncast, Int.toNat_natCast, Int.toNat_natCast, cast_length]
      refine Ev.step (f := fun k => (spec_CountOf.f k ((diff (full m) a' : Nat) : Int)).bind fun t => spec_DropAttributes.l0 k ((diff (full m) a' : Nat) : Int) ((0 : Nat) : Int) (m : Int) (cast R) t []) (fun k => ?_) ?_
      · simp only [spec_DropAttributes.j0, Bool.not_true]
        rw [if_neg (by decide), fullS_val, Option.bind_some, fullN (by omega), show wrap64 (((full m : Nat) : Int) - (a' : Int)) = ((full m - a' : Nat) : Int) from by unfold wrap64; omega, full_sub_row ha]
        rfl
      · refine Ev.bind (countS_val hd) ?_
        generalize diff (full m) a' = c at *
        refine ev_fold (g := fun k (b : List Int) i => spec_DropAttributes.l0 k (c : Int) i (m : Int) (cast R) (((elN c).length : Nat) : Int) b) (fun i _ => cast (leftR R 0 c (i + 1))) (fun i b => b = cast (leftR R 0 c i)) (N := R.length) ?_ (fun i a hi h => rfl) R.length 0 [] (by omega) rfl ?_
        · intro i b hi hb' h
          have hl := leftR_length R 0 c i
          have hal : b.length ≤ 8 := by rw [hb', cast_length]; omega
          rw [leftR_succ, if_neg (by rw [Nat.zero_testBit]; decide), cast_append, ← hb'] at h
          refine Ev.step (f := fun k => (spec_l7Pack.f k ((row R i : Nat) : Int) (c : Int)).bind fun t => spec_DropAttributes.l0 k (c : Int) ((i + 1 : Nat) : Int) (m : Int) (cast R) (((elN c).length : Nat) : Int) (b ++ [t])) (fun k => ?_) ?_
          · simp only [spec_DropAttributes.l0]
            rw [if_pos (by rw [cast_length]; omega), if_pos (by omega), wrap_succ hi (by omega), rd_row]
            simp only [if_pos (show b.length < 17592186044416 by omega)]
          · exact Ev.bind (packS_val (hrow i) hd) h
        · intro b _ hb'
          refine Ev.step (f := fun _ => some ((((elN c).length : Nat) : Int), b, true)) (fun k => ?_) ?_
          · simp only [spec_DropAttributes.l0]
            rw [if_neg (by rw [cast_length]; omega)]
          · rw [hb']; exact Ev.now _
end Go.Proofs.Ytemhlblajnlogaa.Pu
namespace Go.Proofs.Ytemhlblajnlogaa.Pu
open Go.RowKit Go.Proofs.YtemhlblajnlogaaW.PrintWords Go.Proofs.YtemhlblajnlogaaW.PrintLast Go.Proofs.YtemhlblajnlogaaW.PrintMore Go.Proofs.Ytemhlblajnlogaa.Pr
theorem colS_val (R : List Nat) (hR : R.length ≤ 8) (hrow : ∀ i, row R i < 256) (n : Int) (m : Nat) (hm : m ≤ 8) : Ev (fun k => spec_l3Column.f k n (cast R) (m : Int)) ((col R m : Nat) : Int) := by
  unfold spec_l3Column.f
  refine ev_fold (g := fun k (a : Nat) i => spec_l3Column.l0 k (m : Int) (a : Int) i n (cast R)) (bitStep fun g => (row R g).testBit m) (fun _ a => a < 2 ^ R.length) (N := R.length) ?_ (fun i a hi h => bitStep_lt hi h) R.length 0 0 (by omega) (Nat.two_pow_pos _) ?_
  · intro i a hi ha h
    have ha' := lt_256 hR ha
    refine Ev.step (fun k => ?_) h
    simp only [spec_l3Column.l0]
    rw [if_pos (by rw [cast_length]; omega), if_pos (by omega), rd_row, l2Has_val _ _ (by have := hrow i; omega) (by omega), Option.bind_some, wrap_succ hi (by omega), wrapU_small _ (by omega) (by omega)]
    unfold bitStep
    dsimp only
    by_cases hb : (row R i).testBit m = true
    · rw [if_pos hb, if_pos (by omega), if_pos hb, or_bit ha' (by omega)]
    · rw [if_neg hb, if_neg hb]
  · intro b hb _
    refine Ev.step (f := fun _ => some (b : Int)) (fun k => ?_) ?_
    · simp only [spec_l3Column.l0]
      rw [if_neg (by rw [cast_length]; omega)]
    · rw [hb, fold_bits]; exact Ev.now _
def attrB (n : Int) (l : List Int) (m : Int) : Bool := ctxB n l && decide (0 ≤ m ∧ m < n)
theorem attrI_val (n : Int) (l : List Int) (m : Int) : impl_isAttribute.f n l m = some (attrB n l m) := by
  unfold impl_isAttribute.f attrB
  rw [ctxI_val, Option.bind_some]
  cases h : ctxB n l with
  | false => rfl
  | true =>
    obtain ⟨q, R, rfl, hq, _⟩ := ctxB_nat h
    rw [if_pos rfl, within_val, Option.bind_some, Bool.true_and, show wrap64 ((q : Int) - 1) = (q : Int) - 1 from by unfold wrap64; omega]
    refine congrArg some ?_
    rw [decide_eq_decide]
    omega
theorem colI_loop (R : List Nat) (hR : R.length ≤ 8) (hrow : ∀ i, row R i < 256) (m : Nat) (hm : m ≤ 8) : Ev (fun k => impl_ColumnOf.l0 k (m : Int) 0 (cast R) ((cast R).length : Int) 0) ((col R m : Nat) : Int) := by
  refine ev_fold (g := fun k (a : Nat) i => impl_ColumnOf.l0 k (m : Int) (a : Int) (cast R) ((cast R).length : Int) i) (bitStep fun g => (row R g).testBit m) (fun _ a => a < 2 ^ R.length) (N := R.length) ?_ (fun i a hi h => bitStep_lt hi h) R.length 0 0 (by omega) (Nat.two_pow_pos _) ?_
  · intro i a hi ha h
    have ha' := lt_256 hR ha
    refine Ev.step (fun k => ?_) h
    simp only [impl_ColumnOf.l0]
    rw [if_pos (by rw [cast_length]; omega), if_pos (by omega), if_pos (by rw [cast_length]; omega), if_pos (by omega), rd_row, bit01 _ _ (by have := hrow i; omega) (by omega), or_shl ha' (by omega), wrap_succ hi (by omega)]
    rfl
  · intro b hb _
    refine Ev.step (f := fun _ => some (b : Int)) (fun k => ?_) ?_
    · simp only [impl_ColumnOf.l0]
      rw [if_neg (by rw [cast_length]; omega)]
    · rw [hb, fold_bits]; exact Ev.now _
theorem colI_val {n : Int} {l : List Int} {m : Nat} {R : List Nat} {g : Nat} (h : ctxB n l = true) (e : n = (m : Int)) (e' : l = cast R) (hm : m ≤ 6) (hR : R.length ≤ 8) (hb : ∀ r ∈ R, r < 2 ^ m) (hg : g < m) : Ev (fun k => impl_ColumnOf.f k n l (g : Int)) ((col R g : Nat) : Int) := by
  unfold impl_ColumnOf.f
  have ha : attrB n l (g : Int) = true := by unfold attrB; rw [h, Bool.true_and, decide_eq_true_iff]; omega
  refine Ev.congr (fun k => by rw [attrI_val, ha, Option.bind_some, if_pos rfl, e']) ?_
  exact colI_loop R hR (fun i => lt_256 (show m ≤ 8 by omega) (row_lt hb i)) g (by omega)
def cols (m : Nat) (R : List Nat) : List Nat := (List.range m).map (col R)
theorem cols_length (m : Nat) (R : List Nat) : (cols m R).length = m := by unfold cols; rw [List.length_map, List.length_range]
theorem row_cols {m i : Nat} (R : List Nat) (h : i < m) : row (cols m R) i = col R i := by
  unfold row cols
  rw [List.getD_eq_getElem?_getD, List.getElem?_map, List.getElem?_range h]
  rfl
theorem colsI_val {n : Int} {l : List Int} {m : Nat} {R : List Nat} (h : ctxB n l = true) (e : n = (m : Int)) (e' : l = cast R) (hm : m ≤ 6) (hR : R.length ≤ 8) (hb : ∀ r ∈ R, r < 2 ^ m) : Ev (fun k => impl_columns.f k n l) (cast (cols m R)) := by
  unfold impl_columns.f
  subst e
  refine ev_fold (g := fun k (a : List Int) i => impl_columns.l0 k a (m : Int) i (m : Int) l) (fun i a => a ++ [((col R i : Nat) : Int)]) (fun i a => a = cast ((List.range i).map (col R))) (N := m) ?_ ?_ m 0 [] (by omega) rfl ?_
  · intro i a hi ha h'
    have hl : a.length ≤ 8 := by rw [ha, cast_length, List.length_map, List.length_range]; omega
    refine Ev.step (f := fun k => (impl_ColumnOf.f k (m : Int) l (i : Int)).bind fun t => impl_columns.l0 k (a ++ [t]) (m : Int) ((i + 1 : Nat) : Int) (m : Int) l) (fun k => ?_) ?_
    · simp only [impl_columns.l0]
      rw [if_pos (by omega), wrap_succ hi (by omega)]
      simp only [if_pos (show a.length < 17592186044416 by omega)]
    · exact Ev.bind (colI_val h rfl e' hm hR hb hi) h'
  · intro i a hi ha
    rw [ha, List.range_succ, List.map_append]
    unfold cast
    rw [List.map_append]
    rfl
  · intro b _ hb'
    refine Ev.step (f := fun _ => some b) (fun k => ?_) ?_
    · simp only [impl_columns.l0]
      rw [if_neg (by omega)]
    · rw [hb']; exact Ev.now _
end Go.Proofs.Ytemhlblajnlogaa.Pu
namespace Go.Proofs.Ytemhlblajnlogaa.Pu
open Go.RowKit Go.Proofs.YtemhlblajnlogaaW.PrintWords Go.Proofs.YtemhlblajnlogaaW.PrintLast Go.Proofs.YtemhlblajnlogaaW.PrintMore Go.Proofs.Ytemhlblajnlogaa.Pr
theorem mem_cast {R : List Nat} {x : Nat} : ((x : Int) ∈ cast R) ↔ x ∈ R := by
  unfold cast
  rw [List.mem_map]
  constructor
  · rintro ⟨y, hy, e⟩
    have : y = x := by omega
    subst this
    exact hy
  · intro h; exact ⟨x, h, rfl⟩
theorem index_loop (l : List Int) (hl : l.length ≤ 9223372036854775807) (x : Int) : ∀ (rest : List Int) (i : Nat), l.drop i = rest → ∃ r : Int, Ev (fun k => slices_Index_int.l0 k l x (l.length : Int) (i : Int)) r ∧ (0 ≤ r ↔ x ∈ rest) := by
  intro rest
  induction rest with
  | nil =>
    intro i h
    have := drop_nil h
    refine ⟨-1, Ev.step (f := fun _ => some (-1)) (fun k => ?_) (Ev.now _), by simp⟩
    simp only [slices_Index_int.l0]
    rw [if_neg (by omega)]
  | cons y rest ih =>
    intro i h
    obtain ⟨hi, hx, hd⟩ := drop_cons (d := 0) h
    by_cases e : x = y
    · refine ⟨(i : Int), Ev.step (f := fun _ => some (i : Int)) (fun k => ?_) (Ev.now _), by rw [e]; simp⟩
      simp only [slices_Index_int.l0]
      rw [if_pos (by omega), if_pos (by omega), if_pos (by omega), rd_nat, hx, if_pos e]
    · obtain ⟨r, h1, h2⟩ := ih (i + 1) hd
      refine ⟨r, Ev.step (fun k => ?_) h1, by rw [h2, List.mem_cons]; simp [e]⟩
      simp only [slices_Index_int.l0]
      rw [if_pos (by omega), if_pos (by omega), if_pos (by omega), rd_nat, hx, if_neg e, wrap_succ hi hl]
theorem containsI_val (l : List Int) (hl : l.length ≤ 9223372036854775807) (x : Int) : Ev (fun k => slices_Contains_int.f k l x) (decide (x ∈ l)) := by
  unfold slices_Contains_int.f slices_Index_int.f
  obtain ⟨r, h1, h2⟩ := index_loop l hl x l 0 rfl
  refine Ev.bind h1 ?_
  rw [decide_eq_decide.2 h2.symm]
  exact Ev.now _
theorem l2In_loop (l : List Int) (hl : l.length ≤ 9223372036854775807) (x : Int) : ∀ (rest : List Int) (i : Nat), l.drop i = rest → Ev (fun k => spec_l2In.l0 k l x (i : Int)) (decide (x ∈ rest)) := by
  intro rest
  induction rest with
  | nil =>
    intro i h
    have := drop_nil h
    refine Ev.step (f := fun _ => some false) (fun k => ?_) ?_
    · simp only [spec_l2In.l0]
      rw [if_neg (by omega)]
    · rw [decide_eq_false (by simp)]; exact Ev.now _
  | cons y rest ih =>
    intro i h
    obtain ⟨hi, hx, hd⟩ := drop_cons (d := 0) h
    by_cases e : y = x
    · refine Ev.step (f := fun _ => some true) (fun k => ?_) ?_
      · simp only [spec_l2In.l0]
        rw [if_pos (by omega), if_pos (by omega), rd_nat, hx, if_pos e]
      · rw [decide_eq_true (by rw [e]; simp)]; exact Ev.now _
    · refine Ev.step (f := fun k => spec_l2In.l0 k l x ((i + 1 : Nat) : Int)) (fun k => ?_) ?_
      · simp only [spec_l2In.l0]
        rw [if_pos (by omega), if_pos (by omega), rd_nat, hx, if_neg e, wrap_succ hi hl]
      · rw [show decide (x ∈ y :: rest) = decide (x ∈ rest) from decide_eq_decide.2 (by rw [List.mem_cons]; exact ⟨fun h => h.resolve_left fun h => e h.symm, Or.inr⟩)]
        exact ih (i + 1) hd
theorem l2In_val (l : List Int) (hl : l.length ≤ 9223372036854775807) (x : Int) : Ev (fun k => spec_l2In.f k l x) (decide (x ∈ l)) := l2In_loop l hl x l 0 rfl
/-- the places of a list that repeat an earlier one -/
def repV (L : List Nat) : Nat := ofBits (fun i => decide (row L i ∈ L.take i)) L.length
theorem cast_take (L : List Nat) (i : Nat) : (cast L).take i = cast (L.take i) := by unfold cast; rw [List.map_take]
theorem repI_val (L : List Nat) (hL : L.length ≤ 8) : Ev (fun k => impl_repeated.f k (cast L)) ((repV L : Nat) : Int) := by
  unfold impl_repeated.f
  refine ev_fold (g := fun k (a : Nat) i => impl_repeated.l0 k (cast L) (a : Int) (cast L) ((cast L).length : Int) i) (bitStep fun i => decide (row L i ∈ L.take i)) (fun _ a => a < 2 ^ L.length) (N := L.length) ?_ (fun i a hi h => bitStep_lt hi h) L.length 0 0 (by omega) (Nat.two_pow_pos _) ?_
  · intro i a hi ha h
    have ha' := lt_256 hL ha
    refine Ev.step (f := fun k => (slices_Contains_int.f k (cast (L.take i)) ((row L i : Nat) : Int)).bind fun t => if t = true then impl_repeated.l0 k (cast L) ((a ||| 2 ^ i : Nat) : Int) (cast L) ((cast L).length : Int) ((i + 1 : Nat) : Int) else impl_repeated.l0 k (cast L) (a : Int) (cast L) ((cast L).length : Int) ((i + 1 : Nat) : Int)) (fun k => ?_) ?_
    · simp only [impl_repeated.l0]
      rw [if_pos (by rw [cast_length]; omega), if_pos (by omega), if_pos (by rw [cast_length]; omega), if_pos (by rw [cast_length]; omega), Int.toNat_natCast, cast_take, rd_row, or_bit ha' (by omega), wrap_succ hi (by omega)]
    · refine Ev.bind (containsI_val _ (by rw [cast_length, List.length_take]; omega) _) ?_
      rw [show decide (((row L i : Nat) : Int) ∈ cast (L.take i)) = decide (row L i ∈ L.take i) from decide_eq_decide.2 mem_cast]
      unfold bitStep at h
      by_cases h1 : decide (row L i ∈ L.take i) = true
      · rw [if_pos h1] at h
        exact Ev.congr (fun k => by rw [if_pos h1]) h
      · rw [if_neg h1] at h
        exact Ev.congr (fun k => by rw [if_neg h1]) h
  · intro b hb _
    refine Ev.step (f := fun _ => some (b : Int)) (fun k => ?_) ?_
    · simp only [impl_repeated.l0]
      rw [if_neg (by rw [cast_length]; omega)]
    · rw [hb, fold_bits]; exact Ev.now _
/-- the rows before place i, each once -/
def ddR (R : List Nat) : Nat → List Nat
  | 0 => []
  | i + 1 => if row R i ∈ ddR R i then ddR R i else ddR R i ++ [row R i]
theorem take_succ_row {R : List Nat} {i : Nat} (h : i < R.length) : R.take (i + 1) = R.take i ++ [row R i] := by
  rw [List.take_succ_eq_append_getElem h]
  unfold row
  rw [List.getD_eq_getElem?_getD, List.getElem?_eq_getElem h]
  rfl
theorem mem_ddR (R : List Nat) : ∀ i, i ≤ R.length → ∀ x, x ∈ ddR R i ↔ x ∈ R.take i
  | 0, _, x => by simp [ddR]
  | i + 1, h, x => by
    rw [take_succ_row (by omega), List.mem_append, ← mem_ddR R i (by omega), ddR]
    by_cases hc : row R i ∈ ddR R i
    · rw [if_pos hc, List.mem_singleton]
      exact ⟨Or.inl, fun h => h.elim id fun h => by rw [h]; exact hc⟩
    · rw [if_neg hc, List.mem_append]
theorem kept_dd (R : List Nat) : ∀ i, i ≤ R.length → keptR R (repV R) i = ddR R i
  | 0, _ => rfl
  | i + 1, h => by
    rw [keptR_succ, kept_dd R i (by omega), ddR]
    have hb : (repV R).testBit i = decide (row R i ∈ R.take i) := by
      unfold repV
      rw [testBit_ofBits, decide_eq_true (show i < R.length by omega), Bool.true_and]
    by_cases hc : row R i ∈ ddR R i
    · rw [if_pos hc, if_pos (by rw [hb, decide_eq_true_iff]; exact (mem_ddR R i (by omega) _).1 hc)]
    · rw [if_neg hc, if_neg (by rw [hb, decide_eq_true_iff]; exact fun h' => hc ((mem_ddR R i (by omega) _).2 h'))]
theorem ddR_length (R : List Nat) : ∀ i, (ddR R i).length ≤ i
  | 0 => Nat.le_refl _
  | i + 1 => by
    have := ddR_length R i
    rw [ddR]
    split
    · omega
    · rw [List.length_append, List.length_singleton]; omega
theorem ddR_lt {R : List Nat} {q : Nat} (hb : ∀ r ∈ R, r < 2 ^ q) : ∀ i, ∀ r ∈ ddR R i, r < 2 ^ q
  | 0, r, h => by cases h
  | i + 1, r, h => by
    rw [ddR] at h
    split at h
    · exact ddR_lt hb i r h
    · rcases List.mem_append.1 h with h | h
      · exact ddR_lt hb i r h
      · rw [List.mem_singleton.1 h]; exact row_lt hb i
/-- the attributes whose column an earlier one has -/
def sameV (m : Nat) (D : List Nat) : Nat := ofBits (fun j => decide (∃ i, i < j ∧ col D i = col D j)) m
theorem sameV_lt (m : Nat) (D : List Nat) : sameV m D < 2 ^ m := ofBits_lt _ _
theorem rep_cols (m : Nat) (D : List Nat) : repV (cols m D) = sameV m D := by
  unfold repV sameV
  rw [cols_length]
  refine ofBits_congr fun j hj => ?_
  rw [decide_eq_decide, row_cols D hj]
  unfold cols
  rw [← List.map_take, List.take_range, Nat.min_eq_left (by omega), List.mem_map]
  constructor
  · rintro ⟨i, hi, e⟩
    exact ⟨i, List.mem_range.1 hi, e⟩
  · rintro ⟨i, hi, e⟩
    exact ⟨i, List.mem_range.2 hi, e⟩
def clarV (n : Int) (l : List Int) : Int × List Int × Bool := if ctxB n l = true then dropAV n (cast (ddR (l.map Int.toNat) l.length)) ((sameV n.toNat (ddR (l.map Int.toNat) l.length) : Nat) : Int) else (0, [], false)
theorem clarV_length (n : Int) (l : List Int) : (clarV n l).2.1.length ≤ l.length := by
  unfold clarV
  split
  · refine Nat.le_trans (dropAV_length _ _ _) ?_
    rw [cast_length]
    exact ddR_length _ _
  · exact Nat.zero_le _
theorem dropA_nat {m : Nat} (hm : m ≤ 6) {D : List Nat} (hD : D.length ≤ 8) (hb : ∀ r ∈ D, r < 2 ^ m) {a : Nat} (ha : a < 2 ^ m) : dropAV (m : Int) (cast D) (a : Int) = ((((elN (diff (full m) a)).length : Nat) : Int), cast (leftR D 0 (diff (full m) a) D.length), true) := by
  unfold dropAV
  rw [show atsB (m : Int) (cast D) (a : Int) = true from by unfold atsB; rw [ctxB_mk hm hD hb, isSetB_mk (by omega) ha]; rfl, if_pos rfl, uncast, Int.toNat_natCast, Int.toNat_natCast, cast_length]
theorem clarI_val (n : Int) (l : List Int) (_hl : l.length ≤ 1048576) : Ev (fun k => impl_Clarify.f k n l) (clarV n l) := by
  unfold impl_Clarify.f clarV
  rw [ctxI_val]
  simp only [Option.bind_some]
  cases hc : ctxB n l with
  | false => exact Ev.congr (fun k => by rw [if_neg (by decide), if_neg (by decide)]) (Ev.now _)
  | true =>
    obtain ⟨m, R, rfl, hm, rfl, hR, hb⟩ := ctxB_nat hc
    have hrow := fun i => lt_256 (show m ≤ 8 by omega) (row_lt hb i)
    have hrep : repV R < 256 := lt_256 hR (ofBits_lt _ _)
    have hD := Nat.le_trans (ddR_length R R.length) hR
    have hDb := ddR_lt hb R.length
    rw [if_pos rfl, uncast, Int.toNat_natCast, cast_length, dropA_nat hm hD hDb (sameV_lt m _)]
    refine Ev.congr (fun k => by rw [if_pos rfl]) ?_
    refine Ev.bind (repI_val R hR) ?_
    refine Ev.bind (withI_val m (by omega) R hR hrow _ 0 hrep (by decide)) ?_
    rw [diff_zero, elN_full (by omega), List.length_range, leftR_full (by omega) hb, kept_dd R _ (Nat.le_refl _)]
    refine Ev.bind (colsI_val (ctxB_mk hm hD hDb) rfl rfl hm hD hDb) ?_
    refine Ev.bind (repI_val (cols m (ddR R R.length)) (by rw [cols_length]; omega)) ?_
    rw [rep_cols]
    refine Ev.bind (withI_val m (by omega) _ hD (fun i => lt_256 (by omega) (row_lt hDb i)) 0 _ (by decide) (lt_256 (by omega) (sameV_lt m _))) ?_
    exact Ev.now _
theorem clarS_l2 {m : Nat} (hm : m ≤ 6) {D : List Nat} (hD : D.length ≤ 8) (hrow : ∀ i, row D i < 256) {j : Nat} (hj : j < m) {g : Nat} (hg : g < 2 ^ j) {res : Int × List Int × Bool}
    (h : Ev (fun k => spec_Clarify.l1 k ((bitStep (fun j => decide (∃ i, i < j ∧ col D i = col D j)) j g : Nat) : Int) ((j + 1 : Nat) : Int) (m : Int) (cast D)) res) : Ev (fun k => spec_Clarify.l2 k (g : Int) (j : Int) 0 (m : Int) (cast D)) res := by
  have hg' : g < 256 := lt_256 (show j ≤ 8 by omega) hg
  have h7 : 2 ^ j ≤ 2 ^ 7 := Nat.pow_le_pow_right (by decide) (by omega)
  refine ev_fold (g := fun k (a : Nat) i => spec_Clarify.l2 k (a : Int) (j : Int) i (m : Int) (cast D)) (fun i a => if col D i = col D j then a ||| 2 ^ j else a) (fun i a => a = if ∃ q, q < i ∧ col D q = col D j then g ||| 2 ^ j else g) (N := j) ?_ ?_ j 0 g (by omega) (by rw [if_neg (by rintro ⟨q, hq, _⟩; omega)]) ?_
  · intro i a hi ha h
    have ha' : a < 256 := by
      rw [ha]
      split
      · exact Nat.or_lt_two_pow (n := 8) hg' (by omega)
      · exact hg'
    refine Ev.step (f := fun k => (spec_l3Column.f k (m : Int) (cast D) (i : Int)).bind fun t => (spec_l3Column.f k (m : Int) (cast D) (j : Int)).bind fun u => if t = u then spec_Clarify.l2 k ((a ||| 2 ^ j : Nat) : Int) (j : Int) ((i + 1 : Nat) : Int) (m : Int) (cast D) else spec_Clarify.l2 k (a : Int) (j : Int) ((i + 1 : Nat) : Int) (m : Int) (cast D)) (fun k => ?_) ?_
    · simp only [spec_Clarify.l2]
      rw [if_pos (by omega), wrapU_small _ (by omega) (by omega), or_bit ha' (by omega), wrap_succ hi (by omega)]
      simp only [if_pos (show (0 : Int) ≤ (j : Int) by omega)]
    · refine Ev.bind (colS_val D hD hrow _ i (by omega)) ?_
      refine Ev.bind (colS_val D hD hrow _ j (by omega)) ?_
      by_cases h1 : col D i = col D j
      · rw [if_pos h1] at h
        exact Ev.congr (fun k => by rw [if_pos (by rw [h1])]) h
      · rw [if_neg h1] at h
        exact Ev.congr (fun k => by rw [if_neg (by omega)]) h
  · intro i a hi ha
    rw [ha]
    by_cases h1 : col D i = col D j
    · rw [if_pos h1, if_pos (show ∃ q, q < i + 1 ∧ col D q = col D j from ⟨i, by omega, h1⟩)]
      split
      · rw [Nat.or_assoc, Nat.or_self]
      · rfl
    · rw [if_neg h1]
      by_cases h2 : ∃ q, q < i ∧ col D q = col D j
      · obtain ⟨q, hq, e⟩ := h2
        rw [if_pos ⟨q, hq, e⟩, if_pos ⟨q, by omega, e⟩]
      · rw [if_neg h2, if_neg]
        rintro ⟨q, hq, e⟩
        by_cases hqi : q = i
        · subst hqi; exact h1 e
        · exact h2 ⟨q, by omega, e⟩
  · intro b _ hb
    refine Ev.step (fun k => ?_) h
    simp only [spec_Clarify.l2]
    rw [if_neg (by omega), wrap_succ hj (by omega), hb]
    unfold bitStep
    dsimp only
    by_cases h2 : ∃ q, q < j ∧ col D q = col D j
    · rw [if_pos h2, if_pos (decide_eq_true h2)]
    · rw [if_neg h2, if_neg (by rw [decide_eq_true_iff]; exact h2)]
theorem clarS_l1 {m : Nat} (hm : m ≤ 6) {D : List Nat} (hD : D.length ≤ 8) (hb : ∀ r ∈ D, r < 2 ^ m) : Ev (fun k => spec_Clarify.l1 k 0 0 (m : Int) (cast D)) (dropAV (m : Int) (cast D) ((sameV m D : Nat) : Int)) := by
  have hrow := fun i => lt_256 (show m ≤ 8 by omega) (row_lt hb i)
  refine ev_fold (g := fun k (a : Nat) i => spec_Clarify.l1 k (a : Int) i (m : Int) (cast D)) (bitStep fun j => decide (∃ i, i < j ∧ col D i = col D j)) (fun i a => a < 2 ^ i) (N := m) ?_ (fun i a hi h => bitStep_lt (Nat.lt_succ_self i) (Nat.lt_of_lt_of_le h (Nat.pow_le_pow_right (by decide) (Nat.le_succ i)))) m 0 0 (by omega) (by decide) ?_
  · intro j g hj hg h
    refine Ev.step (fun k => ?_) (clarS_l2 hm hD hrow hj hg h)
    simp only [spec_Clarify.l1]
    rw [if_pos (by omega)]
  · intro b hb' hlt
    refine Ev.step (f := fun k => (spec_DropAttributes.f k (m : Int) (cast D) (b : Int)).bind fun bt => some (bt.1, bt.2.1, bt.2.2)) (fun k => ?_) ?_
    · simp only [spec_Clarify.l1]
      rw [if_neg (by omega)]
    · rw [show sameV m D = b from by rw [hb', fold_bits]; rfl]
      exact Ev.bind (dropAS_val (m : Int) (cast D) (by rw [cast_length]; omega) (b : Int)) (Ev.now _)
theorem clarS_val (n : Int) (l : List Int) (hl : l.length ≤ 1048576) : Ev (fun k => spec_Clarify.f k n l) (clarV n l) := by
  unfold spec_Clarify.f clarV
  refine Ev.bind (ctxS_val n l (by omega)) ?_
  cases hc : ctxB n l with
  | false => exact Ev.congr (fun k => by rw [if_neg (by decide), if_neg (by decide)]) (Ev.now _)
  | true =>
    obtain ⟨m, R, rfl, hm, rfl, hR, hb⟩ := ctxB_nat hc
    rw [if_pos rfl, uncast, Int.toNat_natCast, cast_length]
    refine Ev.congr (fun k => by rw [if_pos rfl]) ?_
    refine ev_fold (g := fun k (a : List Int) i => spec_Clarify.l0 k i (m : Int) (cast R) (m : Int) a) (fun i _ => cast (ddR R (i + 1))) (fun i a => a = cast (ddR R i)) (N := R.length) ?_ (fun i a hi h => rfl) R.length 0 [] (by omega) rfl ?_
    · intro i a hi ha h
      have hdl := ddR_length R i
      have hal : a.length ≤ 8 := by rw [ha, cast_length]; omega
      refine Ev.step (f := fun k => (spec_l2In.f k a ((row R i : Nat) : Int)).bind fun t => if t = true then spec_Clarify.l0 k ((i + 1 : Nat) : Int) (m : Int) (cast R) (m : Int) a else spec_Clarify.l0 k ((i + 1 : Nat) : Int) (m : Int) (cast R) (m : Int) (a ++ [((row R i : Nat) : Int)])) (fun k => ?_) ?_
      · simp only [spec_Clarify.l0]
        rw [if_pos (by rw [cast_length]; omega), if_pos (by omega), rd_row, wrap_succ hi (by omega)]
        simp only [if_pos (show a.length < 17592186044416 by omega)]
      · refine Ev.bind (l2In_val a (by omega) _) ?_
        rw [ha, show decide (((row R i : Nat) : Int) ∈ cast (ddR R i)) = decide (row R i ∈ ddR R i) from decide_eq_decide.2 mem_cast]
        rw [ddR] at h
        by_cases h1 : row R i ∈ ddR R i
        · rw [if_pos h1] at h
          exact Ev.congr (fun k => by rw [if_pos (decide_eq_true h1)]) h
        · rw [if_neg h1, cast_append] at h
          exact Ev.congr (fun k => by rw [if_neg (by rw [decide_eq_true_iff]; exact h1)]; rfl) h
    · intro b _ hb'
      refine Ev.step (f := fun k => spec_Clarify.l1 k 0 0 (m : Int) b) (fun k => ?_) ?_
      · simp only [spec_Clarify.l0]
        rw [if_neg (by rw [cast_length]; omega)]
      · rw [hb']
        exact clarS_l1 hm (Nat.le_trans (ddR_length R R.length) hR) (ddR_lt hb R.length)
end Go.Proofs.Ytemhlblajnlogaa.Pu
namespace Go.Proofs.Ytemhlblajnlogaa.Pu
open Go.RowKit Go.Proofs.YtemhlblajnlogaaW.PrintWords Go.Proofs.YtemhlblajnlogaaW.PrintLast Go.Proofs.YtemhlblajnlogaaW.PrintMore Go.Proofs.Ytemhlblajnlogaa.Pr
theorem FnExactClarify (x0 : S24) (_ : (Lit.int .i64 x0.f0).wf = true ∧ ∀ x ∈ x0.f1, (Lit.int .i64 x).wf = true) (hl : x0.f1.length ≤ 9223372036854775807) : ∃ k, laws_FnExactClarify.f k x0.f0 x0.f1 = some true := by
  apply Ev.rounds
  unfold laws_FnExactClarify.f
  obtain ⟨m, hm, hm2⟩ := szC_val x0.f0 x0.f1 hl
  rw [hm]
  simp only [Option.bind_some]
  by_cases h : m < 0
  · exact Ev.congr (fun k => by rw [if_pos h]) (Ev.now true)
  · have hle := hm2 (by omega)
    have hS := clarS_val x0.f0 x0.f1 hle
    have hI := clarI_val x0.f0 x0.f1 hle
    have hV := clarV_length x0.f0 x0.f1
    generalize clarV x0.f0 x0.f1 = q at hS hI hV
    have hq : q.2.1.length ≤ 1048576 := by omega
    refine Ev.congr (fun k => by rw [if_neg h]) ?_
    refine Ev.bind (toC_val _ _ hle) ?_
    refine Ev.bind hS ?_
    refine Ev.bind (toC_val _ _ hle) ?_
    refine Ev.bind hI ?_
    refine Ev.bind (eqC_self q.1 q.2.1 (by omega)) ?_
    refine Ev.congr (fun k => by rw [if_pos rfl, show (q.2.2 != q.2.2) = false from by simp]) ?_
    refine Ev.step (fun k => by simp only [laws_FnExactClarify.j0]; rw [if_neg (by decide)]) ?_
    refine Ev.bind (toC_val _ _ hle) ?_
    refine Ev.bind (eqC_self x0.f0 x0.f1 hl) ?_
    refine Ev.congr (fun k => by rw [if_pos rfl]) ?_
    refine Ev.bind (markC_val x0.f0 x0.f1 hle) ?_
    refine Ev.congr (fun k => by rw [if_neg (markC_pos _)]) ?_
    refine Ev.bind (eqC_self q.1 q.2.1 (by omega)) ?_
    refine Ev.congr (fun k => by rw [if_pos rfl, show (q.2.2 != q.2.2) = false from by simp]) ?_
    refine Ev.step (fun k => by simp only [laws_FnExactClarify.j1]; rw [if_neg (by decide)]) ?_
    refine Ev.bind (markC_val q.1 q.2.1 hq) ?_
    refine Ev.bind (heldC_val q.1 q.2.1 hq) ?_
    refine Ev.congr (fun k => by rw [if_neg (markC_pos _), if_pos rfl]) ?_
    refine Ev.bind (toC_val _ _ hle) ?_
    refine Ev.bind hI ?_
    refine Ev.bind (eqC_self q.1 q.2.1 (by omega)) ?_
    refine Ev.congr (fun k => by rw [if_pos rfl, show (q.2.2 != q.2.2) = false from by simp]) ?_
    refine Ev.step (fun k => by simp only [laws_FnExactClarify.j2]; rw [if_neg (by decide)]) ?_
    refine Ev.bind (heldC_val q.1 q.2.1 hq) ?_
    exact Ev.congr (fun k => by rw [if_neg (markC_pos _), if_pos rfl]) (Ev.now true)
end Go.Proofs.Ytemhlblajnlogaa.Pu
