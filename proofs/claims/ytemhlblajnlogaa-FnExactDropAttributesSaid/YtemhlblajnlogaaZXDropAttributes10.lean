/- What the law needs of the program's functions as plain functions, of the proofs that their calls answer so, and of plain laws: gathered by a program of this place (pack.py) out of its printed texts. No condition beyond what each statement says. -/
import Derived.Test.YtemhlblajnlogaaZXDropAttributes3
import Derived.Test.YtemhlblajnlogaaZXDropAttributes8
import Derived.Test.YtemhlblajnlogaaZXDropAttributes7
import Derived.Test.YtemhlblajnlogaaZXDropAttributes2
import Derived.Test.YtemhlblajnlogaaZXDropAttributes4
import Derived.Test.YtemhlblajnlogaaZXDropAttributes5
import Derived.Test.YtemhlblajnlogaaZXDropAttributes9
namespace Go.Proofs.Ytemhlblajnlogaa.Pu
open Go.RowKit Go.Proofs.YtemhlblajnlogaaW.PrintWords Go.Proofs.YtemhlblajnlogaaW.PrintLast Go.Proofs.YtemhlblajnlogaaW.PrintMore Go.Proofs.Ytemhlblajnlogaa.Pr
def ctxB (n : Int) (l : List Int) : Bool := decide (0 ≤ n ∧ n ≤ 6) && decide ((l.length : Int) ≤ 8) && l.all (isSetB n)
theorem ctxI_val (n : Int) (l : List Int) : impl_IsContext.f n l = some (ctxB n l) := rfl
theorem ctxS_loop (n : Int) (l : List Int) (hl : l.length ≤ 9223372036854775807) : ∀ (rest : List Int) (i : Nat), l.drop i = rest → Ev (fun k => spec_IsContext.l0 k (i : Int) n l) (decide (0 ≤ n ∧ n ≤ 6) && decide ((l.length : Int) ≤ 8) && rest.all (isSetB n)) := by
  intro rest
  induction rest with
  | nil =>
    intro i h
    have := drop_nil h
    refine Ev.step (f := fun _ => some (decide (0 ≤ n ∧ n ≤ 6) && decide ((l.length : Int) ≤ 8))) (fun k => ?_) ?_
    · simp only [spec_IsContext.l0]
      rw [if_neg (by omega), l1In_val, Option.bind_some]
      by_cases h6 : 0 ≤ n ∧ n ≤ 6
      · rw [decide_eq_true h6]; rfl
      · rw [decide_eq_false h6]; rfl
    · rw [List.all_nil, Bool.and_true]; exact Ev.now _
  | cons x rest ih =>
    intro i h
    obtain ⟨hi, hx, hd⟩ := drop_cons (d := 0) h
    cases hq : isSetB n x with
    | true =>
      refine Ev.step (f := fun k => spec_IsContext.l0 k ((i + 1 : Nat) : Int) n l) (fun k => ?_) ?_
      · simp only [spec_IsContext.l0]
        rw [if_pos (by omega), if_pos (by omega), rd_nat, hx, specSet_val, Option.bind_some, hq, if_pos rfl, wrap_succ hi hl]
      · rw [List.all_cons, hq, Bool.true_and]; exact ih (i + 1) hd
    | false =>
      refine Ev.step (f := fun _ => some false) (fun k => ?_) ?_
      · simp only [spec_IsContext.l0]
        rw [if_pos (by omega), if_pos (by omega), rd_nat, hx, specSet_val, Option.bind_some, hq, if_neg (by decide)]
      · rw [List.all_cons, hq, Bool.false_and, Bool.and_false]; exact Ev.now _
theorem ctxS_val (n : Int) (l : List Int) (hl : l.length ≤ 9223372036854775807) : Ev (fun k => spec_IsContext.f k n l) (ctxB n l) := ctxS_loop n l hl l 0 rfl
theorem row_lt {R : List Nat} {q : Nat} (h : ∀ r ∈ R, r < 2 ^ q) (i : Nat) : row R i < 2 ^ q := by
  unfold row
  rw [List.getD_eq_getElem?_getD]
  cases h' : R[i]? with
  | none => exact Nat.two_pow_pos q
  | some x => exact h x (List.mem_of_getElem? h')
theorem ctxB_nat {n : Int} {l : List Int} (h : ctxB n l = true) : ∃ (m : Nat) (R : List Nat), n = (m : Int) ∧ m ≤ 6 ∧ l = cast R ∧ R.length ≤ 8 ∧ ∀ r ∈ R, r < 2 ^ m := by
  unfold ctxB at h
  rw [Bool.and_eq_true, Bool.and_eq_true, decide_eq_true_iff, decide_eq_true_iff, List.all_eq_true] at h
  obtain ⟨⟨h1, h2⟩, h3⟩ := h
  have hx : ∀ x ∈ l, 0 ≤ x ∧ x.toNat < 2 ^ n.toNat := by
    intro x hx
    obtain ⟨m, a, hm, e1, ha, e2⟩ := isSetB_nat (h3 x hx)
    subst e2
    refine ⟨by omega, ?_⟩
    rw [e1, Int.toNat_natCast, Int.toNat_natCast]
    exact ha
  refine ⟨n.toNat, l.map Int.toNat, by omega, by omega, cast_of fun x h => (hx x h).1, by rw [List.length_map]; omega, fun r hr => ?_⟩
  obtain ⟨x, hx', rfl⟩ := List.mem_map.1 hr
  exact (hx x hx').2
theorem rd_row (R : List Nat) (i : Nat) : rd (cast R) (i : Int) = ((row R i : Nat) : Int) := rd_cast R i
theorem fullI_val (n : Int) : impl_FullSet.f n = some (fullV n) := by
  unfold impl_FullSet.f fullV
  rw [within_val, Option.bind_some]
  by_cases h : 0 ≤ n ∧ n ≤ 8
  · rw [if_pos h, if_pos (decide_eq_true h), if_pos h.1, upper_val n h.1 h.2]
  · rw [if_neg h, if_neg (by simpa using h)]
theorem fullN {m : Nat} (h : m ≤ 8) : fullV (m : Int) = ((full m : Nat) : Int) := fullV_nat h
theorem uncast (R : List Nat) : (cast R).map Int.toNat = R := by
  unfold cast
  rw [List.map_map]
  conv => rhs; rw [← List.map_id R]
  exact List.map_congr_left fun x _ => by simp
theorem full_256 {m : Nat} (h : m ≤ 8) : full m < 256 := lt_256 h (full_lt m)
theorem full_sub_row {m r : Nat} (h : r < 2 ^ m) : full m - r = diff (full m) r := by
  rw [diff_eq_sub]
  have : full m &&& r = r := by
    have := sub_full h
    unfold sub at this
    rw [Nat.and_comm]
    exact eq_of_beq this
  rw [this]
end Go.Proofs.Ytemhlblajnlogaa.Pu
namespace Go.Proofs.Ytemhlblajnlogaa.Pu
open Go.RowKit Go.Proofs.YtemhlblajnlogaaW.PrintWords Go.Proofs.YtemhlblajnlogaaW.PrintLast Go.Proofs.YtemhlblajnlogaaW.PrintMore Go.Proofs.Ytemhlblajnlogaa.Pr
def atsB (n : Int) (l : List Int) (a : Int) : Bool := ctxB n l && isSetB n a
theorem atsI_val (n : Int) (l : List Int) (a : Int) : impl_areAttributes.f n l a = some (atsB n l a) := by
  unfold impl_areAttributes.f atsB
  rw [ctxI_val, Option.bind_some]
  cases ctxB n l with
  | false => rfl
  | true => rw [if_pos rfl, set_val, Option.bind_some, Bool.true_and]
theorem ats_nat {n : Int} {l : List Int} {a : Int} (h : atsB n l a = true) : ctxB n l = true ∧ ∃ (m : Nat) (R : List Nat) (a' : Nat), n = (m : Int) ∧ m ≤ 6 ∧ l = cast R ∧ R.length ≤ 8 ∧ (∀ r ∈ R, r < 2 ^ m) ∧ a = (a' : Int) ∧ a' < 2 ^ m := by
  unfold atsB at h
  rw [Bool.and_eq_true] at h
  obtain ⟨hc, hs⟩ := h
  obtain ⟨m, R, rfl, hm, rfl, hR, hb⟩ := ctxB_nat hc
  obtain ⟨m', a', _, e, ha, rfl⟩ := isSetB_nat hs
  obtain rfl : m = m' := by omega
  exact ⟨hc, m, R, a', rfl, hm, rfl, hR, hb, rfl, ha⟩
end Go.Proofs.Ytemhlblajnlogaa.Pu
namespace Go.Proofs.Ytemhlblajnlogaa.Pu
open Go.RowKit Go.Proofs.YtemhlblajnlogaaW.PrintWords Go.Proofs.YtemhlblajnlogaaW.PrintLast Go.Proofs.YtemhlblajnlogaaW.PrintMore Go.Proofs.Ytemhlblajnlogaa.Pr
/-- the elements of a set, ascending -/
def elN (s : Nat) : List Nat := (List.range 8).filter fun (e : Nat) => s.testBit e
theorem elN_length (s : Nat) : (elN s).length ≤ 8 := by
  have := List.length_filter_le (fun (e : Nat) => s.testBit e) (List.range 8)
  rw [List.length_range] at this
  exact this
theorem elN_le (s i : Nat) : row (elN s) i ≤ 7 := by
  unfold row
  rw [List.getD_eq_getElem?_getD]
  cases h : (elN s)[i]? with
  | none => exact Nat.zero_le _
  | some x =>
    have := List.mem_range.1 (List.mem_filter.1 (List.mem_of_getElem? h)).1
    show x ≤ 7
    omega
/-- the elements of c numbered anew: those that are in s -/
def pack (s c : Nat) : Nat := ofBits (fun k => s.testBit (row (elN c) k)) (elN c).length
set_option maxRecDepth 100000 in
theorem countI_all : ∀ a : Fin 256, impl_CountOf.f ((a.val : Nat) : Int) = some (((elN a.val).length : Nat) : Int) := by decide +kernel
theorem countI_val {a : Nat} (ha : a < 256) : impl_CountOf.f (a : Int) = some (((elN a).length : Nat) : Int) := countI_all ⟨a, ha⟩
theorem elemsV_nat {a : Nat} (ha : a < 256) : elemsV (a : Int) = cast (elN a) := by
  unfold elemsV isAny
  rw [decide_eq_true (by omega), if_pos rfl, Int.toNat_natCast]
  rfl
theorem renI_val {s c : Nat} (hs : s < 256) (hc : c < 256) : Ev (fun k => impl_renumbered.f k (s : Int) (c : Int)) ((pack s c : Nat) : Int) := by
  unfold impl_renumbered.f
  refine Ev.bind (elemsI_val (c : Int)) ?_
  rw [elemsV_nat hc]
  have hl := elN_length c
  refine ev_fold (g := fun k (a : Nat) i => impl_renumbered.l0 k (s : Int) (a : Int) (cast (elN c)) ((cast (elN c)).length : Int) i) (bitStep fun k => s.testBit (row (elN c) k)) (fun _ a => a < 2 ^ (elN c).length) (N := (elN c).length) ?_ (fun i a hi h => bitStep_lt hi h) (elN c).length 0 0 (by omega) (Nat.two_pow_pos _) ?_
  · intro i a hi ha h
    have ha' := lt_256 hl ha
    have h7 := elN_le c i
    refine Ev.step (fun k => ?_) h
    simp only [impl_renumbered.l0]
    rw [if_pos (by rw [cast_length]; omega), if_pos (by omega), if_pos (by rw [cast_length]; omega), rd_row, if_pos (by omega), bit01 _ _ (by omega) (by omega), or_shl ha' (by omega), wrap_succ hi (by omega)]
    rfl
  · intro b hb _
    refine Ev.step (f := fun _ => some (b : Int)) (fun k => ?_) ?_
    · simp only [impl_renumbered.l0]
      rw [if_neg (by rw [cast_length]; omega)]
    · rw [hb, fold_bits]; exact Ev.now _
/-- the places that are not in o, and their rows with the attributes of c numbered anew -/
def leftR (R : List Nat) (o c i : Nat) : List Nat := ((List.range i).filter fun (j : Nat) => !o.testBit j).map fun j => pack (row R j) c
theorem leftR_length (R : List Nat) (o c i : Nat) : (leftR R o c i).length ≤ i := by
  unfold leftR
  rw [List.length_map]
  have := List.length_filter_le (fun (j : Nat) => !o.testBit j) (List.range i)
  rw [List.length_range] at this
  exact this
theorem leftR_succ (R : List Nat) (o c i : Nat) : leftR R o c (i + 1) = if o.testBit i = true then leftR R o c i else leftR R o c i ++ [pack (row R i) c] := by
  unfold leftR
  rw [List.range_succ, List.filter_append, List.map_append]
  by_cases h : o.testBit i = true
  · rw [if_pos h, List.filter_cons_of_neg (by rw [h]; decide), List.filter_nil, List.map_nil, List.append_nil]
  · rw [if_neg h, List.filter_cons_of_pos (by simpa using h), List.filter_nil]
    rfl
theorem cast_append (a b : List Nat) : cast (a ++ b) = cast a ++ cast b := by unfold cast; rw [List.map_append]
theorem hasI_nat {c i : Nat} (hc : c < 256) (hi : i ≤ 7) : impl_HasElement.f (c : Int) (i : Int) = some (c.testBit i) := by
  rw [hasI_val]
  unfold hasV isAny
  rw [decide_eq_true (by omega), decide_eq_true (by omega)]
  simp
theorem withI_val (m : Nat) (hm : m ≤ 8) (R : List Nat) (hR : R.length ≤ 8) (hrow : ∀ i, row R i < 256) (o at_ : Nat) (ho : o < 256) (hat : at_ < 256) :
    Ev (fun k => impl_without.f k (m : Int) (cast R) (o : Int) (at_ : Int)) ((((elN (diff (full m) at_)).length : Nat) : Int), cast (leftR R o (diff (full m) at_) R.length)) := by
  unfold impl_without.f
  have hf := full_256 hm
  have hd : diff (full m) at_ < 256 := Nat.lt_of_le_of_lt (diff_le _ _) hf
  refine Ev.congr (fun k => by rw [fullI_val, Option.bind_some, fullN hm, andNot_nat (by omega) (by omega), countI_val hd, Option.bind_some]) ?_
  generalize diff (full m) at_ = c at *
  refine ev_fold (g := fun k (a : List Int) i => impl_without.l0 k (o : Int) (c : Int) (cast R) ((cast R).length : Int) i (((elN c).length : Nat) : Int) a) (fun i _ => cast (leftR R o c (i + 1))) (fun i a => a = cast (leftR R o c i)) (N := R.length) ?_ (fun i a hi h => rfl) R.length 0 [] (by omega) rfl ?_
  · intro i a hi ha h
    have hl := leftR_length R o c i
    have hal : a.length ≤ 8 := by rw [ha, cast_length]; omega
    rw [leftR_succ] at h
    by_cases h1 : o.testBit i = true
    · rw [if_pos h1, ← ha] at h
      refine Ev.step (fun k => ?_) h
      simp only [impl_without.l0]
      rw [if_pos (by rw [cast_length]; omega), if_pos (by omega), if_pos (by rw [cast_length]; omega), hasI_nat ho (by omega), Option.bind_some, if_pos h1, wrap_succ hi (by omega)]
    · rw [if_neg h1, cast_append, ← ha] at h
      refine Ev.step (f := fun k => (impl_renumbered.f k ((row R i : Nat) : Int) (c : Int)).bind fun t => impl_without.l0 k (o : Int) (c : Int) (cast R) ((cast R).length : Int) ((i + 1 : Nat) : Int) (((elN c).length : Nat) : Int) (a ++ [t])) (fun k => ?_) ?_
      · simp only [impl_without.l0]
        rw [if_pos (by rw [cast_length]; omega), if_pos (by omega), if_pos (by rw [cast_length]; omega), hasI_nat ho (by omega), Option.bind_some, if_neg h1, wrap_succ hi (by omega), rd_row]
        simp only [if_pos (show a.length < 17592186044416 by omega)]
      · exact Ev.bind (renI_val (hrow i) hd) h
  · intro b _ hb'
    refine Ev.step (f := fun _ => some ((((elN c).length : Nat) : Int), b)) (fun k => ?_) ?_
    · simp only [impl_without.l0]
      rw [if_neg (by rw [cast_length]; omega)]
    · rw [hb']; exact Ev.now _
end Go.Proofs.Ytemhlblajnlogaa.Pu
namespace Go.Proofs.Ytemhlblajnlogaa.Pu
open Go.RowKit Go.Proofs.YtemhlblajnlogaaW.PrintWords Go.Proofs.YtemhlblajnlogaaW.PrintLast Go.Proofs.YtemhlblajnlogaaW.PrintMore Go.Proofs.Ytemhlblajnlogaa.Pr
set_option maxRecDepth 100000 in
theorem countS_all : ∀ a : Fin 256, spec_CountOf.f 10 ((a.val : Nat) : Int) = some (((elN a.val).length : Nat) : Int) := by decide +kernel
theorem countS_val {a : Nat} (ha : a < 256) : Ev (fun k => spec_CountOf.f k (a : Int)) (((elN a).length : Nat) : Int) := Ev.of (fun k => spec_CountOf.mono _ k) (countS_all ⟨a, ha⟩)
/-- the elements of c below e -/
def elB (c e : Nat) : List Nat := (List.range e).filter fun (j : Nat) => c.testBit j
theorem elB_succ (c e : Nat) : elB c (e + 1) = if c.testBit e = true then elB c e ++ [e] else elB c e := by
  unfold elB
  rw [List.range_succ, List.filter_append]
  by_cases h : c.testBit e = true
  · rw [if_pos h, List.filter_cons_of_pos h, List.filter_nil]
  · rw [if_neg h, List.filter_cons_of_neg h, List.filter_nil, List.append_nil]
theorem elB_length (c e : Nat) : (elB c e).length ≤ e := by
  have := List.length_filter_le (fun (j : Nat) => c.testBit j) (List.range e)
  rw [List.length_range] at this
  exact this
theorem row_append_lt {L : List Nat} {x i : Nat} (h : i < L.length) : row (L ++ [x]) i = row L i := by
  unfold row
  rw [List.getD_eq_getElem?_getD, List.getD_eq_getElem?_getD, List.getElem?_append_left h]
theorem row_append_self (L : List Nat) (x : Nat) : row (L ++ [x]) L.length = x := by
  unfold row
  rw [List.getD_eq_getElem?_getD, List.getElem?_append_right (Nat.le_refl _), Nat.sub_self]
  rfl
def packB (s c e : Nat) : Nat := ofBits (fun k => s.testBit (row (elB c e) k)) (elB c e).length
theorem packB_succ (s c e : Nat) : packB s c (e + 1) = if c.testBit e = true then (if s.testBit e = true then packB s c e ||| 2 ^ (elB c e).length else packB s c e) else packB s c e := by
  unfold packB
  rw [elB_succ]
  by_cases h : c.testBit e = true
  · rw [if_pos h, if_pos h, List.length_append, List.length_singleton, ofBits, row_append_self]
    rw [ofBits_congr (g := fun k => s.testBit (row (elB c e) k)) (fun i hi => by rw [row_append_lt hi])]
    by_cases h' : s.testBit e = true
    · rw [if_pos h', if_pos h']
    · rw [if_neg h', if_neg h', Nat.or_zero]
  · rw [if_neg h, if_neg h]
theorem packS_val {s c : Nat} (hs : s < 256) (hc : c < 256) : Ev (fun k => spec_l7Pack.f k (s : Int) (c : Int)) ((pack s c : Nat) : Int) := by
  unfold spec_l7Pack.f
  refine ev_fold (g := fun k (a : Nat × Nat) i => spec_l7Pack.l0 k (s : Int) (c : Int) (a.1 : Int) (a.2 : Int) i) (fun e _ => (packB s c (e + 1), (elB c (e + 1)).length)) (fun e a => a = (packB s c e, (elB c e).length)) (N := 8) ?_ (fun i a hi h => rfl) 8 0 (0, 0) rfl rfl ?_
  · intro i a hi ha h
    subst ha
    have hl := elB_length c i
    have hp : packB s c i < 256 := lt_256 (show (elB c i).length ≤ 8 by omega) (ofBits_lt _ _)
    refine Ev.step (fun k => ?_) h
    simp only [spec_l7Pack.l0]
    rw [if_pos (by omega), l2Has_val c i (by omega) (by omega), Option.bind_some, l2Has_val s i (by omega) (by omega), Option.bind_some, packB_succ, elB_succ, wrapU_small _ (by omega) (by omega), show wrap64 ((i : Int) + 1) = ((i + 1 : Nat) : Int) from by unfold wrap64; omega, show wrap64 (((elB c i).length : Int) + 1) = (((elB c i).length + 1 : Nat) : Int) from by unfold wrap64; omega]
    by_cases h1 : c.testBit i = true
    · rw [if_pos h1, if_pos h1, if_pos h1, List.length_append, List.length_singleton]
      by_cases h2 : s.testBit i = true
      · rw [if_pos h2, if_pos h2, if_pos (by omega), or_bit hp (by omega)]
      · rw [if_neg h2, if_neg h2]
    · rw [if_neg h1, if_neg h1, if_neg h1]
  · intro b hb hb'
    refine Ev.step (f := fun _ => some (b.1 : Int)) (fun k => ?_) ?_
    · simp only [spec_l7Pack.l0]
      rw [if_neg (by decide)]
    · rw [hb']; exact Ev.now _
def dropAV (n : Int) (l : List Int) (a : Int) : Int × List Int × Bool := if atsB n l a = true then ((((elN (diff (full n.toNat) a.toNat)).length : Nat) : Int), cast (leftR (l.map Int.toNat) 0 (diff (full n.toNat) a.toNat) l.length), true) else (0, [], false)
theorem dropAV_length (n : Int) (l : List Int) (a : Int) : (dropAV n l a).2.1.length ≤ l.length := by
  unfold dropAV
  split
  · show (cast _).length ≤ _
    rw [cast_length]
    exact leftR_length _ _ _ _
  · exact Nat.zero_le _
theorem dropAI_val (n : Int) (l : List Int) (_hl : l.length ≤ 1048576) (a : Int) : Ev (fun k => impl_DropAttributes.f k n l a) (dropAV n l a) := by
  unfold impl_DropAttributes.f dropAV
  rw [atsI_val]
  simp only [Option.bind_some]
  cases h : atsB n l a with
  | false => exact Ev.congr (fun k => by rw [if_neg (by decide), if_neg (by decide)]) (Ev.now _)
  | true =>
    obtain ⟨hc, m, R, a', rfl, hm, rfl, hR, hb, rfl, ha⟩ := ats_nat h
    have hrow := fun i => lt_256 (show m ≤ 8 by omega) (row_lt hb i)
    rw [if_pos rfl, uncast, Int.toNat_natCast, Int.toNat_natCast, cast_length]
    refine Ev.congr (fun k => by rw [if_pos rfl]) ?_
    refine Ev.bind (withI_val m (by omega) R hR hrow 0 a' (by decide) (lt_256 (by omega) ha)) ?_
    exact Ev.now _
theorem dropAS_val (n : Int) (l : List Int) (hl : l.length ≤ 1048576) (a : Int) : Ev (fun k => spec_DropAttributes.f k n l a) (dropAV n l a) := by
  unfold spec_DropAttributes.f dropAV
  refine Ev.bind (ctxS_val n l (by omega)) ?_
  cases hc : ctxB n l with
  | false =>
    rw [show atsB n l a = false from by unfold atsB; rw [hc]; rfl, if_neg (by decide)]
    refine Ev.congr (fun k => by rw [if_neg (by decide)]) ?_
    refine Ev.step (f := fun _ => some (0, [], false)) (fun k => ?_) (Ev.now _)
    simp only [spec_DropAttributes.j0]
    rw [if_true]
  | true =>
    refine Ev.congr (fun k => by rw [if_pos rfl, specSet_val, Option.bind_some, show isSetB n a = atsB n l a from by unfold atsB; rw [hc, Bool.true_and]]) ?_
    cases h : atsB n l a with
    | false =>
      rw [if_neg (by decide)]
      refine Ev.step (f := fun _ => some (0, [], false)) (fun k => ?_) (Ev.now _)
      simp only [spec_DropAttributes.j0, Bool.not_false]
      rw [if_true]
    | true =>
      obtain ⟨_, m, R, a', rfl, hm, rfl, hR, hb, rfl, ha⟩ := ats_nat h
      have hrow := fun i => lt_256 (show m ≤ 8 by omega) (row_lt hb i)
      have hf := full_256 (show m ≤ 8 by omega)
      have hle : a' ≤ full m := by unfold full; omega
      have hd : diff (full m) a' < 256 := Nat.lt_of_le_of_lt (diff_le _ _) hf
      rw [if_pos rfl, uncast, Int.toNat_natCast, Int.toNat_natCast, cast_length]
      refine Ev.step (f := fun k => (spec_CountOf.f k ((diff (full m) a' : Nat) : Int)).bind fun t => spec_DropAttributes.l0 k ((diff (full m) a' : Nat) : Int) ((0 : Nat) : Int) (m : Int) (cast R) t []) (fun k => ?_) ?_
      · simp only [spec_DropAttributes.j0, Bool.not_true]
        rw [if_neg (by decide), fullS_val, Option.bind_some, fullN (by omega), show wrap64 (((full m : Nat) : Int) - (a' : Int)) = ((full m - a' : Nat) : Int) from by unfold wrap64; omega, full_sub_row ha]
        rfl
      · refine Ev.bind (countS_val hd) ?_
        generalize diff (full m) a' = c at *
        refine ev_fold (g := fun k (b : List Int) i => spec_DropAttributes.l0 k (c : Int) i (m : Int) (cast R) (((elN c).length : Nat) : Int) b) (fun i _ => cast (leftR R 0 c (i + 1))) (fun i b => b = cast (leftR R 0 c i)) (N := R.length) ?_ (fun i a hi h => rfl) R.length 0 [] (by omega) rfl ?_
        · intro i b hi hb' h
          have hl := leftR_length R 0 c i
          have hal : b.length ≤ 8 := by rw [hb', cast_length]; omega
          rw [leftR_succ, if_neg (by rw [Nat.zero_testBit]; decide), cast_append, ← hb'] at h
          refine Ev.step (f := fun k => (spec_l7Pack.f k ((row R i : Nat) : Int) (c : Int)).bind fun t => spec_DropAttributes.l0 k (c : Int) ((i + 1 : Nat) : Int) (m : Int) (cast R) (((elN c).length : Nat) : Int) (b ++ [t])) (fun k => ?_) ?_
          · simp only [spec_DropAttributes.l0]
            rw [if_pos (by rw [cast_length]; omega), if_pos (by omega), wrap_succ hi (by omega), rd_row]
            simp only [if_pos (show b.length < 17592186044416 by omega)]
          · exact Ev.bind (packS_val (hrow i) hd) h
        · intro b _ hb'
          refine Ev.step (f := fun _ => some ((((elN c).length : Nat) : Int), b, true)) (fun k => ?_) ?_
          · simp only [spec_DropAttributes.l0]
            rw [if_neg (by rw [cast_length]; omega)]
          · rw [hb']; exact Ev.now _
end Go.Proofs.Ytemhlblajnlogaa.Pu
namespace Go.Proofs.Ytemhlblajnlogaa.Pu
open Go.RowKit Go.Proofs.YtemhlblajnlogaaW.PrintWords Go.Proofs.YtemhlblajnlogaaW.PrintLast Go.Proofs.YtemhlblajnlogaaW.PrintMore Go.Proofs.Ytemhlblajnlogaa.Pr
theorem FnExactDropAttributes (x0 : S24) (a1 : Int) (_ : (Lit.int .i64 x0.f0).wf = true ∧ ∀ x ∈ x0.f1, (Lit.int .i64 x).wf = true) (hl : x0.f1.length ≤ 9223372036854775807) (_ : (Lit.int .i64 a1).wf = true) : ∃ k, laws_FnExactDropAttributes.f k x0.f0 x0.f1 a1 = some true := by
  apply Ev.rounds
  unfold laws_FnExactDropAttributes.f
  obtain ⟨m, hm, hm2⟩ := szC_val x0.f0 x0.f1 hl
  rw [hm]
  simp only [Option.bind_some]
  by_cases h : m < 0
  · exact Ev.congr (fun k => by rw [if_pos h]) (Ev.now true)
  · have hle := hm2 (by omega)
    have hS := dropAS_val x0.f0 x0.f1 hle a1
    have hI := dropAI_val x0.f0 x0.f1 hle a1
    have hV := dropAV_length x0.f0 x0.f1 a1
    generalize dropAV x0.f0 x0.f1 a1 = q at hS hI hV
    have hq : q.2.1.length ≤ 1048576 := by omega
    refine Ev.congr (fun k => by rw [if_neg h]) ?_
    refine Ev.bind (toC_val _ _ hle) ?_
    refine Ev.bind hS ?_
    refine Ev.bind (toC_val _ _ hle) ?_
    refine Ev.bind hI ?_
    refine Ev.bind (eqC_self q.1 q.2.1 (by omega)) ?_
    refine Ev.congr (fun k => by rw [if_pos rfl, show (q.2.2 != q.2.2) = false from by simp]) ?_
    refine Ev.step (fun k => by simp only [laws_FnExactDropAttributes.j0]; rw [if_neg (by decide)]) ?_
    refine Ev.bind (toC_val _ _ hle) ?_
    refine Ev.bind (eqC_self x0.f0 x0.f1 hl) ?_
    refine Ev.congr (fun k => by rw [if_pos rfl]) ?_
    refine Ev.bind (markC_val x0.f0 x0.f1 hle) ?_
    refine Ev.congr (fun k => by rw [if_neg (markC_pos _)]) ?_
    refine Ev.bind (eqC_self q.1 q.2.1 (by omega)) ?_
    refine Ev.congr (fun k => by rw [if_pos rfl, show (q.2.2 != q.2.2) = false from by simp]) ?_
    refine Ev.step (fun k => by simp only [laws_FnExactDropAttributes.j1]; rw [if_neg (by decide)]) ?_
    refine Ev.bind (markC_val q.1 q.2.1 hq) ?_
    refine Ev.bind (heldC_val q.1 q.2.1 hq) ?_
    refine Ev.congr (fun k => by rw [if_neg (markC_pos _), if_pos rfl]) ?_
    refine Ev.bind (toC_val _ _ hle) ?_
    refine Ev.bind hI ?_
    refine Ev.bind (eqC_self q.1 q.2.1 (by omega)) ?_
    refine Ev.congr (fun k => by rw [if_pos rfl, show (q.2.2 != q.2.2) = false from by simp]) ?_
    refine Ev.step (fun k => by simp only [laws_FnExactDropAttributes.j2]; rw [if_neg (by decide)]) ?_
    refine Ev.bind (heldC_val q.1 q.2.1 hq) ?_
    exact Ev.congr (fun k => by rw [if_neg (markC_pos _), if_pos rfl]) (Ev.now true)
end Go.Proofs.Ytemhlblajnlogaa.Pu
