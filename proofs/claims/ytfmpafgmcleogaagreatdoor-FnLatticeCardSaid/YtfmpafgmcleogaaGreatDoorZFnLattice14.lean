/- Functions of the program as plain functions, proofs that their calls answer so, and plain laws: what the law needs. No condition beyond what each statement says. -/
import Derived.Test.YtfmpafgmcleogaaGreatDoorZFnLattice13
namespace Go.Proofs.YtfmpafgmcleogaaGreatDoor.Pu
open Go.RowKit Go.Proofs.YtfmpafgmcleogaaGreatDoorW.PrintWords Go.Proofs.YtfmpafgmcleogaaGreatDoorW.PrintLast Go.Proofs.YtfmpafgmcleogaaGreatDoorW.PrintMore Go.Proofs.YtfmpafgmcleogaaGreatDoor.Pr
def wayU (U : Nat → Nat → Bool) (up : Bool) (a b : Nat) : Bool := if up = true then U a b else U b a
theorem sortS_val (n : Int) (l : List Int) {i j : Nat} (hi : i < (conV n l).length) (hj : j < (conV n l).length) (up : Bool) : spec_l6Sorted.f (conV n l) (i : Int) (j : Int) up = some (wayU (belI (conV n l)) up i j) := by
  unfold spec_l6Sorted.f wayU
  cases up with
  | true => rw [if_pos rfl, if_pos rfl, if_pos (by omega), if_pos (by omega), if_pos (by omega), if_pos (by omega), underS_val n l hi hj]; rfl
  | false => rw [if_neg (show ¬ (false = true) by decide), if_neg (show ¬ (false = true) by decide), if_pos (by omega), if_pos (by omega), if_pos (by omega), if_pos (by omega), underS_val n l hj hi]; rfl
def midB (S : Nat → Nat → Bool) (a b k : Nat) : Bool := decide (k = a) || (decide (k = b) || (!S a k || !S k b))
def nextB (S : Nat → Nat → Bool) (n a b : Nat) : Bool := decide (b ≠ a) && S a b && (List.range n).all (midB S a b)
theorem nextB_up (U : Nat → Nat → Bool) (n a b : Nat) : nextB (wayU U true) n a b = cov U n a b := by
  unfold nextB cov
  have e : decide (b ≠ a) = decide (a ≠ b) := by rw [decide_eq_decide]; omega
  rw [e]
  congr 1
  refine List.all_congr rfl fun k => ?_
  unfold midB wayU
  rw [if_pos rfl, if_pos rfl]
  have e1 : decide (k = a) = !decide (a ≠ k) := by
    by_cases h : k = a
    · rw [decide_eq_true h, decide_eq_false (by omega)]; rfl
    · rw [decide_eq_false h, decide_eq_true (by omega)]; rfl
  have e2 : decide (k = b) = !decide (k ≠ b) := by
    by_cases h : k = b
    · rw [decide_eq_true h, decide_eq_false (by omega)]; rfl
    · rw [decide_eq_false h, decide_eq_true (by omega)]; rfl
  rw [e1, e2]
  cases decide (a ≠ k) <;> cases decide (k ≠ b) <;> cases U a k <;> cases U k b <;> rfl
theorem nextB_low (U : Nat → Nat → Bool) (n a b : Nat) : nextB (wayU U false) n a b = cov U n b a := by
  unfold nextB cov
  congr 1
  refine List.all_congr rfl fun k => ?_
  unfold midB wayU
  rw [if_neg (by decide), if_neg (by decide)]
  have e1 : decide (k = a) = !decide (k ≠ a) := by
    by_cases h : k = a
    · rw [decide_eq_true h, decide_eq_false (by omega)]; rfl
    · rw [decide_eq_false h, decide_eq_true (by omega)]; rfl
  have e2 : decide (k = b) = !decide (b ≠ k) := by
    by_cases h : k = b
    · rw [decide_eq_true h, decide_eq_false (by omega)]; rfl
    · rw [decide_eq_false h, decide_eq_true (by omega)]; rfl
  rw [e1, e2]
  cases decide (b ≠ k) <;> cases decide (k ≠ a) <;> cases U b k <;> cases U k a <;> rfl
theorem small_cov : ∀ n : Nat, n ≤ 1048576 → n < 17592186044416 := fun n _ => by omega
theorem cov6_inner (n : Int) (l : List Int) (up : Bool) {a b : Nat} (ha : a < (conV n l).length) (hb : b < (conV n l).length) (out : List Int) (ho : out.length ≤ 256) (v : List Int) : ∀ d i, i + d = (conV n l).length → ∀ fine : Bool,
    Ev (fun k => spec_l6Covers.l0 k (conV n l) (a : Int) up (if (fine && (List.range' i d).all (midB (wayU (belI (conV n l)) up) a b)) = true then out ++ [(b : Int)] else out) ((b + 1 : Nat) : Int)) v →
    Ev (fun k => spec_l6Covers.l1 k (conV n l) (a : Int) up out (b : Int) fine (i : Int)) v := by
  have hl := conV_len n l
  have hwb : wrap64 ((b : Int) + 1) = ((b + 1 : Nat) : Int) := by unfold wrap64; omega
  intro d
  induction d with
  | zero =>
    intro i hi fine h
    rw [List.range'_zero, List.all_nil, Bool.and_true] at h
    refine Ev.step (fun k => ?_) h
    simp only [spec_l6Covers.l1]
    rw [if_neg (by omega), if_pos (small_cov _ (by omega)), hwb]
    cases fine with
    | true => rw [if_pos rfl, if_pos rfl]
    | false => rw [if_neg (by decide), if_neg (by decide)]
  | succ d ih =>
    intro i hi fine h
    have hwi : wrap64 ((i : Int) + 1) = ((i + 1 : Nat) : Int) := by unfold wrap64; omega
    rw [List.range'_succ, List.all_cons, ← Bool.and_assoc] at h
    have hih := ih (i + 1) (by omega) _ h
    refine Ev.step (fun k => ?_) hih
    simp only [spec_l6Covers.l1]
    rw [if_pos (by omega), hwi]
    cases fine with
    | false => rw [if_neg (by decide)]; rfl
    | true =>
      rw [if_pos rfl]
      unfold midB
      by_cases e1 : i = a
      · rw [if_pos (by rw [e1]), decide_eq_true e1]; rfl
      · rw [if_neg (by omega), decide_eq_false e1]
        by_cases e2 : i = b
        · rw [if_pos (by rw [e2]), decide_eq_true e2]; rfl
        · rw [if_neg (by omega), decide_eq_false e2, sortS_val n l ha (by omega) up, Option.bind_some, sortS_val n l (by omega) hb up, Option.bind_some]
          cases wayU (belI (conV n l)) up a i with
          | true => rw [if_pos rfl]; rfl
          | false => rw [if_neg (by decide)]; rfl
theorem cov6_outer (n : Int) (l : List Int) (up : Bool) {a : Nat} (ha : a < (conV n l).length) : ∀ d b, b + d = (conV n l).length → ∀ out : List Int, out.length ≤ b →
    Ev (fun k => spec_l6Covers.l0 k (conV n l) (a : Int) up out (b : Int)) (out ++ ((List.range' b d).filter fun x => nextB (wayU (belI (conV n l)) up) (conV n l).length a x).map fun i : Nat => (i : Int)) := by
  have hl := conV_len n l
  intro d
  induction d with
  | zero =>
    intro b hb out ho
    rw [List.range'_zero, List.filter_nil, List.map_nil, List.append_nil]
    refine Ev.step (f := fun k => spec_l6Covers.j1 k (conV n l) (a : Int) up out (b : Int) false) (fun k => ?_) ?_
    · simp only [spec_l6Covers.l0]
      rw [if_neg (by omega)]
    · refine Ev.step (f := fun _ => some out) (fun k => ?_) (Ev.now _)
      simp only [spec_l6Covers.j1]
      rw [if_neg (by decide)]
  | succ d ih =>
    intro b hb out ho
    have hwb : wrap64 ((b : Int) + 1) = ((b + 1 : Nat) : Int) := by unfold wrap64; omega
    rw [List.range'_succ, List.filter_cons]
    refine Ev.step (f := fun k => spec_l6Covers.j1 k (conV n l) (a : Int) up out (b : Int) true) (fun k => ?_) ?_
    · simp only [spec_l6Covers.l0]
      rw [if_pos (by omega), exL_val hl, inB_mk ha, Option.bind_some]
    · have hno := ih (b + 1) (by omega) out (by omega)
      have skip : Ev (fun k => spec_l6Covers.j2 k (conV n l) (a : Int) up out (b : Int) true) (out ++ ((List.range' (b + 1) d).filter fun x => nextB (wayU (belI (conV n l)) up) (conV n l).length a x).map fun i : Nat => (i : Int)) := by
        refine Ev.step (fun k => ?_) hno
        simp only [spec_l6Covers.j2]
        rw [if_pos trivial, hwb]
      by_cases e : b = a
      · have : nextB (wayU (belI (conV n l)) up) (conV n l).length a b = false := by
          unfold nextB
          rw [decide_eq_false (by omega)]
          rfl
        rw [this, if_neg (by decide)]
        refine Ev.step (fun k => ?_) skip
        simp only [spec_l6Covers.j1]
        rw [if_pos trivial, if_pos (by rw [e])]
      · refine Ev.step (f := fun k => spec_l6Covers.j2 k (conV n l) (a : Int) up out (b : Int) (!wayU (belI (conV n l)) up a b)) (fun k => ?_) ?_
        · simp only [spec_l6Covers.j1]
          rw [if_pos trivial, if_neg (by omega), sortS_val n l ha (by omega) up, Option.bind_some]
        · have en : nextB (wayU (belI (conV n l)) up) (conV n l).length a b = (wayU (belI (conV n l)) up a b && (List.range (conV n l).length).all (midB (wayU (belI (conV n l)) up) a b)) := by
            unfold nextB
            rw [decide_eq_true (show b ≠ a from e), Bool.true_and]
          rw [en]
          cases wayU (belI (conV n l)) up a b with
          | false =>
            rw [if_neg (by rw [Bool.false_and]; decide)]
            exact skip
          | true =>
            rw [Bool.true_and]
            refine Ev.step (f := fun k => spec_l6Covers.l1 k (conV n l) (a : Int) up out (b : Int) true ((0 : Nat) : Int)) (fun k => ?_) ?_
            · simp only [spec_l6Covers.j2]
              rfl
            · refine cov6_inner n l up ha (by omega) out (by omega) _ (conV n l).length 0 (by omega) true ?_
              rw [Bool.true_and, ← List.range_eq_range']
              cases (List.range (conV n l).length).all (midB (wayU (belI (conV n l)) up) a b) with
              | false =>
                rw [if_neg (by decide), if_neg (by decide)]
                exact hno
              | true =>
                rw [if_pos rfl, if_pos rfl, List.map_cons]
                have := ih (b + 1) (by omega) (out ++ [(b : Int)]) (by rw [List.length_append, List.length_singleton]; omega)
                rw [List.append_assoc] at this
                exact this
def covN (n : Int) (l : List Int) (up : Bool) (a : Nat) : List Nat := if up = true then upN (belI (conV n l)) (conV n l).length a else lowN (belI (conV n l)) (conV n l).length a
theorem covN_len (n : Int) (l : List Int) (up : Bool) (a : Nat) : (covN n l up a).length ≤ 256 := by
  have hl := conV_len n l
  unfold covN upN lowN
  split <;> exact Nat.le_trans (List.length_filter_le _ _) (by rw [List.length_range]; omega)
theorem cov6_nat (n : Int) (l : List Int) (up : Bool) {a : Nat} (ha : a < (conV n l).length) : Ev (fun k => spec_l6Covers.f k (conV n l) (a : Int) up) ((covN n l up a).map fun i : Nat => (i : Int)) := by
  have h := cov6_outer n l up ha (conV n l).length 0 (by omega) [] (Nat.le_refl _)
  rw [List.nil_append, ← List.range_eq_range'] at h
  have e : ((List.range (conV n l).length).filter fun x => nextB (wayU (belI (conV n l)) up) (conV n l).length a x) = covN n l up a := by
    unfold covN upN lowN
    cases up with
    | true =>
      rw [if_pos rfl]
      exact List.filter_congr fun x _ => nextB_up _ _ _ _
    | false =>
      rw [if_neg (by decide)]
      exact List.filter_congr fun x _ => nextB_low _ _ _ _
  rw [e] at h
  exact h
def covV (n : Int) (l : List Int) (up : Bool) (a : Int) : List Int := if inB (conV n l) a = true then (covN n l up a.toNat).map fun i : Nat => (i : Int) else []
theorem covV_len (n : Int) (l : List Int) (up : Bool) (a : Int) : (covV n l up a).length ≤ 256 := by
  unfold covV
  split
  · rw [List.length_map]; exact covN_len n l up _
  · exact Nat.zero_le _
theorem cov6_val (n : Int) (l : List Int) (up : Bool) (a : Int) : Ev (fun k => spec_l6Covers.f k (conV n l) a up) (covV n l up a) := by
  unfold covV
  cases ha : inB (conV n l) a with
  | true =>
    obtain ⟨i, rfl, hi⟩ := inB_nat ha
    rw [if_pos rfl, Int.toNat_natCast]
    exact cov6_nat n l up hi
  | false =>
    rw [if_neg (by decide)]
    have hl := conV_len n l
    unfold spec_l6Covers.f
    refine Ev.step (f := fun k => spec_l6Covers.j1 k (conV n l) a up [] 0 false) (fun k => ?_) ?_
    · simp only [spec_l6Covers.l0]
      by_cases h : (0 : Int) < ((conV n l).length : Int)
      · rw [if_pos h, exL_val hl, ha, Option.bind_some]
      · rw [if_neg h]
    · refine Ev.step (f := fun _ => some []) (fun k => ?_) (Ev.now _)
      simp only [spec_l6Covers.j1]
      rw [if_neg (by decide)]
theorem upS_val (n : Int) (l : List Int) (hn : l.length ≤ 1048576) (a : Int) : Ev (fun k => spec_UpperCovers.f k n l a) (covV n l true a) := by
  unfold spec_UpperCovers.f
  exact Ev.bind (conS_val n l hn) (Ev.bind (cov6_val n l true a) (Ev.now _))
theorem lowS_val (n : Int) (l : List Int) (hn : l.length ≤ 1048576) (a : Int) : Ev (fun k => spec_LowerCovers.f k n l a) (covV n l false a) := by
  unfold spec_LowerCovers.f
  exact Ev.bind (conS_val n l hn) (Ev.bind (cov6_val n l false a) (Ev.now _))
theorem lower_at (l : List IC) {a : Nat} (ha : a < l.length) (hl : l.length ≤ 256) : impl_lattice_lower.f l (a : Int) = some ((lowN (belI l) l.length a).map fun i : Nat => (i : Int)) := by
  unfold impl_lattice_lower.f impl_lattice_lower_chosen0.f
  rw [if_pos (by omega), Option.bind_some]
  unfold choN lowN
  simp only [Int.toNat_natCast]
theorem upI_val (n : Int) (l : List Int) (a : Int) : Ev (fun k => impl_UpperCovers.f k n l a) (covV n l true a) := by
  have hl := conV_len n l
  unfold impl_UpperCovers.f covV
  refine Ev.bind (conI_val n l) ?_
  rw [hasL_val hl]
  simp only [Option.bind_some]
  cases ha : inB (conV n l) a with
  | false => exact Ev.congr (fun k => by rw [if_neg (by decide), if_neg (by decide)]) (Ev.now _)
  | true =>
    obtain ⟨i, rfl, hi⟩ := inB_nat ha
    exact Ev.congr (fun k => by rw [if_pos rfl, if_pos rfl, upper_at _ hi hl, Option.bind_some]; rfl) (Ev.now _)
theorem lowI_val (n : Int) (l : List Int) (a : Int) : Ev (fun k => impl_LowerCovers.f k n l a) (covV n l false a) := by
  have hl := conV_len n l
  unfold impl_LowerCovers.f covV
  refine Ev.bind (conI_val n l) ?_
  rw [hasL_val hl]
  simp only [Option.bind_some]
  cases ha : inB (conV n l) a with
  | false => exact Ev.congr (fun k => by rw [if_neg (by decide), if_neg (by decide)]) (Ev.now _)
  | true =>
    obtain ⟨i, rfl, hi⟩ := inB_nat ha
    exact Ev.congr (fun k => by rw [if_pos rfl, if_pos rfl, lower_at _ hi hl, Option.bind_some]; rfl) (Ev.now _)
def edgStep (n : Int) (l : List Int) (i s : Nat) : Nat := s + (covN n l true i).length
def edgV (n : Int) (l : List Int) : Int := ((foldIdx (edgStep n l) 0 (conV n l).length 0 : Nat) : Int)
theorem edg_inv (n : Int) (l : List Int) (i s : Nat) (h : s ≤ 256 * i) : edgStep n l i s ≤ 256 * (i + 1) := by
  have := covN_len n l true i
  unfold edgStep
  omega
theorem edgI_val (n : Int) (l : List Int) : Ev (fun k => impl_CountEdges.f k n l) (edgV n l) := by
  have hl := conV_len n l
  unfold impl_CountEdges.f
  refine Ev.bind (conI_val n l) ?_
  refine ev_fold (g := fun k (s : Nat) i => impl_CountEdges.l0 k (conV n l) (s : Int) ((conV n l).length : Int) i) (edgStep n l) (fun i s => s ≤ 256 * i) (N := (conV n l).length) ?_ (fun i s _ h => edg_inv n l i s h) (conV n l).length 0 0 (by omega) (Nat.le_refl _) ?_
  · intro i s hi hs h
    have hs2 := edg_inv n l i s hs
    refine Ev.step (fun k => ?_) h
    simp only [impl_CountEdges.l0]
    rw [if_pos (by omega), upper_at _ hi hl, Option.bind_some, List.length_map, wrap_succ hi (by omega)]
    have e : wrap64 ((s : Int) + ((upN (belI (conV n l)) (conV n l).length i).length : Int)) = ((edgStep n l i s : Nat) : Int) := by
      have h1 : edgStep n l i s = s + (upN (belI (conV n l)) (conV n l).length i).length := rfl
      unfold wrap64
      omega
    rw [e]
  · intro s hs _
    refine Ev.step (f := fun _ => some (edgV n l)) (fun k => ?_) (Ev.now _)
    simp only [impl_CountEdges.l0]
    rw [if_neg (by omega), hs]
    rfl
theorem edgS_val (n : Int) (l : List Int) (hn : l.length ≤ 1048576) : Ev (fun k => spec_CountEdges.f k n l) (edgV n l) := by
  have hl := conV_len n l
  unfold spec_CountEdges.f
  refine Ev.bind (conS_val n l hn) ?_
  refine ev_fold (g := fun k (s : Nat) i => spec_CountEdges.l0 k (conV n l) (s : Int) i) (edgStep n l) (fun i s => s ≤ 256 * i) (N := (conV n l).length) ?_ (fun i s _ h => edg_inv n l i s h) (conV n l).length 0 0 (by omega) (Nat.le_refl _) ?_
  · intro i s hi hs h
    have hs2 := edg_inv n l i s hs
    refine Ev.step (f := fun k => (spec_l6Covers.f k (conV n l) (i : Int) true).bind fun t => spec_CountEdges.l0 k (conV n l) (wrap64 ((s : Int) + (t.length : Int))) ((i + 1 : Nat) : Int)) (fun k => ?_) ?_
    · simp only [spec_CountEdges.l0]
      rw [if_pos (by omega), wrap_succ hi (by omega)]
    · refine Ev.bind (cov6_nat n l true hi) ?_
      have e : wrap64 ((s : Int) + ((((covN n l true i).map fun i : Nat => (i : Int)).length : Nat) : Int)) = ((edgStep n l i s : Nat) : Int) := by
        rw [List.length_map]
        have h1 : edgStep n l i s = s + (covN n l true i).length := rfl
        unfold wrap64
        omega
      rw [e]
      exact h
  · intro s hs _
    refine Ev.step (f := fun _ => some (edgV n l)) (fun k => ?_) (Ev.now _)
    simp only [spec_CountEdges.l0]
    rw [if_neg (by omega), hs]
    rfl
theorem max_val (a b : Int) : spec_l1Max.f a b = some (max a b) := by
  unfold spec_l1Max.f
  by_cases h : a > b
  · rw [if_pos h]; congr 1; omega
  · rw [if_neg h]; congr 1; omega
theorem stp_take (U : Nat → Nat → Bool) (F : List Nat) (k i : Nat) : (List.range (i + 1)).foldl (fun a i => if U k i = true then max a (F.getD i 0 + 1) else a) 0 = if U k i = true then max ((List.range i).foldl (fun a i => if U k i = true then max a (F.getD i 0 + 1) else a) 0) (F.getD i 0 + 1) else (List.range i).foldl (fun a i => if U k i = true then max a (F.getD i 0 + 1) else a) 0 := by
  rw [List.range_succ, List.foldl_append]
  rfl
def bestN (U : Nat → Nat → Bool) (k : Nat) : Int := if k = 0 then -1 else (((List.range k).foldl (fun b x => max b (far U x)) 0 : Nat) : Int)
theorem bestN_succ (U : Nat → Nat → Bool) (k : Nat) : bestN U (k + 1) = max (bestN U k) ((far U k : Nat) : Int) := by
  unfold bestN
  rw [if_neg (Nat.succ_ne_zero k), List.range_succ, List.foldl_append]
  by_cases h : k = 0
  · subst h
    rw [if_pos rfl]
    show (((max 0 (far U 0) : Nat)) : Int) = _
    omega
  · rw [if_neg h]
    show (((max ((List.range k).foldl (fun b x => max b (far U x)) 0) (far U k) : Nat)) : Int) = _
    omega
theorem farL_le (U : Nat → Nat → Bool) {i n : Nat} (h : i < n) : (farL U n).getD i 0 ≤ i := by rw [farL_get U h]; exact far_self U i
theorem getD_app (F : List Nat) (v : Nat) {i : Nat} (h : i < F.length) : (F ++ [v]).getD i 0 = F.getD i 0 := by
  rw [List.getD_eq_getElem?_getD, List.getElem?_append_left h, ← List.getD_eq_getElem?_getD]
theorem cast_app (F : List Nat) (v : Nat) : cast F ++ [(v : Int)] = cast (F ++ [v]) := by
  unfold cast
  rw [List.map_append]
  rfl
theorem far6_inner (n : Int) (l : List Int) {k : Nat} (hk : k < (conV n l).length) (b v : Int) : ∀ d i, i + d = k → ∀ t : Nat, t = (List.range i).foldl (fun a i => if belI (conV n l) k i = true then max a ((farL (belI (conV n l)) k).getD i 0 + 1) else a) 0 → t ≤ i →
    Ev (fun q => spec_HeightOf.l0 q (conV n l) (cast (farL (belI (conV n l)) (k + 1))) (max b ((far (belI (conV n l)) k : Nat) : Int)) ((k + 1 : Nat) : Int)) v →
    Ev (fun q => spec_HeightOf.l1 q (conV n l) (cast (farL (belI (conV n l)) k ++ [t])) b (k : Int) (i : Int)) v := by
  have hl := conV_len n l
  have hwk : wrap64 ((k : Int) + 1) = ((k + 1 : Nat) : Int) := by unfold wrap64; omega
  have hF : (farL (belI (conV n l)) k).length = k := farL_len _ k
  intro d
  induction d with
  | zero =>
    intro i hi t ht hti h
    obtain rfl : i = k := by omega
    have ef : far (belI (conV n l)) i = t := by rw [ht]; rfl
    have efl : farL (belI (conV n l)) (i + 1) = farL (belI (conV n l)) i ++ [t] := by rw [farL, ← ef]; rfl
    rw [efl, ef] at h
    refine Ev.step (fun q => ?_) h
    simp only [spec_HeightOf.l1]
    have er : rd (cast (farL (belI (conV n l)) i ++ [t])) (i : Int) = (t : Int) := by
      rw [rd_cast, List.getD_eq_getElem?_getD, List.getElem?_append_right (by omega), hF, Nat.sub_self]
      rfl
    rw [if_neg (by omega), if_pos (by omega), if_pos (by rw [cast_length, List.length_append, hF, List.length_singleton]; omega), er, max_val, Option.bind_some, hwk]
  | succ d ih =>
    intro i hi t ht hti h
    have hwi : wrap64 ((i : Int) + 1) = ((i + 1 : Nat) : Int) := by unfold wrap64; omega
    have hfi := farL_le (belI (conV n l)) (i := i) (n := k) (by omega)
    have es := stp_take (belI (conV n l)) (farL (belI (conV n l)) k) k i
    rw [← ht] at es
    have ek : rd (cast (farL (belI (conV n l)) k ++ [t])) (k : Int) = (t : Int) := by
      rw [rd_cast, List.getD_eq_getElem?_getD, List.getElem?_append_right (by omega), hF, Nat.sub_self]
      rfl
    have ei : rd (cast (farL (belI (conV n l)) k ++ [t])) (i : Int) = (((farL (belI (conV n l)) k).getD i 0 : Nat) : Int) := by
      rw [rd_cast, getD_app _ _ (by omega)]
    have hlen : (cast (farL (belI (conV n l)) k ++ [t])).length = k + 1 := by rw [cast_length, List.length_append, hF, List.length_singleton]
    cases hu : belI (conV n l) k i with
    | false =>
      rw [hu, if_neg (by decide)] at es
      refine Ev.step (fun q => ?_) (ih (i + 1) (by omega) t es.symm (by omega) h)
      simp only [spec_HeightOf.l1]
      rw [if_pos (by omega), if_pos (by omega), if_pos (by omega), if_pos (by omega), if_pos (by omega), underS_val n l hk (by omega), Option.bind_some, hu, if_neg (by decide), hwi]
    | true =>
      rw [hu, if_pos rfl] at es
      refine Ev.step (fun q => ?_) (ih (i + 1) (by omega) (max t ((farL (belI (conV n l)) k).getD i 0 + 1)) es.symm (by omega) h)
      simp only [spec_HeightOf.l1]
      have ew : wrap64 ((((farL (belI (conV n l)) k).getD i 0 : Nat) : Int) + 1) = (((farL (belI (conV n l)) k).getD i 0 + 1 : Nat) : Int) := by unfold wrap64; omega
      have eset : (cast (farL (belI (conV n l)) k ++ [t])).set (k : Int).toNat (max (t : Int) (((farL (belI (conV n l)) k).getD i 0 + 1 : Nat) : Int)) = cast (farL (belI (conV n l)) k ++ [max t ((farL (belI (conV n l)) k).getD i 0 + 1)]) := by
        rw [Int.toNat_natCast, ← cast_app, ← cast_app, List.set_append_right _ _ (by rw [cast_length, hF]; exact Nat.le_refl _), cast_length, hF, Nat.sub_self]
        have : (max (t : Int) (((farL (belI (conV n l)) k).getD i 0 + 1 : Nat) : Int)) = ((max t ((farL (belI (conV n l)) k).getD i 0 + 1) : Nat) : Int) := by omega
        rw [this]
        rfl
      rw [if_pos (by omega), if_pos (by omega), if_pos (by omega), if_pos (by omega), if_pos (by omega), underS_val n l hk (by omega), Option.bind_some, hu, if_pos rfl, if_pos (by omega), if_pos (by omega), ek, ei, ew, max_val, Option.bind_some, eset, hwi]
theorem far6_outer (n : Int) (l : List Int) : ∀ d k, k + d = (conV n l).length → Ev (fun q => spec_HeightOf.l0 q (conV n l) (cast (farL (belI (conV n l)) k)) (bestN (belI (conV n l)) k) (k : Int)) (bestN (belI (conV n l)) (conV n l).length) := by
  have hl := conV_len n l
  intro d
  induction d with
  | zero =>
    intro k hk
    obtain rfl : k = (conV n l).length := by omega
    refine Ev.step (f := fun _ => some (bestN (belI (conV n l)) (conV n l).length)) (fun q => ?_) (Ev.now _)
    simp only [spec_HeightOf.l0]
    rw [if_neg (by omega)]
  | succ d ih =>
    intro k hk
    have h := ih (k + 1) (by omega)
    rw [bestN_succ] at h
    have hin := far6_inner n l (k := k) (by omega) (bestN (belI (conV n l)) k) _ k 0 (by omega) 0 rfl (Nat.le_refl _) h
    rw [← cast_app] at hin
    refine Ev.step (fun q => ?_) hin
    simp only [spec_HeightOf.l0]
    rw [if_pos (by omega), if_pos (small_cov _ (by rw [cast_length, farL_len]; omega))]
    rfl
theorem bestN_height (n : Int) (l : List Int) : bestN (belI (conV n l)) (conV n l).length = heightV n l := by
  unfold heightV
  by_cases h : (conV n l).length = 0
  · rw [if_pos h, h]; rfl
  · rw [if_neg h]
    obtain ⟨q, hq⟩ : ∃ q, (conV n l).length = q + 1 := ⟨(conV n l).length - 1, by omega⟩
    unfold bestN
    rw [hq, if_neg (Nat.succ_ne_zero q), Nat.add_sub_cancel]
    congr 1
    refine far_last fun i hi => ?_
    obtain ⟨m, R, rfl, hm, rfl, hR, hbd, hc, e⟩ := conV_ctx h
    rw [e, con_length] at hq
    rw [e, belI_bel hR (by omega) (by omega)]
    exact bel_last (show m ≤ 8 by omega) hq (by omega)
theorem heiS_val (n : Int) (l : List Int) (hn : l.length ≤ 1048576) : Ev (fun k => spec_HeightOf.f k n l) (heightV n l) := by
  unfold spec_HeightOf.f
  refine Ev.bind (conS_val n l hn) ?_
  rw [← bestN_height]
  exact far6_outer n l (conV n l).length 0 (by omega)
theorem heiI_val (n : Int) (l : List Int) : impl_HeightOf.f n l = some (heightV n l) := rfl
theorem sameL_loop (l : List Int) (hl : l.length ≤ 9223372036854775807) : ∀ d i, i + d = l.length → Ev (fun k => laws_sameInts.l0 k l l (i : Int)) true := by
  intro d
  induction d with
  | zero =>
    intro i h
    refine Ev.step (f := fun _ => some true) (fun k => ?_) (Ev.now _)
    simp only [laws_sameInts.l0]
    rw [if_neg (by omega)]
  | succ d ih =>
    intro i h
    refine Ev.step (fun k => ?_) (ih (i + 1) (by omega))
    simp only [laws_sameInts.l0]
    rw [if_pos (by omega), if_pos (by omega), if_pos (by omega), if_pos trivial, wrap_succ (by omega) hl]
theorem sameL_self (l : List Int) (hl : l.length ≤ 9223372036854775807) : Ev (fun k => laws_sameInts.f k l l) true := by
  unfold laws_sameInts.f
  refine Ev.congr (fun k => by rw [if_pos rfl]) ?_
  exact sameL_loop l hl l.length 0 (by omega)
theorem hasL_loop (l : List Int) (x : Int) (hl : l.length ≤ 9223372036854775807) : ∀ d i, i + d = l.length → x ∈ l.drop i → Ev (fun k => laws_hasInt.l0 k l x (i : Int)) true := by
  intro d
  induction d with
  | zero =>
    intro i h hx
    rw [List.drop_eq_nil_of_le (by omega)] at hx
    cases hx
  | succ d ih =>
    intro i h hx
    have hi : i < l.length := by omega
    have er : rd l (i : Int) = l[i] := by
      unfold rd
      rw [Int.toNat_natCast, List.getD_eq_getElem?_getD, List.getElem?_eq_getElem hi]
      rfl
    rw [List.drop_eq_getElem_cons hi] at hx
    by_cases e : l[i] = x
    · refine Ev.step (f := fun _ => some true) (fun k => ?_) (Ev.now _)
      simp only [laws_hasInt.l0]
      rw [if_pos (by omega), if_pos (by omega), er, if_pos e]
    · have hx2 : x ∈ l.drop (i + 1) := by
        rcases List.mem_cons.1 hx with h1 | h1
        · exact absurd h1.symm e
        · exact h1
      refine Ev.step (fun k => ?_) (ih (i + 1) (by omega) hx2)
      simp only [laws_hasInt.l0]
      rw [if_pos (by omega), if_pos (by omega), er, if_neg e, wrap_succ (by omega) hl]
theorem hasL_mem (l : List Int) (x : Int) (hl : l.length ≤ 9223372036854775807) (hx : x ∈ l) : Ev (fun k => laws_hasInt.f k l x) true := hasL_loop l x hl l.length 0 (by omega) hx
theorem two6_ex (b : List Int) (hb : b.length ≤ 1048576) : ∃ v : Int × List Int × Int × Int, Ev (fun k => spec_l6Two.f k b) v ∧ v.2.1.length ≤ 9 := by
  obtain ⟨h1, e1⟩ := new_ex b hb
  obtain ⟨⟨n, l, i2, h2⟩, e2, hl, k2, _⟩ := bent3_ex b hb 0 h1 (by decide)
  dsimp only at hl k2
  obtain ⟨y, i3, h3, e3, y0, y1, k3⟩ := below_ex b hb i2 h2 k2 (wrap64 ((wrap64 (((conV n l).length : Int) + 1)) + 1))
  obtain ⟨z, i4, h4, e4, z0, z1, k4⟩ := below_ex b hb i3 h3 k3 (wrap64 ((wrap64 (((conV n l).length : Int) + 1)) + 1))
  refine ⟨(n, l, wrap64 (y - 1), wrap64 (z - 1)), ?_, hl⟩
  unfold spec_l6Two.f
  refine Ev.bind e1 (Ev.bind e2 (Ev.bind (conS_val n l (by omega)) ?_))
  refine Ev.congr (fun k => ?_) (Ev.now _)
  dsimp only
  rw [e3, Option.bind_some, e4, Option.bind_some]
theorem lat_l1 (n : Int) (l : List Int) (hn : l.length ≤ 1048576) {a b m j : Nat} (ha : a < (conV n l).length) (hb : b < (conV n l).length) (hm : m < (conV n l).length) (hj : j < (conV n l).length)
    (hmeet : ∀ x, x < (conV n l).length → belI (conV n l) x m = (belI (conV n l) x a && belI (conV n l) x b)) (hjoin : ∀ x, x < (conV n l).length → belI (conV n l) j x = (belI (conV n l) a x && belI (conV n l) b x)) :
    ∀ d i, i + d = (conV n l).length → Ev (fun k => laws_FnLattice.l1 k (a : Int) (b : Int) (m : Int) (j : Int) ((conV n l).length : Int) (i : Int) n l) true := by
  have hl := conV_len n l
  have S := fun x y => belowS6_val n l hn x y
  have I := fun x y => belowI6_val n l x y
  intro d
  induction d with
  | zero =>
    intro i hi
    have h1 := hmeet m hm
    rw [belI_refl n l hm] at h1
    have h2 := hjoin j hj
    rw [belI_refl n l hj] at h2
    have h1 := h1.symm
    have h2 := h2.symm
    rw [Bool.and_eq_true] at h1 h2
    refine Ev.step (f := fun k => (impl_IsBelow.f k n l (m : Int) (a : Int)).bind fun t609 => (if t609 = true then ((impl_IsBelow.f k n l (m : Int) (b : Int)).bind fun t610 => (if t610 = true then ((impl_IsBelow.f k n l (a : Int) (j : Int)).bind fun t611 => (if t611 = true then ((impl_IsBelow.f k n l (b : Int) (j : Int)).bind fun t612 => (some t612)) else (some false))) else (some false))) else (some false))) (fun k => ?_) ?_
    · simp only [laws_FnLattice.l1]
      rw [if_neg (by omega)]
    · refine Ev.bind (I _ _) ?_
      rw [belV_nat hm ha, h1.1]
      refine Ev.congr (fun k => by rw [if_pos rfl]) ?_
      refine Ev.bind (I _ _) ?_
      rw [belV_nat hm hb, h1.2]
      refine Ev.congr (fun k => by rw [if_pos rfl]) ?_
      refine Ev.bind (I _ _) ?_
      rw [belV_nat ha hj, h2.1]
      refine Ev.congr (fun k => by rw [if_pos rfl]) ?_
      refine Ev.bind (I _ _) ?_
      rw [belV_nat hb hj, h2.2]
      exact Ev.now _
  | succ d ih =>
    intro i hi
    have hin : i < (conV n l).length := by omega
    have h := ih (i + 1) (by omega)
    have hw : wrap64 ((i : Int) + 1) = ((i + 1 : Nat) : Int) := by unfold wrap64; omega
    have two : Ev (fun k => (spec_IsBelow.f k n l (a : Int) (i : Int)).bind fun t603 => (if t603 = true then ((spec_IsBelow.f k n l (b : Int) (i : Int)).bind fun t604 => ((spec_IsBelow.f k n l (j : Int) (i : Int)).bind fun t605 => (if (t604 != t605) = true then (some false) else (laws_FnLattice.l1 k (a : Int) (b : Int) (m : Int) (j : Int) ((conV n l).length : Int) ((i + 1 : Nat) : Int) n l)))) else (laws_FnLattice.l1 k (a : Int) (b : Int) (m : Int) (j : Int) ((conV n l).length : Int) ((i + 1 : Nat) : Int) n l))) true := by
      refine Ev.bind (S _ _) ?_
      rw [belV_nat ha hin]
      cases e : belI (conV n l) a i with
      | false => exact Ev.congr (fun k => by rw [if_neg (by decide)]) h
      | true =>
        refine Ev.congr (fun k => by rw [if_pos rfl]) ?_
        refine Ev.bind (S _ _) ?_
        refine Ev.bind (S _ _) ?_
        rw [belV_nat hb hin, belV_nat hj hin, hjoin i hin, e, Bool.true_and]
        exact Ev.congr (fun k => by rw [bne_self_eq_false, if_neg (by decide)]) h
    refine Ev.step (f := fun k => (spec_IsBelow.f k n l (i : Int) (a : Int)).bind fun t600 => (if t600 = true then ((spec_IsBelow.f k n l (i : Int) (b : Int)).bind fun t601 => ((spec_IsBelow.f k n l (i : Int) (m : Int)).bind fun t602 => (if (t601 != t602) = true then (some false) else ((spec_IsBelow.f k n l (a : Int) (i : Int)).bind fun t603 => (if t603 = true then ((spec_IsBelow.f k n l (b : Int) (i : Int)).bind fun t604 => ((spec_IsBelow.f k n l (j : Int) (i : Int)).bind fun t605 => (if (t604 != t605) = true then (some false) else (laws_FnLattice.l1 k (a : Int) (b : Int) (m : Int) (j : Int) ((conV n l).length : Int) ((i + 1 : Nat) : Int) n l)))) else (laws_FnLattice.l1 k (a : Int) (b : Int) (m : Int) (j : Int) ((conV n l).length : Int) ((i + 1 : Nat) : Int) n l)))))) else ((spec_IsBelow.f k n l (a : Int) (i : Int)).bind fun t606 => (if t606 = true then ((spec_IsBelow.f k n l (b : Int) (i : Int)).bind fun t607 => ((spec_IsBelow.f k n l (j : Int) (i : Int)).bind fun t608 => (if (t607 != t608) = true then (some false) else (laws_FnLattice.l1 k (a : Int) (b : Int) (m : Int) (j : Int) ((conV n l).length : Int) ((i + 1 : Nat) : Int) n l)))) else (laws_FnLattice.l1 k (a : Int) (b : Int) (m : Int) (j : Int) ((conV n l).length : Int) ((i + 1 : Nat) : Int) n l))))) (fun k => ?_) ?_
    · simp only [laws_FnLattice.l1]
      rw [if_pos (by omega), hw]
    · refine Ev.bind (S _ _) ?_
      rw [belV_nat hin ha]
      cases e : belI (conV n l) i a with
      | false => exact Ev.congr (fun k => by rw [if_neg (by decide)]) two
      | true =>
        refine Ev.congr (fun k => by rw [if_pos rfl]) ?_
        refine Ev.bind (S _ _) ?_
        refine Ev.bind (S _ _) ?_
        rw [belV_nat hin hb, belV_nat hin hm, hmeet i hin, e, Bool.true_and]
        exact Ev.congr (fun k => by rw [bne_self_eq_false, if_neg (by decide)]) two
theorem lat_j2 (n : Int) (l : List Int) (hn : l.length ≤ 1048576) (a b : Int) (q : Bool) (hq : q = decide (joinV n l a b < 0) ∨ (meetV n l a b < 0 ∧ q = true)) : Ev (fun k => laws_FnLattice.j2 k a b (meetV n l a b) (joinV n l a b) q n l) true := by
  by_cases h : inB (conV n l) a = true ∧ inB (conV n l) b = true
  · obtain ⟨i, rfl, hi⟩ := inB_nat h.1
    obtain ⟨j, rfl, hj⟩ := inB_nat h.2
    obtain ⟨m, hm, em, hmeet⟩ := meetV_is hi hj
    obtain ⟨p, hp, ep, hjoin⟩ := joinV_is hi hj
    rw [em, ep] at hq ⊢
    have hqf : q = false := by
      rcases hq with h1 | h1
      · rw [h1]; exact decide_eq_false (by omega)
      · omega
    rw [hqf]
    refine Ev.step (f := fun k => (spec_Concepts.f k n l).bind fun t => laws_FnLattice.l1 k (i : Int) (j : Int) (m : Int) (p : Int) (t.length : Int) 0 n l) (fun k => ?_) ?_
    · simp only [laws_FnLattice.j2]
      rw [if_neg (by decide)]
    · refine Ev.bind (conS_val n l hn) ?_
      exact lat_l1 n l hn hi hj hm hp hmeet hjoin (conV n l).length 0 (by omega)
  · obtain ⟨e1, e2⟩ := meetV_neg (n := n) (l := l) (a := a) (b := b) h
    rw [e1, e2] at hq ⊢
    have hqt : q = true := by
      rcases hq with h1 | h1
      · rw [h1]; exact decide_eq_true (by omega)
      · exact h1.2
    rw [hqt]
    refine Ev.step (f := fun _ => some true) (fun k => ?_) (Ev.now _)
    simp only [laws_FnLattice.j2]
    rw [if_pos trivial]
    rfl
theorem cov_mem {n : Int} {l : List Int} {c : Int} {x : Int} (hx : x ∈ covV n l true c) : ∃ i j : Nat, c = (i : Int) ∧ x = (j : Int) ∧ i < (conV n l).length ∧ j < (conV n l).length ∧ cov (belI (conV n l)) (conV n l).length i j = true := by
  unfold covV at hx
  cases hc : inB (conV n l) c with
  | false => rw [hc, if_neg (by decide)] at hx; cases hx
  | true =>
    rw [hc, if_pos rfl] at hx
    obtain ⟨i, rfl, hi⟩ := inB_nat hc
    rw [Int.toNat_natCast] at hx
    obtain ⟨j, hj, rfl⟩ := List.mem_map.1 hx
    obtain ⟨h1, h2⟩ := mem_upN.1 (show j ∈ upN (belI (conV n l)) (conV n l).length i from hj)
    exact ⟨i, j, rfl, rfl, hi, h1, h2⟩
theorem lat_l0 (n : Int) (l : List Int) (a b : Int) (m j : Int) (c : Int) (n2 : Int) (l2 : List Int)
    (hend : Ev (fun k => if m < 0 then laws_FnLattice.j2 k a b m j true n l else laws_FnLattice.j2 k a b m j (decide (j < 0)) n l) true) :
    ∀ d i, i + d = (covV n2 l2 true c).length → Ev (fun k => laws_FnLattice.l0 k a b m j c (covV n2 l2 true c) (i : Int) n l n2 l2) true := by
  have hcl := covV_len n2 l2 true c
  intro d
  induction d with
  | zero =>
    intro i hi
    refine Ev.step (fun k => ?_) hend
    simp only [laws_FnLattice.l0]
    rw [if_neg (by omega)]
  | succ d ih =>
    intro i hi
    have hin : i < (covV n2 l2 true c).length := by omega
    have h := ih (i + 1) (by omega)
    have hw : wrap64 ((i : Int) + 1) = ((i + 1 : Nat) : Int) := by unfold wrap64; omega
    have er : rd (covV n2 l2 true c) (i : Int) = (covV n2 l2 true c)[i] := by
      unfold rd
      rw [Int.toNat_natCast, List.getD_eq_getElem?_getD, List.getElem?_eq_getElem hin]
      rfl
    obtain ⟨p, q, rfl, eq, hp, hq, hcov⟩ := cov_mem (List.getElem_mem hin)
    rw [eq] at er
    obtain ⟨⟨h1, h2⟩, h3⟩ := cov_iff.1 hcov
    refine Ev.step (f := fun k => (impl_IsBelow.f k n2 l2 (p : Int) (q : Int)).bind fun t590 => (if t590 = true then ((impl_LowerCovers.f k n2 l2 (q : Int)).bind fun t593 => ((laws_hasInt.f k t593 (p : Int)).bind fun t596 => (if t596 = true then (laws_FnLattice.l0 k a b m j (p : Int) (covV n2 l2 true (p : Int)) ((i + 1 : Nat) : Int) n l n2 l2) else (some false)))) else (some false))) (fun k => ?_) ?_
    · simp only [laws_FnLattice.l0]
      rw [if_pos (by omega), if_pos (by omega), er, if_neg (show ¬ ((q : Int) = (p : Int)) by omega), hw]
    · refine Ev.bind (belowI6_val n2 l2 _ _) ?_
      rw [belV_nat hp hq, h2]
      refine Ev.congr (fun k => by rw [if_pos rfl]) ?_
      refine Ev.bind (lowI_val n2 l2 _) ?_
      have hmem : (p : Int) ∈ covV n2 l2 false (q : Int) := by
        unfold covV covN
        rw [inB_mk hq, if_pos rfl, Int.toNat_natCast, if_neg (by decide)]
        exact List.mem_map.2 ⟨p, mem_lowN.2 ⟨hp, hcov⟩, rfl⟩
      have hcl2 := covV_len n2 l2 false (q : Int)
      refine Ev.bind (hasL_mem _ _ (by omega) hmem) ?_
      exact Ev.congr (fun k => by rw [if_pos rfl]) h
theorem FnLattice (l0 : List Int) (_ : l0.length ≤ 9223372036854775807) (_ : ∀ x ∈ l0, (Lit.int .u8 x).wf = true) : ∃ k, laws_FnLattice.f k l0 = some true := by
  apply Ev.rounds
  unfold laws_FnLattice.f laws_big.f
  simp only [Option.bind_some]
  by_cases hbig : (l0.length : Int) > 1048576
  · exact Ev.congr (fun k => by rw [if_pos (decide_eq_true hbig)]) (Ev.now true)
  · have hb : l0.length ≤ 1048576 := by omega
    refine Ev.congr (fun k => by rw [if_neg (by simpa using hbig)]) ?_
    obtain ⟨⟨n, l, a, b⟩, e1, hl⟩ := two6_ex l0 hb
    obtain ⟨h1, e2⟩ := new_ex l0 hb
    obtain ⟨⟨n3, l3, i3, h3⟩, e3, hl3, _, _⟩ := bent3_ex l0 hb 0 h1 (by decide)
    dsimp only at hl hl3
    have d1 : Ev (fun k => spec_DrawMeetOf.f k l0) (n, l, a, b) := by unfold spec_DrawMeetOf.f; exact Ev.bind e1 (Ev.now _)
    have d2 : Ev (fun k => spec_DrawUpperCovers.f k l0) (n, l, a) := by unfold spec_DrawUpperCovers.f; exact Ev.bind e1 (Ev.now _)
    have d3 : Ev (fun k => spec_DrawTopOf.f k l0) (n3, l3) := by unfold spec_DrawTopOf.f; exact Ev.bind e2 (Ev.bind e3 (Ev.now _))
    have hc1 := covV_len n l true a
    have hc2 := covV_len n l false a
    refine Ev.bind d1 ?_
    dsimp only
    refine Ev.bind (meetI_val n l a b) ?_
    refine Ev.bind (joinI_val n l a b) ?_
    refine Ev.bind d2 ?_
    dsimp only
    refine Ev.bind (upI_val n l a) ?_
    refine Ev.bind (lowI_val n l a) ?_
    refine Ev.bind d3 ?_
    dsimp only
    refine Ev.bind (meetS_val n l (by omega) a b) ?_
    refine Ev.congr (fun k => by rw [if_pos rfl]) ?_
    refine Ev.bind (joinS_val n l (by omega) a b) ?_
    refine Ev.congr (fun k => by rw [if_pos rfl]) ?_
    refine Ev.bind (upS_val n l (by omega) a) ?_
    refine Ev.bind (sameL_self _ (by omega)) ?_
    refine Ev.congr (fun k => by rw [if_pos rfl]) ?_
    refine Ev.bind (lowS_val n l (by omega) a) ?_
    refine Ev.bind (sameL_self _ (by omega)) ?_
    refine Ev.congr (fun k => by rw [if_pos rfl]) ?_
    refine Ev.bind (belowI6_val n l a b) ?_
    refine Ev.bind (belowS6_val n l (by omega) a b) ?_
    refine Ev.congr (fun k => by rw [bne_self_eq_false, if_neg (by decide)]) ?_
    refine Ev.bind (topI_val n3 l3) ?_
    refine Ev.bind (topS_val n3 l3 (by omega)) ?_
    refine Ev.congr (fun k => by rw [if_pos rfl]) ?_
    refine Ev.bind (botI_val n3 l3) ?_
    refine Ev.bind (botS_val n3 l3 (by omega)) ?_
    refine Ev.congr (fun k => by rw [if_pos rfl, heiI_val, Option.bind_some]) ?_
    refine Ev.bind (heiS_val n3 l3 (by omega)) ?_
    refine Ev.congr (fun k => by rw [if_pos rfl]) ?_
    refine Ev.bind (edgI_val n3 l3) ?_
    refine Ev.bind (edgS_val n3 l3 (by omega)) ?_
    rw [bne_self_eq_false]
    refine Ev.step (f := fun k => laws_FnLattice.l0 k a b (meetV n l a b) (joinV n l a b) a (covV n l true a) 0 n l n l) (fun k => ?_) ?_
    · simp only [laws_FnLattice.j0]
      rw [if_neg (by decide)]
    · refine lat_l0 n l a b _ _ a n l ?_ (covV n l true a).length 0 (by omega)
      by_cases h : meetV n l a b < 0
      · exact Ev.congr (fun k => by rw [if_pos h]) (lat_j2 n l (by omega) a b true (Or.inr ⟨h, rfl⟩))
      · exact Ev.congr (fun k => by rw [if_neg h]) (lat_j2 n l (by omega) a b _ (Or.inl rfl))
end Go.Proofs.YtfmpafgmcleogaaGreatDoor.Pu
