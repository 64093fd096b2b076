/- What the law needs of the program's functions as plain functions, of the proofs that their calls answer so, and of plain laws: gathered by a program of this place (pack.py) out of its printed texts. No condition beyond what each statement says. -/
import Derived.Test.YtafnamchckehmaaGreatDoorZFnModels6
import Derived.Test.YtafnamchckehmaaGreatDoorZFnModels8
import Derived.Test.YtafnamchckehmaaGreatDoorZFnModels9
import Derived.Test.YtafnamchckehmaaGreatDoorZFnModels10
import Derived.Test.YtafnamchckehmaaGreatDoorZFnModels3
import Derived.Test.YtafnamchckehmaaGreatDoorZFnModels5
import Derived.Test.YtafnamchckehmaaGreatDoorZFnModels2
import Derived.Test.YtafnamchckehmaaGreatDoorZFnModels1
import Derived.Deep.Slices
import Derived.WideShapes
import Derived.ProofKit
import Derived.SizedLaws
namespace Go.Proofs.YtafnamchckehmaaGreatDoor.Pu
open Go.RowKit Go.Proofs.YtafnamchckehmaaGreatDoorW.PrintWords Go.Proofs.YtafnamchckehmaaGreatDoorW.PrintLast Go.Proofs.YtafnamchckehmaaGreatDoorW.PrintMore Go.Proofs.YtafnamchckehmaaGreatDoor.Pr
theorem famV_nat {n : Int} {l : List Int} (h : famV n l = true) : ∃ (m : Nat) (R : List Nat), n = (m : Int) ∧ m ≤ 6 ∧ l = cast R ∧ ∀ r ∈ R, r < 2 ^ m := by
  unfold famV at h
  rw [Bool.and_eq_true, Bool.and_eq_true, Bool.and_eq_true] at h
  obtain ⟨h0, _, h1, _⟩ := h
  have h0 := of_decide_eq_true h0
  have hs : ∀ x ∈ l, isSetB n x = true := by
    intro x hx
    obtain ⟨i, hi, e⟩ := List.getElem_of_mem hx
    have := fam1_set (List.all_eq_true.1 h1 i (by rw [List.mem_range']; exact ⟨i, hi, by omega⟩))
    rw [List.getD_eq_getElem?_getD, List.getElem?_eq_getElem hi, Option.getD_some, e] at this
    exact this.1
  have hx : ∀ x ∈ l, 0 ≤ x ∧ x.toNat < 2 ^ n.toNat := by
    intro x hx
    obtain ⟨m, a, hm, e1, ha, e2⟩ := isSetB_nat (hs x hx)
    subst e2
    refine ⟨by omega, ?_⟩
    rw [e1, Int.toNat_natCast, Int.toNat_natCast]
    exact ha
  refine ⟨n.toNat, l.map Int.toNat, by omega, by omega, cast_of fun x h => (hx x h).1, fun r hr => ?_⟩
  obtain ⟨x, hx', rfl⟩ := List.mem_map.1 hr
  exact (hx x hx').2
def irStep (L : List Nat) (m i : Nat) (a : List Nat) : List Nat := if bey L (row L i) (full m) = row L i then a else a ++ [row L i]
def irV (L : List Nat) (m : Nat) : List Nat := foldIdx (irStep L m) 0 L.length []
theorem irStep_len (L : List Nat) (m i : Nat) (a : List Nat) (h : a.length ≤ i) : (irStep L m i a).length ≤ i + 1 := by
  unfold irStep
  split
  · omega
  · rw [List.length_append, List.length_singleton]; omega
theorem cast_snoc (a : List Nat) (x : Nat) : cast a ++ [(x : Int)] = cast (a ++ [x]) := by unfold cast; rw [List.map_append]; rfl
theorem irI_val (L : List Nat) (m : Nat) (hm : m ≤ 6) (hl : L.length ≤ 1048576) (hb : ∀ r ∈ L, r < 2 ^ m) : Ev (fun k => impl_irreducible.f k (m : Int) (cast L)) (cast (irV L m)) := by
  have hr : ∀ i, row L i < 256 := fun i => lt_256 (by omega) (row_lt hb i)
  unfold impl_irreducible.f irV
  refine ev_fold (g := fun k (a : List Nat) i => impl_irreducible.l0 k (m : Int) (cast L) (cast a) (cast L) ((cast L).length : Int) i) (irStep L m) (fun i a => a.length ≤ i) (N := L.length) ?_ (fun i a _ h => irStep_len L m i a h) L.length 0 [] (by omega) (by simp) ?_
  · intro i a hi ha h
    refine Ev.step (f := fun k => (impl_beyond.f k (cast L) ((row L i : Nat) : Int) ((full m : Nat) : Int)).bind fun t => if t = ((row L i : Nat) : Int) then impl_irreducible.l0 k (m : Int) (cast L) (cast a) (cast L) ((cast L).length : Int) ((i + 1 : Nat) : Int) else impl_irreducible.l0 k (m : Int) (cast L) (cast (a ++ [row L i])) (cast L) ((cast L).length : Int) ((i + 1 : Nat) : Int)) (fun k => ?_) ?_
    · simp only [impl_irreducible.l0]
      rw [if_pos (by rw [cast_length]; omega), if_pos (by omega), if_pos (by rw [cast_length]; omega), fullI_val, fullN (by omega)]
      simp only [Option.bind_some]
      rw [rd_row, wrap_succ hi (by omega), if_pos (by rw [cast_length]; omega), cast_snoc]
    · refine Ev.bind (beyI_big L hl hr _ _ (hr i) (full_256 (by omega))) ?_
      unfold irStep at h
      by_cases e : bey L (row L i) (full m) = row L i
      · rw [if_pos e] at h
        exact Ev.congr (fun k => by rw [if_pos (by rw [e])]) h
      · rw [if_neg e] at h
        exact Ev.congr (fun k => by rw [if_neg (by omega)]) h
  · intro b hb2 _
    refine Ev.step (f := fun k => some (cast b)) (fun k => ?_) (by rw [hb2]; exact Ev.now _)
    simp only [impl_irreducible.l0]
    rw [if_neg (by rw [cast_length]; omega)]
theorem irS_val (L : List Nat) (m : Nat) (hm : m ≤ 6) (hl : L.length ≤ 1048576) (hb : ∀ r ∈ L, r < 2 ^ m) : Ev (fun k => spec_l13Irreducible.f k (m : Int) (cast L)) (cast (irV L m)) := by
  have hr : ∀ i, row L i < 256 := fun i => lt_256 (by omega) (row_lt hb i)
  unfold spec_l13Irreducible.f irV
  refine ev_fold (g := fun k (a : List Nat) i => spec_l13Irreducible.l0 k (m : Int) (cast L) (cast a) i) (irStep L m) (fun i a => a.length ≤ i) (N := L.length) ?_ (fun i a _ h => irStep_len L m i a h) L.length 0 [] (by omega) (by simp) ?_
  · intro i a hi ha h
    refine Ev.step (f := fun k => spec_l13Irreducible.l1 k (m : Int) (cast L) (cast a) (i : Int) ((full m : Nat) : Int) 0) (fun k => ?_) ?_
    · simp only [spec_l13Irreducible.l0]
      rw [if_pos (by rw [cast_length]; omega), fullS_val, fullN (by omega), Option.bind_some]
    · refine ev_fold (g := fun k (f : Nat) j => spec_l13Irreducible.l1 k (m : Int) (cast L) (cast a) (i : Int) (f : Int) j) (byStep L (row L i)) (fun _ f => f < 256) (N := L.length) ?_ (fun j f _ h => Nat.lt_of_le_of_lt (byStep_le L _ j f) h) L.length 0 (full m) (by omega) (full_256 (by omega)) ?_
      · intro j f hj hf h
        refine Ev.step (fun k => ?_) h
        simp only [spec_l13Irreducible.l1]
        rw [if_pos (by rw [cast_length]; omega), if_pos (by omega), if_pos (by omega), if_pos (by rw [cast_length]; omega), rd_row, rd_row, wrap_succ hj (by omega)]
        unfold byStep
        by_cases h1 : row L j = row L i
        · rw [if_pos (by rw [h1]), if_neg (fun h => h.1 h1)]
        · rw [if_neg (by omega)]
          by_cases h2 : sub (row L i) (row L j) = true
          · rw [if_pos ((and_is (hr i) (hr j)).2 h2), if_pos ⟨h1, h2⟩, and_nat (by omega) (by have := hr j; omega)]
          · rw [if_neg (fun h => h2 ((and_is (hr i) (hr j)).1 h)), if_neg (fun h => h2 h.2)]
      · intro f hf _
        refine Ev.step (fun k => ?_) h
        simp only [spec_l13Irreducible.l1]
        rw [if_neg (by rw [cast_length]; omega), if_pos (by omega), if_pos (by rw [cast_length]; omega), rd_row, wrap_succ hi (by omega)]
        unfold irStep bey
        rw [hf]
        by_cases e : foldIdx (byStep L (row L i)) 0 L.length (full m) = row L i
        · rw [if_pos (by rw [e]), if_pos e]
        · rw [if_neg (by omega), if_neg e, if_pos (by rw [cast_length]; omega), cast_snoc]
  · intro b hb2 _
    refine Ev.step (f := fun k => some (cast b)) (fun k => ?_) (by rw [hb2]; exact Ev.now _)
    simp only [spec_l13Irreducible.l0]
    rw [if_neg (by rw [cast_length]; omega)]
def cofV (n : Int) (l : List Int) : Int × List Int × Bool := if famV n l = true then (if ((irV (l.map Int.toNat) n.toNat).length : Int) > 8 then (0, [], false) else (n, cast (irV (l.map Int.toNat) n.toNat), true)) else (0, [], false)
theorem cofV_len (n : Int) (l : List Int) : (cofV n l).2.1.length ≤ 8 := by
  unfold cofV
  split
  · split
    · simp
    · rw [cast_length]; omega
  · simp
theorem cofS_val (n : Int) (l : List Int) (hl : l.length ≤ 1048576) : Ev (fun k => spec_ContextOfFamily.f k n l) (cofV n l) := by
  unfold spec_ContextOfFamily.f cofV
  refine Ev.bind (famS_val n l hl) ?_
  cases e : famV n l with
  | false =>
    rw [if_neg (show ¬ (false = true) by decide)]
    exact Ev.congr (fun k => by rw [if_neg (by decide)]) (Ev.now _)
  | true =>
    obtain ⟨m, R, rfl, hm, rfl, hb⟩ := famV_nat e
    rw [cast_length] at hl
    rw [uncast, Int.toNat_natCast, if_pos rfl]
    refine Ev.congr (fun k => by rw [if_pos rfl]) ?_
    refine Ev.bind (irS_val R m hm hl hb) ?_
    rw [cast_length]
    by_cases h : ((irV R m).length : Int) > 8
    · rw [if_pos h, if_pos h]; exact Ev.now _
    · rw [if_neg h, if_neg h]; exact Ev.now _
theorem cofI_val (n : Int) (l : List Int) (hl : l.length ≤ 1048576) : Ev (fun k => impl_ContextOfFamily.f k n l) (cofV n l) := by
  unfold impl_ContextOfFamily.f cofV
  refine Ev.bind (famI_val n l hl) ?_
  cases e : famV n l with
  | false =>
    rw [if_neg (show ¬ (false = true) by decide)]
    exact Ev.congr (fun k => by rw [if_neg (by decide)]) (Ev.now _)
  | true =>
    obtain ⟨m, R, rfl, hm, rfl, hb⟩ := famV_nat e
    rw [cast_length] at hl
    rw [uncast, Int.toNat_natCast, if_pos rfl]
    refine Ev.congr (fun k => by rw [if_pos rfl]) ?_
    refine Ev.bind (irI_val R m hm hl hb) ?_
    unfold impl_contextOf.f
    rw [if_pos rfl, cast_length]
    by_cases h : ((irV R m).length : Int) > 8
    · rw [if_pos h, if_pos h]; exact Ev.now _
    · rw [if_neg h, if_neg h]; exact Ev.now _
end Go.Proofs.YtafnamchckehmaaGreatDoor.Pu
namespace Go.Proofs.YtafnamchckehmaaGreatDoor.Pu
open Go.RowKit Go.Proofs.YtafnamchckehmaaGreatDoorW.PrintWords Go.Proofs.YtafnamchckehmaaGreatDoorW.PrintLast Go.Proofs.YtafnamchckehmaaGreatDoorW.PrintMore Go.Proofs.YtafnamchckehmaaGreatDoor.Pr
theorem anyR_nat {r : IR} (h : anyR r = true) : r.f0 = ((toP r).1 : Int) ∧ r.f1 = ((toP r).2 : Int) ∧ (toP r).1 < 256 ∧ (toP r).2 < 256 := by
  unfold anyR at h
  rw [Bool.and_eq_true] at h
  obtain ⟨a, ha, e⟩ := isAny_nat h.1
  obtain ⟨b, hb, e'⟩ := isAny_nat h.2
  unfold toP
  simp only [e, e', Int.toNat_natCast]
  exact ⟨trivial, trivial, ha, hb⟩
theorem toR_small {l : List IR} (h : l.all anyR = true) : small (toR l) := by
  intro r hr
  obtain ⟨x, hx, rfl⟩ := List.mem_map.1 hr
  have := anyR_nat (List.all_eq_true.1 h x hx)
  exact this.2.2
theorem inSet_val {a b : Nat} (ha : a < 256) (hb : b < 256) : impl_inSet.f (a : Int) (b : Int) = some (sub a b) := by
  unfold impl_inSet.f
  rw [andNot_nat (by omega) (by omega)]
  congr 1
  rw [Bool.eq_iff_iff, beq_iff_eq]
  rw [← diff_eq_zero]
  exact_mod_cast Iff.rfl
theorem and_eq_sub {a b : Nat} (ha : a < 256) (hb : b < 256) : (Go.bits .and .i64 (a : Int) (b : Int) = (a : Int)) ↔ sub a b = true := by
  rw [and_nat (by omega) (by omega)]
  unfold sub
  rw [beq_iff_eq]
  exact_mod_cast Iff.rfl
theorem or256 {a b : Nat} (ha : a < 256) (hb : b < 256) : a ||| b < 256 := Nat.or_lt_two_pow (n := 8) ha hb
end Go.Proofs.YtafnamchckehmaaGreatDoor.Pu
namespace Go.Proofs.YtafnamchckehmaaGreatDoor.Pu
open Go.RowKit Go.Proofs.YtafnamchckehmaaGreatDoorW.PrintWords Go.Proofs.YtafnamchckehmaaGreatDoorW.PrintLast Go.Proofs.YtafnamchckehmaaGreatDoorW.PrintMore Go.Proofs.YtafnamchckehmaaGreatDoor.Pr
theorem sameR_loop (l : List IR) (hl : l.length ≤ 9223372036854775807) : ∀ (rest : List IR) (i : Nat), l.drop i = rest → Ev (fun k => laws_sameRules.l0 k l l (i : Int)) true := by
  intro rest
  induction rest with
  | nil =>
    intro i h
    have := drop_nil h
    refine Ev.step (f := fun _ => some true) (fun k => ?_) (Ev.now _)
    simp only [laws_sameRules.l0]
    rw [if_neg (by omega)]
  | cons x rest ih =>
    intro i h
    obtain ⟨hi, hx, hd⟩ := drop_cons (d := z48) h
    refine Ev.step (fun k => ?_) (ih (i + 1) hd)
    simp only [laws_sameRules.l0]
    rw [if_pos (by omega), if_pos (by omega), if_pos (by omega), wrap_succ hi hl]
    simp
theorem sameR_self (l : List IR) (hl : l.length ≤ 9223372036854775807) : Ev (fun k => laws_sameRules.f k l l) true := by
  unfold laws_sameRules.f
  refine Ev.congr (fun k => by rw [if_pos rfl]) ?_
  exact sameR_loop l hl l 0 rfl
theorem sameI_loop (l : List Int) (hl : l.length ≤ 9223372036854775807) : ∀ (rest : List Int) (i : Nat), l.drop i = rest → Ev (fun k => laws_sameInts.l0 k l l (i : Int)) true := by
  intro rest
  induction rest with
  | nil =>
    intro i h
    have := drop_nil h
    refine Ev.step (f := fun _ => some true) (fun k => ?_) (Ev.now _)
    simp only [laws_sameInts.l0]
    rw [if_neg (by omega)]
  | cons x rest ih =>
    intro i h
    obtain ⟨hi, hx, hd⟩ := drop_cons (d := 0) h
    refine Ev.step (fun k => ?_) (ih (i + 1) hd)
    simp only [laws_sameInts.l0]
    rw [if_pos (by omega), if_pos (by omega), if_pos (by omega), if_pos trivial, wrap_succ hi hl]
theorem sameI_self (l : List Int) (hl : l.length ≤ 9223372036854775807) : Ev (fun k => laws_sameInts.f k l l) true := by
  unfold laws_sameInts.f
  refine Ev.congr (fun k => by rw [if_pos rfl]) ?_
  exact sameI_loop l hl l 0 rfl
end Go.Proofs.YtafnamchckehmaaGreatDoor.Pu
namespace Go.Proofs.YtafnamchckehmaaGreatDoor.Op
open Go.RowKit Go.Proofs.YtafnamchckehmaaGreatDoorW.PrintWords
open Go.Deep
def Opens {α : Type} (P : Program) (t : TypeId) (d : Kd α) (wf : α → Prop) : Prop :=
  ∀ {H : Type} {enc : TypeId × Value → H} {w : World} {base : Nat} {spare : Nat → Bool} {held : Bool} {fuel : Nat} {cs : List Value} {x : DataW H × List MemPlace},
    DataW.trod enc P w base spare held fuel t cs = some x → ∃ v : α, d.K w v cs ∧ wf v
theorem Opens.int {P : Program} {t : TypeId} {k : IntKind} (ht : P.underlying t = some (.int k)) : Opens P t (Kd.int k) (fun n => (Lit.int k n).wf = true) := by
  intro H enc w base spare held fuel cs x h
  obtain ⟨n, rfl, _, hw⟩ := DataW.trod_int ht h
  exact ⟨n, rfl, hw⟩
theorem Opens.slice {α : Type} [Inhabited α] {P : Program} {t e : TypeId} {d : Kd α} {wf : α → Prop} (ht : P.underlying t = some (.slice e)) (hc : P.cellsOf e = d.sz) (h : Opens P e d wf) : Opens P t (Kd.slice e d) (fun xs => ∀ x ∈ xs, wf x) := by
  intro H enc w base spare held fuel cs x hx
  rcases open_slice ht hx with ⟨rfl, _⟩ | ⟨a, len, cap, m, n, D, Pl, rfl, hb, hl, hm, hmm, rfl, hel⟩
  · exact ⟨[], ⟨none, 0, rfl, Nat.le_refl _, Kd.C_nil d w⟩, by simp⟩
  · have hlm : len ≤ m := by rw [hmm]; split <;> omega
    obtain ⟨f, hf⟩ := choose_lt (α := α) (n := len) (p := fun i v => ∃ cs', w.cells? base (a.add (i * P.cellsOf e)) (P.cellsOf e) = some cs' ∧ d.K w v cs' ∧ wf v) (fun i hi => by
      obtain ⟨cs', h1, h2⟩ := hel i (by omega)
      obtain ⟨v, hk, hw⟩ := h h2
      exact ⟨v, cs', h1, hk, hw⟩)
    refine ⟨(List.range len).map f, ⟨some a, cap, by simp, by simpa using hl, by simp, by simp only [maxLen] at hm; simp; omega, fun _ => ⟨a, rfl, fun j p hj => ?_⟩⟩, ?_⟩
    · have hjl : j < len := by
        have := (List.getElem?_eq_some_iff.1 hj).1
        simpa using this
      have hp : p = f j := by simpa [hjl] using hj.symm
      subst hp
      obtain ⟨cs', h1, hk, _⟩ := hf j hjl
      obtain ⟨_, hlen, hcell⟩ := World.cells?_some h1
      refine ⟨cs', by rw [hlen, hc], hk, fun i u hu => ?_⟩
      have hi : i < cs'.length := (List.getElem?_eq_some_iff.1 hu).1
      have h2 := hcell i (by omega)
      rw [Go.Deep.add_add] at h2
      rw [← hc, h2, hu]
    · intro y hy
      obtain ⟨j, hj, rfl⟩ := List.mem_map.1 hy
      obtain ⟨_, _, _, hw⟩ := hf j (List.mem_range.1 hj)
      exact hw
end Go.Proofs.YtafnamchckehmaaGreatDoor.Op
