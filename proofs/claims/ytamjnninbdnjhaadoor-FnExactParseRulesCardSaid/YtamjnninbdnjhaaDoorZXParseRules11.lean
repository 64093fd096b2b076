/- What the law needs of the program's functions as plain functions, of the proofs that their calls answer so, and of plain laws: gathered by a program of this place (pack.py) out of its printed texts. No condition beyond what each statement says. -/
import Derived.Test.YtamjnninbdnjhaaDoorZXParseRules4
import Derived.Test.YtamjnninbdnjhaaDoorZXParseRules9
import Derived.Test.YtamjnninbdnjhaaDoorZXParseRules7
import Derived.Lib.SplitLaws
import Derived.Lib.IndexBytes
import Derived.Test.YtamjnninbdnjhaaDoorZXParseRules10
import Derived.Test.YtamjnninbdnjhaaDoorZXParseRules8
namespace Go.Proofs.YtamjnninbdnjhaaDoor.Pu
open Go.RowKit Go.Proofs.YtamjnninbdnjhaaDoorW.PrintWords Go.Proofs.YtamjnninbdnjhaaDoorW.PrintLast Go.Proofs.YtamjnninbdnjhaaDoorW.PrintMore Go.Proofs.YtamjnninbdnjhaaDoor.Pr
/-- the rules of some words, behind those that stand already -/
def wordsV : List ByteArray → List IR → List IR × Bool
  | [], out => (out, true)
  | x :: rest, out => if (prV x).2.2 = true then (if (out.length : Int) ≥ 40 then ([], false) else wordsV rest (out ++ [⟨(prV x).1, (prV x).2.1⟩])) else ([], false)
abbrev noneT : List UInt8 := [110, 111, 110, 101]
def rulesV (t : ByteArray) : List IR × Bool := if t.toList = noneT then ([], true) else wordsV ((splL 32 t.data.toList).map mkB) []
theorem wordsV_len : ∀ (ws : List ByteArray) (out : List IR), out.length ≤ 40 → (wordsV ws out).1.length ≤ 40
  | [], out, h => h
  | x :: rest, out, h => by
    unfold wordsV
    split
    · split
      · exact Nat.zero_le _
      · exact wordsV_len rest _ (by rw [List.length_append, List.length_singleton]; omega)
    · exact Nat.zero_le _
theorem rulesV_len (t : ByteArray) : (rulesV t).1.length ≤ 40 := by
  unfold rulesV
  split
  · exact Nat.zero_le _
  · exact wordsV_len _ _ (Nat.zero_le _)
theorem rdW (l : List ByteArray) (i : Nat) : rdOf ByteArray.empty l (i : Int) = l.getD i ByteArray.empty := by unfold rdOf; rw [Int.toNat_natCast]
theorem rulesS_loop (t : ByteArray) (hne : ¬ t.toList = noneT) (ws : List ByteArray) (hw : ws.length ≤ 1048577) (hs : ∀ x ∈ ws, x.size ≤ 1048576) : ∀ (rest : List ByteArray) (i : Nat) (out : List IR), ws.drop i = rest → out.length ≤ 40 → Ev (fun k => spec_ParseRules.l0 k t out ws (i : Int)) (wordsV rest out) := by
  have hb : (t.toList != ([110, 111, 110, 101] : List UInt8)) = true := bne_iff_ne.2 hne
  intro rest
  induction rest with
  | nil =>
    intro i out h ho
    have := drop_nil h
    refine Ev.step (f := fun k => spec_ParseRules.j1 k t out ws (i : Int) false) (fun k => ?_) ?_
    · simp only [spec_ParseRules.l0]
      rw [if_neg (by omega)]
    · refine Ev.step (f := fun _ => some (out, true)) (fun k => ?_) (Ev.now _)
      simp only [spec_ParseRules.j1]
      rw [if_neg (by decide)]
  | cons x rest ih =>
    intro i out h ho
    obtain ⟨hi, hx, hd⟩ := drop_cons (d := ByteArray.empty) h
    have hxs : x.size ≤ 1048576 := hs x (by
      rw [← hx, List.getD_eq_getElem?_getD, List.getElem?_eq_getElem hi]
      exact List.getElem_mem _)
    refine Ev.step (f := fun k => spec_ParseRules.j1 k t out ws (i : Int) true) (fun k => ?_) ?_
    · simp only [spec_ParseRules.l0]
      rw [if_pos (by omega), hb]
    · refine Ev.step (f := fun k => (spec_ParseRule.f k x).bind fun bt => (if bt.2.2 = true then (if (out.length : Int) ≥ 40 then (some ((([] : List IR)), false)) else (if out.length < 8796093022208 then (spec_ParseRules.l0 k t (out ++ [(⟨bt.1, bt.2.1⟩ : IR)]) ws ((i + 1 : Nat) : Int)) else (none))) else (some ((([] : List IR)), false)))) (fun k => ?_) ?_
      · simp only [spec_ParseRules.j1]
        rw [if_pos (by trivial), if_pos (by omega), if_pos (by omega), rdW, hx, wrap_succ hi (by omega)]
      · refine Ev.bind (prS_val x hxs) ?_
        unfold wordsV
        by_cases h1 : (prV x).2.2 = true
        · rw [if_pos h1]
          by_cases h2 : (out.length : Int) ≥ 40
          · rw [if_pos h2]
            exact Ev.congr (fun k => by rw [if_pos h1, if_pos h2]) (Ev.now _)
          · rw [if_neg h2]
            exact Ev.congr (fun k => by rw [if_pos h1, if_neg h2, if_pos (by omega)]) (ih (i + 1) _ hd (by rw [List.length_append, List.length_singleton]; omega))
        · rw [if_neg h1]
          exact Ev.congr (fun k => by rw [if_neg h1]) (Ev.now _)
theorem rulesI_loop (ws : List ByteArray) (hw : ws.length ≤ 1048577) (hs : ∀ x ∈ ws, x.size ≤ 1048576) : ∀ (rest : List ByteArray) (i : Nat) (out : List IR), ws.drop i = rest → out.length ≤ 40 → Ev (fun k => impl_ParseRules.l0 k out ws (ws.length : Int) (i : Int)) (wordsV rest out) := by
  intro rest
  induction rest with
  | nil =>
    intro i out h ho
    have := drop_nil h
    refine Ev.step (f := fun _ => some (out, true)) (fun k => ?_) (Ev.now _)
    simp only [impl_ParseRules.l0]
    rw [if_neg (by omega)]
  | cons x rest ih =>
    intro i out h ho
    obtain ⟨hi, hx, hd⟩ := drop_cons (d := ByteArray.empty) h
    have hxs : x.size ≤ 1048576 := hs x (by
      rw [← hx, List.getD_eq_getElem?_getD, List.getElem?_eq_getElem hi]
      exact List.getElem_mem _)
    refine Ev.step (f := fun k => (impl_ParseRule.f k x).bind fun bt => (if bt.2.2 = true then (if (out.length : Int) = 40 then (some (([] : List IR), false)) else (if out.length < 8796093022208 then (impl_ParseRules.l0 k (out ++ [(⟨bt.1, bt.2.1⟩ : IR)]) ws (ws.length : Int) ((i + 1 : Nat) : Int)) else (none))) else (some (([] : List IR), false)))) (fun k => ?_) ?_
    · simp only [impl_ParseRules.l0]
      rw [if_pos (by omega), if_pos (by omega), if_pos (by omega), rdW, hx, wrap_succ hi (by omega)]
    · refine Ev.bind (prI_val x hxs) ?_
      unfold wordsV
      by_cases h1 : (prV x).2.2 = true
      · rw [if_pos h1]
        by_cases h2 : (out.length : Int) ≥ 40
        · rw [if_pos h2]
          exact Ev.congr (fun k => by rw [if_pos h1, if_pos (by omega)]) (Ev.now _)
        · rw [if_neg h2]
          exact Ev.congr (fun k => by rw [if_pos h1, if_neg (by omega), if_pos (by omega)]) (ih (i + 1) _ hd (by rw [List.length_append, List.length_singleton]; omega))
      · rw [if_neg h1]
        exact Ev.congr (fun k => by rw [if_neg h1]) (Ev.now _)
theorem indexB_one (t : ByteArray) (c : UInt8) : Lib.indexB t ⟨#[c]⟩ = Lib.indexByte t.data.toList c := Lib.index_one _ _
theorem splitB_spl (c : UInt8) : ∀ (n : Nat) (t : ByteArray), t.size ≤ n → Lib.splitB ⟨#[c]⟩ 0 (Lib.countB t ⟨#[c]⟩) t = (splL c t.data.toList).map mkB := by
  intro n
  induction n with
  | zero =>
    intro t ht
    have h0 : t.data.toList = [] := List.eq_nil_of_length_eq_zero (by rw [← size_data]; omega)
    rcases index_spl c t.data.toList with ⟨h1, _, h3⟩ | ⟨i, h1, _, _⟩
    · rw [Lib.splitB_miss _ _ _ _ (by rw [indexB_one]; exact h1), h3]
      simp [mkB_data]
    · rw [h0] at h1; simp at h1
  | succ n ih =>
    intro t ht
    rcases index_spl c t.data.toList with ⟨h1, _, h3⟩ | ⟨i, h1, h2, h3⟩
    · rw [Lib.splitB_miss _ _ _ _ (by rw [indexB_one]; exact h1), h3]
      simp [mkB_data]
    · have hi : Lib.indexB t ⟨#[c]⟩ = (i : Int) := by rw [indexB_one]; exact h2
      have hsz := size_data t
      have e1 : (⟨#[c]⟩ : ByteArray).size = 1 := rfl
      have hrest : (t.extract (i + 1) t.size).data.toList = t.data.toList.drop (i + 1) := by
        rw [extract_mk, data_mkB, List.take_of_length_le (by rw [List.length_drop]; omega)]
      rw [Lib.countB_hit t ⟨#[c]⟩ i (Nat.le_refl 1) hi, Nat.add_comm, Lib.splitB_hit _ _ _ _ i hi, e1, ih _ (by rw [size_data, hrest, List.length_drop]; omega), hrest, h3, List.map_cons]
      congr 1
      rw [extract_mk, List.drop_zero]
      simp
theorem splL_bound (c : UInt8) (t : ByteArray) (ht : t.size ≤ 1048576) : ∀ x ∈ (splL c t.data.toList).map mkB, x.size ≤ 1048576 := by
  intro x hx
  obtain ⟨y, hy, rfl⟩ := List.mem_map.1 hx
  have := splL_le c t.data.toList y hy
  rw [size_data, data_mkB]
  rw [size_data] at ht
  omega
theorem splL_length (c : UInt8) : ∀ (n : Nat) (l : Bs), l.length ≤ n → (splL c l).length ≤ n + 1 := by
  intro n
  induction n with
  | zero =>
    intro l hl
    rcases index_spl c l with ⟨_, _, h3⟩ | ⟨i, h1, _, _⟩
    · rw [h3]; exact Nat.le_refl _
    · omega
  | succ n ih =>
    intro l hl
    rcases index_spl c l with ⟨_, _, h3⟩ | ⟨i, h1, _, h3⟩
    · rw [h3]; simp
    · rw [h3, List.length_cons]
      have := ih (l.drop (i + 1)) (by rw [List.length_drop]; omega)
      omega
theorem rulesI_val (t : ByteArray) (ht : t.size ≤ 1048576) : Ev (fun k => impl_ParseRules.f k t) (rulesV t) := by
  unfold impl_ParseRules.f rulesV
  by_cases h : t.toList = noneT
  · rw [if_pos h]
    exact Ev.congr (fun k => if_pos h) (Ev.now _)
  · rw [if_neg h]
    have hsp : strings_Split.f t (⟨#[32]⟩ : ByteArray) = some ((splL 32 t.data.toList).map mkB) := by
      unfold strings_Split.f
      rw [if_pos ⟨by omega, by decide⟩, splitB_spl 32 t.size t (Nat.le_refl _)]
    refine Ev.congr (fun k => (if_neg h).trans (by rw [hsp, Option.bind_some])) ?_
    have hlen := splL_length 32 t.data.toList.length t.data.toList (Nat.le_refl _)
    rw [size_data] at ht
    exact rulesI_loop _ (by rw [List.length_map]; omega) (splL_bound 32 t (by rw [size_data]; omega)) _ 0 [] rfl (Nat.zero_le _)
theorem rulesS_val (t : ByteArray) (ht : t.size ≤ 1048576) : Ev (fun k => spec_ParseRules.f k t) (rulesV t) := by
  have hlen := splL_length 32 t.data.toList.length t.data.toList (Nat.le_refl _)
  have hlen2 : ((splL 32 t.data.toList).map mkB).length ≤ 1048577 := by rw [List.length_map]; rw [size_data] at ht; omega
  unfold spec_ParseRules.f rulesV
  refine Ev.bind (spl_val t ht 32) ?_
  by_cases h : t.toList = noneT
  · rw [if_pos h]
    have hne : (splL 32 t.data.toList).map mkB ≠ [] := by
      intro e
      exact splL_ne 32 _ (List.map_eq_nil_iff.1 e)
    have hpos : 0 < ((splL 32 t.data.toList).map mkB).length := List.length_pos_iff.2 hne
    refine Ev.step (f := fun k => spec_ParseRules.j1 k t [] ((splL 32 t.data.toList).map mkB) 0 false) (fun k => ?_) ?_
    · simp only [spec_ParseRules.l0]
      rw [if_pos (by omega), h]
      rfl
    · refine Ev.step (f := fun _ => some ([], true)) (fun k => ?_) (Ev.now _)
      simp only [spec_ParseRules.j1]
      rw [if_neg (by decide)]
  · rw [if_neg h]
    exact rulesS_loop t h _ hlen2 (splL_bound 32 t ht) _ 0 [] rfl (Nat.zero_le _)
end Go.Proofs.YtamjnninbdnjhaaDoor.Pu
namespace Go.Proofs.YtamjnninbdnjhaaDoor.Pu
open Go.RowKit Go.Proofs.YtamjnninbdnjhaaDoorW.PrintWords Go.Proofs.YtamjnninbdnjhaaDoorW.PrintLast Go.Proofs.YtamjnninbdnjhaaDoorW.PrintMore Go.Proofs.YtamjnninbdnjhaaDoor.Pr
theorem FnExactParseRules (a0 : ByteArray) {P : Prop} (_ : P) : ∃ k, laws_FnExactParseRules.f k a0 = some true := by
  apply Ev.rounds
  unfold laws_FnExactParseRules.f
  by_cases h : (a0.size : Int) > 1048576
  · exact Ev.congr (fun k => if_pos h) (Ev.now true)
  · refine Ev.congr (fun k => if_neg h) ?_
    have ht : a0.size ≤ 1048576 := by omega
    have hS := rulesS_val a0 ht
    have hI := rulesI_val a0 ht
    have hq := rulesV_len a0
    generalize rulesV a0 = q at hS hI hq
    refine Ev.bind hS ?_
    refine Ev.bind hI ?_
    refine Ev.bind (eqRule_self q.1 (by omega)) ?_
    refine Ev.congr (fun k => by rw [if_pos rfl, show (q.2 != q.2) = false from by simp]) ?_
    refine Ev.step (fun k => by simp only [laws_FnExactParseRules.j0]; rw [if_neg (by decide)]) ?_
    refine Ev.bind (mark_val q.1 (by omega)) ?_
    refine Ev.bind (held_val q.1 (by omega)) ?_
    refine Ev.congr (fun k => by rw [if_neg (mark_pos _), if_pos rfl]) ?_
    refine Ev.bind hI ?_
    refine Ev.bind (eqRule_self q.1 (by omega)) ?_
    refine Ev.congr (fun k => by rw [if_pos rfl, show (q.2 != q.2) = false from by simp]) ?_
    refine Ev.step (fun k => by simp only [laws_FnExactParseRules.j1]; rw [if_neg (by decide)]) ?_
    refine Ev.bind (held_val q.1 (by omega)) ?_
    exact Ev.congr (fun k => by rw [if_neg (mark_pos _), if_pos rfl]) (Ev.now true)
end Go.Proofs.YtamjnninbdnjhaaDoor.Pu
