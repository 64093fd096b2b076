/- What the law needs of the program's functions as plain functions, of the proofs that their calls answer so, and of plain laws: gathered by a program of this place (pack.py) out of its printed texts. No condition beyond what each statement says. -/
import Derived.Test.YtamjnninbdnjhaaZXRulesText4
import Derived.Test.YtamjnninbdnjhaaZXRulesText7
import Derived.Test.YtamjnninbdnjhaaZXRulesText6
import Derived.Test.YtamjnninbdnjhaaZXRulesText3
import Derived.Test.YtamjnninbdnjhaaZXRulesText8
namespace Go.Proofs.Ytamjnninbdnjhaa.Pu
open Go.RowKit Go.Proofs.YtamjnninbdnjhaaW.PrintWords Go.Proofs.YtamjnninbdnjhaaW.PrintLast Go.Proofs.YtamjnninbdnjhaaW.PrintMore Go.Proofs.Ytamjnninbdnjhaa.Pr
def bI (l : List UInt8) : List Int := l.map fun b => (b.toNat : Int)
theorem bI_length (l : List UInt8) : (bI l).length = l.length := List.length_map ..
theorem bI_append (a b : List UInt8) : bI (a ++ b) = bI a ++ bI b := by unfold bI; rw [List.map_append]
theorem bytesOf_bI (s : ByteArray) : bytesOf s = bI s.data.toList := rfl
theorem strOf_bI (l : List UInt8) : strOfNums (bI l) = ⟨l.toArray⟩ := by
  unfold strOfNums bI
  rw [List.map_map]
  congr 2
  conv => rhs; rw [← List.map_id l]
  refine List.map_congr_left fun b _ => ?_
  simp
abbrev bl (l : List ByteArray) : List (List UInt8) := l.map (·.data.toList)
def jn (l : List ByteArray) (s : ByteArray) : List UInt8 := Lib.join (bl l) s.data.toList
theorem jn_nil (s : ByteArray) : jn [] s = [] := rfl
theorem jn_len {l : List ByteArray} (s : ByteArray) (h : 0 < l.length) : (jn l s).length = s.size * (l.length - 1) + Lib.lens (bl l) := by
  cases l with
  | nil => simp at h
  | cons x r =>
    unfold jn bl
    rw [List.map_cons, Lib.join_length, List.length_map, Lib.size_eq, List.length_cons, Nat.add_sub_cancel]
theorem lens_snoc (l : List ByteArray) (x : ByteArray) : Lib.lens (bl (l ++ [x])) = Lib.lens (bl l) + x.size := by
  unfold Lib.lens bl
  rw [List.map_append, List.map_append, List.sum_append, Lib.size_eq]
  rfl
theorem jn_snoc {l : List ByteArray} (s x : ByteArray) : jn (l ++ [x]) s = if l.length = 0 then x.data.toList else jn l s ++ s.data.toList ++ x.data.toList := by
  cases l with
  | nil => rw [if_pos List.length_nil]; unfold jn bl; exact Lib.join_one _ _
  | cons y r =>
    rw [if_neg (by simp)]
    unfold jn bl
    rw [List.cons_append, List.map_cons, List.map_cons, Lib.join_cons, Lib.join_cons, List.map_append]
    unfold Lib.joinTail
    rw [List.map_append, List.flatten_append]
    simp [List.append_assoc]
theorem jn_mono (s : ByteArray) (l r : List ByteArray) : (jn l s).length ≤ (jn (l ++ r) s).length := by
  rcases Nat.eq_zero_or_pos l.length with h | h
  · rw [List.eq_nil_of_length_eq_zero h, jn_nil]; exact Nat.zero_le _
  · rw [jn_len s h, jn_len s (by rw [List.length_append]; omega), List.length_append]
    have h1 : s.size * (l.length - 1) ≤ s.size * (l.length + r.length - 1) := Nat.mul_le_mul_left _ (by omega)
    have h2 : Lib.lens (bl l) ≤ Lib.lens (bl (l ++ r)) := by
      unfold Lib.lens bl
      rw [List.map_append, List.map_append, List.sum_append]
      omega
    omega
def jV (l : List ByteArray) (s : ByteArray) : ByteArray := if (jn l s).length > 1048576 then ⟨#[]⟩ else ⟨(jn l s).toArray⟩
theorem joinS_val (l : List ByteArray) (s : ByteArray) (hl : l.length ≤ 1048576) (hs : s.size ≤ 1000) (hx : ∀ x ∈ l, x.size ≤ 1000) : Ev (fun k => spec_Join.f k l s) (jV l s) := by
  unfold spec_Join.f
  have key : ∀ (rest : List ByteArray) (i : Nat), l.drop i = rest → (jn (l.take i) s).length ≤ 1048576 → Ev (fun k => spec_Join.l0 k l s (bI (jn (l.take i) s)) (i : Int)) (jV l s) := by
    intro rest
    induction rest with
    | nil =>
      intro i h hj
      have hi := drop_nil h
      rw [List.take_of_length_le hi] at hj ⊢
      refine Ev.step (f := fun k => some (strOfNums (bI (jn l s)))) (fun k => ?_) ?_
      · simp only [spec_Join.l0]
        rw [if_neg (by omega)]
      · unfold jV
        rw [if_neg (by omega), strOf_bI]
        exact Ev.now _
    | cons x rest ih =>
      intro i h hj
      obtain ⟨hi, hxi, hd⟩ := drop_cons (d := ByteArray.empty) h
      have hxs : x.size ≤ 1000 := hx x (List.mem_of_mem_drop (i := i) (by rw [h]; exact List.mem_cons_self))
      have ht : l.take (i + 1) = l.take i ++ [x] := by
        rw [List.take_succ_eq_append_getElem hi]
        congr 2
        rw [← hxi, List.getD_eq_getElem?_getD, List.getElem?_eq_getElem hi]
        rfl
      have hrd : rdOf ByteArray.empty l (i : Int) = x := by unfold rdOf; rw [Int.toNat_natCast]; exact hxi
      have htl : (l.take i).length = i := by rw [List.length_take]; omega
      have hsn := jn_snoc (l := l.take i) s x
      rw [← ht, htl] at hsn
      have hstep : ∀ k, spec_Join.l0 (k + 1) l s (bI (jn (l.take i) s)) (i : Int) = if (jn (l.take (i + 1)) s).length > 1048576 then some (⟨#[]⟩ : ByteArray) else spec_Join.l0 k l s (bI (jn (l.take (i + 1)) s)) ((i + 1 : Nat) : Int) := by
        intro k
        simp only [spec_Join.l0]
        rw [if_pos (by omega)]
        have h0 : ((s.data.toList).length) = s.size := (Lib.size_eq s).symm
        by_cases hz : i = 0
        · rw [if_neg (by omega), if_pos (by omega), hrd, if_pos (by rw [bI_length]; omega)]
          simp only [Option.bind_some]
          rw [if_pos hz] at hsn
          have e0 : jn (l.take i) s = [] := by rw [hz]; rfl
          rw [e0, bytesOf_bI, show bI [] ++ bI x.data.toList = bI x.data.toList from rfl, bI_length, hsn, wrap_succ hi (by omega)]
          by_cases hc : x.data.toList.length > 1048576
          · rw [if_pos hc, if_pos (by omega)]
          · rw [if_neg hc, if_neg (by omega)]
        · rw [if_pos (by omega), if_pos (by rw [bI_length]; omega)]
          simp only [Option.bind_some]
          rw [if_pos (by omega), hrd, bytesOf_bI, ← bI_append, if_pos (by rw [bI_length, List.length_append]; omega)]
          rw [if_neg hz] at hsn
          rw [bytesOf_bI, ← bI_append, bI_length, hsn, wrap_succ hi (by omega)]
          by_cases hc : (jn (l.take i) s ++ s.data.toList ++ x.data.toList).length > 1048576
          · rw [if_pos hc, if_pos (by omega)]
          · rw [if_neg hc, if_neg (by omega)]
      by_cases hc : (jn (l.take (i + 1)) s).length > 1048576
      · refine Ev.step (f := fun k => some (⟨#[]⟩ : ByteArray)) (fun k => by rw [hstep, if_pos hc]) ?_
        have := jn_mono s (l.take (i + 1)) (l.drop (i + 1))
        rw [List.take_append_drop] at this
        unfold jV
        rw [if_pos (by omega)]
        exact Ev.now _
      · exact Ev.step (fun k => by rw [hstep, if_neg hc]) (ih (i + 1) hd (by omega))
  exact key l 0 rfl (by simp [jn_nil])
theorem joinI_val (l : List ByteArray) (s : ByteArray) (hl : l.length ≤ 1048576) (hn : 0 < l.length) (hs : s.size = 1) (hx : ∀ x ∈ l, x.size ≤ 1000) : Ev (fun k => impl_Join.f k l s) (jV l s) := by
  unfold impl_Join.f
  have e0 : wrap64 ((mx (wrap64 ((l.length : Int) - 1)) 0) * (s.size : Int)) = ((l.length - 1 : Nat) : Int) := by
    rw [hs, show wrap64 ((l.length : Int) - 1) = ((l.length - 1 : Nat) : Int) by unfold wrap64; omega]
    unfold mx
    rw [if_neg (by omega)]
    unfold wrap64
    omega
  rw [e0]
  have key : ∀ (rest : List ByteArray) (i : Nat), l.drop i = rest → Lib.lens (bl (l.take i)) ≤ 1000 * i → Ev (fun k => impl_Join.l0 k l s ((l.length - 1 + Lib.lens (bl (l.take i)) : Nat) : Int) l (l.length : Int) (i : Int)) (jV l s) := by
    intro rest
    induction rest with
    | nil =>
      intro i h hj
      have hi := drop_nil h
      rw [List.take_of_length_le hi] at hj ⊢
      have hlen := jn_len s hn
      rw [hs, Nat.one_mul] at hlen
      rw [← hlen]
      refine Ev.step (f := fun k => some (jV l s)) (fun k => ?_) (Ev.now _)
      simp only [impl_Join.l0]
      rw [if_neg (by omega)]
      unfold jV
      by_cases hc : (jn l s).length > 1048576
      · rw [if_pos (by omega), if_pos hc]
      · rw [if_neg (by omega), if_neg hc]
        unfold strings_Join.f
        rw [if_pos ⟨by omega, by have : (jn l s).length = (Lib.join (l.map (·.data.toList)) s.data.toList).length := rfl; omega⟩]
        rfl
    | cons x rest ih =>
      intro i h hj
      obtain ⟨hi, hxi, hd⟩ := drop_cons (d := ByteArray.empty) h
      have hxs : x.size ≤ 1000 := hx x (List.mem_of_mem_drop (i := i) (by rw [h]; exact List.mem_cons_self))
      have ht : l.take (i + 1) = l.take i ++ [x] := by
        rw [List.take_succ_eq_append_getElem hi]
        congr 2
        rw [← hxi, List.getD_eq_getElem?_getD, List.getElem?_eq_getElem hi]
        rfl
      have hrd : rdOf ByteArray.empty l (i : Int) = x := by unfold rdOf; rw [Int.toNat_natCast]; exact hxi
      have hls : Lib.lens (bl (l.take (i + 1))) = Lib.lens (bl (l.take i)) + x.size := by rw [ht, lens_snoc]
      refine Ev.step (fun k => ?_) (ih (i + 1) hd (by omega))
      simp only [impl_Join.l0]
      rw [if_pos (by omega), if_pos (by omega), if_pos (by omega), hrd, wrap_succ hi (by omega), hls]
      congr 1
      unfold wrap64
      omega
  have := key l 0 rfl (by simp [Lib.lens])
  simpa [Lib.lens] using this
end Go.Proofs.Ytamjnninbdnjhaa.Pu
namespace Go.Proofs.Ytamjnninbdnjhaa.Pu
open Go.RowKit Go.Proofs.YtamjnninbdnjhaaW.PrintWords Go.Proofs.YtamjnninbdnjhaaW.PrintLast Go.Proofs.YtamjnninbdnjhaaW.PrintMore Go.Proofs.Ytamjnninbdnjhaa.Pr
def piece (e : Int) : ByteArray := (⟨#[97, 98, 99, 100, 101, 102, 103, 104]⟩ : ByteArray).extract (e : Int).toNat ((wrap64 (e + 1)) : Int).toNat
theorem piece_size (e : Int) : (piece e).size ≤ 8 := by
  unfold piece
  rw [ByteArray.size_extract]
  have : (⟨#[97, 98, 99, 100, 101, 102, 103, 104]⟩ : ByteArray).size = 8 := rfl
  omega
def textL (l : List Int) (x : ByteArray) : ByteArray := l.foldl (fun x e => x ++ piece e) x
theorem textL_size : ∀ (l : List Int) (x : ByteArray), (textL l x).size ≤ x.size + 8 * l.length
  | [], x => by simp [textL]
  | e :: l, x => by
    have h := textL_size l (x ++ piece e)
    rw [ByteArray.size_append] at h
    have := piece_size e
    rw [show textL (e :: l) x = textL l (x ++ piece e) from rfl, List.length_cons]
    omega
theorem rdI (l : List Int) (i : Nat) : rd l (i : Int) = l.getD i 0 := by unfold rd; rw [Int.toNat_natCast]
theorem mem_of_drop {α : Type} {l rest : List α} {i : Nat} {x : α} (h : l.drop i = x :: rest) : x ∈ l := List.mem_of_mem_drop (i := i) (by rw [h]; exact List.mem_cons_self)
theorem textS_loop (l : List Int) (hl : l.length ≤ 8) (hr : ∀ e ∈ l, 0 ≤ e ∧ e ≤ 7) : ∀ (rest : List Int) (i : Nat) (x : ByteArray), l.drop i = rest → x.size ≤ 8 * i → Ev (fun k => spec_SetText.l0 k x l (i : Int)) (textL rest x) := by
  intro rest
  induction rest with
  | nil =>
    intro i x h hx
    have := drop_nil h
    refine Ev.step (f := fun _ => some x) (fun k => ?_) (Ev.now _)
    simp only [spec_SetText.l0]
    rw [if_neg (by omega)]
  | cons e rest ih =>
    intro i x h hx
    obtain ⟨hi, he, hd⟩ := drop_cons (d := 0) h
    have hb := hr e (mem_of_drop h)
    have hp := piece_size e
    have hw : wrap64 (e + 1) = e + 1 := by unfold wrap64; omega
    refine Ev.step (f := fun k => spec_SetText.l0 k (x ++ piece e) l ((i + 1 : Nat) : Int)) (fun k => ?_) (ih (i + 1) (x ++ piece e) hd (by rw [ByteArray.size_append]; omega))
    simp only [spec_SetText.l0]
    rw [if_pos (by omega), if_pos (by omega), rdI, he, if_pos hb.1, if_pos (by omega), if_pos (by omega), wrap_succ hi (by omega)]
    rw [show (⟨#[97, 98, 99, 100, 101, 102, 103, 104]⟩ : ByteArray).extract (e : Int).toNat ((wrap64 (e + 1)) : Int).toNat = piece e from rfl, if_pos (by omega)]
theorem textI_loop (l : List Int) (hl : l.length ≤ 8) (hr : ∀ e ∈ l, 0 ≤ e ∧ e ≤ 7) : ∀ (rest : List Int) (i : Nat) (x : ByteArray), l.drop i = rest → x.size ≤ 8 * i → Ev (fun k => impl_SetText.l0 k x l (l.length : Int) (i : Int)) (textL rest x) := by
  intro rest
  induction rest with
  | nil =>
    intro i x h hx
    have := drop_nil h
    refine Ev.step (f := fun _ => some x) (fun k => ?_) (Ev.now _)
    simp only [impl_SetText.l0]
    rw [if_neg (by omega)]
  | cons e rest ih =>
    intro i x h hx
    obtain ⟨hi, he, hd⟩ := drop_cons (d := 0) h
    have hb := hr e (mem_of_drop h)
    have hp := piece_size e
    have hw : wrap64 (e + 1) = e + 1 := by unfold wrap64; omega
    refine Ev.step (f := fun k => impl_SetText.l0 k (x ++ piece e) l (l.length : Int) ((i + 1 : Nat) : Int)) (fun k => ?_) (ih (i + 1) (x ++ piece e) hd (by rw [ByteArray.size_append]; omega))
    simp only [impl_SetText.l0]
    rw [if_pos (by omega), if_pos (by omega), if_pos (by omega), rdI, he, if_pos hb.1, if_pos (by omega), if_pos (by omega), wrap_succ hi (by omega)]
    rw [show (⟨#[97, 98, 99, 100, 101, 102, 103, 104]⟩ : ByteArray).extract (e : Int).toNat ((wrap64 (e + 1)) : Int).toNat = piece e from rfl, if_pos (by omega)]
def setText (s : Int) : ByteArray := if isAny s then (if s = 0 then (⟨#[45]⟩ : ByteArray) else textL (elemsV s) (⟨#[]⟩ : ByteArray)) else (⟨#[]⟩ : ByteArray)
theorem setText_size (s : Int) : (setText s).size ≤ 64 := by
  unfold setText
  split
  · split
    · exact (by decide : (⟨#[45]⟩ : ByteArray).size ≤ 64)
    · have := textL_size (elemsV s) (⟨#[]⟩ : ByteArray)
      have h2 := elemsV_length s
      have h3 : (⟨#[]⟩ : ByteArray).size = 0 := rfl
      omega
  · exact (by decide : (⟨#[]⟩ : ByteArray).size ≤ 64)
theorem setTextS_val (s : Int) : Ev (fun k => spec_SetText.f k s) (setText s) := by
  unfold spec_SetText.f setText
  rw [specSet_val, isSetB_8]
  simp only [Option.bind_some]
  cases isAny s with
  | false => exact Ev.congr (fun k => by rw [if_neg (by decide)]; rfl) (Ev.now _)
  | true =>
    by_cases h : s = 0
    · exact Ev.congr (fun k => by rw [if_pos rfl, if_pos h]) (by rw [if_pos rfl, if_pos h]; exact Ev.now _)
    · rw [if_pos rfl, if_neg h]
      refine Ev.congr (fun k => by rw [if_pos rfl, if_neg h]) ?_
      exact Ev.bind (elemsS_val s) (textS_loop _ (elemsV_length s) (elemsV_range s) (elemsV s) 0 _ rfl (by decide))
theorem setTextI_val (s : Int) : Ev (fun k => impl_SetText.f k s) (setText s) := by
  unfold impl_SetText.f setText
  rw [any_val]
  simp only [Option.bind_some]
  cases isAny s with
  | false => exact Ev.congr (fun k => by rw [if_neg (by decide)]; rfl) (Ev.now _)
  | true =>
    by_cases h : s = 0
    · exact Ev.congr (fun k => by rw [if_pos rfl, if_pos h]) (by rw [if_pos rfl, if_pos h]; exact Ev.now _)
    · rw [if_pos rfl, if_neg h]
      refine Ev.congr (fun k => by rw [if_pos rfl, if_neg h]) ?_
      exact Ev.bind (elemsI_val s) (textI_loop _ (elemsV_length s) (elemsV_range s) (elemsV s) 0 _ rfl (by decide))
def ruleText (r : IR) : ByteArray := if anyR r then (setText r.f0 ++ (⟨#[62]⟩ : ByteArray)) ++ setText r.f1 else (⟨#[]⟩ : ByteArray)
theorem ruleTextS_val (a b : Int) : Ev (fun k => spec_RuleText.f k a b) (ruleText ⟨a, b⟩) := by
  unfold spec_RuleText.f ruleText
  rw [rule_val, isSetB_8, isSetB_8, show (isAny a && isAny b) = anyR ⟨a, b⟩ from rfl]
  simp only [Option.bind_some]
  cases anyR ⟨a, b⟩ with
  | false => exact Ev.congr (fun k => by rw [if_neg (by decide)]; rfl) (Ev.now _)
  | true =>
    rw [if_pos rfl]
    refine Ev.congr (fun k => by rw [if_pos rfl]) ?_
    have h1 := setText_size a
    have h2 := setText_size b
    refine Ev.bind (setTextS_val a) ?_
    refine Ev.congr (fun k => by rw [if_pos (by omega)]) ?_
    refine Ev.bind (setTextS_val b) ?_
    refine Ev.congr (fun k => by rw [if_pos (by rw [ByteArray.size_append, show (⟨#[62]⟩ : ByteArray).size = 1 from rfl]; omega)]) (Ev.now _)
theorem ruleTextI_val (a b : Int) : Ev (fun k => impl_RuleText.f k a b) (ruleText ⟨a, b⟩) := by
  unfold impl_RuleText.f impl_areAnyRules.f ruleText
  simp only [Option.bind_some]
  rw [show ([(⟨a, b⟩ : IR)].all anyR) = anyR ⟨a, b⟩ from by simp]
  cases anyR ⟨a, b⟩ with
  | false => exact Ev.congr (fun k => by rw [if_neg (by decide)]; rfl) (Ev.now _)
  | true =>
    rw [if_pos rfl]
    refine Ev.congr (fun k => by rw [if_pos rfl]) ?_
    have h1 := setText_size a
    have h2 := setText_size b
    refine Ev.bind (setTextI_val a) ?_
    refine Ev.congr (fun k => by rw [if_pos (by omega)]) ?_
    refine Ev.bind (setTextI_val b) ?_
    refine Ev.congr (fun k => by rw [if_pos (by rw [ByteArray.size_append, show (⟨#[62]⟩ : ByteArray).size = 1 from rfl]; omega)]) (Ev.now _)
end Go.Proofs.Ytamjnninbdnjhaa.Pu
namespace Go.Proofs.Ytamjnninbdnjhaa.Pu
open Go.RowKit Go.Proofs.YtamjnninbdnjhaaW.PrintWords Go.Proofs.YtamjnninbdnjhaaW.PrintLast Go.Proofs.YtamjnninbdnjhaaW.PrintMore Go.Proofs.Ytamjnninbdnjhaa.Pr
theorem ruleText_size (r : IR) : (ruleText r).size ≤ 1000 := by
  unfold ruleText
  split
  · rw [ByteArray.size_append, ByteArray.size_append]
    have h1 := setText_size r.f0
    have h2 := setText_size r.f1
    have h3 : (⟨#[62]⟩ : ByteArray).size = 1 := rfl
    omega
  · exact Nat.zero_le _
theorem ruleText_none (r : IR) : (ruleText r).toList = ([] : List UInt8) ↔ anyR r = false := by
  unfold ruleText
  cases h : anyR r with
  | false => rw [if_neg (by decide)]; exact ⟨fun _ => rfl, fun _ => by rw [Lib.toList_data]⟩
  | true =>
    rw [if_pos rfl]
    constructor
    · intro e
      have hl := congrArg List.length e
      rw [Lib.toList_data, ← Lib.size_eq, ByteArray.size_append, ByteArray.size_append] at hl
      have h3 : (⟨#[62]⟩ : ByteArray).size = 1 := rfl
      rw [List.length_nil] at hl
      omega
    · intro e; cases e
def rtV (l : List IR) : ByteArray := if l.length = 0 then ⟨#[110, 111, 110, 101]⟩ else if l.all anyR = true then jV (l.map ruleText) ⟨#[32]⟩ else ⟨#[]⟩
theorem texts_small (l : List IR) : ∀ x ∈ l.map ruleText, x.size ≤ 1000 := by
  intro x hx
  obtain ⟨r, _, rfl⟩ := List.mem_map.1 hx
  exact ruleText_size r
theorem take_one {α : Type} {l rest : List α} {i : Nat} {x : α} (h : l.drop i = x :: rest) : l.take (i + 1) = l.take i ++ [x] := by
  obtain ⟨hi, hxi, _⟩ := drop_cons (d := x) h
  rw [List.take_succ_eq_append_getElem hi]
  congr 2
  rw [← hxi, List.getD_eq_getElem?_getD, List.getElem?_eq_getElem hi]
  rfl
theorem rtS_val (l : List IR) (hl : l.length ≤ 1048576) : Ev (fun k => spec_RulesText.f k l) (rtV l) := by
  unfold spec_RulesText.f rtV
  by_cases hz : l.length = 0
  · rw [if_pos hz]
    exact Ev.congr (fun k => by rw [if_pos (by omega)]) (Ev.now _)
  rw [if_neg hz]
  refine Ev.congr (fun k => by rw [if_neg (by omega)]) ?_
  have key : ∀ (rest : List IR) (i : Nat), l.drop i = rest → Ev (fun k => spec_RulesText.l0 k l ((l.take i).map ruleText) (i : Int)) (if rest.all anyR = true then jV (l.map ruleText) ⟨#[32]⟩ else ⟨#[]⟩) := by
    intro rest
    induction rest with
    | nil =>
      intro i h
      have hi := drop_nil h
      rw [List.take_of_length_le hi, if_pos (show (([] : List IR).all anyR) = true from rfl)]
      refine Ev.step (f := fun k => (spec_Join.f k (l.map ruleText) (⟨#[32]⟩ : ByteArray)).bind fun t => some t) (fun k => ?_) (Ev.bind (joinS_val _ _ (by rw [List.length_map]; omega) (by decide) (texts_small l)) (Ev.now _))
      simp only [spec_RulesText.l0]
      rw [if_neg (by omega)]
    | cons x rest ih =>
      intro i h
      obtain ⟨hi, hxi, hd⟩ := drop_cons (d := z46) h
      have hlen : ((l.take i).map ruleText).length < 8796093022208 := by rw [List.length_map, List.length_take]; omega
      refine Ev.step (f := fun k => (spec_RuleText.f k x.f0 x.f1).bind fun t => if t.toList = ([] : List UInt8) then some (⟨#[]⟩ : ByteArray) else (spec_RuleText.f k x.f0 x.f1).bind fun t2 => spec_RulesText.l0 k l ((l.take i).map ruleText ++ [t2]) ((i + 1 : Nat) : Int)) (fun k => ?_) ?_
      · simp only [spec_RulesText.l0]
        rw [if_pos (by omega), if_pos (by omega), rdR, hxi, wrap_succ hi (by omega)]
        simp only [if_pos hlen]
      · refine Ev.bind (ruleTextS_val x.f0 x.f1) ?_
        rw [List.all_cons]
        cases ha : anyR x with
        | false =>
          rw [Bool.false_and, if_neg (by decide)]
          exact Ev.congr (fun k => by rw [if_pos ((ruleText_none x).2 ha)]) (Ev.now _)
        | true =>
          rw [Bool.true_and]
          refine Ev.congr (fun k => by rw [if_neg (fun e => by rw [(ruleText_none x).1 e] at ha; cases ha)]) ?_
          refine Ev.bind (ruleTextS_val x.f0 x.f1) ?_
          have := ih (i + 1) hd
          rw [take_one h, List.map_append] at this
          exact this
  exact key l 0 rfl
theorem rtI_val (l : List IR) (hl : l.length ≤ 1048576) : Ev (fun k => impl_RulesText.f k l) (rtV l) := by
  unfold impl_RulesText.f rtV
  by_cases hz : l.length = 0
  · rw [if_pos hz]
    exact Ev.congr (fun k => by rw [if_pos (by omega)]) (Ev.now _)
  rw [if_neg hz]
  refine Ev.congr (fun k => by rw [if_neg (by omega)]) ?_
  unfold impl_areAnyRules.f
  simp only [Option.bind_some]
  cases ha : l.all anyR with
  | false =>
    rw [if_neg (by decide)]
    exact Ev.congr (fun k => by rw [if_neg (by decide)]) (Ev.now _)
  | true =>
    rw [if_pos rfl]
    refine Ev.congr (fun k => by rw [if_pos rfl]) ?_
    have key : ∀ (rest : List IR) (i : Nat), l.drop i = rest → Ev (fun k => impl_RulesText.l0 k ((l.take i).map ruleText) l (l.length : Int) (i : Int)) (jV (l.map ruleText) ⟨#[32]⟩) := by
      intro rest
      induction rest with
      | nil =>
        intro i h
        have hi := drop_nil h
        rw [List.take_of_length_le hi]
        refine Ev.step (f := fun k => (impl_Join.f k (l.map ruleText) (⟨#[32]⟩ : ByteArray)).bind fun t => some t) (fun k => ?_) (Ev.bind (joinI_val _ _ (by rw [List.length_map]; omega) (by rw [List.length_map]; omega) rfl (texts_small l)) (Ev.now _))
        simp only [impl_RulesText.l0]
        rw [if_neg (by omega)]
      | cons x rest ih =>
        intro i h
        obtain ⟨hi, hxi, hd⟩ := drop_cons (d := z46) h
        have hlen : ((l.take i).map ruleText).length < 8796093022208 := by rw [List.length_map, List.length_take]; omega
        refine Ev.step (f := fun k => (impl_RuleText.f k x.f0 x.f1).bind fun t2 => impl_RulesText.l0 k ((l.take i).map ruleText ++ [t2]) l (l.length : Int) ((i + 1 : Nat) : Int)) (fun k => ?_) ?_
        · simp only [impl_RulesText.l0]
          rw [if_pos (by omega), if_pos (by omega), if_pos (by omega), rdR, hxi, wrap_succ hi (by omega)]
          simp only [if_pos hlen]
        · refine Ev.bind (ruleTextI_val x.f0 x.f1) ?_
          have := ih (i + 1) hd
          rw [take_one h, List.map_append] at this
          exact this
    exact key l 0 rfl
end Go.Proofs.Ytamjnninbdnjhaa.Pu
namespace Go.Proofs.Ytamjnninbdnjhaa.Pu
open Go.RowKit Go.Proofs.YtamjnninbdnjhaaW.PrintWords Go.Proofs.YtamjnninbdnjhaaW.PrintLast Go.Proofs.YtamjnninbdnjhaaW.PrintMore Go.Proofs.Ytamjnninbdnjhaa.Pr
theorem FnExactRulesText (l : List LR) (hl : l.length ≤ 9223372036854775807) (_ : ∀ x ∈ l, (Lit.int .i64 x.f0).wf = true ∧ (Lit.int .i64 x.f1).wf = true) : ∃ k, laws_FnExactRulesText.f k l = some true := by
  apply Ev.rounds
  unfold laws_FnExactRulesText.f
  obtain ⟨m, hm, hm2⟩ := sz_val l hl
  rw [hm]
  simp only [Option.bind_some]
  by_cases h : m < 0
  · exact Ev.congr (fun k => by rw [if_pos h]) (Ev.now true)
  · have hle := hm2 (by omega)
    have hc : (l.map conv).length ≤ 1048576 := by rw [List.length_map]; omega
    refine Ev.congr (fun k => by rw [if_neg h]) ?_
    refine Ev.bind (toRule_val l hle) ?_
    refine Ev.bind (rtS_val _ hc) ?_
    refine Ev.bind (toRule_val l hle) ?_
    refine Ev.bind (rtI_val _ hc) ?_
    refine Ev.congr (fun k => by rw [if_pos rfl]) ?_
    refine Ev.bind (toRule_val l hle) ?_
    refine Ev.bind (eqRule_self _ (by omega)) ?_
    exact Ev.congr (fun k => by rw [if_pos rfl]) (Ev.now true)
end Go.Proofs.Ytamjnninbdnjhaa.Pu
