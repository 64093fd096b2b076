/- The texts of sets and of rules. No condition. -/
import Derived.Test.YtjkbmdbecplgiaaPr14
import Derived.Test.YtjkbmdbecplgiaaPr4
import Derived.Test.YtjkbmdbecplgiaaPr5
import Derived.Test.YtjkbmdbecplgiaaPuElem
import Derived.Test.YtjkbmdbecplgiaaGAnyRules
namespace Go.Proofs.Ytjkbmdbecplgiaa.Pu
open Go.RowKit Go.Proofs.YtjkbmdbecplgiaaW.PrintWords Go.Proofs.YtjkbmdbecplgiaaW.PrintLast Go.Proofs.YtjkbmdbecplgiaaW.PrintMore Go.Proofs.Ytjkbmdbecplgiaa.Pr

def piece (e : Int) : ByteArray := (⟨#[97, 98, 99, 100, 101, 102, 103, 104]⟩ : ByteArray).extract (e : Int).toNat ((wrap64 (e + 1)) : Int).toNat
theorem piece_size (e : Int) : (piece e).size ≤ 8 := by
  unfold piece
  rw [ByteArray.size_extract]
  have : (⟨#[97, 98, 99, 100, 101, 102, 103, 104]⟩ : ByteArray).size = 8 := rfl
  omega
def textL (l : List Int) (x : ByteArray) : ByteArray := l.foldl (fun x e => x ++ piece e) x
theorem textL_size : ∀ (l : List Int) (x : ByteArray), (textL l x).size ≤ x.size + 8 * l.length
  | [], x => by simp [textL]
  | e :: l, x => by
    have h := textL_size l (x ++ piece e)
    rw [ByteArray.size_append] at h
    have := piece_size e
    rw [show textL (e :: l) x = textL l (x ++ piece e) from rfl, List.length_cons]
    omega
theorem rdI (l : List Int) (i : Nat) : rd l (i : Int) = l.getD i 0 := by unfold rd; rw [Int.toNat_natCast]
theorem mem_of_drop {α : Type} {l rest : List α} {i : Nat} {x : α} (h : l.drop i = x :: rest) : x ∈ l := List.mem_of_mem_drop (i := i) (by rw [h]; exact List.mem_cons_self)
theorem textS_loop (l : List Int) (hl : l.length ≤ 8) (hr : ∀ e ∈ l, 0 ≤ e ∧ e ≤ 7) : ∀ (rest : List Int) (i : Nat) (x : ByteArray), l.drop i = rest → x.size ≤ 8 * i → Ev (fun k => spec_SetText.l0 k x l (i : Int)) (textL rest x) := by
  intro rest
  induction rest with
  | nil =>
    intro i x h hx
    have := drop_nil h
    refine Ev.step (f := fun _ => some x) (fun k => ?_) (Ev.now _)
    simp only [spec_SetText.l0]
    rw [if_neg (by omega)]
  | cons e rest ih =>
    intro i x h hx
    obtain ⟨hi, he, hd⟩ := drop_cons (d := 0) h
    have hb := hr e (mem_of_drop h)
    have hp := piece_size e
    have hw : wrap64 (e + 1) = e + 1 := by unfold wrap64; omega
    refine Ev.step (f := fun k => spec_SetText.l0 k (x ++ piece e) l ((i + 1 : Nat) : Int)) (fun k => ?_) (ih (i + 1) (x ++ piece e) hd (by rw [ByteArray.size_append]; omega))
    simp only [spec_SetText.l0]
    rw [if_pos (by omega), if_pos (by omega), rdI, he, if_pos hb.1, if_pos (by omega), if_pos (by omega), wrap_succ hi (by omega)]
    rw [show (⟨#[97, 98, 99, 100, 101, 102, 103, 104]⟩ : ByteArray).extract (e : Int).toNat ((wrap64 (e + 1)) : Int).toNat = piece e from rfl, if_pos (by omega)]
theorem textI_loop (l : List Int) (hl : l.length ≤ 8) (hr : ∀ e ∈ l, 0 ≤ e ∧ e ≤ 7) : ∀ (rest : List Int) (i : Nat) (x : ByteArray), l.drop i = rest → x.size ≤ 8 * i → Ev (fun k => impl_SetText.l0 k x l (l.length : Int) (i : Int)) (textL rest x) := by
  intro rest
  induction rest with
  | nil =>
    intro i x h hx
    have := drop_nil h
    refine Ev.step (f := fun _ => some x) (fun k => ?_) (Ev.now _)
    simp only [impl_SetText.l0]
    rw [if_neg (by omega)]
  | cons e rest ih =>
    intro i x h hx
    obtain ⟨hi, he, hd⟩ := drop_cons (d := 0) h
    have hb := hr e (mem_of_drop h)
    have hp := piece_size e
    have hw : wrap64 (e + 1) = e + 1 := by unfold wrap64; omega
    refine Ev.step (f := fun k => impl_SetText.l0 k (x ++ piece e) l (l.length : Int) ((i + 1 : Nat) : Int)) (fun k => ?_) (ih (i + 1) (x ++ piece e) hd (by rw [ByteArray.size_append]; omega))
    simp only [impl_SetText.l0]
    rw [if_pos (by omega), if_pos (by omega), if_pos (by omega), rdI, he, if_pos hb.1, if_pos (by omega), if_pos (by omega), wrap_succ hi (by omega)]
    rw [show (⟨#[97, 98, 99, 100, 101, 102, 103, 104]⟩ : ByteArray).extract (e : Int).toNat ((wrap64 (e + 1)) : Int).toNat = piece e from rfl, if_pos (by omega)]
def setText (s : Int) : ByteArray := if isAny s then (if s = 0 then (⟨#[45]⟩ : ByteArray) else textL (elemsV s) (⟨#[]⟩ : ByteArray)) else (⟨#[]⟩ : ByteArray)
theorem setText_size (s : Int) : (setText s).size ≤ 64 := by
  unfold setText
  split
  · split
    · exact (by decide : (⟨#[45]⟩ : ByteArray).size ≤ 64)
    · have := textL_size (elemsV s) (⟨#[]⟩ : ByteArray)
      have h2 := elemsV_length s
      have h3 : (⟨#[]⟩ : ByteArray).size = 0 := rfl
      omega
  · exact (by decide : (⟨#[]⟩ : ByteArray).size ≤ 64)
theorem setTextS_val (s : Int) : Ev (fun k => spec_SetText.f k s) (setText s) := by
  unfold spec_SetText.f setText
  rw [specSet_val, isSetB_8]
  simp only [Option.bind_some]
  cases isAny s with
  | false => exact Ev.congr (fun k => by rw [if_neg (by decide)]; rfl) (Ev.now _)
  | true =>
    by_cases h : s = 0
    · exact Ev.congr (fun k => by rw [if_pos rfl, if_pos h]) (by rw [if_pos rfl, if_pos h]; exact Ev.now _)
    · rw [if_pos rfl, if_neg h]
      refine Ev.congr (fun k => by rw [if_pos rfl, if_neg h]) ?_
      exact Ev.bind (elemsS_val s) (textS_loop _ (elemsV_length s) (elemsV_range s) (elemsV s) 0 _ rfl (by decide))
theorem setTextI_val (s : Int) : Ev (fun k => impl_SetText.f k s) (setText s) := by
  unfold impl_SetText.f setText
  rw [any_val]
  simp only [Option.bind_some]
  cases isAny s with
  | false => exact Ev.congr (fun k => by rw [if_neg (by decide)]; rfl) (Ev.now _)
  | true =>
    by_cases h : s = 0
    · exact Ev.congr (fun k => by rw [if_pos rfl, if_pos h]) (by rw [if_pos rfl, if_pos h]; exact Ev.now _)
    · rw [if_pos rfl, if_neg h]
      refine Ev.congr (fun k => by rw [if_pos rfl, if_neg h]) ?_
      exact Ev.bind (elemsI_val s) (textI_loop _ (elemsV_length s) (elemsV_range s) (elemsV s) 0 _ rfl (by decide))
def ruleText (r : IR) : ByteArray := if anyR r then (setText r.f0 ++ (⟨#[62]⟩ : ByteArray)) ++ setText r.f1 else (⟨#[]⟩ : ByteArray)
theorem ruleTextS_val (a b : Int) : Ev (fun k => spec_RuleText.f k a b) (ruleText ⟨a, b⟩) := by
  unfold spec_RuleText.f ruleText
  rw [rule_val, isSetB_8, isSetB_8, show (isAny a && isAny b) = anyR ⟨a, b⟩ from rfl]
  simp only [Option.bind_some]
  cases anyR ⟨a, b⟩ with
  | false => exact Ev.congr (fun k => by rw [if_neg (by decide)]; rfl) (Ev.now _)
  | true =>
    rw [if_pos rfl]
    refine Ev.congr (fun k => by rw [if_pos rfl]) ?_
    have h1 := setText_size a
    have h2 := setText_size b
    refine Ev.bind (setTextS_val a) ?_
    refine Ev.congr (fun k => by rw [if_pos (by omega)]) ?_
    refine Ev.bind (setTextS_val b) ?_
    refine Ev.congr (fun k => by rw [if_pos (by rw [ByteArray.size_append, show (⟨#[62]⟩ : ByteArray).size = 1 from rfl]; omega)]) (Ev.now _)
theorem ruleTextI_val (a b : Int) : Ev (fun k => impl_RuleText.f k a b) (ruleText ⟨a, b⟩) := by
  unfold impl_RuleText.f impl_areAnyRules.f ruleText
  simp only [Option.bind_some]
  rw [show ([(⟨a, b⟩ : IR)].all anyR) = anyR ⟨a, b⟩ from by simp]
  cases anyR ⟨a, b⟩ with
  | false => exact Ev.congr (fun k => by rw [if_neg (by decide)]; rfl) (Ev.now _)
  | true =>
    rw [if_pos rfl]
    refine Ev.congr (fun k => by rw [if_pos rfl]) ?_
    have h1 := setText_size a
    have h2 := setText_size b
    refine Ev.bind (setTextI_val a) ?_
    refine Ev.congr (fun k => by rw [if_pos (by omega)]) ?_
    refine Ev.bind (setTextI_val b) ?_
    refine Ev.congr (fun k => by rw [if_pos (by rw [ByteArray.size_append, show (⟨#[62]⟩ : ByteArray).size = 1 from rfl]; omega)]) (Ev.now _)
end Go.Proofs.Ytjkbmdbecplgiaa.Pu
