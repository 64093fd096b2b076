/- What the law needs of the program's functions as plain functions, of the proofs that their calls answer so, and of plain laws: gathered by a program of this place (pack.py) out of its printed texts. No condition beyond what each statement says. -/
import Derived.Test.YtamjnninbdnjhaaDoorZXQuestionText3
import Derived.Test.YtamjnninbdnjhaaDoorZXQuestionText4
import Derived.Test.YtamjnninbdnjhaaDoorZXQuestionText6
import Derived.Test.YtamjnninbdnjhaaDoorZXQuestionText5
namespace Go.Proofs.YtamjnninbdnjhaaDoor.Pu
open Go.RowKit Go.Proofs.YtamjnninbdnjhaaDoorW.PrintWords Go.Proofs.YtamjnninbdnjhaaDoorW.PrintLast Go.Proofs.YtamjnninbdnjhaaDoorW.PrintMore Go.Proofs.YtamjnninbdnjhaaDoor.Pr
def piece (e : Int) : ByteArray := (⟨#[97, 98, 99, 100, 101, 102, 103, 104]⟩ : ByteArray).extract (e : Int).toNat ((wrap64 (e + 1)) : Int).toNat
theorem piece_size (e : Int) : (piece e).size ≤ 8 := by
  unfold piece
  rw [ByteArray.size_extract]
  have : (⟨#[97, 98, 99, 100, 101, 102, 103, 104]⟩ : ByteArray).size = 8 := rfl
  omega
def textL (l : List Int) (x : ByteArray) : ByteArray := l.foldl (fun x e => x ++ piece e) x
theorem textL_size : ∀ (l : List Int) (x : ByteArray), (textL l x).size ≤ x.size + 8 * l.length
  | [], x => by simp [textL]
  | e :: l, x => by
    have h := textL_size l (x ++ piece e)
    rw [ByteArray.size_append] at h
    have := piece_size e
    rw [show textL (e :: l) x = textL l (x ++ piece e) from rfl, List.length_cons]
    omega
theorem rdI (l : List Int) (i : Nat) : rd l (i : Int) = l.getD i 0 := by unfold rd; rw [Int.toNat_natCast]
theorem mem_of_drop {α : Type} {l rest : List α} {i : Nat} {x : α} (h : l.drop i = x :: rest) : x ∈ l := List.mem_of_mem_drop (i := i) (by rw [h]; exact List.mem_cons_self)
theorem textS_loop (l : List Int) (hl : l.length ≤ 8) (hr : ∀ e ∈ l, 0 ≤ e ∧ e ≤ 7) : ∀ (rest : List Int) (i : Nat) (x : ByteArray), l.drop i = rest → x.size ≤ 8 * i → Ev (fun k => spec_SetText.l0 k x l (i : Int)) (textL rest x) := by
  intro rest
  induction rest with
  | nil =>
    intro i x h hx
    have := drop_nil h
    refine Ev.step (f := fun _ => some x) (fun k => ?_) (Ev.now _)
    simp only [spec_SetText.l0]
    rw [if_neg (by omega)]
  | cons e rest ih =>
    intro i x h hx
    obtain ⟨hi, he, hd⟩ := drop_cons (d := 0) h
    have hb := hr e (mem_of_drop h)
    have hp := piece_size e
    have hw : wrap64 (e + 1) = e + 1 := by unfold wrap64; omega
    refine Ev.step (f := fun k => spec_SetText.l0 k (x ++ piece e) l ((i + 1 : Nat) : Int)) (fun k => ?_) (ih (i + 1) (x ++ piece e) hd (by rw [ByteArray.size_append]; omega))
    simp only [spec_SetText.l0]
    rw [if_pos (by omega), if_pos (by omega), rdI, he, if_pos hb.1, if_pos (by omega), if_pos (by omega), wrap_succ hi (by omega)]
    rw [show (⟨#[97, 98, 99, 100, 101, 102, 103, 104]⟩ : ByteArray).extract (e : Int).toNat ((wrap64 (e + 1)) : Int).toNat = piece e from rfl, if_pos (by omega)]
theorem textI_loop (l : List Int) (hl : l.length ≤ 8) (hr : ∀ e ∈ l, 0 ≤ e ∧ e ≤ 7) : ∀ (rest : List Int) (i : Nat) (x : ByteArray), l.drop i = rest → x.size ≤ 8 * i → Ev (fun k => impl_SetText.l0 k x l (l.length : Int) (i : Int)) (textL rest x) := by
  intro rest
  induction rest with
  | nil =>
    intro i x h hx
    have := drop_nil h
    refine Ev.step (f := fun _ => some x) (fun k => ?_) (Ev.now _)
    simp only [impl_SetText.l0]
    rw [if_neg (by omega)]
  | cons e rest ih =>
    intro i x h hx
    obtain ⟨hi, he, hd⟩ := drop_cons (d := 0) h
    have hb := hr e (mem_of_drop h)
    have hp := piece_size e
    have hw : wrap64 (e + 1) = e + 1 := by unfold wrap64; omega
    refine Ev.step (f := fun k => impl_SetText.l0 k (x ++ piece e) l (l.length : Int) ((i + 1 : Nat) : Int)) (fun k => ?_) (ih (i + 1) (x ++ piece e) hd (by rw [ByteArray.size_append]; omega))
    simp only [impl_SetText.l0]
    rw [if_pos (by omega), if_pos (by omega), if_pos (by omega), rdI, he, if_pos hb.1, if_pos (by omega), if_pos (by omega), wrap_succ hi (by omega)]
    rw [show (⟨#[97, 98, 99, 100, 101, 102, 103, 104]⟩ : ByteArray).extract (e : Int).toNat ((wrap64 (e + 1)) : Int).toNat = piece e from rfl, if_pos (by omega)]
def setText (s : Int) : ByteArray := if isAny s then (if s = 0 then (⟨#[45]⟩ : ByteArray) else textL (elemsV s) (⟨#[]⟩ : ByteArray)) else (⟨#[]⟩ : ByteArray)
theorem setText_size (s : Int) : (setText s).size ≤ 64 := by
  unfold setText
  split
  · split
    · exact (by decide : (⟨#[45]⟩ : ByteArray).size ≤ 64)
    · have := textL_size (elemsV s) (⟨#[]⟩ : ByteArray)
      have h2 := elemsV_length s
      have h3 : (⟨#[]⟩ : ByteArray).size = 0 := rfl
      omega
  · exact (by decide : (⟨#[]⟩ : ByteArray).size ≤ 64)
theorem setTextS_val (s : Int) : Ev (fun k => spec_SetText.f k s) (setText s) := by
  unfold spec_SetText.f setText
  rw [specSet_val, isSetB_8]
  simp only [Option.bind_some]
  cases isAny s with
  | false => exact Ev.congr (fun k => by rw [if_neg (by decide)]; rfl) (Ev.now _)
  | true =>
    by_cases h : s = 0
    · exact Ev.congr (fun k => by rw [if_pos rfl, if_pos h]) (by rw [if_pos rfl, if_pos h]; exact Ev.now _)
    · rw [if_pos rfl, if_neg h]
      refine Ev.congr (fun k => by rw [if_pos rfl, if_neg h]) ?_
      exact Ev.bind (elemsS_val s) (textS_loop _ (elemsV_length s) (elemsV_range s) (elemsV s) 0 _ rfl (by decide))
theorem setTextI_val (s : Int) : Ev (fun k => impl_SetText.f k s) (setText s) := by
  unfold impl_SetText.f setText
  rw [any_val]
  simp only [Option.bind_some]
  cases isAny s with
  | false => exact Ev.congr (fun k => by rw [if_neg (by decide)]; rfl) (Ev.now _)
  | true =>
    by_cases h : s = 0
    · exact Ev.congr (fun k => by rw [if_pos rfl, if_pos h]) (by rw [if_pos rfl, if_pos h]; exact Ev.now _)
    · rw [if_pos rfl, if_neg h]
      refine Ev.congr (fun k => by rw [if_pos rfl, if_neg h]) ?_
      exact Ev.bind (elemsI_val s) (textI_loop _ (elemsV_length s) (elemsV_range s) (elemsV s) 0 _ rfl (by decide))
def ruleText (r : IR) : ByteArray := if anyR r then (setText r.f0 ++ (⟨#[62]⟩ : ByteArray)) ++ setText r.f1 else (⟨#[]⟩ : ByteArray)
theorem ruleTextS_val (a b : Int) : Ev (fun k => spec_RuleText.f k a b) (ruleText ⟨a, b⟩) := by
  unfold spec_RuleText.f ruleText
  rw [rule_val, isSetB_8, isSetB_8, show (isAny a && isAny b) = anyR ⟨a, b⟩ from rfl]
  simp only [Option.bind_some]
  cases anyR ⟨a, b⟩ with
  | false => exact Ev.congr (fun k => by rw [if_neg (by decide)]; rfl) (Ev.now _)
  | true =>
    rw [if_pos rfl]
    refine Ev.congr (fun k => by rw [if_pos rfl]) ?_
    have h1 := setText_size a
    have h2 := setText_size b
    refine Ev.bind (setTextS_val a) ?_
    refine Ev.congr (fun k => by rw [if_pos (by omega)]) ?_
    refine Ev.bind (setTextS_val b) ?_
    refine Ev.congr (fun k => by rw [if_pos (by rw [ByteArray.size_append, show (⟨#[62]⟩ : ByteArray).size = 1 from rfl]; omega)]) (Ev.now _)
theorem ruleTextI_val (a b : Int) : Ev (fun k => impl_RuleText.f k a b) (ruleText ⟨a, b⟩) := by
  unfold impl_RuleText.f impl_areAnyRules.f ruleText
  simp only [Option.bind_some]
  rw [show ([(⟨a, b⟩ : IR)].all anyR) = anyR ⟨a, b⟩ from by simp]
  cases anyR ⟨a, b⟩ with
  | false => exact Ev.congr (fun k => by rw [if_neg (by decide)]; rfl) (Ev.now _)
  | true =>
    rw [if_pos rfl]
    refine Ev.congr (fun k => by rw [if_pos rfl]) ?_
    have h1 := setText_size a
    have h2 := setText_size b
    refine Ev.bind (setTextI_val a) ?_
    refine Ev.congr (fun k => by rw [if_pos (by omega)]) ?_
    refine Ev.bind (setTextI_val b) ?_
    refine Ev.congr (fun k => by rw [if_pos (by rw [ByteArray.size_append, show (⟨#[62]⟩ : ByteArray).size = 1 from rfl]; omega)]) (Ev.now _)
end Go.Proofs.YtamjnninbdnjhaaDoor.Pu
namespace Go.Proofs.YtamjnninbdnjhaaDoor.Pu
open Go.RowKit Go.Proofs.YtamjnninbdnjhaaDoorW.PrintWords Go.Proofs.YtamjnninbdnjhaaDoorW.PrintLast Go.Proofs.YtamjnninbdnjhaaDoorW.PrintMore Go.Proofs.YtamjnninbdnjhaaDoor.Pr
def dg0 (u : Nat) : List UInt8 := if u = 0 then [] else Lib.decDigits u
theorem dg0_step {u : Nat} (h : u ≠ 0) : dg0 u = dg0 (u / 10) ++ [UInt8.ofNat (48 + u % 10)] := by
  unfold dg0
  rw [if_neg h]
  by_cases hu : u < 10
  · rw [Lib.decDigits, dif_pos hu, if_pos (by omega), List.nil_append, Nat.mod_eq_of_lt hu]
  · rw [Lib.decDigits, dif_neg hu, if_neg (by omega)]
theorem dg0_len : ∀ (d u : Nat), u < 10 ^ d → (dg0 u).length ≤ d
  | 0, u, h => by
    have : u = 0 := by simpa using h
    rw [this]
    exact Nat.le_refl _
  | d + 1, u, h => by
    by_cases hz : u = 0
    · rw [hz]; exact Nat.zero_le _
    · rw [dg0_step hz, List.length_append, List.length_singleton]
      have := dg0_len d (u / 10) (by rw [Nat.pow_succ] at h; omega)
      omega
def sgn (b : Bool) (u : Nat) : Int := if b = true then -(u : Int) else (u : Int)
def finT (b : Bool) (l : List UInt8) (out : ByteArray) : ByteArray := if b = true then (⟨#[45]⟩ : ByteArray) ++ (⟨l.toArray⟩ ++ out) else ⟨l.toArray⟩ ++ out
theorem mk_append (a b : List UInt8) : (⟨a.toArray⟩ : ByteArray) ++ ⟨b.toArray⟩ = ⟨(a ++ b).toArray⟩ := by
  apply ByteArray.ext
  rw [ByteArray.data_append]
  simp
theorem finT_step (b : Bool) (l : List UInt8) (c : UInt8) (out : ByteArray) : finT b (l ++ [c]) out = finT b l (⟨#[c]⟩ ++ out) := by
  unfold finT
  rw [← mk_append, ByteArray.append_assoc]
theorem digit_one (v : Nat) (_ : v < 10) : strOfNums [((48 + v : Nat) : Int)] = ⟨#[UInt8.ofNat (48 + v)]⟩ := by
  unfold strOfNums
  rfl
theorem dig1 : ∀ v : Fin 10, (wrap64 (48 + (wrap64 (-(-((v.val : Nat) : Int)))))) % 256 = ((48 + v.val : Nat) : Int) := by decide +kernel
theorem dig2 : ∀ v : Fin 10, (wrap64 (48 + ((v.val : Nat) : Int))) % 256 = ((48 + v.val : Nat) : Int) := by decide +kernel
theorem fmt_loop (b : Bool) : ∀ (d u : Nat) (out : ByteArray), u < 10 ^ d → u ≤ 9223372036854775808 → out.size + d ≤ 100 → Ev (fun k => spec_FormatInt.l0 k (sgn b u) b out) (finT b (dg0 u) out) := by
  intro d
  induction d with
  | zero =>
    intro u out h _ ho
    have hu : u = 0 := by simpa using h
    subst hu
    refine Ev.step (f := fun k => some (finT b (dg0 0) out)) (fun k => ?_) (Ev.now _)
    simp only [spec_FormatInt.l0]
    have e0 : sgn b 0 = 0 := by unfold sgn; split <;> rfl
    have en : (⟨([] : List UInt8).toArray⟩ : ByteArray) ++ out = out := by apply ByteArray.ext; rw [ByteArray.data_append]; simp
    rw [if_pos e0]
    unfold finT dg0
    rw [if_pos rfl, en]
    cases b with
    | true => rw [if_pos rfl, if_pos (by omega), if_pos rfl]
    | false => rw [if_neg (by decide), if_neg (by decide)]
  | succ d ih =>
    intro u out h hu ho
    by_cases hz : u = 0
    · subst hz
      exact ih 0 out (Nat.pow_pos (by decide)) (by omega) (by omega)
    · have hd : u / 10 < 10 ^ d := by rw [Nat.pow_succ] at h; omega
      have hne : ¬ sgn b u = 0 := by unfold sgn; split <;> omega
      have hs : (⟨#[UInt8.ofNat (48 + u % 10)]⟩ : ByteArray).size = 1 := rfl
      have hih := ih (u / 10) (⟨#[UInt8.ofNat (48 + u % 10)]⟩ ++ out) hd (by omega) (by rw [ByteArray.size_append, hs]; omega)
      rw [dg0_step hz, finT_step]
      refine Ev.step (fun k => ?_) hih
      have hdv : wrap64 (Int.tdiv (sgn b u) 10) = sgn b (u / 10) := by
        unfold sgn wrap64
        cases b with
        | true =>
          rw [if_pos rfl, if_pos rfl, Int.neg_tdiv, show Int.tdiv (u : Int) 10 = ((u / 10 : Nat) : Int) from rfl]
          omega
        | false =>
          rw [if_neg (by decide), if_neg (by decide), show Int.tdiv (u : Int) 10 = ((u / 10 : Nat) : Int) from rfl]
          omega
      have hm : Int.tmod (sgn b u) 10 = sgn b (u % 10) := by
        unfold sgn
        cases b with
        | true => rw [if_pos rfl, if_pos rfl, Int.neg_tmod]; rfl
        | false => rfl
      simp only [spec_FormatInt.l0]
      rw [if_neg hne, hdv, hm]
      have hv : u % 10 < 10 := Nat.mod_lt _ (by decide)
      have w1 : sgn b (u % 10) < 0 → (wrap64 (48 + (wrap64 (-(sgn b (u % 10)))))) % 256 = ((48 + u % 10 : Nat) : Int) := by
        intro hlt
        cases b with
        | true => exact dig1 ⟨u % 10, hv⟩
        | false => exact absurd hlt (Int.not_lt.2 (Int.natCast_nonneg (u % 10)))
      have w2 : ¬ sgn b (u % 10) < 0 → (wrap64 (48 + (sgn b (u % 10)))) % 256 = ((48 + u % 10 : Nat) : Int) := by
        intro hlt
        cases b with
        | true =>
          have hz0 : u % 10 = 0 := by
            have h2 : ¬ (-((u % 10 : Nat) : Int) < 0) := hlt
            omega
          rw [hz0]
          decide +kernel
        | false => exact dig2 ⟨u % 10, hv⟩
      by_cases hlt : sgn b (u % 10) < 0
      · rw [if_pos hlt, w1 hlt]
        simp only [Option.bind_some]
        rw [digit_one _ hv, if_pos (by rw [hs]; omega)]
      · rw [if_neg hlt, w2 hlt]
        simp only [Option.bind_some]
        rw [digit_one _ hv, if_pos (by rw [hs]; omega)]
def itT (n : Int) : ByteArray := ⟨(Lib.itoa n).toArray⟩
theorem itT_nz {n : Int} (h : n ≠ 0) : finT (decide (n < 0)) (dg0 n.natAbs) ⟨#[]⟩ = itT n := by
  have en : ∀ l : List UInt8, (⟨l.toArray⟩ : ByteArray) ++ ⟨#[]⟩ = ⟨l.toArray⟩ := fun l => by
    have := mk_append l []
    rw [List.append_nil] at this
    exact this
  have hd : dg0 n.natAbs = Lib.decDigits n.natAbs := by unfold dg0; rw [if_neg (by omega)]
  unfold finT itT Lib.itoa
  rw [hd, en]
  by_cases hn : n < 0
  · rw [if_pos (decide_eq_true hn), if_pos hn]
    exact mk_append [45] _
  · rw [if_neg (by simpa using hn), if_neg hn, show n.natAbs = n.toNat by omega]
theorem itT_size {n : Int} (h0 : -9223372036854775808 ≤ n) (h1 : n ≤ 9223372036854775807) : (itT n).size ≤ 100 := by
  by_cases hz : n = 0
  · rw [hz]
    have : Lib.itoa 0 = [48] := by unfold Lib.itoa; rw [if_neg (by decide)]; rw [Lib.decDigits, dif_pos (by decide)]; rfl
    unfold itT
    rw [this]
    decide
  · rw [← itT_nz hz]
    have hl := dg0_len 19 n.natAbs (by omega)
    unfold finT
    have hs : (⟨(dg0 n.natAbs).toArray⟩ : ByteArray).size = (dg0 n.natAbs).length := by rw [Lib.size_eq]
    have h45 : (⟨#[45]⟩ : ByteArray).size = 1 := rfl
    have h00 : (⟨#[]⟩ : ByteArray).size = 0 := rfl
    split
    · rw [ByteArray.size_append, ByteArray.size_append, hs]; omega
    · rw [ByteArray.size_append, hs]; omega
theorem fmtS_val (n : Int) (h0 : -9223372036854775808 ≤ n) (h1 : n ≤ 9223372036854775807) : Ev (fun k => spec_FormatInt.f k n) (itT n) := by
  unfold spec_FormatInt.f
  by_cases hz : n = 0
  · refine Ev.congr (fun k => by rw [if_pos hz]) ?_
    have : Lib.itoa 0 = [48] := by unfold Lib.itoa; rw [if_neg (by decide)]; rw [Lib.decDigits, dif_pos (by decide)]; rfl
    rw [hz]
    unfold itT
    rw [this]
    exact Ev.now _
  · refine Ev.congr (fun k => by rw [if_neg hz]) ?_
    rw [← itT_nz hz]
    have := fmt_loop (decide (n < 0)) 19 n.natAbs ⟨#[]⟩ (by omega) (by omega) (by decide)
    have e : sgn (decide (n < 0)) n.natAbs = n := by
      unfold sgn
      by_cases hn : n < 0
      · rw [if_pos (decide_eq_true hn)]; omega
      · rw [if_neg (by simpa using hn)]; omega
    rw [e] at this
    exact this
theorem fmtI_val (n : Int) (h0 : -9223372036854775808 ≤ n) (h1 : n ≤ 9223372036854775807) : impl_FormatInt.f n = some (itT n) := by
  unfold impl_FormatInt.f strconv_Itoa.f
  rw [if_pos ⟨h0, h1⟩]
  rfl
end Go.Proofs.YtamjnninbdnjhaaDoor.Pu
namespace Go.Proofs.YtamjnninbdnjhaaDoor.Pu
open Go.RowKit Go.Proofs.YtamjnninbdnjhaaDoorW.PrintWords Go.Proofs.YtamjnninbdnjhaaDoorW.PrintLast Go.Proofs.YtamjnninbdnjhaaDoorW.PrintMore Go.Proofs.YtamjnninbdnjhaaDoor.Pr
theorem ruleText_size (r : IR) : (ruleText r).size ≤ 1000 := by
  unfold ruleText
  split
  · rw [ByteArray.size_append, ByteArray.size_append]
    have h1 := setText_size r.f0
    have h2 := setText_size r.f1
    have h3 : (⟨#[62]⟩ : ByteArray).size = 1 := rfl
    omega
  · exact Nat.zero_le _
end Go.Proofs.YtamjnninbdnjhaaDoor.Pu
namespace Go.Proofs.YtamjnninbdnjhaaDoor.Pu
open Go.RowKit Go.Proofs.YtamjnninbdnjhaaDoorW.PrintWords Go.Proofs.YtamjnninbdnjhaaDoorW.PrintLast Go.Proofs.YtamjnninbdnjhaaDoorW.PrintMore Go.Proofs.YtamjnninbdnjhaaDoor.Pr
def qtV (a b : Int) (c : Bool) (n : Int) : ByteArray := if (ruleText ⟨a, b⟩).toList = ([] : List UInt8) then ⟨#[]⟩ else if c = true then ruleText ⟨a, b⟩ ++ ⟨#[32, 121, 101, 115]⟩ else (ruleText ⟨a, b⟩ ++ ⟨#[32, 110, 111, 32]⟩) ++ itT n
theorem qtS_val (a b : Int) (c : Bool) (n : Int) (h0 : -9223372036854775808 ≤ n) (h1 : n ≤ 9223372036854775807) : Ev (fun k => spec_QuestionText.f k a b c n) (qtV a b c n) := by
  unfold spec_QuestionText.f qtV
  refine Ev.bind (ruleTextS_val a b) ?_
  have hr := ruleText_size ⟨a, b⟩
  have hn := itT_size h0 h1
  have h4 : (⟨#[32, 110, 111, 32]⟩ : ByteArray).size = 4 := rfl
  by_cases e : (ruleText ⟨a, b⟩).toList = ([] : List UInt8)
  · rw [if_pos e]
    exact Ev.congr (fun k => by rw [if_pos e]) (Ev.now _)
  · rw [if_neg e]
    refine Ev.congr (fun k => by rw [if_neg e]) ?_
    cases c with
    | true =>
      rw [if_pos rfl]
      exact Ev.congr (fun k => by rw [if_pos rfl, if_pos (by omega)]) (Ev.now _)
    | false =>
      rw [if_neg (show ¬ (false = true) by decide)]
      refine Ev.congr (fun k => by rw [if_neg (show ¬ (false = true) by decide), if_pos (by omega)]) ?_
      refine Ev.bind (fmtS_val n h0 h1) ?_
      exact Ev.congr (fun k => by rw [if_pos (by rw [ByteArray.size_append, h4]; omega)]) (Ev.now _)
theorem qtI_val (a b : Int) (c : Bool) (n : Int) (h0 : -9223372036854775808 ≤ n) (h1 : n ≤ 9223372036854775807) : Ev (fun k => impl_QuestionText.f k a b c n) (qtV a b c n) := by
  unfold impl_QuestionText.f qtV
  refine Ev.bind (ruleTextI_val a b) ?_
  have hr := ruleText_size ⟨a, b⟩
  have hn := itT_size h0 h1
  have h4 : (⟨#[32, 110, 111, 32]⟩ : ByteArray).size = 4 := rfl
  rw [fmtI_val n h0 h1]
  simp only [Option.bind_some]
  have hs : (ruleText ⟨a, b⟩ ++ (⟨#[32, 110, 111, 32]⟩ : ByteArray)).size + (itT n).size ≤ 9223372036854775807 := by rw [ByteArray.size_append, h4]; omega
  have h5 : (ruleText ⟨a, b⟩).size + 4 ≤ 9223372036854775807 := by omega
  by_cases e : (ruleText ⟨a, b⟩).toList = ([] : List UInt8)
  · simp only [if_pos e]
    exact Ev.now _
  · simp only [if_neg e, if_pos h5, if_pos hs]
    cases c with
    | true => exact Ev.now _
    | false => exact Ev.now _
theorem FnExactQuestionText (x : S25) (w : ((Lit.int .i64 x.f0.f0).wf = true ∧ (Lit.int .i64 x.f0.f1).wf = true) ∧ True ∧ (Lit.int .i64 x.f2).wf = true) : ∃ k, laws_FnExactQuestionText.f k x.f0.f0 x.f0.f1 x.f1 x.f2 = some true := by
  have hw : -9223372036854775808 ≤ x.f2 ∧ x.f2 ≤ 9223372036854775807 := by simpa [Lit.wf, IntKind.min, IntKind.max, IntKind.signed, IntKind.bits] using w.2.2
  apply Ev.rounds
  unfold laws_FnExactQuestionText.f
  simp only [laws_toQuestion.f, laws_toRule.f, Option.bind_some]
  refine Ev.bind (qtS_val _ _ _ _ hw.1 hw.2) ?_
  refine Ev.bind (qtI_val _ _ _ _ hw.1 hw.2) ?_
  exact Ev.congr (fun k => by rw [if_pos rfl]) (Ev.now true)
end Go.Proofs.YtamjnninbdnjhaaDoor.Pu
