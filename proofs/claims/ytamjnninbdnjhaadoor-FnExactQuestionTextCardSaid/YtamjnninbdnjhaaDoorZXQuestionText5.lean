/- What the law needs of the program's functions as plain functions, of the proofs that their calls answer so, and of plain laws: gathered by a program of this place (pack.py) out of its printed texts. No condition beyond what each statement says. -/
import Derived.Test.YtamjnninbdnjhaaDoorZXQuestionText1
import Derived.Laws.BitsLemmas
import Derived.RowKit
import Derived.Test.YtamjnninbdnjhaaDoorZXQuestionText2
import Derived.Test.YtamjnninbdnjhaaDoorZXQuestionText3
import Derived.Test.YtamjnninbdnjhaaDoorZXQuestionText4
import Derived.Shelf.Strconv.Itoa3
import Derived.Test.YtamjnninbdnjhaaDoorProg
import Derived.Deep.Slices
import Derived.WideShapes
import Derived.ProofKit
import Derived.SizedLaws
namespace Go.Proofs.YtamjnninbdnjhaaDoor.Pu
/-- all elements of a are in b -/
def sub (a b : Nat) : Bool := a &&& b == a
abbrev Rules := List (Nat × Nat)
/-- one step: the set with the conclusions of all rules whose premises it has -/
def step (R : Rules) (s : Nat) : Nat := R.foldl (fun o r => if sub r.1 s then o ||| r.2 else o) s
end Go.Proofs.YtamjnninbdnjhaaDoor.Pu
namespace Go.Proofs.YtamjnninbdnjhaaDoor.Pu
open Go.RowKit Go.Proofs.YtamjnninbdnjhaaDoorW.PrintWords
theorem wraps_i64 (n : Int) (h₀ : 0 ≤ n) (h₁ : n < 2 ^ 63) : IntKind.i64.wrap n = n := by rw [IntKind.wrap_i64]; omega
theorem and_nat {a b : Nat} (ha : a < 2 ^ 63) (hb : b < 2 ^ 63) : Go.bits .and .i64 (a : Int) (b : Int) = ((a &&& b : Nat) : Int) := (bits_nat .i64 63 (by decide) wraps_i64 a b ha hb).1
/-- a set: a number from 0 to 2^n - 1, n from 0 to 8 -/
def isSetB (n s : Int) : Bool := decide (0 ≤ n ∧ n ≤ 8 ∧ 0 ≤ s ∧ s < 2 ^ n.toNat)
def isAny (s : Int) : Bool := decide (0 ≤ s ∧ s < 256)
theorem isSetB_8 (s : Int) : isSetB 8 s = isAny s := by
  unfold isSetB isAny
  rw [show (8 : Int).toNat = 8 from rfl]
  have : (2 : Int) ^ 8 = 256 := by decide
  rw [this]
  simp
theorem isAny_nat {s : Int} (h : isAny s = true) : ∃ a : Nat, a < 256 ∧ s = (a : Int) := by
  unfold isAny at h
  have := of_decide_eq_true h
  exact ⟨s.toNat, by omega, by omega⟩
theorem upper_val (n : Int) (h0 : 0 ≤ n) (h1 : n ≤ 8) : wrap64 ((shl .i64 1 n) - 1) = 2 ^ n.toNat - 1 := by
  have h : n = 0 ∨ n = 1 ∨ n = 2 ∨ n = 3 ∨ n = 4 ∨ n = 5 ∨ n = 6 ∨ n = 7 ∨ n = 8 := by omega
  rcases h with rfl | rfl | rfl | rfl | rfl | rfl | rfl | rfl | rfl <;> decide +kernel
theorem wrapU_val (n : Int) (h0 : 0 ≤ n) (h1 : n ≤ 8) : IntKind.u64.wrap n = n := by
  have h : n = 0 ∨ n = 1 ∨ n = 2 ∨ n = 3 ∨ n = 4 ∨ n = 5 ∨ n = 6 ∨ n = 7 ∨ n = 8 := by omega
  rcases h with rfl | rfl | rfl | rfl | rfl | rfl | rfl | rfl | rfl <;> decide +kernel
end Go.Proofs.YtamjnninbdnjhaaDoor.Pu
namespace Go.Proofs.YtamjnninbdnjhaaDoor.Pu
open Go.RowKit Go.Proofs.YtamjnninbdnjhaaDoorW.PrintWords Go.Proofs.YtamjnninbdnjhaaDoorW.PrintLast Go.Proofs.YtamjnninbdnjhaaDoorW.PrintMore Go.Proofs.YtamjnninbdnjhaaDoor.Pr
theorem wrap_succ {i n : Nat} (h : i < n) (hn : n ≤ 9223372036854775807) : wrap64 ((i : Int) + 1) = ((i + 1 : Nat) : Int) := by unfold wrap64; omega
theorem drop_nil {α : Type} {l : List α} {i : Nat} (h : l.drop i = []) : l.length ≤ i := by
  have := congrArg List.length h
  simp at this; omega
theorem drop_cons {α : Type} {l rest : List α} {i : Nat} {x d : α} (h : l.drop i = x :: rest) : i < l.length ∧ l.getD i d = x ∧ l.drop (i + 1) = rest := by
  have hi : i < l.length := by
    rcases Nat.lt_or_ge i l.length with h' | h'
    · exact h'
    · rw [List.drop_of_length_le h'] at h; cases h
  rw [List.drop_eq_getElem_cons hi] at h
  injection h with h1 h2
  exact ⟨hi, by rw [List.getD_eq_getElem?_getD, List.getElem?_eq_getElem hi]; exact h1, h2⟩
end Go.Proofs.YtamjnninbdnjhaaDoor.Pu
namespace Go.Proofs.YtamjnninbdnjhaaDoor.Pu
open Go.RowKit Go.Proofs.YtamjnninbdnjhaaDoorW.PrintWords Go.Proofs.YtamjnninbdnjhaaDoorW.PrintLast Go.Proofs.YtamjnninbdnjhaaDoorW.PrintMore Go.Proofs.YtamjnninbdnjhaaDoor.Pr
theorem l1In_val (a b c : Int) : spec_l1In.f a b c = some (decide (b ≤ a ∧ a ≤ c)) := by
  unfold spec_l1In.f
  by_cases h : b ≤ a
  · rw [if_pos h]; simp [h]
  · rw [if_neg h]; simp [h]
theorem within_val (a b c : Int) : impl_within.f a b c = some (decide (b ≤ a ∧ a ≤ c)) := by
  unfold impl_within.f
  by_cases h : b ≤ a
  · rw [if_pos h]; simp [h]
  · rw [if_neg h]; simp [h]
theorem setB_of {n s : Int} (h : 0 ≤ n ∧ n ≤ 8) : decide (0 ≤ s ∧ s ≤ 2 ^ n.toNat - 1) = isSetB n s := by
  unfold isSetB
  generalize (2 : Int) ^ n.toNat = q
  rw [decide_eq_decide]
  omega
theorem setB_not {n s : Int} (h : ¬ (0 ≤ n ∧ n ≤ 8)) : isSetB n s = false := by
  unfold isSetB
  rw [decide_eq_false_iff_not]
  omega
theorem specSet_val (n s : Int) : spec_IsSet.f n s = some (isSetB n s) := by
  unfold spec_IsSet.f
  rw [l1In_val, Option.bind_some]
  by_cases h : 0 ≤ n ∧ n ≤ 8
  · rw [if_pos (decide_eq_true h), wrapU_val n h.1 h.2, if_pos h.1, upper_val n h.1 h.2, l1In_val, Option.bind_some, setB_of h]
  · rw [if_neg (by simpa using h), setB_not h]
theorem set_val (n s : Int) : impl_IsSet.f n s = some (isSetB n s) := by
  unfold impl_IsSet.f
  rw [within_val, Option.bind_some]
  by_cases h : 0 ≤ n ∧ n ≤ 8
  · rw [if_pos (decide_eq_true h), if_pos h.1, upper_val n h.1 h.2, within_val, Option.bind_some, setB_of h]
  · rw [if_neg (by simpa using h), setB_not h]
theorem any_val (s : Int) : impl_isAnySet.f s = some (isAny s) := by
  unfold impl_isAnySet.f
  rw [set_val, Option.bind_some, isSetB_8]
theorem rule_val (n a b : Int) : spec_l9Rule.f n a b = some (isSetB n a && isSetB n b) := by
  unfold spec_l9Rule.f
  rw [specSet_val, Option.bind_some]
  cases isSetB n a with
  | false => rfl
  | true => rw [if_pos rfl, specSet_val, Option.bind_some]; rfl
end Go.Proofs.YtamjnninbdnjhaaDoor.Pu
namespace Go.Proofs.YtamjnninbdnjhaaDoor.Pu
open Go.RowKit Go.Proofs.YtamjnninbdnjhaaDoorW.PrintWords Go.Proofs.YtamjnninbdnjhaaDoorW.PrintLast Go.Proofs.YtamjnninbdnjhaaDoorW.PrintMore Go.Proofs.YtamjnninbdnjhaaDoor.Pr
abbrev IR := S27
def anyR (r : IR) : Bool := isAny r.f0 && isAny r.f1
end Go.Proofs.YtamjnninbdnjhaaDoor.Pu
namespace Go.Proofs
open Go.Shelf
def Tryd.laysM171_ren : Go.Shelf.Ren := ⟨fun | 171 => 53 | 243 => 67 | 246 => 77 | 283 => 83 | 284 => 84 | 285 => 85 | 286 => 86 | 129 => 93 | 317 => 92 | 318 => 94 | 319 => 95 | 320 => 61 | 337 => 72 | 338 => 73 | n => n, fun | 3 => 3 | 9 => 9 | 2 => 2 | 4 => 4 | 171 => 93 | 0 => 0 | 53 => 84 | 37 => 65 | 5 => 5 | 173 => 95 | 212 => 98 | 51 => 82 | 20 => 20 | 213 => 99 | 46 => 72 | 232 => 91 | 233 => 92 | n => n, fun | 17 => 3 | 18 => 0 | 19 => 1 | n => n⟩
theorem Tryd.laysM171 : Go.Proofs.LaysM.n171 Tryd.prog Tryd.laysM171_ren := {
  mixed := by kernel_rfl
  f129 := Tryd.func93.trans (congrArg some (by kernel_rfl))
  f171 := Tryd.func53.trans (congrArg some (by kernel_rfl))
  f243 := Tryd.func67.trans (congrArg some (by kernel_rfl))
  f246 := Tryd.func77.trans (congrArg some (by kernel_rfl))
  f283 := Tryd.func83.trans (congrArg some (by kernel_rfl))
  f284 := Tryd.func84.trans (congrArg some (by kernel_rfl))
  f285 := Tryd.func85.trans (congrArg some (by kernel_rfl))
  f286 := Tryd.func86.trans (congrArg some (by kernel_rfl))
  f317 := Tryd.func92.trans (congrArg some (by kernel_rfl))
  f318 := Tryd.func94.trans (congrArg some (by kernel_rfl))
  f319 := Tryd.func95.trans (congrArg some (by kernel_rfl))
  f320 := Tryd.func61.trans (congrArg some (by kernel_rfl))
  f337 := Tryd.func72.trans (congrArg some (by kernel_rfl))
  f338 := Tryd.func73.trans (congrArg some (by kernel_rfl))
  t0 := Tryd.underlying0
  a0 := Tryd.isAgg0
  z0 := Tryd.sizeOf0
  v0 := Tryd.zeroValue0
  t2 := Tryd.underlying2
  a2 := Tryd.isAgg2
  z2 := Tryd.sizeOf2
  v2 := Tryd.zeroValue2
  t3 := Tryd.underlying3
  a3 := Tryd.isAgg3
  z3 := Tryd.sizeOf3
  v3 := Tryd.zeroValue3
  t4 := Tryd.underlying4
  a4 := Tryd.isAgg4
  z4 := Tryd.sizeOf4
  v4 := Tryd.zeroValue4
  t5 := Tryd.underlying5
  a5 := Tryd.isAgg5
  z5 := Tryd.sizeOf5
  v5 := Tryd.zeroValue5
  t9 := Tryd.underlying9
  a9 := Tryd.isAgg9
  z9 := Tryd.sizeOf9
  v9 := Tryd.zeroValue9
  t20 := Tryd.underlying20
  a20 := Tryd.isAgg20
  z20 := Tryd.sizeOf20
  v20 := Tryd.zeroValue20
  t37 := Tryd.underlying65
  a37 := Tryd.isAgg65
  z37 := Tryd.sizeOf65
  v37 := Tryd.zeroValue65
  t46 := Tryd.underlying72
  a46 := Tryd.isAgg72
  z46 := Tryd.sizeOf72
  v46 := Tryd.zeroValue72
  t51 := Tryd.underlying82
  a51 := Tryd.isAgg82
  z51 := Tryd.sizeOf82
  v51 := Tryd.zeroValue82
  t53 := Tryd.underlying84
  a53 := Tryd.isAgg84
  z53 := Tryd.sizeOf84
  v53 := Tryd.zeroValue84
  t171 := Tryd.underlying93
  a171 := Tryd.isAgg93
  z171 := Tryd.sizeOf93
  v171 := Tryd.zeroValue93
  t173 := Tryd.underlying95
  a173 := Tryd.isAgg95
  z173 := Tryd.sizeOf95
  v173 := Tryd.zeroValue95
  t212 := Tryd.underlying98
  a212 := Tryd.isAgg98
  z212 := Tryd.sizeOf98
  v212 := Tryd.zeroValue98
  t213 := Tryd.underlying99
  a213 := Tryd.isAgg99
  z213 := Tryd.sizeOf99
  t232 := Tryd.underlying91
  a232 := Tryd.isAgg91
  z232 := Tryd.sizeOf91
  v232 := Tryd.zeroValue91
  t233 := Tryd.underlying92
  a233 := Tryd.isAgg92
  z233 := Tryd.sizeOf92
  v233 := Tryd.zeroValue92
  g17 := by kernel_rfl
  g18 := by kernel_rfl
  g19 := by kernel_rfl
  i0 := by kernel_rfl
  i2 := by kernel_rfl
  i3 := by kernel_rfl
  i4 := by kernel_rfl
  i5 := by kernel_rfl
  i9 := by kernel_rfl
  i20 := by kernel_rfl
  i37 := by kernel_rfl
  i46 := by kernel_rfl
  i51 := by kernel_rfl
  i53 := by kernel_rfl
  i171 := by kernel_rfl
  i173 := by kernel_rfl
  i212 := by kernel_rfl
  i232 := by kernel_rfl
  i233 := by kernel_rfl
  m17 := by kernel_rfl
  m18 := by kernel_rfl
  m19 := by kernel_rfl }
open Go.RowKit Go.Sort Go.Lib in
/-- strconv.Itoa: "Itoa is equivalent to FormatInt(int64(i), 10).": i's DECIMAL NUMERAL ('Lib.itoa': a '-' where i is negative, then the digits), FOR EVERY int. The world behind the call: the world before it, new blocks behind the heap (the library's 'var a [24]byte'), draws. (LAID: no walk: one application.) -/
theorem Tryd.strconv_Itoa (n : Int) (h0 : -9223372036854775808 ≤ n) (h1 : n ≤ 9223372036854775807) (w : World) (htab : Lib.TabIs Tryd.prog w "internal/strconv.uint64pow10" .u64 Lib.pow10Tab) :
    Calls Tryd.prog 53 #[.int .i64 n] w fun e w' => e = .returned (.string ⟨(Lib.itoa n).toArray⟩) ∧ ∃ k os, w' = grow (w.drewN k) os := Any.strconv_Itoa Tryd.laysM171 n h0 h1 w htab
end Go.Proofs
namespace Go.Proofs.YtamjnninbdnjhaaDoor.Pu
open Go.RowKit Go.Proofs.YtamjnninbdnjhaaDoorW.PrintWords Go.Proofs.YtamjnninbdnjhaaDoorW.PrintLast Go.Proofs.YtamjnninbdnjhaaDoorW.PrintMore Go.Proofs.YtamjnninbdnjhaaDoor.Pr
theorem shr_nat (a e : Nat) (he : e ≤ 64) : shr .i64 (a : Int) (e : Int) = ((a / 2 ^ e : Nat) : Int) := by
  unfold shr
  rw [Int.toNat_natCast, show (IntKind.i64).bits = 64 from rfl, Nat.min_eq_left he]
  simp
theorem bit_val (a e : Nat) (ha : a < 2 ^ 63) (he : e ≤ 64) : (Go.bits .and .i64 (shr .i64 (a : Int) (e : Int)) 1 == 1) = a.testBit e := by
  rw [shr_nat a e he]
  have h1 : a / 2 ^ e < 2 ^ 63 := Nat.lt_of_le_of_lt (Nat.div_le_self _ _) ha
  have h2 := and_nat h1 (show 1 < 2 ^ 63 by decide)
  rw [show ((1 : Nat) : Int) = 1 from rfl] at h2
  rw [h2, Nat.and_one_is_mod, Nat.testBit_eq_decide_div_mod_eq, Bool.eq_iff_iff, beq_iff_eq, decide_eq_true_iff]
  omega
def hasV (s e : Int) : Bool := isAny s && (decide (0 ≤ e ∧ e ≤ 7) && s.toNat.testBit e.toNat)
theorem wrapU_small (e : Int) (h0 : 0 ≤ e) (h1 : e ≤ 64) : IntKind.u64.wrap e = e := by
  simp [IntKind.wrap, IntKind.bits, IntKind.signed]
  omega
theorem l2Has_val (a e : Nat) (ha : a < 2 ^ 63) (he : e ≤ 64) : spec_l2Has.f (a : Int) (e : Int) = some (a.testBit e) := by
  unfold spec_l2Has.f
  rw [wrapU_small _ (by omega) (by omega), if_pos (by omega), bit_val a e ha he]
theorem hasI_val (s e : Int) : impl_HasElement.f s e = some (hasV s e) := by
  unfold impl_HasElement.f hasV
  rw [any_val, Option.bind_some]
  cases hs : isAny s with
  | false => rfl
  | true =>
    obtain ⟨a, ha, rfl⟩ := isAny_nat hs
    rw [if_pos rfl, within_val, Option.bind_some]
    by_cases he : 0 ≤ e ∧ e ≤ 7
    · obtain ⟨n, rfl⟩ : ∃ n : Nat, e = (n : Int) := ⟨e.toNat, by omega⟩
      rw [if_pos (decide_eq_true he), if_pos he.1, bit_val a n (by omega) (by omega), decide_eq_true he]
      simp
    · rw [if_neg (by simpa using he), decide_eq_false he]
      rfl
/-- the elements of a set, ascending -/
def elemsI (s : Nat) : List Int := ((List.range 8).filter fun (e : Nat) => s.testBit e).map fun (e : Nat) => (e : Int)
def elemsV (s : Int) : List Int := if isAny s then elemsI s.toNat else []
theorem elemsV_eq (s : Int) : elemsV s = ((List.range 8).filter fun (e : Nat) => hasV s (e : Int)).map fun (e : Nat) => (e : Int) := by
  unfold elemsV elemsI hasV
  cases isAny s with
  | false => simp
  | true =>
    rw [if_pos rfl]
    refine congrArg _ (List.filter_congr ?_)
    intro e he
    have := List.mem_range.1 he
    rw [Bool.true_and, decide_eq_true (show 0 ≤ (e : Int) ∧ (e : Int) ≤ 7 by omega), Bool.true_and, Int.toNat_natCast]
theorem elems_gen (g : Nat → List Int → Int → Option (List Int)) (s : Int)
    (hg : ∀ k (out : List Int) (i : Nat), out.length ≤ 8 → g (k + 1) out (i : Int) = if (i : Int) < 8 then (if hasV s (i : Int) = true then g k (out ++ [(i : Int)]) ((i + 1 : Nat) : Int) else g k out ((i + 1 : Nat) : Int)) else some out) :
    ∀ (d i : Nat), i + d = 8 → Ev (fun k => g k (((List.range i).filter fun (e : Nat) => hasV s (e : Int)).map fun (e : Nat) => (e : Int)) (i : Int)) (elemsV s) := by
  intro d
  have hlen : ∀ i, i ≤ 8 → (((List.range i).filter fun (e : Nat) => hasV s (e : Int)).map fun (e : Nat) => (e : Int)).length ≤ 8 := by
    intro i hi
    rw [List.length_map]
    have := List.length_filter_le (fun (e : Nat) => hasV s (e : Int)) (List.range i)
    rw [List.length_range] at this
    omega
  induction d with
  | zero =>
    intro i hi
    obtain rfl : i = 8 := by omega
    refine Ev.step (f := fun _ => some (elemsV s)) (fun k => ?_) (Ev.now _)
    rw [hg _ _ _ (hlen 8 (by omega)), if_neg (by decide), elemsV_eq]
  | succ d ih =>
    intro i hi
    refine Ev.step (fun k => ?_) (ih (i + 1) (by omega))
    rw [hg _ _ _ (hlen i (by omega)), if_pos (by omega), List.range_succ, List.filter_append, List.map_append]
    cases h : hasV s (i : Int) with
    | true => rw [if_pos rfl]; simp [h]
    | false => rw [if_neg (by decide)]; simp [h]
theorem elemsI_val (s : Int) : Ev (fun k => impl_ElementsOf.f k s) (elemsV s) := by
  unfold impl_ElementsOf.f
  refine elems_gen (fun k out i => impl_ElementsOf.l0 k s out i) s (fun k out i ho => ?_) 8 0 rfl
  simp only [impl_ElementsOf.l0]
  rw [hasI_val, Option.bind_some]
  by_cases hi : (i : Int) < 8
  · rw [if_pos hi, if_pos hi, if_pos (show out.length < 17592186044416 by omega), show wrap64 ((i : Int) + 1) = ((i + 1 : Nat) : Int) from by unfold wrap64; omega]
  · rw [if_neg hi, if_neg hi]
theorem elemsV_range (s : Int) : ∀ e ∈ elemsV s, 0 ≤ e ∧ e ≤ 7 := by
  intro e he
  rw [elemsV_eq] at he
  obtain ⟨n, hn, rfl⟩ := List.mem_map.1 he
  have := List.mem_range.1 (List.mem_filter.1 hn).1
  omega
theorem elemsV_length (s : Int) : (elemsV s).length ≤ 8 := by
  rw [elemsV_eq, List.length_map]
  have := List.length_filter_le (fun (e : Nat) => hasV s (e : Int)) (List.range 8)
  rw [List.length_range] at this
  omega
end Go.Proofs.YtamjnninbdnjhaaDoor.Pu
namespace Go.Proofs.YtamjnninbdnjhaaDoor.Pu
open Go.RowKit Go.Proofs.YtamjnninbdnjhaaDoorW.PrintWords Go.Proofs.YtamjnninbdnjhaaDoorW.PrintLast Go.Proofs.YtamjnninbdnjhaaDoorW.PrintMore Go.Proofs.YtamjnninbdnjhaaDoor.Pr
theorem hasS_val (s e : Int) : spec_HasElement.f s e = some (hasV s e) := by
  unfold spec_HasElement.f hasV
  rw [specSet_val, isSetB_8, Option.bind_some]
  cases hs : isAny s with
  | false => rfl
  | true =>
    obtain ⟨a, ha, rfl⟩ := isAny_nat hs
    rw [if_pos rfl, l1In_val, Option.bind_some]
    by_cases he : 0 ≤ e ∧ e ≤ 7
    · obtain ⟨n, rfl⟩ : ∃ n : Nat, e = (n : Int) := ⟨e.toNat, by omega⟩
      rw [if_pos (decide_eq_true he), l2Has_val a n (by omega) (by omega), decide_eq_true he]
      simp
    · rw [if_neg (by simpa using he), decide_eq_false he]
      rfl
theorem elemsS_val (s : Int) : Ev (fun k => spec_ElementsOf.f k s) (elemsV s) := by
  unfold spec_ElementsOf.f
  refine elems_gen (fun k out i => spec_ElementsOf.l0 k s out i) s (fun k out i ho => ?_) 8 0 rfl
  simp only [spec_ElementsOf.l0]
  rw [hasS_val, Option.bind_some]
  by_cases hi : (i : Int) < 8
  · rw [if_pos hi, if_pos hi, if_pos (show out.length < 17592186044416 by omega), show wrap64 ((i : Int) + 1) = ((i + 1 : Nat) : Int) from by unfold wrap64; omega]
  · rw [if_neg hi, if_neg hi]
end Go.Proofs.YtamjnninbdnjhaaDoor.Pu
namespace Go.Proofs.YtamjnninbdnjhaaDoor.Op
open Go.RowKit Go.Proofs.YtamjnninbdnjhaaDoorW.PrintWords
open Go.Deep
def Opens {α : Type} (P : Program) (t : TypeId) (d : Kd α) (wf : α → Prop) : Prop :=
  ∀ {H : Type} {enc : TypeId × Value → H} {w : World} {base : Nat} {spare : Nat → Bool} {held : Bool} {fuel : Nat} {cs : List Value} {x : DataW H × List MemPlace},
    DataW.trod enc P w base spare held fuel t cs = some x → ∃ v : α, d.K w v cs ∧ wf v
theorem Opens.int {P : Program} {t : TypeId} {k : IntKind} (ht : P.underlying t = some (.int k)) : Opens P t (Kd.int k) (fun n => (Lit.int k n).wf = true) := by
  intro H enc w base spare held fuel cs x h
  obtain ⟨n, rfl, _, hw⟩ := DataW.trod_int ht h
  exact ⟨n, rfl, hw⟩
theorem Opens.bool {P : Program} {t : TypeId} (ht : P.underlying t = some .bool) : Opens P t Kd.bool (fun _ => True) := by
  intro H enc w base spare held fuel cs x h
  obtain ⟨b, rfl, _⟩ := DataW.trod_bool ht h
  exact ⟨b, rfl, trivial⟩
theorem Opens.iso {α β : Type} {P : Program} {t : TypeId} {d : Kd α} {wf : α → Prop} (h : Opens P t d wf) (f : β → α) (g : α → β) (hfg : ∀ a, f (g a) = a) : Opens P t (Kd.iso d f) (fun b => wf (f b)) := by
  intro H enc w base spare held fuel cs x ht
  obtain ⟨v, hK, hw⟩ := h ht
  refine ⟨g v, ?_, ?_⟩
  · show d.K w (f (g v)) cs
    rw [hfg]; exact hK
  · show wf (f (g v))
    rw [hfg]; exact hw
theorem Opens.struct2 {α β : Type} {P : Program} {t : TypeId} {f0 f1 : Field} {d0 : Kd α} {d1 : Kd β} {w0 : α → Prop} {w1 : β → Prop} (ht : P.underlying t = some (.struct #[f0, f1]))
    (o0 : f0.offset = 0) (c0 : P.cellsOf f0.type = d0.sz) (o1 : f1.offset = d0.sz) (c1 : P.cellsOf f1.type = d1.sz) (ct : P.cellsOf t = d0.sz + d1.sz)
    (h0 : Opens P f0.type d0 w0) (h1 : Opens P f1.type d1 w1) : Opens P t (Kd.pair d0 d1) (fun x => w0 x.1 ∧ w1 x.2) := by
  intro H enc w base spare held fuel cs x h
  obtain ⟨xs, n, _, _, hl, hn, hf⟩ := DataW.trod_struct ht h
  have hn2 : xs.length = 2 := hn
  have a0 := hf 0 f0 rfl
  have a1 := hf 1 f1 rfl
  rw [List.getElem?_eq_getElem (by omega)] at a0 a1
  obtain ⟨v0, k0, q0⟩ := h0 a0
  obtain ⟨v1, k1, q1⟩ := h1 a1
  refine ⟨(v0, v1), ⟨_, _, ?_, k0, k1⟩, q0, q1⟩
  rw [o0, c0, o1, c1, List.drop_zero]
  rw [ct] at hl
  have e : (cs.drop d0.sz).take d1.sz = cs.drop d0.sz := List.take_of_length_le (by rw [List.length_drop]; omega)
  rw [e, List.take_append_drop]
theorem Opens.struct3 {α β γ : Type} {P : Program} {t : TypeId} {f0 f1 f2 : Field} {d0 : Kd α} {d1 : Kd β} {d2 : Kd γ} {w0 : α → Prop} {w1 : β → Prop} {w2 : γ → Prop} (ht : P.underlying t = some (.struct #[f0, f1, f2]))
    (o0 : f0.offset = 0) (c0 : P.cellsOf f0.type = d0.sz) (o1 : f1.offset = d0.sz) (c1 : P.cellsOf f1.type = d1.sz) (o2 : f2.offset = d0.sz + d1.sz) (c2 : P.cellsOf f2.type = d2.sz) (ct : P.cellsOf t = d0.sz + (d1.sz + d2.sz))
    (h0 : Opens P f0.type d0 w0) (h1 : Opens P f1.type d1 w1) (h2 : Opens P f2.type d2 w2) : Opens P t (Kd.pair d0 (Kd.pair d1 d2)) (fun x => w0 x.1 ∧ w1 x.2.1 ∧ w2 x.2.2) := by
  intro H enc w base spare held fuel cs x h
  obtain ⟨xs, n, _, _, hl, hn, hf⟩ := DataW.trod_struct ht h
  have hn2 : xs.length = 3 := hn
  have a0 := hf 0 f0 rfl
  have a1 := hf 1 f1 rfl
  have a2 := hf 2 f2 rfl
  rw [List.getElem?_eq_getElem (by omega)] at a0 a1 a2
  obtain ⟨v0, k0, q0⟩ := h0 a0
  obtain ⟨v1, k1, q1⟩ := h1 a1
  obtain ⟨v2, k2, q2⟩ := h2 a2
  refine ⟨(v0, v1, v2), ⟨_, _, ?_, k0, _, _, rfl, k1, k2⟩, q0, q1, q2⟩
  rw [o0, c0, o1, c1, o2, c2, List.drop_zero]
  rw [ct] at hl
  have e : (cs.drop (d0.sz + d1.sz)).take d2.sz = cs.drop (d0.sz + d1.sz) := List.take_of_length_le (by rw [List.length_drop]; omega)
  rw [e, ← List.drop_drop, List.take_append_drop, List.take_append_drop]
end Go.Proofs.YtamjnninbdnjhaaDoor.Op
