/- What the law needs of the program's functions as plain functions, of the proofs that their calls answer so, and of plain laws: gathered by a program of this place (pack.py) out of its printed texts. No condition beyond what each statement says. -/
import Derived.Shelf.Strings.Split
import Derived.Shelf.Strings.SplitShaped
import Derived.Test.YtamjnninbdnjhaaDoorProg
import Derived.Test.YtamjnninbdnjhaaDoorZXParseRules1
import Derived.Laws.BitsLemmas
import Derived.RowKit
import Derived.Test.YtamjnninbdnjhaaDoorZXParseRules2
import Derived.Test.YtamjnninbdnjhaaDoorZXParseRules3
import Derived.Test.YtamjnninbdnjhaaDoorZXParseRules4
import Derived.Shelf.Abstract
import Derived.Lib.Bytealg
import Derived.Lib.Strings
import Derived.Test.YtamjnninbdnjhaaDoorZXParseRules6
import Derived.Test.YtamjnninbdnjhaaDoorZXParseRules5
namespace Go.Proofs
open Go.Shelf
def Tryd.lays146_ren : Go.Shelf.Ren := ⟨fun | 146 => 32 | 221 => 55 | 268 => 68 | 138 => 69 | 143 => 70 | 195 => 78 | 197 => 79 | 218 => 80 | 219 => 81 | 260 => 87 | 217 => 88 | 225 => 89 | 224 => 90 | 267 => 91 | 266 => 96 | 314 => 97 | n => n, fun | 9 => 9 | 31 => 52 | 3 => 3 | 4 => 4 | 0 => 0 | 105 => 88 | 21 => 21 | 5 => 5 | 46 => 72 | 119 => 100 | 139 => 103 | 138 => 102 | 146 => 104 | 51 => 82 | n => n, fun | 1 => 2 | 3 => 4 | 4 => 5 | n => n⟩
theorem Tryd.lays146 : Go.Proofs.Lays.n146 Tryd.prog Tryd.lays146_ren := {
  mixed := by kernel_rfl
  f138 := Tryd.func69.trans (congrArg some (by kernel_rfl))
  f143 := Tryd.func70.trans (congrArg some (by kernel_rfl))
  f146 := Tryd.func32.trans (congrArg some (by kernel_rfl))
  f195 := Tryd.func78.trans (congrArg some (by kernel_rfl))
  f197 := Tryd.func79.trans (congrArg some (by kernel_rfl))
  f217 := Tryd.func88.trans (congrArg some (by kernel_rfl))
  f218 := Tryd.func80.trans (congrArg some (by kernel_rfl))
  f219 := Tryd.func81.trans (congrArg some (by kernel_rfl))
  f221 := Tryd.func55.trans (congrArg some (by kernel_rfl))
  f224 := Tryd.func90.trans (congrArg some (by kernel_rfl))
  f225 := Tryd.func89.trans (congrArg some (by kernel_rfl))
  f260 := Tryd.func87.trans (congrArg some (by kernel_rfl))
  f266 := Tryd.func96.trans (congrArg some (by kernel_rfl))
  f267 := Tryd.func91.trans (congrArg some (by kernel_rfl))
  f268 := Tryd.func68.trans (congrArg some (by kernel_rfl))
  f314 := Tryd.func97.trans (congrArg some (by kernel_rfl))
  t0 := Tryd.underlying0
  a0 := Tryd.isAgg0
  z0 := Tryd.sizeOf0
  v0 := Tryd.zeroValue0
  t3 := Tryd.underlying3
  a3 := Tryd.isAgg3
  z3 := Tryd.sizeOf3
  v3 := Tryd.zeroValue3
  t4 := Tryd.underlying4
  a4 := Tryd.isAgg4
  z4 := Tryd.sizeOf4
  v4 := Tryd.zeroValue4
  t5 := Tryd.underlying5
  a5 := Tryd.isAgg5
  z5 := Tryd.sizeOf5
  v5 := Tryd.zeroValue5
  t9 := Tryd.underlying9
  a9 := Tryd.isAgg9
  z9 := Tryd.sizeOf9
  v9 := Tryd.zeroValue9
  t21 := Tryd.underlying21
  a21 := Tryd.isAgg21
  z21 := Tryd.sizeOf21
  v21 := Tryd.zeroValue21
  t31 := Tryd.underlying52
  a31 := Tryd.isAgg52
  z31 := Tryd.sizeOf52
  v31 := Tryd.zeroValue52
  t46 := Tryd.underlying72
  a46 := Tryd.isAgg72
  z46 := Tryd.sizeOf72
  v46 := Tryd.zeroValue72
  t51 := Tryd.underlying82
  a51 := Tryd.isAgg82
  z51 := Tryd.sizeOf82
  v51 := Tryd.zeroValue82
  t105 := Tryd.underlying88
  a105 := Tryd.isAgg88
  z105 := Tryd.sizeOf88
  v105 := Tryd.zeroValue88
  t119 := Tryd.underlying100
  a119 := Tryd.isAgg100
  z119 := Tryd.sizeOf100
  t138 := Tryd.underlying102
  a138 := Tryd.isAgg102
  z138 := Tryd.sizeOf102
  v138 := Tryd.zeroValue102
  t139 := Tryd.underlying103
  a139 := Tryd.isAgg103
  z139 := Tryd.sizeOf103
  v139 := Tryd.zeroValue103
  t146 := Tryd.underlying104
  a146 := Tryd.isAgg104
  z146 := Tryd.sizeOf104
  v146 := Tryd.zeroValue104
  g1 := by kernel_rfl
  g3 := by kernel_rfl
  g4 := by kernel_rfl }
open Go.RowKit Go.Lib in
/-- strings.Split. (LAID: no walk: one application.) -/
theorem Tryd.strings_Split (s sep : ByteArray) (m : Int) (w : World) (hs : s.size < 4294967281) (hm : w.cell? ⟨2, 0, none⟩ = some (.int .i64 m)) (h1 : 1 ≤ sep.size) :
    Calls Tryd.prog 32 #[.string s, .string sep] w fun e w' =>
      e = .returned (.slice (some ⟨w.heap.size, 0, none⟩) (Lib.countB s sep + 1) (Lib.countB s sep + 1)) ∧ w' = w.alloc (.cells ((Lib.splitB sep 0 (Lib.countB s sep) s).map Value.string).toArray 9) := Any.strings_Split Tryd.lays146 (by kernel_rfl) s sep m w hs hm h1
def Tryd.laysM146_ren : Go.Shelf.Ren := ⟨fun | 146 => 32 | 221 => 55 | 268 => 68 | 138 => 69 | 143 => 70 | 195 => 78 | 197 => 79 | 218 => 80 | 219 => 81 | 260 => 87 | 217 => 88 | 225 => 89 | 224 => 90 | 267 => 91 | 266 => 96 | 314 => 97 | n => n, fun | 9 => 9 | 31 => 52 | 3 => 3 | 4 => 4 | 0 => 0 | 105 => 88 | 21 => 21 | 5 => 5 | 46 => 72 | 119 => 100 | 139 => 103 | 138 => 102 | 146 => 104 | 51 => 82 | n => n, fun | 1 => 2 | 3 => 4 | 4 => 5 | n => n⟩
theorem Tryd.laysM146 : Go.Proofs.LaysM.n146 Tryd.prog Tryd.laysM146_ren := {
  mixed := by kernel_rfl
  f138 := Tryd.func69.trans (congrArg some (by kernel_rfl))
  f143 := Tryd.func70.trans (congrArg some (by kernel_rfl))
  f146 := Tryd.func32.trans (congrArg some (by kernel_rfl))
  f195 := Tryd.func78.trans (congrArg some (by kernel_rfl))
  f197 := Tryd.func79.trans (congrArg some (by kernel_rfl))
  f217 := Tryd.func88.trans (congrArg some (by kernel_rfl))
  f218 := Tryd.func80.trans (congrArg some (by kernel_rfl))
  f219 := Tryd.func81.trans (congrArg some (by kernel_rfl))
  f221 := Tryd.func55.trans (congrArg some (by kernel_rfl))
  f224 := Tryd.func90.trans (congrArg some (by kernel_rfl))
  f225 := Tryd.func89.trans (congrArg some (by kernel_rfl))
  f260 := Tryd.func87.trans (congrArg some (by kernel_rfl))
  f266 := Tryd.func96.trans (congrArg some (by kernel_rfl))
  f267 := Tryd.func91.trans (congrArg some (by kernel_rfl))
  f268 := Tryd.func68.trans (congrArg some (by kernel_rfl))
  f314 := Tryd.func97.trans (congrArg some (by kernel_rfl))
  t0 := Tryd.underlying0
  a0 := Tryd.isAgg0
  z0 := Tryd.sizeOf0
  v0 := Tryd.zeroValue0
  t3 := Tryd.underlying3
  a3 := Tryd.isAgg3
  z3 := Tryd.sizeOf3
  v3 := Tryd.zeroValue3
  t4 := Tryd.underlying4
  a4 := Tryd.isAgg4
  z4 := Tryd.sizeOf4
  v4 := Tryd.zeroValue4
  t5 := Tryd.underlying5
  a5 := Tryd.isAgg5
  z5 := Tryd.sizeOf5
  v5 := Tryd.zeroValue5
  t9 := Tryd.underlying9
  a9 := Tryd.isAgg9
  z9 := Tryd.sizeOf9
  v9 := Tryd.zeroValue9
  t21 := Tryd.underlying21
  a21 := Tryd.isAgg21
  z21 := Tryd.sizeOf21
  v21 := Tryd.zeroValue21
  t31 := Tryd.underlying52
  a31 := Tryd.isAgg52
  z31 := Tryd.sizeOf52
  v31 := Tryd.zeroValue52
  t46 := Tryd.underlying72
  a46 := Tryd.isAgg72
  z46 := Tryd.sizeOf72
  v46 := Tryd.zeroValue72
  t51 := Tryd.underlying82
  a51 := Tryd.isAgg82
  z51 := Tryd.sizeOf82
  v51 := Tryd.zeroValue82
  t105 := Tryd.underlying88
  a105 := Tryd.isAgg88
  z105 := Tryd.sizeOf88
  v105 := Tryd.zeroValue88
  t119 := Tryd.underlying100
  a119 := Tryd.isAgg100
  z119 := Tryd.sizeOf100
  t138 := Tryd.underlying102
  a138 := Tryd.isAgg102
  z138 := Tryd.sizeOf102
  v138 := Tryd.zeroValue102
  t139 := Tryd.underlying103
  a139 := Tryd.isAgg103
  z139 := Tryd.sizeOf103
  v139 := Tryd.zeroValue103
  t146 := Tryd.underlying104
  a146 := Tryd.isAgg104
  z146 := Tryd.sizeOf104
  v146 := Tryd.zeroValue104
  g1 := by kernel_rfl
  g3 := by kernel_rfl
  g4 := by kernel_rfl
  i0 := by kernel_rfl
  i3 := by kernel_rfl
  i4 := by kernel_rfl
  i5 := by kernel_rfl
  i9 := by kernel_rfl
  i21 := by kernel_rfl
  i31 := by kernel_rfl
  i46 := by kernel_rfl
  i51 := by kernel_rfl
  i105 := by kernel_rfl
  i138 := by kernel_rfl
  i139 := by kernel_rfl
  i146 := by kernel_rfl
  m1 := by kernel_rfl
  s1_3 := fun w h => Go.Proofs.cell_of_shapedOpen_int (zero := #[.int .i64 0]) (t := 3) h (of_decide_eq_true (by kernel_rfl)) (by kernel_rfl) rfl (by kernel_rfl) (by kernel_rfl) Tryd.underlying3
  m3 := by kernel_rfl
  m4 := by kernel_rfl }
end Go.Proofs
namespace Go.Proofs.YtamjnninbdnjhaaDoor.Pu
/-- all elements of a are in b -/
def sub (a b : Nat) : Bool := a &&& b == a
abbrev Rules := List (Nat × Nat)
/-- one step: the set with the conclusions of all rules whose premises it has -/
def step (R : Rules) (s : Nat) : Nat := R.foldl (fun o r => if sub r.1 s then o ||| r.2 else o) s
end Go.Proofs.YtamjnninbdnjhaaDoor.Pu
namespace Go.Proofs.YtamjnninbdnjhaaDoor.Pu
open Go.RowKit Go.Proofs.YtamjnninbdnjhaaDoorW.PrintWords
theorem wraps_i64 (n : Int) (h₀ : 0 ≤ n) (h₁ : n < 2 ^ 63) : IntKind.i64.wrap n = n := by rw [IntKind.wrap_i64]; omega
theorem and_nat {a b : Nat} (ha : a < 2 ^ 63) (hb : b < 2 ^ 63) : Go.bits .and .i64 (a : Int) (b : Int) = ((a &&& b : Nat) : Int) := (bits_nat .i64 63 (by decide) wraps_i64 a b ha hb).1
theorem or_nat {a b : Nat} (ha : a < 2 ^ 63) (hb : b < 2 ^ 63) : Go.bits .or .i64 (a : Int) (b : Int) = ((a ||| b : Nat) : Int) := (bits_nat .i64 63 (by decide) wraps_i64 a b ha hb).2
/-- a set: a number from 0 to 2^n - 1, n from 0 to 8 -/
def isSetB (n s : Int) : Bool := decide (0 ≤ n ∧ n ≤ 8 ∧ 0 ≤ s ∧ s < 2 ^ n.toNat)
def isAny (s : Int) : Bool := decide (0 ≤ s ∧ s < 256)
theorem isSetB_8 (s : Int) : isSetB 8 s = isAny s := by
  unfold isSetB isAny
  rw [show (8 : Int).toNat = 8 from rfl]
  have : (2 : Int) ^ 8 = 256 := by decide
  rw [this]
  simp
theorem isAny_nat {s : Int} (h : isAny s = true) : ∃ a : Nat, a < 256 ∧ s = (a : Int) := by
  unfold isAny at h
  have := of_decide_eq_true h
  exact ⟨s.toNat, by omega, by omega⟩
theorem upper_val (n : Int) (h0 : 0 ≤ n) (h1 : n ≤ 8) : wrap64 ((shl .i64 1 n) - 1) = 2 ^ n.toNat - 1 := by
  have h : n = 0 ∨ n = 1 ∨ n = 2 ∨ n = 3 ∨ n = 4 ∨ n = 5 ∨ n = 6 ∨ n = 7 ∨ n = 8 := by omega
  rcases h with rfl | rfl | rfl | rfl | rfl | rfl | rfl | rfl | rfl <;> decide +kernel
theorem wrapU_val (n : Int) (h0 : 0 ≤ n) (h1 : n ≤ 8) : IntKind.u64.wrap n = n := by
  have h : n = 0 ∨ n = 1 ∨ n = 2 ∨ n = 3 ∨ n = 4 ∨ n = 5 ∨ n = 6 ∨ n = 7 ∨ n = 8 := by omega
  rcases h with rfl | rfl | rfl | rfl | rfl | rfl | rfl | rfl | rfl <;> decide +kernel
end Go.Proofs.YtamjnninbdnjhaaDoor.Pu
namespace Go.Proofs.YtamjnninbdnjhaaDoor.Pu
open Go.RowKit Go.Proofs.YtamjnninbdnjhaaDoorW.PrintWords Go.Proofs.YtamjnninbdnjhaaDoorW.PrintLast Go.Proofs.YtamjnninbdnjhaaDoorW.PrintMore Go.Proofs.YtamjnninbdnjhaaDoor.Pr
theorem wrap_succ {i n : Nat} (h : i < n) (hn : n ≤ 9223372036854775807) : wrap64 ((i : Int) + 1) = ((i + 1 : Nat) : Int) := by unfold wrap64; omega
theorem drop_nil {α : Type} {l : List α} {i : Nat} (h : l.drop i = []) : l.length ≤ i := by
  have := congrArg List.length h
  simp at this; omega
theorem drop_cons {α : Type} {l rest : List α} {i : Nat} {x d : α} (h : l.drop i = x :: rest) : i < l.length ∧ l.getD i d = x ∧ l.drop (i + 1) = rest := by
  have hi : i < l.length := by
    rcases Nat.lt_or_ge i l.length with h' | h'
    · exact h'
    · rw [List.drop_of_length_le h'] at h; cases h
  rw [List.drop_eq_getElem_cons hi] at h
  injection h with h1 h2
  exact ⟨hi, by rw [List.getD_eq_getElem?_getD, List.getElem?_eq_getElem hi]; exact h1, h2⟩
end Go.Proofs.YtamjnninbdnjhaaDoor.Pu
namespace Go.Proofs.YtamjnninbdnjhaaDoor.Pu
open Go.RowKit Go.Proofs.YtamjnninbdnjhaaDoorW.PrintWords Go.Proofs.YtamjnninbdnjhaaDoorW.PrintLast Go.Proofs.YtamjnninbdnjhaaDoorW.PrintMore Go.Proofs.YtamjnninbdnjhaaDoor.Pr
theorem l1In_val (a b c : Int) : spec_l1In.f a b c = some (decide (b ≤ a ∧ a ≤ c)) := by
  unfold spec_l1In.f
  by_cases h : b ≤ a
  · rw [if_pos h]; simp [h]
  · rw [if_neg h]; simp [h]
theorem within_val (a b c : Int) : impl_within.f a b c = some (decide (b ≤ a ∧ a ≤ c)) := by
  unfold impl_within.f
  by_cases h : b ≤ a
  · rw [if_pos h]; simp [h]
  · rw [if_neg h]; simp [h]
theorem setB_of {n s : Int} (h : 0 ≤ n ∧ n ≤ 8) : decide (0 ≤ s ∧ s ≤ 2 ^ n.toNat - 1) = isSetB n s := by
  unfold isSetB
  generalize (2 : Int) ^ n.toNat = q
  rw [decide_eq_decide]
  omega
theorem setB_not {n s : Int} (h : ¬ (0 ≤ n ∧ n ≤ 8)) : isSetB n s = false := by
  unfold isSetB
  rw [decide_eq_false_iff_not]
  omega
theorem specSet_val (n s : Int) : spec_IsSet.f n s = some (isSetB n s) := by
  unfold spec_IsSet.f
  rw [l1In_val, Option.bind_some]
  by_cases h : 0 ≤ n ∧ n ≤ 8
  · rw [if_pos (decide_eq_true h), wrapU_val n h.1 h.2, if_pos h.1, upper_val n h.1 h.2, l1In_val, Option.bind_some, setB_of h]
  · rw [if_neg (by simpa using h), setB_not h]
theorem set_val (n s : Int) : impl_IsSet.f n s = some (isSetB n s) := by
  unfold impl_IsSet.f
  rw [within_val, Option.bind_some]
  by_cases h : 0 ≤ n ∧ n ≤ 8
  · rw [if_pos (decide_eq_true h), if_pos h.1, upper_val n h.1 h.2, within_val, Option.bind_some, setB_of h]
  · rw [if_neg (by simpa using h), setB_not h]
theorem any_val (s : Int) : impl_isAnySet.f s = some (isAny s) := by
  unfold impl_isAnySet.f
  rw [set_val, Option.bind_some, isSetB_8]
end Go.Proofs.YtamjnninbdnjhaaDoor.Pu
namespace Go.Proofs.YtamjnninbdnjhaaDoor.Pu
open Go.RowKit Go.Proofs.YtamjnninbdnjhaaDoorW.PrintWords Go.Proofs.YtamjnninbdnjhaaDoorW.PrintLast Go.Proofs.YtamjnninbdnjhaaDoorW.PrintMore Go.Proofs.YtamjnninbdnjhaaDoor.Pr
theorem shr_nat (a e : Nat) (he : e ≤ 64) : shr .i64 (a : Int) (e : Int) = ((a / 2 ^ e : Nat) : Int) := by
  unfold shr
  rw [Int.toNat_natCast, show (IntKind.i64).bits = 64 from rfl, Nat.min_eq_left he]
  simp
theorem bit_val (a e : Nat) (ha : a < 2 ^ 63) (he : e ≤ 64) : (Go.bits .and .i64 (shr .i64 (a : Int) (e : Int)) 1 == 1) = a.testBit e := by
  rw [shr_nat a e he]
  have h1 : a / 2 ^ e < 2 ^ 63 := Nat.lt_of_le_of_lt (Nat.div_le_self _ _) ha
  have h2 := and_nat h1 (show 1 < 2 ^ 63 by decide)
  rw [show ((1 : Nat) : Int) = 1 from rfl] at h2
  rw [h2, Nat.and_one_is_mod, Nat.testBit_eq_decide_div_mod_eq, Bool.eq_iff_iff, beq_iff_eq, decide_eq_true_iff]
  omega
def hasV (s e : Int) : Bool := isAny s && (decide (0 ≤ e ∧ e ≤ 7) && s.toNat.testBit e.toNat)
theorem wrapU_small (e : Int) (h0 : 0 ≤ e) (h1 : e ≤ 64) : IntKind.u64.wrap e = e := by
  simp [IntKind.wrap, IntKind.bits, IntKind.signed]
  omega
theorem l2Has_val (a e : Nat) (ha : a < 2 ^ 63) (he : e ≤ 64) : spec_l2Has.f (a : Int) (e : Int) = some (a.testBit e) := by
  unfold spec_l2Has.f
  rw [wrapU_small _ (by omega) (by omega), if_pos (by omega), bit_val a e ha he]
theorem hasI_val (s e : Int) : impl_HasElement.f s e = some (hasV s e) := by
  unfold impl_HasElement.f hasV
  rw [any_val, Option.bind_some]
  cases hs : isAny s with
  | false => rfl
  | true =>
    obtain ⟨a, ha, rfl⟩ := isAny_nat hs
    rw [if_pos rfl, within_val, Option.bind_some]
    by_cases he : 0 ≤ e ∧ e ≤ 7
    · obtain ⟨n, rfl⟩ : ∃ n : Nat, e = (n : Int) := ⟨e.toNat, by omega⟩
      rw [if_pos (decide_eq_true he), if_pos he.1, bit_val a n (by omega) (by omega), decide_eq_true he]
      simp
    · rw [if_neg (by simpa using he), decide_eq_false he]
      rfl
/-- the elements of a set, ascending -/
def elemsI (s : Nat) : List Int := ((List.range 8).filter fun (e : Nat) => s.testBit e).map fun (e : Nat) => (e : Int)
def elemsV (s : Int) : List Int := if isAny s then elemsI s.toNat else []
theorem elemsV_eq (s : Int) : elemsV s = ((List.range 8).filter fun (e : Nat) => hasV s (e : Int)).map fun (e : Nat) => (e : Int) := by
  unfold elemsV elemsI hasV
  cases isAny s with
  | false => simp
  | true =>
    rw [if_pos rfl]
    refine congrArg _ (List.filter_congr ?_)
    intro e he
    have := List.mem_range.1 he
    rw [Bool.true_and, decide_eq_true (show 0 ≤ (e : Int) ∧ (e : Int) ≤ 7 by omega), Bool.true_and, Int.toNat_natCast]
theorem elems_gen (g : Nat → List Int → Int → Option (List Int)) (s : Int)
    (hg : ∀ k (out : List Int) (i : Nat), out.length ≤ 8 → g (k + 1) out (i : Int) = if (i : Int) < 8 then (if hasV s (i : Int) = true then g k (out ++ [(i : Int)]) ((i + 1 : Nat) : Int) else g k out ((i + 1 : Nat) : Int)) else some out) :
    ∀ (d i : Nat), i + d = 8 → Ev (fun k => g k (((List.range i).filter fun (e : Nat) => hasV s (e : Int)).map fun (e : Nat) => (e : Int)) (i : Int)) (elemsV s) := by
  intro d
  have hlen : ∀ i, i ≤ 8 → (((List.range i).filter fun (e : Nat) => hasV s (e : Int)).map fun (e : Nat) => (e : Int)).length ≤ 8 := by
    intro i hi
    rw [List.length_map]
    have := List.length_filter_le (fun (e : Nat) => hasV s (e : Int)) (List.range i)
    rw [List.length_range] at this
    omega
  induction d with
  | zero =>
    intro i hi
    obtain rfl : i = 8 := by omega
    refine Ev.step (f := fun _ => some (elemsV s)) (fun k => ?_) (Ev.now _)
    rw [hg _ _ _ (hlen 8 (by omega)), if_neg (by decide), elemsV_eq]
  | succ d ih =>
    intro i hi
    refine Ev.step (fun k => ?_) (ih (i + 1) (by omega))
    rw [hg _ _ _ (hlen i (by omega)), if_pos (by omega), List.range_succ, List.filter_append, List.map_append]
    cases h : hasV s (i : Int) with
    | true => rw [if_pos rfl]; simp [h]
    | false => rw [if_neg (by decide)]; simp [h]
theorem elemsI_val (s : Int) : Ev (fun k => impl_ElementsOf.f k s) (elemsV s) := by
  unfold impl_ElementsOf.f
  refine elems_gen (fun k out i => impl_ElementsOf.l0 k s out i) s (fun k out i ho => ?_) 8 0 rfl
  simp only [impl_ElementsOf.l0]
  rw [hasI_val, Option.bind_some]
  by_cases hi : (i : Int) < 8
  · rw [if_pos hi, if_pos hi, if_pos (show out.length < 17592186044416 by omega), show wrap64 ((i : Int) + 1) = ((i + 1 : Nat) : Int) from by unfold wrap64; omega]
  · rw [if_neg hi, if_neg hi]
theorem elemsV_range (s : Int) : ∀ e ∈ elemsV s, 0 ≤ e ∧ e ≤ 7 := by
  intro e he
  rw [elemsV_eq] at he
  obtain ⟨n, hn, rfl⟩ := List.mem_map.1 he
  have := List.mem_range.1 (List.mem_filter.1 hn).1
  omega
theorem elemsV_length (s : Int) : (elemsV s).length ≤ 8 := by
  rw [elemsV_eq, List.length_map]
  have := List.length_filter_le (fun (e : Nat) => hasV s (e : Int)) (List.range 8)
  rw [List.length_range] at this
  omega
end Go.Proofs.YtamjnninbdnjhaaDoor.Pu
namespace Go.Proofs.YtamjnninbdnjhaaDoor.Pu
open Go.RowKit Go.Proofs.YtamjnninbdnjhaaDoorW.PrintWords Go.Proofs.YtamjnninbdnjhaaDoorW.PrintLast Go.Proofs.YtamjnninbdnjhaaDoorW.PrintMore Go.Proofs.YtamjnninbdnjhaaDoor.Pr
theorem hasS_val (s e : Int) : spec_HasElement.f s e = some (hasV s e) := by
  unfold spec_HasElement.f hasV
  rw [specSet_val, isSetB_8, Option.bind_some]
  cases hs : isAny s with
  | false => rfl
  | true =>
    obtain ⟨a, ha, rfl⟩ := isAny_nat hs
    rw [if_pos rfl, l1In_val, Option.bind_some]
    by_cases he : 0 ≤ e ∧ e ≤ 7
    · obtain ⟨n, rfl⟩ : ∃ n : Nat, e = (n : Int) := ⟨e.toNat, by omega⟩
      rw [if_pos (decide_eq_true he), l2Has_val a n (by omega) (by omega), decide_eq_true he]
      simp
    · rw [if_neg (by simpa using he), decide_eq_false he]
      rfl
theorem elemsS_val (s : Int) : Ev (fun k => spec_ElementsOf.f k s) (elemsV s) := by
  unfold spec_ElementsOf.f
  refine elems_gen (fun k out i => spec_ElementsOf.l0 k s out i) s (fun k out i ho => ?_) 8 0 rfl
  simp only [spec_ElementsOf.l0]
  rw [hasS_val, Option.bind_some]
  by_cases hi : (i : Int) < 8
  · rw [if_pos hi, if_pos hi, if_pos (show out.length < 17592186044416 by omega), show wrap64 ((i : Int) + 1) = ((i + 1 : Nat) : Int) from by unfold wrap64; omega]
  · rw [if_neg hi, if_neg hi]
end Go.Proofs.YtamjnninbdnjhaaDoor.Pu
namespace Go.Proofs.YtamjnninbdnjhaaDoor.Pu
open Go.RowKit Go.Proofs.YtamjnninbdnjhaaDoorW.PrintWords Go.Proofs.YtamjnninbdnjhaaDoorW.PrintLast Go.Proofs.YtamjnninbdnjhaaDoorW.PrintMore Go.Proofs.YtamjnninbdnjhaaDoor.Pr
abbrev IR := S27
theorem rdR (l : List IR) (i : Nat) : rd_T27 l (i : Int) = l.getD i z27 := by unfold rd_T27; rw [Int.toNat_natCast]
end Go.Proofs.YtamjnninbdnjhaaDoor.Pu
namespace Go.Proofs.YtamjnninbdnjhaaDoor.Pu
open Go.RowKit Go.Proofs.YtamjnninbdnjhaaDoorW.PrintWords Go.Proofs.YtamjnninbdnjhaaDoorW.PrintLast Go.Proofs.YtamjnninbdnjhaaDoorW.PrintMore Go.Proofs.YtamjnninbdnjhaaDoor.Pr
def piece (e : Int) : ByteArray := (⟨#[97, 98, 99, 100, 101, 102, 103, 104]⟩ : ByteArray).extract (e : Int).toNat ((wrap64 (e + 1)) : Int).toNat
theorem piece_size (e : Int) : (piece e).size ≤ 8 := by
  unfold piece
  rw [ByteArray.size_extract]
  have : (⟨#[97, 98, 99, 100, 101, 102, 103, 104]⟩ : ByteArray).size = 8 := rfl
  omega
def textL (l : List Int) (x : ByteArray) : ByteArray := l.foldl (fun x e => x ++ piece e) x
theorem rdI (l : List Int) (i : Nat) : rd l (i : Int) = l.getD i 0 := by unfold rd; rw [Int.toNat_natCast]
theorem mem_of_drop {α : Type} {l rest : List α} {i : Nat} {x : α} (h : l.drop i = x :: rest) : x ∈ l := List.mem_of_mem_drop (i := i) (by rw [h]; exact List.mem_cons_self)
theorem textS_loop (l : List Int) (hl : l.length ≤ 8) (hr : ∀ e ∈ l, 0 ≤ e ∧ e ≤ 7) : ∀ (rest : List Int) (i : Nat) (x : ByteArray), l.drop i = rest → x.size ≤ 8 * i → Ev (fun k => spec_SetText.l0 k x l (i : Int)) (textL rest x) := by
  intro rest
  induction rest with
  | nil =>
    intro i x h hx
    have := drop_nil h
    refine Ev.step (f := fun _ => some x) (fun k => ?_) (Ev.now _)
    simp only [spec_SetText.l0]
    rw [if_neg (by omega)]
  | cons e rest ih =>
    intro i x h hx
    obtain ⟨hi, he, hd⟩ := drop_cons (d := 0) h
    have hb := hr e (mem_of_drop h)
    have hp := piece_size e
    have hw : wrap64 (e + 1) = e + 1 := by unfold wrap64; omega
    refine Ev.step (f := fun k => spec_SetText.l0 k (x ++ piece e) l ((i + 1 : Nat) : Int)) (fun k => ?_) (ih (i + 1) (x ++ piece e) hd (by rw [ByteArray.size_append]; omega))
    simp only [spec_SetText.l0]
    rw [if_pos (by omega), if_pos (by omega), rdI, he, if_pos hb.1, if_pos (by omega), if_pos (by omega), wrap_succ hi (by omega)]
    rw [show (⟨#[97, 98, 99, 100, 101, 102, 103, 104]⟩ : ByteArray).extract (e : Int).toNat ((wrap64 (e + 1)) : Int).toNat = piece e from rfl, if_pos (by omega)]
theorem textI_loop (l : List Int) (hl : l.length ≤ 8) (hr : ∀ e ∈ l, 0 ≤ e ∧ e ≤ 7) : ∀ (rest : List Int) (i : Nat) (x : ByteArray), l.drop i = rest → x.size ≤ 8 * i → Ev (fun k => impl_SetText.l0 k x l (l.length : Int) (i : Int)) (textL rest x) := by
  intro rest
  induction rest with
  | nil =>
    intro i x h hx
    have := drop_nil h
    refine Ev.step (f := fun _ => some x) (fun k => ?_) (Ev.now _)
    simp only [impl_SetText.l0]
    rw [if_neg (by omega)]
  | cons e rest ih =>
    intro i x h hx
    obtain ⟨hi, he, hd⟩ := drop_cons (d := 0) h
    have hb := hr e (mem_of_drop h)
    have hp := piece_size e
    have hw : wrap64 (e + 1) = e + 1 := by unfold wrap64; omega
    refine Ev.step (f := fun k => impl_SetText.l0 k (x ++ piece e) l (l.length : Int) ((i + 1 : Nat) : Int)) (fun k => ?_) (ih (i + 1) (x ++ piece e) hd (by rw [ByteArray.size_append]; omega))
    simp only [impl_SetText.l0]
    rw [if_pos (by omega), if_pos (by omega), if_pos (by omega), rdI, he, if_pos hb.1, if_pos (by omega), if_pos (by omega), wrap_succ hi (by omega)]
    rw [show (⟨#[97, 98, 99, 100, 101, 102, 103, 104]⟩ : ByteArray).extract (e : Int).toNat ((wrap64 (e + 1)) : Int).toNat = piece e from rfl, if_pos (by omega)]
def setText (s : Int) : ByteArray := if isAny s then (if s = 0 then (⟨#[45]⟩ : ByteArray) else textL (elemsV s) (⟨#[]⟩ : ByteArray)) else (⟨#[]⟩ : ByteArray)
theorem setTextS_val (s : Int) : Ev (fun k => spec_SetText.f k s) (setText s) := by
  unfold spec_SetText.f setText
  rw [specSet_val, isSetB_8]
  simp only [Option.bind_some]
  cases isAny s with
  | false => exact Ev.congr (fun k => by rw [if_neg (by decide)]; rfl) (Ev.now _)
  | true =>
    by_cases h : s = 0
    · exact Ev.congr (fun k => by rw [if_pos rfl, if_pos h]) (by rw [if_pos rfl, if_pos h]; exact Ev.now _)
    · rw [if_pos rfl, if_neg h]
      refine Ev.congr (fun k => by rw [if_pos rfl, if_neg h]) ?_
      exact Ev.bind (elemsS_val s) (textS_loop _ (elemsV_length s) (elemsV_range s) (elemsV s) 0 _ rfl (by decide))
theorem setTextI_val (s : Int) : Ev (fun k => impl_SetText.f k s) (setText s) := by
  unfold impl_SetText.f setText
  rw [any_val]
  simp only [Option.bind_some]
  cases isAny s with
  | false => exact Ev.congr (fun k => by rw [if_neg (by decide)]; rfl) (Ev.now _)
  | true =>
    by_cases h : s = 0
    · exact Ev.congr (fun k => by rw [if_pos rfl, if_pos h]) (by rw [if_pos rfl, if_pos h]; exact Ev.now _)
    · rw [if_pos rfl, if_neg h]
      refine Ev.congr (fun k => by rw [if_pos rfl, if_neg h]) ?_
      exact Ev.bind (elemsI_val s) (textI_loop _ (elemsV_length s) (elemsV_range s) (elemsV s) 0 _ rfl (by decide))
end Go.Proofs.YtamjnninbdnjhaaDoor.Pu
namespace Go.Proofs.YtamjnninbdnjhaaDoor.Pu
open Go.RowKit Go.Proofs.YtamjnninbdnjhaaDoorW.PrintWords Go.Proofs.YtamjnninbdnjhaaDoorW.PrintLast Go.Proofs.YtamjnninbdnjhaaDoorW.PrintMore Go.Proofs.YtamjnninbdnjhaaDoor.Pr
theorem shl_one (e : Nat) (he : e ≤ 8) : shl .i64 1 (e : Int) = ((2 ^ e : Nat) : Int) := by
  have h : e = 0 ∨ e = 1 ∨ e = 2 ∨ e = 3 ∨ e = 4 ∨ e = 5 ∨ e = 6 ∨ e = 7 ∨ e = 8 := by omega
  rcases h with rfl | rfl | rfl | rfl | rfl | rfl | rfl | rfl | rfl <;> decide +kernel
theorem or_bit {a e : Nat} (ha : a < 256) (he : e ≤ 7) : Go.bits .or .i64 (a : Int) (shl .i64 1 (e : Int)) = ((a ||| 2 ^ e : Nat) : Int) := by
  have h8 : 2 ^ e ≤ 2 ^ 7 := Nat.pow_le_pow_right (by decide) he
  rw [shl_one e (by omega)]
  exact or_nat (by omega) (by omega)
end Go.Proofs.YtamjnninbdnjhaaDoor.Pu
namespace Go.Proofs.YtamjnninbdnjhaaDoor.Pu
open Go.RowKit Go.Proofs.YtamjnninbdnjhaaDoorW.PrintWords Go.Proofs.YtamjnninbdnjhaaDoorW.PrintLast Go.Proofs.YtamjnninbdnjhaaDoorW.PrintMore Go.Proofs.YtamjnninbdnjhaaDoor.Pr
abbrev Bs := List UInt8
def mkB (l : Bs) : ByteArray := ⟨l.toArray⟩
theorem mkB_data (t : ByteArray) : mkB t.data.toList = t := by cases t; rfl
theorem data_mkB (l : Bs) : (mkB l).data.toList = l := rfl
theorem toList_iff (a b : ByteArray) : a.toList = b.toList ↔ a.data.toList = b.data.toList := by rw [Lib.toList_data, Lib.toList_data]
theorem size_data (t : ByteArray) : t.size = t.data.toList.length := by rw [Array.length_toList]; rfl
theorem bt_list (t : ByteArray) (i : Nat) {x : UInt8} {rest : Bs} (h : t.data.toList.drop i = x :: rest) : i < t.size ∧ bt t (i : Int) = (x.toNat : Int) ∧ t.data.toList.drop (i + 1) = rest := by
  obtain ⟨hi, hx, hr⟩ := drop_cons (d := (0 : UInt8)) h
  rw [← size_data] at hi
  refine ⟨hi, ?_, hr⟩
  unfold bt
  rw [Int.toNat_natCast, dif_pos hi]
  rw [List.getD_eq_getElem?_getD, List.getElem?_eq_getElem (by rw [← size_data]; exact hi)] at hx
  rw [← hx]
  rfl
def tx (s : Nat) : Bs := if s = 0 then [45] else ((List.range 8).filter fun (e : Nat) => s.testBit e).map fun e => UInt8.ofNat (97 + e)
theorem tx_all : ((List.range 256).all fun s => (setText ((s : Nat) : Int)).data.toList == tx s) = true := by decide +kernel
theorem setText_tx {s : Nat} (h : s < 256) : (setText (s : Int)).data.toList = tx s := by
  have := List.all_eq_true.1 tx_all s (List.mem_range.2 h)
  exact eq_of_beq this
def psB (l : Bs) : Option Nat := (List.range' 0 256).find? fun s => decide (tx s = l)
def psO : Option Nat → Int × Bool
  | some s => (s, true)
  | none => (0, false)
def psV (t : ByteArray) : Int × Bool := psO (psB t.data.toList)
theorem psI_loop (t : ByteArray) : ∀ (d i : Nat), i + d = 256 → Ev (fun k => impl_ParseSet.l0 k t (i : Int)) (psO ((List.range' i d).find? fun s => decide (tx s = t.data.toList))) := by
  intro d
  induction d with
  | zero =>
    intro i h
    refine Ev.step (f := fun _ => some (0, false)) (fun k => ?_) (Ev.now _)
    simp only [impl_ParseSet.l0]
    rw [if_neg (by omega)]
  | succ d ih =>
    intro i h
    rw [List.range'_succ, List.find?_cons]
    refine Ev.step (f := fun k => (impl_SetText.f k (i : Int)).bind fun t1 => if t1.toList = t.toList then some ((i : Int), true) else impl_ParseSet.l0 k t ((i + 1 : Nat) : Int)) (fun k => ?_) ?_
    · simp only [impl_ParseSet.l0]
      rw [if_pos (by omega), show wrap64 ((i : Int) + 1) = ((i + 1 : Nat) : Int) from by unfold wrap64; omega]
    · refine Ev.bind (setTextI_val (i : Int)) ?_
      have hiff := toList_iff (setText (i : Int)) t
      rw [setText_tx (show i < 256 by omega)] at hiff
      by_cases e : tx i = t.data.toList
      · rw [decide_eq_true e]
        exact Ev.congr (fun k => if_pos (hiff.2 e)) (Ev.now _)
      · rw [decide_eq_false e]
        exact Ev.congr (fun k => if_neg (fun h => e (hiff.1 h))) (ih (i + 1) (by omega))
theorem psI_val (t : ByteArray) : Ev (fun k => impl_ParseSet.f k t) (psV t) := by
  unfold impl_ParseSet.f
  exact psI_loop t 256 0 rfl
def psF : Bs → Nat → Option Nat
  | [], s => some s
  | b :: l, s => if 97 ≤ b.toNat ∧ b.toNat ≤ 104 then psF l (s ||| 2 ^ (b.toNat - 97)) else none
theorem psF_lt : ∀ (l : Bs) (s r : Nat), s < 256 → psF l s = some r → r < 256
  | [], s, r, h, e => by rw [psF] at e; obtain rfl := Option.some.inj e; exact h
  | b :: l, s, r, h, e => by
    rw [psF] at e
    split at e
    · rename_i hb
      refine psF_lt l _ r ?_ e
      refine Nat.or_lt_two_pow (n := 8) h ?_
      exact Nat.pow_lt_pow_right (by decide) (by omega)
    · cases e
def psC (l : Bs) : Option Nat → Int × Bool
  | none => (0, false)
  | some s => if tx s = l then (s, true) else (0, false)
def psS (l : Bs) : Int × Bool := psC l (if l = [45] then some 0 else psF l 0)
theorem psS_all : ((List.range 256).all fun s => psS (tx s) == (((s : Nat) : Int), true)) = true := by decide +kernel
theorem ps_eq (l : Bs) : psS l = psO (psB l) := by
  cases h : psB l with
  | some s =>
    have h1 := List.find?_some h
    have h2 := List.mem_of_find?_eq_some h
    have e : tx s = l := by simpa using h1
    have hs : s < 256 := by have := List.mem_range'_1.1 h2; omega
    rw [← e]
    exact eq_of_beq (List.all_eq_true.1 psS_all s (List.mem_range.2 hs))
  | none =>
    have h1 := List.find?_eq_none.1 h
    have hn : ∀ s, s < 256 → ¬ tx s = l := fun s hs e => h1 s (List.mem_range'_1.2 (by omega)) (by simpa using e)
    unfold psS psC
    split
    · rfl
    · rename_i r hr
      rw [if_neg (hn r ?_)]
      · rfl
      · split at hr
        · obtain rfl := Option.some.inj hr; decide
        · exact psF_lt l 0 r (by decide) hr
theorem psS_last (t : ByteArray) {s : Nat} (hs : s < 256) : Ev (fun k => (spec_SetText.f k (s : Int)).bind fun t1 => if t1.toList = t.toList then some ((s : Int), true) else some (0, false)) (psC t.data.toList (some s)) := by
  refine Ev.bind (setTextS_val (s : Int)) ?_
  have hiff := toList_iff (setText (s : Int)) t
  rw [setText_tx hs] at hiff
  show Ev _ (if tx s = t.data.toList then ((s : Int), true) else (0, false))
  by_cases e : tx s = t.data.toList
  · rw [if_pos e]
    exact Ev.congr (fun k => if_pos (hiff.2 e)) (Ev.now _)
  · rw [if_neg e]
    exact Ev.congr (fun k => if_neg (fun h => e (hiff.1 h))) (Ev.now _)
theorem psS_loop (t : ByteArray) (ht : t.size ≤ 9223372036854775807) (hne : (t.toList != ([45] : Bs)) = true) : ∀ (rest : Bs) (i s : Nat), t.data.toList.drop i = rest → s < 256 → Ev (fun k => spec_ParseSet.l0 k t (s : Int) (i : Int)) (psC t.data.toList (psF rest s)) := by
  intro rest
  induction rest with
  | nil =>
    intro i s h hs
    have hi := drop_nil h
    rw [← size_data] at hi
    refine Ev.step (f := fun k => spec_ParseSet.j1 k t (s : Int) (i : Int) false) (fun k => ?_) ?_
    · simp only [spec_ParseSet.l0]
      rw [if_neg (by omega)]
    · refine Ev.step (fun k => ?_) (psS_last t hs)
      simp only [spec_ParseSet.j1]
      rw [if_neg (by decide)]
  | cons b rest ih =>
    intro i s h hs
    obtain ⟨hi, hb, hr⟩ := bt_list t i h
    refine Ev.step (f := fun k => spec_ParseSet.j1 k t (s : Int) (i : Int) true) (fun k => ?_) ?_
    · simp only [spec_ParseSet.l0]
      rw [if_pos (by omega), hne]
    · rw [psF]
      by_cases hc : 97 ≤ b.toNat ∧ b.toNat ≤ 104
      · rw [if_pos hc]
        refine Ev.step (fun k => ?_) (ih (i + 1) (s ||| 2 ^ (b.toNat - 97)) hr ?_)
        · simp only [spec_ParseSet.j1]
          rw [if_true, if_pos (by omega), if_pos (by omega), hb, if_neg (by omega), if_neg (by omega), show (((b.toNat : Int) - 97) % 256) = ((b.toNat - 97 : Nat) : Int) from by omega, or_bit hs (by omega), show wrap64 ((i : Int) + 1) = ((i + 1 : Nat) : Int) from by unfold wrap64; omega]
        · exact Nat.or_lt_two_pow (n := 8) hs (Nat.pow_lt_pow_right (by decide) (by omega))
      · rw [if_neg hc]
        refine Ev.step (f := fun _ => some (0, false)) (fun k => ?_) (Ev.now _)
        simp only [spec_ParseSet.j1]
        rw [if_true, if_pos (by omega), if_pos (by omega), hb]
        by_cases h97 : (b.toNat : Int) < 97
        · rw [if_pos h97]
        · rw [if_neg h97, if_pos (by omega)]
theorem psS_val (t : ByteArray) (ht : t.size ≤ 9223372036854775807) : Ev (fun k => spec_ParseSet.f k t) (psV t) := by
  unfold spec_ParseSet.f psV
  rw [← ps_eq]
  unfold psS
  by_cases h : t.data.toList = [45]
  · rw [if_pos h]
    have hb : (t.toList != ([45] : Bs)) = false := by rw [Lib.toList_data, h]; rfl
    refine Ev.step (f := fun k => spec_ParseSet.j1 k t 0 0 false) (fun k => ?_) ?_
    · simp only [spec_ParseSet.l0]
      rw [hb]
      split <;> rfl
    · refine Ev.step (fun k => ?_) (psS_last t (s := 0) (by decide))
      simp only [spec_ParseSet.j1]
      rw [if_neg (by decide)]
      rfl
  · rw [if_neg h]
    exact psS_loop t ht (by rw [Lib.toList_data]; simpa using h) t.data.toList 0 0 rfl (by decide)
def pre (p : Bs) : List Bs → List Bs
  | [] => [p]
  | x :: xs => (p ++ x) :: xs
def splL (c : UInt8) : Bs → List Bs
  | [] => [[]]
  | b :: l => if b = c then [] :: splL c l else pre [b] (splL c l)
theorem pre_pre (p q : Bs) (x : List Bs) : pre p (pre q x) = pre (p ++ q) x := by
  cases x with
  | nil => rfl
  | cons a x => show (p ++ (q ++ a)) :: x = (p ++ q ++ a) :: x; rw [List.append_assoc]
theorem splL_ne (c : UInt8) : ∀ l, splL c l ≠ []
  | [] => by simp [splL]
  | b :: l => by
    rw [splL]
    split
    · simp
    · unfold pre; split <;> simp
theorem pre_nil {x : List Bs} (h : x ≠ []) : pre [] x = x := by
  cases x with
  | nil => exact absurd rfl h
  | cons a x => rfl
theorem extract_mk (t : ByteArray) (a b : Nat) : t.extract a b = mkB ((t.data.toList.drop a).take (b - a)) := by
  rw [← mkB_data (t.extract a b)]
  refine congrArg mkB ?_
  rw [ByteArray.data_extract, Array.toList_extract]
theorem take_drop_succ (L : Bs) (a i : Nat) {x : UInt8} {rest : Bs} (h : L.drop i = x :: rest) (ha : a ≤ i) : (L.drop a).take (i + 1 - a) = (L.drop a).take (i - a) ++ [x] := by
  obtain ⟨hi, hx, _⟩ := drop_cons (d := (0 : UInt8)) h
  rw [show i + 1 - a = (i - a) + 1 from by omega, List.take_add_one, List.getElem?_drop, show a + (i - a) = i from by omega, List.getElem?_eq_getElem hi]
  rw [List.getD_eq_getElem?_getD, List.getElem?_eq_getElem hi] at hx
  simp only [Option.getD_some] at hx
  rw [hx]
  rfl
theorem spl_loop (t : ByteArray) (ht : t.size ≤ 1048576) (c : UInt8) : ∀ (rest : Bs) (i a : Nat) (out : List ByteArray), t.data.toList.drop i = rest → a ≤ i → i ≤ t.size → out.length ≤ i →
    Ev (fun k => spec_SplitByte.l0 k t (c.toNat : Int) out (a : Int) (i : Int)) (out ++ (pre ((t.data.toList.drop a).take (i - a)) (splL c rest)).map mkB) := by
  intro rest
  induction rest with
  | nil =>
    intro i a out h ha hi ho
    have hn := drop_nil h
    rw [← size_data] at hn
    have e : i = t.size := by omega
    refine Ev.step (f := fun k => spec_SplitByte.l0 k t (c.toNat : Int) (out ++ [t.extract a i]) ((i + 1 : Nat) : Int) ((i + 1 : Nat) : Int)) (fun k => ?_) ?_
    · simp only [spec_SplitByte.l0]
      rw [if_pos (by omega), if_pos (by omega), if_pos (by omega), if_pos (by omega), if_pos (by omega), show wrap64 ((i : Int) + 1) = ((i + 1 : Nat) : Int) from by unfold wrap64; omega, Int.toNat_natCast, Int.toNat_natCast]
    · refine Ev.step (f := fun _ => some (out ++ [t.extract a i])) (fun k => ?_) ?_
      · simp only [spec_SplitByte.l0]
        rw [if_neg (by omega)]
      · rw [extract_mk, splL, pre, List.append_nil]
        exact Ev.now _
  | cons b rest ih =>
    intro i a out h ha hi ho
    obtain ⟨hlt, hb, hr⟩ := bt_list t i h
    have hw : wrap64 ((i : Int) + 1) = ((i + 1 : Nat) : Int) := by unfold wrap64; omega
    rw [splL]
    by_cases hc : b = c
    · subst hc
      rw [if_pos rfl, pre, List.append_nil, List.map_cons, ← extract_mk]
      refine Ev.step (f := fun k => spec_SplitByte.l0 k t (b.toNat : Int) (out ++ [t.extract a i]) ((i + 1 : Nat) : Int) ((i + 1 : Nat) : Int)) (fun k => ?_) ?_
      · simp only [spec_SplitByte.l0]
        rw [if_pos (by omega), if_neg (by omega), if_pos (by omega), if_pos (by omega), hb, if_pos rfl, if_pos (by omega), if_pos (by omega), if_pos (by omega), hw, Int.toNat_natCast, Int.toNat_natCast]
      · have := ih (i + 1) (i + 1) (out ++ [t.extract a i]) hr (Nat.le_refl _) (by omega) (by rw [List.length_append, List.length_singleton]; omega)
        rw [Nat.sub_self, List.take_zero, pre_nil (splL_ne _ _), List.append_assoc] at this
        exact this
    · rw [if_neg hc, pre_pre, ← take_drop_succ t.data.toList a i h ha]
      refine Ev.step (fun k => ?_) (ih (i + 1) a out hr (by omega) (by omega) (by omega))
      simp only [spec_SplitByte.l0]
      rw [if_pos (by omega), if_neg (by omega), if_pos (by omega), if_pos (by omega), hb, if_neg (by intro e; exact hc (UInt8.toNat_inj.1 (by omega))), hw]
theorem spl_val (t : ByteArray) (ht : t.size ≤ 1048576) (c : UInt8) : Ev (fun k => spec_SplitByte.f k t (c.toNat : Int)) ((splL c t.data.toList).map mkB) := by
  unfold spec_SplitByte.f
  have := spl_loop t ht c t.data.toList 0 0 [] rfl (Nat.le_refl _) (Nat.zero_le _) (Nat.le_refl _)
  rw [List.take_zero, pre_nil (splL_ne _ _), List.nil_append] at this
  exact this
theorem index_spl (c : UInt8) : ∀ l : Bs, (Lib.indexByte l c = -1 ∧ c ∉ l ∧ splL c l = [l]) ∨ ∃ i : Nat, i < l.length ∧ Lib.indexByte l c = (i : Int) ∧ splL c l = l.take i :: splL c (l.drop (i + 1))
  | [] => Or.inl ⟨rfl, by simp, rfl⟩
  | b :: l => by
    by_cases e : b = c
    · subst e
      refine Or.inr ⟨0, by simp, by simp [Lib.indexByte], ?_⟩
      rw [splL, if_pos rfl]
      rfl
    · have hb : (b == c) = false := by simpa using e
      rcases index_spl c l with ⟨h1, h2, h3⟩ | ⟨i, hi, h1, h2⟩
      · refine Or.inl ⟨by rw [Lib.indexByte, hb, h1]; rfl, by simp [h2, Ne.symm e], ?_⟩
        rw [splL, if_neg e, h3]
        rfl
      · refine Or.inr ⟨i + 1, by simpa using hi, ?_, ?_⟩
        · rw [Lib.indexByte, hb, h1]
          have : ((i : Int) == -1) = false := by rw [beq_eq_false_iff_ne]; omega
          simp [this]
        · rw [splL, if_neg e, h2]
          rfl
theorem splL_one {c : UInt8} {l : Bs} (h : c ∉ l) : splL c l = [l] := by
  rcases index_spl c l with ⟨_, _, h3⟩ | ⟨i, hi, h1, h2⟩
  · exact h3
  · exfalso
    have : ∀ (l : Bs) (i : Nat), Lib.indexByte l c = (i : Int) → c ∈ l := by
      intro l
      induction l with
      | nil => intro i h; rw [Lib.indexByte] at h; omega
      | cons b l ih =>
        intro i h
        rw [Lib.indexByte] at h
        split at h
        · rename_i hb
          have : b = c := by simpa using hb
          rw [this]; exact List.mem_cons_self
        · split at h
          · omega
          · rename_i _ hneg
            cases i with
            | zero =>
              exfalso
              have h9 : Lib.indexByte l c = -1 := by omega
              rw [h9] at hneg
              exact hneg rfl
            | succ i => exact List.mem_cons_of_mem _ (ih i (by omega))
    exact h (this l i h1)
theorem splL_many {c : UInt8} {l : Bs} (h : c ∈ l) : 2 ≤ (splL c l).length := by
  rcases index_spl c l with ⟨_, h2, _⟩ | ⟨i, hi, h1, h2⟩
  · exact absurd h h2
  · rw [h2, List.length_cons]
    have := List.length_pos_iff.2 (splL_ne c (l.drop (i + 1)))
    omega
/-- bytes that stand in no set's text -/
theorem tx_no : ((List.range 256).all fun s => !(tx s).contains 62 && !(tx s).contains 32) = true := by decide +kernel
theorem psV_no {t : ByteArray} (h : (62 : UInt8) ∈ t.data.toList) : psV t = (0, false) := by
  unfold psV
  cases hp : psB t.data.toList with
  | none => rfl
  | some s =>
    exfalso
    have h1 := List.find?_some hp
    have h2 := List.mem_range'_1.1 (List.mem_of_find?_eq_some hp)
    have e : tx s = t.data.toList := by simpa using h1
    rw [← e] at h
    have := List.all_eq_true.1 tx_no s (List.mem_range.2 (by omega))
    rw [Bool.and_eq_true] at this
    simpa [h] using this.1
end Go.Proofs.YtamjnninbdnjhaaDoor.Pu
namespace Go.Proofs.YtamjnninbdnjhaaDoor.Pu
open Go.RowKit Go.Proofs.YtamjnninbdnjhaaDoorW.PrintWords Go.Proofs.YtamjnninbdnjhaaDoorW.PrintLast Go.Proofs.YtamjnninbdnjhaaDoorW.PrintMore Go.Proofs.YtamjnninbdnjhaaDoor.Pr
def prO (a b : Int × Bool) : Int × Int × Bool := if a.2 = true ∧ b.2 = true then (a.1, b.1, true) else (0, 0, false)
def prP : List ByteArray → Int × Int × Bool
  | [a, b] => prO (psV a) (psV b)
  | _ => (0, 0, false)
def prV (t : ByteArray) : Int × Int × Bool := prP ((splL 62 t.data.toList).map mkB)
theorem mem_size {t : ByteArray} (ht : t.size ≤ 1048576) {x : Bs} (h : x.length ≤ t.data.toList.length) : (mkB x).size ≤ 9223372036854775807 := by
  rw [size_data, data_mkB]
  rw [← size_data] at h
  omega
theorem splL_le (c : UInt8) : ∀ (l x : Bs), x ∈ splL c l → x.length ≤ l.length
  | [], x, h => by simp [splL] at h; subst h; simp
  | b :: l, x, h => by
    rw [splL] at h
    split at h
    · rcases List.mem_cons.1 h with rfl | h
      · simp
      · have := splL_le c l x h
        rw [List.length_cons]; omega
    · cases hq : splL c l with
      | nil => exact absurd hq (splL_ne c l)
      | cons a q =>
        rw [hq] at h
        unfold pre at h
        rcases List.mem_cons.1 h with rfl | h
        · have := splL_le c l a (by rw [hq]; exact List.mem_cons_self)
          simp; omega
        · have := splL_le c l x (by rw [hq]; exact List.mem_cons_of_mem _ h)
          rw [List.length_cons]; omega
theorem prS_val (t : ByteArray) (ht : t.size ≤ 1048576) : Ev (fun k => spec_ParseRule.f k t) (prV t) := by
  unfold spec_ParseRule.f prV
  refine Ev.bind (spl_val t ht 62) ?_
  have hle := splL_le 62 t.data.toList
  generalize splL 62 t.data.toList = q at *
  match q with
  | [] => exact Ev.congr (fun k => if_neg (by simp)) (Ev.now _)
  | [a] => exact Ev.congr (fun k => if_neg (by simp)) (Ev.now _)
  | a :: b :: c :: q => exact Ev.congr (fun k => if_neg (by simp; omega)) (Ev.now _)
  | [a, b] =>
    have ha := mem_size ht (hle a (by simp))
    have hb := mem_size ht (hle b (by simp))
    refine Ev.congr (f := fun k => (spec_ParseSet.f k (mkB a)).bind fun x => (spec_ParseSet.f k (mkB b)).bind fun y => if x.2 = true then (if y.2 = true then some (x.1, y.1, true) else some (0, 0, false)) else some (0, 0, false)) (fun k => rfl) ?_
    refine Ev.bind (psS_val _ ha) ?_
    refine Ev.bind (psS_val _ hb) ?_
    show Ev _ (prO (psV (mkB a)) (psV (mkB b)))
    generalize psV (mkB a) = x
    generalize psV (mkB b) = y
    obtain ⟨x1, x2⟩ := x
    obtain ⟨y1, y2⟩ := y
    cases x2 <;> cases y2 <;> exact Ev.now _
theorem cut_val (t : ByteArray) (ht : t.size ≤ 1048576) : (62 ∉ t.data.toList ∧ strings_Cut.f t (⟨#[62]⟩ : ByteArray) = some (t, (⟨#[]⟩ : ByteArray), false)) ∨
    ∃ i : Nat, i < t.size ∧ splL 62 t.data.toList = t.data.toList.take i :: splL 62 (t.data.toList.drop (i + 1)) ∧ strings_Cut.f t (⟨#[62]⟩ : ByteArray) = some (mkB (t.data.toList.take i), mkB (t.data.toList.drop (i + 1)), true) := by
  unfold strings_Cut.f stringslite_Cut.f
  rw [show stringslite_Index.f t (⟨#[62]⟩ : ByteArray) = some (Lib.indexByte t.data.toList 62) from rfl, Option.bind_some]
  rcases index_spl 62 t.data.toList with ⟨h1, h2, _⟩ | ⟨i, hi, h1, h2⟩
  · refine Or.inl ⟨h2, ?_⟩
    rw [h1, if_neg (by decide)]
    rfl
  · rw [← size_data] at hi
    refine Or.inr ⟨i, hi, h2, ?_⟩
    have hw : wrap64 ((i : Int) + ((⟨#[62]⟩ : ByteArray).size : Int)) = ((i + 1 : Nat) : Int) := by
      rw [show (⟨#[62]⟩ : ByteArray).size = 1 from rfl]
      unfold wrap64
      omega
    rw [h1, if_pos (by omega), if_pos (by omega), if_pos (by omega), hw, if_pos (by omega), if_pos (by omega), Option.bind_some, Int.toNat_natCast, Int.toNat_natCast, extract_mk, extract_mk, List.drop_zero, Nat.sub_zero, List.take_of_length_le (l := t.data.toList.drop (i + 1)) (by rw [List.length_drop, ← size_data]; exact Nat.le_refl _)]
theorem prI_val (t : ByteArray) (ht : t.size ≤ 1048576) : Ev (fun k => impl_ParseRule.f k t) (prV t) := by
  unfold impl_ParseRule.f prV
  rcases cut_val t ht with ⟨h1, h2⟩ | ⟨i, hi, h1, h2⟩
  · rw [h2, splL_one h1]
    refine Ev.congr (fun k => Option.bind_some _ _) ?_
    refine Ev.bind (psI_val t) ?_
    refine Ev.bind (psI_val (⟨#[]⟩ : ByteArray)) ?_
    exact Ev.congr (fun k => if_neg (fun h => by cases h)) (Ev.now _)
  · rw [h2, h1]
    refine Ev.congr (fun k => Option.bind_some _ _) ?_
    refine Ev.bind (psI_val _) ?_
    refine Ev.bind (psI_val _) ?_
    refine Ev.congr (fun k => if_pos rfl) ?_
    have hgo : ∀ a b : Int × Bool, Ev (fun _ => if a.2 = true then (if b.2 = true then some (a.1, b.1, true) else some (0, 0, false)) else some (0, 0, false)) (prO a b) := by
      rintro ⟨x1, x2⟩ ⟨y1, y2⟩
      cases x2 <;> cases y2 <;> exact Ev.now _
    by_cases hm : (62 : UInt8) ∈ t.data.toList.drop (i + 1)
    · have hp : psV (mkB (t.data.toList.drop (i + 1))) = (0, false) := psV_no hm
      have h3 := splL_many hm
      have := hgo (psV (mkB (t.data.toList.take i))) (psV (mkB (t.data.toList.drop (i + 1))))
      have e : prO (psV (mkB (t.data.toList.take i))) (psV (mkB (t.data.toList.drop (i + 1)))) = (0, 0, false) := by rw [hp]; unfold prO; rw [if_neg (by simp)]
      rw [e] at this
      have e2 : prP ((t.data.toList.take i :: splL 62 (t.data.toList.drop (i + 1))).map mkB) = (0, 0, false) := by
        cases hq : splL 62 (t.data.toList.drop (i + 1)) with
        | nil => rfl
        | cons a q =>
          cases q with
          | nil => rw [hq] at h3; simp at h3
          | cons b q => rfl
      rw [e2]
      exact this
    · rw [splL_one hm]
      exact hgo _ _
end Go.Proofs.YtamjnninbdnjhaaDoor.Pu
