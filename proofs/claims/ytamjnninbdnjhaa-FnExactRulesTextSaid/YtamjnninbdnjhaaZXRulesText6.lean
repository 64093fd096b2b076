/- What the law needs of the program's functions as plain functions, of the proofs that their calls answer so, and of plain laws: gathered by a program of this place (pack.py) out of its printed texts. No condition beyond what each statement says. -/
import Derived.Test.YtamjnninbdnjhaaZXRulesText1
import Derived.Laws.BitsLemmas
import Derived.RowKit
import Derived.Test.YtamjnninbdnjhaaZXRulesText2
import Derived.Test.YtamjnninbdnjhaaZXRulesText3
import Derived.Test.YtamjnninbdnjhaaZXRulesText4
import Derived.Shelf.Strings.OnBuilder
import Derived.Test.YtamjnninbdnjhaaProg
import Derived.Deep.Slices
import Derived.WideShapes
import Derived.ProofKit
import Derived.SizedLaws
namespace Go.Proofs.Ytamjnninbdnjhaa.Pu
/-- all elements of a are in b -/
def sub (a b : Nat) : Bool := a &&& b == a
abbrev Rules := List (Nat × Nat)
/-- one step: the set with the conclusions of all rules whose premises it has -/
def step (R : Rules) (s : Nat) : Nat := R.foldl (fun o r => if sub r.1 s then o ||| r.2 else o) s
end Go.Proofs.Ytamjnninbdnjhaa.Pu
namespace Go.Proofs.Ytamjnninbdnjhaa.Pu
open Go.RowKit Go.Proofs.YtamjnninbdnjhaaW.PrintWords
theorem wraps_i64 (n : Int) (h₀ : 0 ≤ n) (h₁ : n < 2 ^ 63) : IntKind.i64.wrap n = n := by rw [IntKind.wrap_i64]; omega
theorem and_nat {a b : Nat} (ha : a < 2 ^ 63) (hb : b < 2 ^ 63) : Go.bits .and .i64 (a : Int) (b : Int) = ((a &&& b : Nat) : Int) := (bits_nat .i64 63 (by decide) wraps_i64 a b ha hb).1
/-- a set: a number from 0 to 2^n - 1, n from 0 to 8 -/
def isSetB (n s : Int) : Bool := decide (0 ≤ n ∧ n ≤ 8 ∧ 0 ≤ s ∧ s < 2 ^ n.toNat)
def isAny (s : Int) : Bool := decide (0 ≤ s ∧ s < 256)
theorem isSetB_8 (s : Int) : isSetB 8 s = isAny s := by
  unfold isSetB isAny
  rw [show (8 : Int).toNat = 8 from rfl]
  have : (2 : Int) ^ 8 = 256 := by decide
  rw [this]
  simp
theorem isAny_nat {s : Int} (h : isAny s = true) : ∃ a : Nat, a < 256 ∧ s = (a : Int) := by
  unfold isAny at h
  have := of_decide_eq_true h
  exact ⟨s.toNat, by omega, by omega⟩
theorem upper_val (n : Int) (h0 : 0 ≤ n) (h1 : n ≤ 8) : wrap64 ((shl .i64 1 n) - 1) = 2 ^ n.toNat - 1 := by
  have h : n = 0 ∨ n = 1 ∨ n = 2 ∨ n = 3 ∨ n = 4 ∨ n = 5 ∨ n = 6 ∨ n = 7 ∨ n = 8 := by omega
  rcases h with rfl | rfl | rfl | rfl | rfl | rfl | rfl | rfl | rfl <;> decide +kernel
theorem wrapU_val (n : Int) (h0 : 0 ≤ n) (h1 : n ≤ 8) : IntKind.u64.wrap n = n := by
  have h : n = 0 ∨ n = 1 ∨ n = 2 ∨ n = 3 ∨ n = 4 ∨ n = 5 ∨ n = 6 ∨ n = 7 ∨ n = 8 := by omega
  rcases h with rfl | rfl | rfl | rfl | rfl | rfl | rfl | rfl | rfl <;> decide +kernel
end Go.Proofs.Ytamjnninbdnjhaa.Pu
namespace Go.Proofs.Ytamjnninbdnjhaa.Pu
open Go.RowKit Go.Proofs.YtamjnninbdnjhaaW.PrintWords Go.Proofs.YtamjnninbdnjhaaW.PrintLast Go.Proofs.YtamjnninbdnjhaaW.PrintMore Go.Proofs.Ytamjnninbdnjhaa.Pr
theorem wrap_succ {i n : Nat} (h : i < n) (hn : n ≤ 9223372036854775807) : wrap64 ((i : Int) + 1) = ((i + 1 : Nat) : Int) := by unfold wrap64; omega
theorem drop_nil {α : Type} {l : List α} {i : Nat} (h : l.drop i = []) : l.length ≤ i := by
  have := congrArg List.length h
  simp at this; omega
theorem drop_cons {α : Type} {l rest : List α} {i : Nat} {x d : α} (h : l.drop i = x :: rest) : i < l.length ∧ l.getD i d = x ∧ l.drop (i + 1) = rest := by
  have hi : i < l.length := by
    rcases Nat.lt_or_ge i l.length with h' | h'
    · exact h'
    · rw [List.drop_of_length_le h'] at h; cases h
  rw [List.drop_eq_getElem_cons hi] at h
  injection h with h1 h2
  exact ⟨hi, by rw [List.getD_eq_getElem?_getD, List.getElem?_eq_getElem hi]; exact h1, h2⟩
end Go.Proofs.Ytamjnninbdnjhaa.Pu
namespace Go.Proofs.Ytamjnninbdnjhaa.Pu
open Go.RowKit Go.Proofs.YtamjnninbdnjhaaW.PrintWords Go.Proofs.YtamjnninbdnjhaaW.PrintLast Go.Proofs.YtamjnninbdnjhaaW.PrintMore Go.Proofs.Ytamjnninbdnjhaa.Pr
theorem l1In_val (a b c : Int) : spec_l1In.f a b c = some (decide (b ≤ a ∧ a ≤ c)) := by
  unfold spec_l1In.f
  by_cases h : b ≤ a
  · rw [if_pos h]; simp [h]
  · rw [if_neg h]; simp [h]
theorem within_val (a b c : Int) : impl_within.f a b c = some (decide (b ≤ a ∧ a ≤ c)) := by
  unfold impl_within.f
  by_cases h : b ≤ a
  · rw [if_pos h]; simp [h]
  · rw [if_neg h]; simp [h]
theorem setB_of {n s : Int} (h : 0 ≤ n ∧ n ≤ 8) : decide (0 ≤ s ∧ s ≤ 2 ^ n.toNat - 1) = isSetB n s := by
  unfold isSetB
  generalize (2 : Int) ^ n.toNat = q
  rw [decide_eq_decide]
  omega
theorem setB_not {n s : Int} (h : ¬ (0 ≤ n ∧ n ≤ 8)) : isSetB n s = false := by
  unfold isSetB
  rw [decide_eq_false_iff_not]
  omega
theorem specSet_val (n s : Int) : spec_IsSet.f n s = some (isSetB n s) := by
  unfold spec_IsSet.f
  rw [l1In_val, Option.bind_some]
  by_cases h : 0 ≤ n ∧ n ≤ 8
  · rw [if_pos (decide_eq_true h), wrapU_val n h.1 h.2, if_pos h.1, upper_val n h.1 h.2, l1In_val, Option.bind_some, setB_of h]
  · rw [if_neg (by simpa using h), setB_not h]
theorem set_val (n s : Int) : impl_IsSet.f n s = some (isSetB n s) := by
  unfold impl_IsSet.f
  rw [within_val, Option.bind_some]
  by_cases h : 0 ≤ n ∧ n ≤ 8
  · rw [if_pos (decide_eq_true h), if_pos h.1, upper_val n h.1 h.2, within_val, Option.bind_some, setB_of h]
  · rw [if_neg (by simpa using h), setB_not h]
theorem any_val (s : Int) : impl_isAnySet.f s = some (isAny s) := by
  unfold impl_isAnySet.f
  rw [set_val, Option.bind_some, isSetB_8]
theorem rule_val (n a b : Int) : spec_l9Rule.f n a b = some (isSetB n a && isSetB n b) := by
  unfold spec_l9Rule.f
  rw [specSet_val, Option.bind_some]
  cases isSetB n a with
  | false => rfl
  | true => rw [if_pos rfl, specSet_val, Option.bind_some]; rfl
end Go.Proofs.Ytamjnninbdnjhaa.Pu
namespace Go.Proofs.Ytamjnninbdnjhaa.Pu
open Go.RowKit Go.Proofs.YtamjnninbdnjhaaW.PrintWords Go.Proofs.YtamjnninbdnjhaaW.PrintLast Go.Proofs.YtamjnninbdnjhaaW.PrintMore Go.Proofs.Ytamjnninbdnjhaa.Pr
abbrev IR := S46
theorem rdR (l : List IR) (i : Nat) : rd_T46 l (i : Int) = l.getD i z46 := by unfold rd_T46; rw [Int.toNat_natCast]
def anyR (r : IR) : Bool := isAny r.f0 && isAny r.f1
end Go.Proofs.Ytamjnninbdnjhaa.Pu
namespace Go.Proofs
open Go.Shelf
def Try.lays156_ren : Go.Shelf.Ren := ⟨fun | 156 => 84 | 165 => 103 | 166 => 104 | 169 => 105 | 240 => 113 | 241 => 114 | 276 => 118 | 277 => 119 | n => n, fun | 31 => 60 | 9 => 9 | 3 => 3 | 4 => 4 | 0 => 0 | 20 => 20 | 72 => 115 | 76 => 119 | 70 => 113 | 37 => 102 | 75 => 118 | 127 => 124 | 164 => 128 | 5 => 5 | 80 => 121 | n => n, fun | n => n⟩
theorem Try.lays156 : Go.Proofs.Lays.n156 Try.prog Try.lays156_ren := {
  mixed := by kernel_rfl
  f156 := Try.func84.trans (congrArg some (by kernel_rfl))
  f165 := Try.func103.trans (congrArg some (by kernel_rfl))
  f166 := Try.func104.trans (congrArg some (by kernel_rfl))
  f169 := Try.func105.trans (congrArg some (by kernel_rfl))
  f240 := Try.func113.trans (congrArg some (by kernel_rfl))
  f241 := Try.func114.trans (congrArg some (by kernel_rfl))
  f276 := Try.func118.trans (congrArg some (by kernel_rfl))
  f277 := Try.func119.trans (congrArg some (by kernel_rfl))
  t0 := Try.underlying0
  a0 := Try.isAgg0
  z0 := Try.sizeOf0
  v0 := Try.zeroValue0
  t3 := Try.underlying3
  a3 := Try.isAgg3
  z3 := Try.sizeOf3
  v3 := Try.zeroValue3
  t4 := Try.underlying4
  a4 := Try.isAgg4
  z4 := Try.sizeOf4
  v4 := Try.zeroValue4
  t9 := Try.underlying9
  a9 := Try.isAgg9
  z9 := Try.sizeOf9
  v9 := Try.zeroValue9
  t20 := Try.underlying20
  a20 := Try.isAgg20
  z20 := Try.sizeOf20
  v20 := Try.zeroValue20
  t31 := Try.underlying60
  a31 := Try.isAgg60
  z31 := Try.sizeOf60
  v31 := Try.zeroValue60
  t37 := Try.underlying102
  a37 := Try.isAgg102
  z37 := Try.sizeOf102
  v37 := Try.zeroValue102
  t70 := Try.underlying113
  a70 := Try.isAgg113
  z70 := Try.sizeOf113
  v70 := Try.zeroValue113
  t72 := Try.underlying115
  a72 := Try.isAgg115
  z72 := Try.sizeOf115
  v72 := Try.zeroValue115
  t75 := Try.underlying118
  a75 := Try.isAgg118
  z75 := Try.sizeOf118
  v75 := Try.zeroValue118
  t76 := Try.underlying119
  a76 := Try.isAgg119
  z76 := Try.sizeOf119
  v76 := Try.zeroValue119
  t127 := Try.underlying124
  a127 := Try.isAgg124
  z127 := Try.sizeOf124
  v127 := Try.zeroValue124
  t164 := Try.underlying128
  a164 := Try.isAgg128
  z164 := Try.sizeOf128
  v164 := Try.zeroValue128 }
theorem Try.Builder_Extra_156 : Builder.Extra Try.prog Try.lays156_ren := {
  sizeBuilder := by kernel_rfl
  liesBuilder := by kernel_rfl
  t5 := Try.underlying5
  a5 := Try.isAgg5
  z5 := Try.sizeOf5
  v5 := Try.zeroValue5
  infoByte := by kernel_rfl
  cellsByte := by kernel_rfl
  sizeByte := by kernel_rfl
  neB5 := by decide }
open Go.RowKit in
/-- No element: the empty string; the world is as it was. (Whatever the slice's address and capacity: a nil slice too.) (LAID: no walk: one application.) -/
theorem Try.strings_Join_none (a : Option Addr) (c : Nat) (sep : ByteArray) (w : World) :
    Calls Try.prog 84 #[.slice a 0 c, .string sep] w fun e w' => e = .returned (.string ⟨#[]⟩) ∧ w' = w := Any.strings_Join_none Try.lays156 Try.Builder_Extra_156 a c sep w
open Go.RowKit in
/-- strings.Join: "Join concatenates the elements of its first argument to create a single string. The separator string sep is placed between elements in the resulting string.": HOWEVER MANY ELEMENTS. Below the heap's end the world is as it was. (LAID: no walk: one application.) -/
theorem Try.strings_Join (bk o c : Nat) (xs : List ByteArray) (sep : ByteArray) (w : World) (hcells : ∀ (j : Nat) x, xs[j]? = some x → w.cell? ⟨bk, o + j, none⟩ = some (.string x)) (hbk : bk < w.heap.size) (hN : xs.length ≤ 140737488355328) (hcap : xs.length ≤ c) (hlen : (Lib.join (xs.map (·.data.toList)) sep.data.toList).length ≤ 140737488355328) :
    Calls Try.prog 84 #[.slice (some ⟨bk, o, none⟩) xs.length c, .string sep] w fun e w' => e = .returned (.string ⟨(Lib.join (xs.map (·.data.toList)) sep.data.toList).toArray⟩) ∧ Below w.heap.size w w' := Any.strings_Join Try.lays156 Try.Builder_Extra_156 bk o c xs sep w hcells hbk hN hcap hlen
end Go.Proofs
namespace Go.Proofs.Ytamjnninbdnjhaa.Pu
open Go.RowKit Go.Proofs.YtamjnninbdnjhaaW.PrintWords Go.Proofs.YtamjnninbdnjhaaW.PrintLast Go.Proofs.YtamjnninbdnjhaaW.PrintMore Go.Proofs.Ytamjnninbdnjhaa.Pr
abbrev LR := S40
def conv (x : LR) : IR := ⟨x.f0, x.f1⟩
theorem rdL (l : List LR) (i : Nat) : rd_T40 l (i : Int) = l.getD i z40 := by unfold rd_T40; rw [Int.toNat_natCast]
theorem set_mid {α : Type} (a b : List α) (x y : α) (n : Nat) (h : a.length = n) : (a ++ x :: b).set n y = a ++ y :: b := by
  subst h
  rw [List.set_append]
  simp
theorem sz_more (l : List LR) (hl : l.length ≤ 9223372036854775807) (a : Int) (h0 : 0 ≤ a) (ha : a ≤ 1048576) : ∃ m : Int, laws_szRuleS.f l a = some m ∧ (0 ≤ m → l.length ≤ 1048576) := by
  unfold laws_szRuleS.f
  have hw : wrap64 (a - (l.length : Int)) = a - (l.length : Int) := by unfold wrap64; omega
  rw [hw]
  by_cases h : (a - (l.length : Int)) < 0
  · exact ⟨-1, by rw [if_pos h], fun h => absurd h (by decide)⟩
  · exact ⟨_, by rw [if_neg h], fun _ => by omega⟩
theorem sz_val (l : List LR) (hl : l.length ≤ 9223372036854775807) : ∃ m : Int, laws_szRuleS.f l 1048576 = some m ∧ (0 ≤ m → l.length ≤ 1048576) := sz_more l hl 1048576 (by decide) (by decide)
theorem toRule_loop (l : List LR) (hl : l.length ≤ 1048576) : ∀ (rest : List LR) (i : Nat), l.drop i = rest →
    Ev (fun k => laws_toRuleS.l0 k l (((l.take i).map conv) ++ List.replicate rest.length z46) (i : Int)) (l.map conv) := by
  intro rest
  induction rest with
  | nil =>
    intro i h
    have := drop_nil h
    refine Ev.step (f := fun _ => some (l.map conv)) (fun k => ?_) (Ev.now _)
    simp only [laws_toRuleS.l0]
    rw [if_neg (by omega), List.take_of_length_le this]
    simp
  | cons x rest ih =>
    intro i h
    obtain ⟨hi, hx, hr⟩ := drop_cons (d := z40) h
    have hlen : l.length = i + (rest.length + 1) := by
      have := congrArg List.length h
      simp at this; omega
    have hti : ((l.take i).map conv).length = i := by simp; omega
    refine Ev.step (f := fun k => laws_toRuleS.l0 k l (((l.take (i + 1)).map conv) ++ List.replicate rest.length z46) ((i + 1 : Nat) : Int)) (fun k => ?_) (ih (i + 1) hr)
    simp only [laws_toRuleS.l0, laws_toRule.f, Option.bind_some]
    rw [if_pos (by omega), if_pos (by omega), if_pos (by rw [List.length_append, hti, List.length_replicate, List.length_cons]; omega), rdL, hx, wrap_succ hi (by omega), Int.toNat_natCast]
    congr 1
    rw [List.length_cons, List.replicate_succ, set_mid _ _ _ _ i hti]
    have ht : l.take (i + 1) = l.take i ++ [x] := by
      rw [List.take_succ_eq_append_getElem hi]
      congr 2
      rw [List.getD_eq_getElem?_getD, List.getElem?_eq_getElem hi] at hx
      exact hx
    rw [ht, List.map_append, List.append_assoc]
    rfl
theorem toRule_val (l : List LR) (hl : l.length ≤ 1048576) : Ev (fun k => laws_toRuleS.f k l) (l.map conv) := by
  unfold laws_toRuleS.f
  refine Ev.congr (fun k => ?_) (toRule_loop l hl l 0 rfl)
  rw [if_pos (by omega), if_pos (by omega)]
  simp
theorem eqRule_loop (l : List IR) (hl : l.length ≤ 9223372036854775807) : ∀ (rest : List IR) (i : Nat), l.drop i = rest → Ev (fun k => laws_eqRuleS.l0 k l l (i : Int)) true := by
  intro rest
  induction rest with
  | nil =>
    intro i h
    have := drop_nil h
    refine Ev.step (f := fun _ => some true) (fun k => ?_) (Ev.now _)
    simp only [laws_eqRuleS.l0]
    rw [if_neg (by omega)]
  | cons x rest ih =>
    intro i h
    obtain ⟨hi, hx, hr⟩ := drop_cons (d := z46) h
    refine Ev.step (f := fun k => laws_eqRuleS.l0 k l l ((i + 1 : Nat) : Int)) (fun k => ?_) (ih (i + 1) hr)
    simp only [laws_eqRuleS.l0, laws_eqRule.f]
    rw [if_pos (by omega), if_pos (by omega), if_pos (by omega), wrap_succ hi hl]
    simp
theorem eqRule_self (l : List IR) (hl : l.length ≤ 9223372036854775807) : Ev (fun k => laws_eqRuleS.f k l l) true := by
  unfold laws_eqRuleS.f
  refine Ev.congr (fun k => ?_) (eqRule_loop l hl l 0 rfl)
  rw [if_pos rfl]
  rfl
end Go.Proofs.Ytamjnninbdnjhaa.Pu
namespace Go.Proofs.Ytamjnninbdnjhaa.Pu
open Go.RowKit Go.Proofs.YtamjnninbdnjhaaW.PrintWords Go.Proofs.YtamjnninbdnjhaaW.PrintLast Go.Proofs.YtamjnninbdnjhaaW.PrintMore Go.Proofs.Ytamjnninbdnjhaa.Pr
theorem shr_nat (a e : Nat) (he : e ≤ 64) : shr .i64 (a : Int) (e : Int) = ((a / 2 ^ e : Nat) : Int) := by
  unfold shr
  rw [Int.toNat_natCast, show (IntKind.i64).bits = 64 from rfl, Nat.min_eq_left he]
  simp
theorem bit_val (a e : Nat) (ha : a < 2 ^ 63) (he : e ≤ 64) : (Go.bits .and .i64 (shr .i64 (a : Int) (e : Int)) 1 == 1) = a.testBit e := by
  rw [shr_nat a e he]
  have h1 : a / 2 ^ e < 2 ^ 63 := Nat.lt_of_le_of_lt (Nat.div_le_self _ _) ha
  have h2 := and_nat h1 (show 1 < 2 ^ 63 by decide)
  rw [show ((1 : Nat) : Int) = 1 from rfl] at h2
  rw [h2, Nat.and_one_is_mod, Nat.testBit_eq_decide_div_mod_eq, Bool.eq_iff_iff, beq_iff_eq, decide_eq_true_iff]
  omega
def hasV (s e : Int) : Bool := isAny s && (decide (0 ≤ e ∧ e ≤ 7) && s.toNat.testBit e.toNat)
theorem wrapU_small (e : Int) (h0 : 0 ≤ e) (h1 : e ≤ 64) : IntKind.u64.wrap e = e := by
  simp [IntKind.wrap, IntKind.bits, IntKind.signed]
  omega
theorem l2Has_val (a e : Nat) (ha : a < 2 ^ 63) (he : e ≤ 64) : spec_l2Has.f (a : Int) (e : Int) = some (a.testBit e) := by
  unfold spec_l2Has.f
  rw [wrapU_small _ (by omega) (by omega), if_pos (by omega), bit_val a e ha he]
theorem hasI_val (s e : Int) : impl_HasElement.f s e = some (hasV s e) := by
  unfold impl_HasElement.f hasV
  rw [any_val, Option.bind_some]
  cases hs : isAny s with
  | false => rfl
  | true =>
    obtain ⟨a, ha, rfl⟩ := isAny_nat hs
    rw [if_pos rfl, within_val, Option.bind_some]
    by_cases he : 0 ≤ e ∧ e ≤ 7
    · obtain ⟨n, rfl⟩ : ∃ n : Nat, e = (n : Int) := ⟨e.toNat, by omega⟩
      rw [if_pos (decide_eq_true he), if_pos he.1, bit_val a n (by omega) (by omega), decide_eq_true he]
      simp
    · rw [if_neg (by simpa using he), decide_eq_false he]
      rfl
/-- the elements of a set, ascending -/
def elemsI (s : Nat) : List Int := ((List.range 8).filter fun (e : Nat) => s.testBit e).map fun (e : Nat) => (e : Int)
def elemsV (s : Int) : List Int := if isAny s then elemsI s.toNat else []
theorem elemsV_eq (s : Int) : elemsV s = ((List.range 8).filter fun (e : Nat) => hasV s (e : Int)).map fun (e : Nat) => (e : Int) := by
  unfold elemsV elemsI hasV
  cases isAny s with
  | false => simp
  | true =>
    rw [if_pos rfl]
    refine congrArg _ (List.filter_congr ?_)
    intro e he
    have := List.mem_range.1 he
    rw [Bool.true_and, decide_eq_true (show 0 ≤ (e : Int) ∧ (e : Int) ≤ 7 by omega), Bool.true_and, Int.toNat_natCast]
theorem elems_gen (g : Nat → List Int → Int → Option (List Int)) (s : Int)
    (hg : ∀ k (out : List Int) (i : Nat), out.length ≤ 8 → g (k + 1) out (i : Int) = if (i : Int) < 8 then (if hasV s (i : Int) = true then g k (out ++ [(i : Int)]) ((i + 1 : Nat) : Int) else g k out ((i + 1 : Nat) : Int)) else some out) :
    ∀ (d i : Nat), i + d = 8 → Ev (fun k => g k (((List.range i).filter fun (e : Nat) => hasV s (e : Int)).map fun (e : Nat) => (e : Int)) (i : Int)) (elemsV s) := by
  intro d
  have hlen : ∀ i, i ≤ 8 → (((List.range i).filter fun (e : Nat) => hasV s (e : Int)).map fun (e : Nat) => (e : Int)).length ≤ 8 := by
    intro i hi
    rw [List.length_map]
    have := List.length_filter_le (fun (e : Nat) => hasV s (e : Int)) (List.range i)
    rw [List.length_range] at this
    omega
  induction d with
  | zero =>
    intro i hi
    obtain rfl : i = 8 := by omega
    refine Ev.step (f := fun _ => some (elemsV s)) (fun k => ?_) (Ev.now _)
    rw [hg _ _ _ (hlen 8 (by omega)), if_neg (by decide), elemsV_eq]
  | succ d ih =>
    intro i hi
    refine Ev.step (fun k => ?_) (ih (i + 1) (by omega))
    rw [hg _ _ _ (hlen i (by omega)), if_pos (by omega), List.range_succ, List.filter_append, List.map_append]
    cases h : hasV s (i : Int) with
    | true => rw [if_pos rfl]; simp [h]
    | false => rw [if_neg (by decide)]; simp [h]
theorem elemsI_val (s : Int) : Ev (fun k => impl_ElementsOf.f k s) (elemsV s) := by
  unfold impl_ElementsOf.f
  refine elems_gen (fun k out i => impl_ElementsOf.l0 k s out i) s (fun k out i ho => ?_) 8 0 rfl
  simp only [impl_ElementsOf.l0]
  rw [hasI_val, Option.bind_some]
  by_cases hi : (i : Int) < 8
  · rw [if_pos hi, if_pos hi, if_pos (show out.length < 17592186044416 by omega), show wrap64 ((i : Int) + 1) = ((i + 1 : Nat) : Int) from by unfold wrap64; omega]
  · rw [if_neg hi, if_neg hi]
theorem elemsV_range (s : Int) : ∀ e ∈ elemsV s, 0 ≤ e ∧ e ≤ 7 := by
  intro e he
  rw [elemsV_eq] at he
  obtain ⟨n, hn, rfl⟩ := List.mem_map.1 he
  have := List.mem_range.1 (List.mem_filter.1 hn).1
  omega
theorem elemsV_length (s : Int) : (elemsV s).length ≤ 8 := by
  rw [elemsV_eq, List.length_map]
  have := List.length_filter_le (fun (e : Nat) => hasV s (e : Int)) (List.range 8)
  rw [List.length_range] at this
  omega
end Go.Proofs.Ytamjnninbdnjhaa.Pu
namespace Go.Proofs.Ytamjnninbdnjhaa.Pu
open Go.RowKit Go.Proofs.YtamjnninbdnjhaaW.PrintWords Go.Proofs.YtamjnninbdnjhaaW.PrintLast Go.Proofs.YtamjnninbdnjhaaW.PrintMore Go.Proofs.Ytamjnninbdnjhaa.Pr
theorem hasS_val (s e : Int) : spec_HasElement.f s e = some (hasV s e) := by
  unfold spec_HasElement.f hasV
  rw [specSet_val, isSetB_8, Option.bind_some]
  cases hs : isAny s with
  | false => rfl
  | true =>
    obtain ⟨a, ha, rfl⟩ := isAny_nat hs
    rw [if_pos rfl, l1In_val, Option.bind_some]
    by_cases he : 0 ≤ e ∧ e ≤ 7
    · obtain ⟨n, rfl⟩ : ∃ n : Nat, e = (n : Int) := ⟨e.toNat, by omega⟩
      rw [if_pos (decide_eq_true he), l2Has_val a n (by omega) (by omega), decide_eq_true he]
      simp
    · rw [if_neg (by simpa using he), decide_eq_false he]
      rfl
theorem elemsS_val (s : Int) : Ev (fun k => spec_ElementsOf.f k s) (elemsV s) := by
  unfold spec_ElementsOf.f
  refine elems_gen (fun k out i => spec_ElementsOf.l0 k s out i) s (fun k out i ho => ?_) 8 0 rfl
  simp only [spec_ElementsOf.l0]
  rw [hasS_val, Option.bind_some]
  by_cases hi : (i : Int) < 8
  · rw [if_pos hi, if_pos hi, if_pos (show out.length < 17592186044416 by omega), show wrap64 ((i : Int) + 1) = ((i + 1 : Nat) : Int) from by unfold wrap64; omega]
  · rw [if_neg hi, if_neg hi]
end Go.Proofs.Ytamjnninbdnjhaa.Pu
namespace Go.Proofs.Ytamjnninbdnjhaa.Op
open Go.RowKit Go.Proofs.YtamjnninbdnjhaaW.PrintWords
open Go.Deep
def Opens {α : Type} (P : Program) (t : TypeId) (d : Kd α) (wf : α → Prop) : Prop :=
  ∀ {H : Type} {enc : TypeId × Value → H} {w : World} {base : Nat} {spare : Nat → Bool} {held : Bool} {fuel : Nat} {cs : List Value} {x : DataW H × List MemPlace},
    DataW.trod enc P w base spare held fuel t cs = some x → ∃ v : α, d.K w v cs ∧ wf v
theorem Opens.int {P : Program} {t : TypeId} {k : IntKind} (ht : P.underlying t = some (.int k)) : Opens P t (Kd.int k) (fun n => (Lit.int k n).wf = true) := by
  intro H enc w base spare held fuel cs x h
  obtain ⟨n, rfl, _, hw⟩ := DataW.trod_int ht h
  exact ⟨n, rfl, hw⟩
theorem Opens.iso {α β : Type} {P : Program} {t : TypeId} {d : Kd α} {wf : α → Prop} (h : Opens P t d wf) (f : β → α) (g : α → β) (hfg : ∀ a, f (g a) = a) : Opens P t (Kd.iso d f) (fun b => wf (f b)) := by
  intro H enc w base spare held fuel cs x ht
  obtain ⟨v, hK, hw⟩ := h ht
  refine ⟨g v, ?_, ?_⟩
  · show d.K w (f (g v)) cs
    rw [hfg]; exact hK
  · show wf (f (g v))
    rw [hfg]; exact hw
theorem Opens.struct2 {α β : Type} {P : Program} {t : TypeId} {f0 f1 : Field} {d0 : Kd α} {d1 : Kd β} {w0 : α → Prop} {w1 : β → Prop} (ht : P.underlying t = some (.struct #[f0, f1]))
    (o0 : f0.offset = 0) (c0 : P.cellsOf f0.type = d0.sz) (o1 : f1.offset = d0.sz) (c1 : P.cellsOf f1.type = d1.sz) (ct : P.cellsOf t = d0.sz + d1.sz)
    (h0 : Opens P f0.type d0 w0) (h1 : Opens P f1.type d1 w1) : Opens P t (Kd.pair d0 d1) (fun x => w0 x.1 ∧ w1 x.2) := by
  intro H enc w base spare held fuel cs x h
  obtain ⟨xs, n, _, _, hl, hn, hf⟩ := DataW.trod_struct ht h
  have hn2 : xs.length = 2 := hn
  have a0 := hf 0 f0 rfl
  have a1 := hf 1 f1 rfl
  rw [List.getElem?_eq_getElem (by omega)] at a0 a1
  obtain ⟨v0, k0, q0⟩ := h0 a0
  obtain ⟨v1, k1, q1⟩ := h1 a1
  refine ⟨(v0, v1), ⟨_, _, ?_, k0, k1⟩, q0, q1⟩
  rw [o0, c0, o1, c1, List.drop_zero]
  rw [ct] at hl
  have e : (cs.drop d0.sz).take d1.sz = cs.drop d0.sz := List.take_of_length_le (by rw [List.length_drop]; omega)
  rw [e, List.take_append_drop]
theorem Opens.slice {α : Type} [Inhabited α] {P : Program} {t e : TypeId} {d : Kd α} {wf : α → Prop} (ht : P.underlying t = some (.slice e)) (hc : P.cellsOf e = d.sz) (h : Opens P e d wf) : Opens P t (Kd.slice e d) (fun xs => ∀ x ∈ xs, wf x) := by
  intro H enc w base spare held fuel cs x hx
  rcases open_slice ht hx with ⟨rfl, _⟩ | ⟨a, len, cap, m, n, D, Pl, rfl, hb, hl, hm, hmm, rfl, hel⟩
  · exact ⟨[], ⟨none, 0, rfl, Nat.le_refl _, Kd.C_nil d w⟩, by simp⟩
  · have hlm : len ≤ m := by rw [hmm]; split <;> omega
    obtain ⟨f, hf⟩ := choose_lt (α := α) (n := len) (p := fun i v => ∃ cs', w.cells? base (a.add (i * P.cellsOf e)) (P.cellsOf e) = some cs' ∧ d.K w v cs' ∧ wf v) (fun i hi => by
      obtain ⟨cs', h1, h2⟩ := hel i (by omega)
      obtain ⟨v, hk, hw⟩ := h h2
      exact ⟨v, cs', h1, hk, hw⟩)
    refine ⟨(List.range len).map f, ⟨some a, cap, by simp, by simpa using hl, by simp, by simp only [maxLen] at hm; simp; omega, fun _ => ⟨a, rfl, fun j p hj => ?_⟩⟩, ?_⟩
    · have hjl : j < len := by
        have := (List.getElem?_eq_some_iff.1 hj).1
        simpa using this
      have hp : p = f j := by simpa [hjl] using hj.symm
      subst hp
      obtain ⟨cs', h1, hk, _⟩ := hf j hjl
      obtain ⟨_, hlen, hcell⟩ := World.cells?_some h1
      refine ⟨cs', by rw [hlen, hc], hk, fun i u hu => ?_⟩
      have hi : i < cs'.length := (List.getElem?_eq_some_iff.1 hu).1
      have h2 := hcell i (by omega)
      rw [Go.Deep.add_add] at h2
      rw [← hc, h2, hu]
    · intro y hy
      obtain ⟨j, hj, rfl⟩ := List.mem_map.1 hy
      obtain ⟨_, _, _, hw⟩ := hf j (List.mem_range.1 hj)
      exact hw
end Go.Proofs.Ytamjnninbdnjhaa.Op
