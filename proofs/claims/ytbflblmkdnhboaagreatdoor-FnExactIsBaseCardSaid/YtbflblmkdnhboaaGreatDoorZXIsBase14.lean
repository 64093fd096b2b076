/- What the law needs of the program's functions as plain functions, of the proofs that their calls answer so, and of plain laws: gathered by a program of this place (pack.py) out of its printed texts. No condition beyond what each statement says. -/
import Derived.Shelf.Slices.CompactI
import Derived.Shelf.SlSortCmp.Insertion1
import Derived.Shelf.SlSortCmp.Whole1
import Derived.Shelf.SlSortCmp.NoneTotal
import Derived.Test.YtbflblmkdnhboaaGreatDoorProg
import Derived.Test.YtbflblmkdnhboaaGreatDoorZXIsBase4
import Derived.Test.YtbflblmkdnhboaaGreatDoorZXIsBase13
import Derived.Test.YtbflblmkdnhboaaGreatDoorZXIsBase5
import Derived.Test.YtbflblmkdnhboaaGreatDoorZXIsBase3
import Derived.Test.YtbflblmkdnhboaaGreatDoorZXIsBase8
import Derived.Test.YtbflblmkdnhboaaGreatDoorZXIsBase7
import Derived.Test.YtbflblmkdnhboaaGreatDoorZXIsBase1
import Derived.Deep.Slices
import Derived.WideShapes
import Derived.ProofKit
import Derived.SizedLaws
namespace Go.Proofs
open Go.Shelf
def Tryz.laysNm220_ren : Go.Shelf.Ren := ⟨fun | 20 => 89 | n => n, fun | 22 => 22 | 3 => 3 | 4 => 4 | 0 => 0 | n => n, fun | n => n⟩
theorem Tryz.laysNm220 : Go.Proofs.Lays2.n20 Tryz.prog Tryz.laysNm220_ren := {
  mixed := by kernel_rfl
  f20 := Tryz.func89.trans (congrArg some (by kernel_rfl))
  t0 := Tryz.underlying0
  a0 := Tryz.isAgg0
  z0 := Tryz.sizeOf0
  v0 := Tryz.zeroValue0
  t3 := Tryz.underlying3
  a3 := Tryz.isAgg3
  z3 := Tryz.sizeOf3
  v3 := Tryz.zeroValue3
  t4 := Tryz.underlying4
  a4 := Tryz.isAgg4
  z4 := Tryz.sizeOf4
  v4 := Tryz.zeroValue4
  t22 := Tryz.underlying22
  a22 := Tryz.isAgg22
  z22 := Tryz.sizeOf22
  v22 := Tryz.zeroValue22
  i3 := by kernel_rfl }
open Go.RowKit Go.Lib Go.Sort in
/-- slices.Compact at []int: "Compact replaces consecutive runs of equal elements with a single copy. This is like the uniq command found on Unix. Compact modifies the contents of the slice s and returns the modified slice, which may have a smaller length. Compact zeroes the elements between the new length and the original length. The result preserves the nilness of s.": IT RETURNS THE SLICE CUT TO 'Lib.compact zs'; ITS CELLS HOLD 'Lib.compact zs', THEN ZERO VALUES up to the old length; all else is as it was, but for the count of draws. IN THE WORDS OF slices.Sort's CONTRACT ('Holds', 'putRow'): so the everyday 'slices.Sort(xs); xs = slices.Compact(xs)' goes from the one contract to the other. It asks 'zs.length ≤ cap' (every slice's: the reslicing 's[:k]' looks at it). Length 0, nil: '.._empty'. (LAID: no walk: one application.) -/
theorem Tryz.slices_Compact_int (blk off cap : Nat) (zs : List Int) (w : World) (hH : Holds (Value.int .i64) w blk off zs.toArray) (hsz : zs.length ≤ 9223372036854775807) (hcap : zs.length ≤ cap) :
    Calls Tryz.prog 89 #[.slice (some ⟨blk, off, none⟩) zs.length cap] w fun e w' => e = .returned (.slice (some ⟨blk, off, none⟩) (Lib.compact zs).length cap) ∧ ∃ q, w' = putRow (Value.int .i64) (Sort.ahead w q) blk off (Lib.compact zs ++ List.replicate (zs.length - (Lib.compact zs).length) 0).toArray := Any.slices_Compact_int Tryz.laysNm220 blk off cap zs w hH hsz hcap
open Go.RowKit Go.Lib Go.Sort in
/-- The same at a slice of length 0, a nil one too: it comes back as it is. (LAID: no walk: one application.) -/
theorem Tryz.slices_Compact_int_empty (a : Option Addr) (cap : Nat) (w : World) :
    Calls Tryz.prog 89 #[.slice a 0 cap] w fun e w' => e = .returned (.slice a 0 cap) ∧ w' = w := Any.slices_Compact_int_empty Tryz.laysNm220 a cap w
def Tryz.laysSlF20_f91_ren : Go.Shelf.Ren := ⟨fun | 20 => 91 | n => n, fun | 24 => 3 | 22 => 22 | 3 => 3 | 25 => 72 | 4 => 4 | 0 => 0 | n => n, fun | n => n⟩
theorem Tryz.laysSlF20_f91 : Go.Proofs.SlLaysF.n20 Tryz.prog Tryz.laysSlF20_f91_ren := {
  mixed := by kernel_rfl
  f20 := ⟨Tryz.f91.name, by decide, Tryz.func91.trans (congrArg some (by kernel_rfl))⟩
  t0 := Tryz.underlying0
  a0 := Tryz.isAgg0
  z0 := Tryz.sizeOf0
  v0 := Tryz.zeroValue0
  t3 := Tryz.underlying3
  a3 := Tryz.isAgg3
  z3 := Tryz.sizeOf3
  v3 := Tryz.zeroValue3
  t4 := Tryz.underlying4
  a4 := Tryz.isAgg4
  z4 := Tryz.sizeOf4
  v4 := Tryz.zeroValue4
  t22 := Tryz.underlying22
  a22 := Tryz.isAgg22
  z22 := Tryz.sizeOf22
  v22 := Tryz.zeroValue22
  a24 := Tryz.isAgg3
  z24 := Tryz.sizeOf3
  t25 := Tryz.underlying72
  a25 := Tryz.isAgg72
  z25 := Tryz.sizeOf72
  v25 := Tryz.zeroValue72 }
open Go.RowKit Go.Lib Go.Sort in
/-- slices.insertionSortCmpFunc at elements of one cell: from a world of the sort's to a world of the sort's. (LAID AT THE INSTANCE 'slices.insertionSortCmpFunc[int]': no walk: one application.) -/
theorem Tryz.insertionSortCmpFunc_s {α : Type} [Inhabited α] (enc : α → Value) (cf : α → α → Int) (g : Nat) (cb : Array Value) (blk off cap a b : Nat) (d0 d : Array α) (w0 w : World) (eg : ∀ args w, (callFunc g args).run Tryz.prog w = .ok (.enter g args) w) (hcmp : CmpLays1 Tryz.prog g cb enc cf blk off d0.size w0) (R : Row1 enc w0 blk off d0) (hs : d0.size = d.size) (S : SW enc w0 blk off d w) (hab : a ≤ b) (hb : b ≤ d.size) (hsz : d.size < 4611686018427387904) :
    Calls Tryz.prog 91 #[.slice (some ⟨blk, off, none⟩) d.size cap, .int .i64 a, .int .i64 b, .func (.func g) #[] cb] w fun e w' => e = .returned (.tuple #[]) ∧ SW enc w0 blk off (Sort.insertionSort (ltOf cf) d a b) w' := Any.insertionSortCmpFunc_s Tryz.laysSlF20_f91 enc cf g cb blk off cap a b d0 d w0 w eg hcmp R hs S hab hb hsz
def Tryz.laysSlF6_f86_ren : Go.Shelf.Ren := ⟨fun | 6 => 86 | 15 => 96 | 14 => 95 | 28 => 106 | 29 => 107 | 20 => 91 | 21 => 99 | 22 => 100 | 23 => 101 | 24 => 102 | 25 => 103 | 26 => 104 | 27 => 105 | 46 => 111 | 47 => 112 | 48 => 113 | 49 => 114 | 50 => 115 | 57 => 116 | n => n, fun | 22 => 22 | 24 => 3 | 25 => 72 | 3 => 3 | 39 => 63 | 0 => 0 | 53 => 78 | 55 => 80 | 4 => 4 | 46 => 82 | 45 => 81 | 50 => 86 | 5 => 5 | 9 => 9 | 66 => 88 | 70 => 92 | 76 => 96 | 77 => 97 | n => n, fun | n => n⟩
theorem Tryz.laysSlF6_f86 : Go.Proofs.SlLaysF.n6 Tryz.prog Tryz.laysSlF6_f86_ren := {
  mixed := by kernel_rfl
  f6 := ⟨Tryz.f86.name, by decide, Tryz.func86.trans (congrArg some (by kernel_rfl))⟩
  f14 := ⟨Tryz.f95.name, by decide, Tryz.func95.trans (congrArg some (by kernel_rfl))⟩
  f15 := Tryz.func96.trans (congrArg some (by kernel_rfl))
  f20 := ⟨Tryz.f91.name, by decide, Tryz.func91.trans (congrArg some (by kernel_rfl))⟩
  f21 := ⟨Tryz.f99.name, by decide, Tryz.func99.trans (congrArg some (by kernel_rfl))⟩
  f22 := ⟨Tryz.f100.name, by decide, Tryz.func100.trans (congrArg some (by kernel_rfl))⟩
  f23 := ⟨Tryz.f101.name, by decide, Tryz.func101.trans (congrArg some (by kernel_rfl))⟩
  f24 := ⟨Tryz.f102.name, by decide, Tryz.func102.trans (congrArg some (by kernel_rfl))⟩
  f25 := ⟨Tryz.f103.name, by decide, Tryz.func103.trans (congrArg some (by kernel_rfl))⟩
  f26 := ⟨Tryz.f104.name, by decide, Tryz.func104.trans (congrArg some (by kernel_rfl))⟩
  f27 := ⟨Tryz.f105.name, by decide, Tryz.func105.trans (congrArg some (by kernel_rfl))⟩
  f28 := Tryz.func106.trans (congrArg some (by kernel_rfl))
  f29 := Tryz.func107.trans (congrArg some (by kernel_rfl))
  f46 := ⟨Tryz.f111.name, by decide, Tryz.func111.trans (congrArg some (by kernel_rfl))⟩
  f47 := Tryz.func112.trans (congrArg some (by kernel_rfl))
  f48 := Tryz.func113.trans (congrArg some (by kernel_rfl))
  f49 := ⟨Tryz.f114.name, by decide, Tryz.func114.trans (congrArg some (by kernel_rfl))⟩
  f50 := ⟨Tryz.f115.name, by decide, Tryz.func115.trans (congrArg some (by kernel_rfl))⟩
  f57 := ⟨Tryz.f116.name, by decide, Tryz.func116.trans (congrArg some (by kernel_rfl))⟩
  t0 := Tryz.underlying0
  a0 := Tryz.isAgg0
  z0 := Tryz.sizeOf0
  v0 := Tryz.zeroValue0
  t3 := Tryz.underlying3
  a3 := Tryz.isAgg3
  z3 := Tryz.sizeOf3
  v3 := Tryz.zeroValue3
  t4 := Tryz.underlying4
  a4 := Tryz.isAgg4
  z4 := Tryz.sizeOf4
  v4 := Tryz.zeroValue4
  t5 := Tryz.underlying5
  a5 := Tryz.isAgg5
  z5 := Tryz.sizeOf5
  v5 := Tryz.zeroValue5
  t9 := Tryz.underlying9
  a9 := Tryz.isAgg9
  z9 := Tryz.sizeOf9
  v9 := Tryz.zeroValue9
  t22 := Tryz.underlying22
  a22 := Tryz.isAgg22
  z22 := Tryz.sizeOf22
  v22 := Tryz.zeroValue22
  a24 := Tryz.isAgg3
  z24 := Tryz.sizeOf3
  t25 := Tryz.underlying72
  a25 := Tryz.isAgg72
  z25 := Tryz.sizeOf72
  v25 := Tryz.zeroValue72
  t39 := Tryz.underlying63
  a39 := Tryz.isAgg63
  z39 := Tryz.sizeOf63
  v39 := Tryz.zeroValue63
  t45 := Tryz.underlying81
  a45 := Tryz.isAgg81
  z45 := Tryz.sizeOf81
  v45 := Tryz.zeroValue81
  t46 := Tryz.underlying82
  a46 := Tryz.isAgg82
  z46 := Tryz.sizeOf82
  v46 := Tryz.zeroValue82
  t50 := Tryz.underlying86
  a50 := Tryz.isAgg86
  z50 := Tryz.sizeOf86
  v50 := Tryz.zeroValue86
  t53 := Tryz.underlying78
  a53 := Tryz.isAgg78
  z53 := Tryz.sizeOf78
  v53 := Tryz.zeroValue78
  t55 := Tryz.underlying80
  a55 := Tryz.isAgg80
  z55 := Tryz.sizeOf80
  v55 := Tryz.zeroValue80
  t66 := Tryz.underlying88
  a66 := Tryz.isAgg88
  z66 := Tryz.sizeOf88
  v66 := Tryz.zeroValue88
  t70 := Tryz.underlying92
  a70 := Tryz.isAgg92
  z70 := Tryz.sizeOf92
  v70 := Tryz.zeroValue92
  t76 := Tryz.underlying96
  a76 := Tryz.isAgg96
  z76 := Tryz.sizeOf96
  v76 := Tryz.zeroValue96
  t77 := Tryz.underlying97
  a77 := Tryz.isAgg97
  z77 := Tryz.sizeOf97
  v77 := Tryz.zeroValue97 }
open Go.RowKit Go.Lib Go.Sort in
/-- **slices.SortFunc, IN THE DOCUMENTATION's OWN TERMS: A PERMUTATION OF WHAT THE ROW HELD, SORTED BY 'cmp(a, b) < 0'.** Which of two equals comes first is left open ("The sort is not guaranteed to be stable"). (LAID AT THE INSTANCE 'slices.SortFunc[[]int,int]': no walk: one application.) -/
theorem Tryz.slices_SortFunc {α : Type} [Inhabited α] (enc : α → Value) (h1 : OneCell enc) (cf : α → α → Int) (hO : SWO (ltOf cf)) (g : Nat) (cb : Array Value) (blk off cap : Nat) (d : Array α) (w : World) (eg : ∀ args w, (callFunc g args).run Tryz.prog w = .ok (.enter g args) w) (hcmp : CmpLays1 Tryz.prog g cb enc cf blk off d.size w) (hH : Holds enc w blk off d) (hblk : blk < w.heap.size) (hsz : d.size < 4611686018427387904) :
    Calls Tryz.prog 86 #[.slice (some ⟨blk, off, none⟩) d.size cap, .func (.func g) #[] cb] w fun e w' =>
      e = .returned (.tuple #[]) ∧ ∃ d' n os, PermIn 0 d.size d d' ∧ SortedIn (ltOf cf) 0 d.size d' ∧ w' = sortWorld enc w blk off n d' os := Any.slices_SortFunc Tryz.laysSlF6_f86 enc h1 cf hO g cb blk off cap d w eg hcmp hH hblk hsz
def Tryz.laysSlF06_f86_ren : Go.Shelf.Ren := ⟨fun | 6 => 86 | 15 => 96 | 14 => 95 | 28 => 106 | 29 => 107 | 20 => 91 | 21 => 99 | 22 => 100 | 23 => 101 | 24 => 102 | 25 => 103 | 26 => 104 | 27 => 105 | 46 => 111 | 47 => 112 | 48 => 113 | 49 => 114 | 50 => 115 | 57 => 116 | n => n, fun | 22 => 22 | 24 => 3 | 25 => 72 | 3 => 3 | 39 => 63 | 0 => 0 | 53 => 78 | 55 => 80 | 4 => 4 | 46 => 82 | 45 => 81 | 50 => 86 | 5 => 5 | 9 => 9 | 66 => 88 | 70 => 92 | 76 => 96 | 77 => 97 | n => n, fun | n => n⟩
theorem Tryz.laysSlF06_f86 : Go.Proofs.SlLaysF0.n6 Tryz.prog Tryz.laysSlF06_f86_ren := {
  mixed := by kernel_rfl
  f6 := ⟨Tryz.f86.name, by decide, Tryz.func86.trans (congrArg some (by kernel_rfl))⟩
  f14 := ⟨Tryz.f95.name, by decide, Tryz.func95.trans (congrArg some (by kernel_rfl))⟩
  f15 := Tryz.func96.trans (congrArg some (by kernel_rfl))
  f20 := ⟨Tryz.f91.name, by decide, Tryz.func91.trans (congrArg some (by kernel_rfl))⟩
  f21 := ⟨Tryz.f99.name, by decide, Tryz.func99.trans (congrArg some (by kernel_rfl))⟩
  f22 := ⟨Tryz.f100.name, by decide, Tryz.func100.trans (congrArg some (by kernel_rfl))⟩
  f23 := ⟨Tryz.f101.name, by decide, Tryz.func101.trans (congrArg some (by kernel_rfl))⟩
  f24 := ⟨Tryz.f102.name, by decide, Tryz.func102.trans (congrArg some (by kernel_rfl))⟩
  f25 := ⟨Tryz.f103.name, by decide, Tryz.func103.trans (congrArg some (by kernel_rfl))⟩
  f26 := ⟨Tryz.f104.name, by decide, Tryz.func104.trans (congrArg some (by kernel_rfl))⟩
  f27 := ⟨Tryz.f105.name, by decide, Tryz.func105.trans (congrArg some (by kernel_rfl))⟩
  f28 := Tryz.func106.trans (congrArg some (by kernel_rfl))
  f29 := Tryz.func107.trans (congrArg some (by kernel_rfl))
  f46 := ⟨Tryz.f111.name, by decide, Tryz.func111.trans (congrArg some (by kernel_rfl))⟩
  f47 := Tryz.func112.trans (congrArg some (by kernel_rfl))
  f48 := Tryz.func113.trans (congrArg some (by kernel_rfl))
  f49 := ⟨Tryz.f114.name, by decide, Tryz.func114.trans (congrArg some (by kernel_rfl))⟩
  f50 := ⟨Tryz.f115.name, by decide, Tryz.func115.trans (congrArg some (by kernel_rfl))⟩
  f57 := ⟨Tryz.f116.name, by decide, Tryz.func116.trans (congrArg some (by kernel_rfl))⟩
  t0 := Tryz.underlying0
  a0 := Tryz.isAgg0
  z0 := Tryz.sizeOf0
  v0 := Tryz.zeroValue0
  t3 := Tryz.underlying3
  a3 := Tryz.isAgg3
  z3 := Tryz.sizeOf3
  v3 := Tryz.zeroValue3
  t4 := Tryz.underlying4
  a4 := Tryz.isAgg4
  z4 := Tryz.sizeOf4
  v4 := Tryz.zeroValue4
  t5 := Tryz.underlying5
  a5 := Tryz.isAgg5
  z5 := Tryz.sizeOf5
  v5 := Tryz.zeroValue5
  t9 := Tryz.underlying9
  a9 := Tryz.isAgg9
  z9 := Tryz.sizeOf9
  v9 := Tryz.zeroValue9
  t22 := Tryz.underlying22
  a22 := Tryz.isAgg22
  z22 := Tryz.sizeOf22
  v22 := Tryz.zeroValue22
  t25 := Tryz.underlying72
  a25 := Tryz.isAgg72
  z25 := Tryz.sizeOf72
  v25 := Tryz.zeroValue72
  t39 := Tryz.underlying63
  a39 := Tryz.isAgg63
  z39 := Tryz.sizeOf63
  v39 := Tryz.zeroValue63
  t45 := Tryz.underlying81
  a45 := Tryz.isAgg81
  z45 := Tryz.sizeOf81
  v45 := Tryz.zeroValue81
  t46 := Tryz.underlying82
  a46 := Tryz.isAgg82
  z46 := Tryz.sizeOf82
  v46 := Tryz.zeroValue82
  t50 := Tryz.underlying86
  a50 := Tryz.isAgg86
  z50 := Tryz.sizeOf86
  v50 := Tryz.zeroValue86
  t53 := Tryz.underlying78
  a53 := Tryz.isAgg78
  z53 := Tryz.sizeOf78
  v53 := Tryz.zeroValue78
  t55 := Tryz.underlying80
  a55 := Tryz.isAgg80
  z55 := Tryz.sizeOf80
  v55 := Tryz.zeroValue80
  t66 := Tryz.underlying88
  a66 := Tryz.isAgg88
  z66 := Tryz.sizeOf88
  v66 := Tryz.zeroValue88
  t70 := Tryz.underlying92
  a70 := Tryz.isAgg92
  z70 := Tryz.sizeOf92
  v70 := Tryz.zeroValue92
  t76 := Tryz.underlying96
  a76 := Tryz.isAgg96
  z76 := Tryz.sizeOf96
  v76 := Tryz.zeroValue96
  t77 := Tryz.underlying97
  a77 := Tryz.isAgg97
  z77 := Tryz.sizeOf97
  v77 := Tryz.zeroValue97 }
open Go.RowKit Go.Lib Go.Sort in
/-- **slices.SortFunc AT NO ELEMENT, A nil SLICE TOO: nothing turns.** (LAID AT THE INSTANCE 'slices.SortFunc[[]int,int]': no walk: one application.) -/
theorem Tryz.slices_SortFunc_none {α : Type} [Inhabited α] (p : Option Addr) (cap : Nat) (fv : Value) (w : World) :
    Calls Tryz.prog 86 #[.slice p 0 cap, fv] w fun e w' => e = .returned (.tuple #[]) ∧ w' = w := AnyF.slices_SortFunc_none Tryz.laysSlF06_f86 p cap fv w
end Go.Proofs
namespace Go.Proofs.YtbflblmkdnhboaaGreatDoor.Pu
open Go.RowKit Go.Proofs.YtbflblmkdnhboaaGreatDoorW.PrintWords Go.Proofs.YtbflblmkdnhboaaGreatDoorW.PrintLast Go.Proofs.YtbflblmkdnhboaaGreatDoorW.PrintMore Go.Proofs.YtbflblmkdnhboaaGreatDoor.Pr
theorem l2In_loop (l : List Int) (hl : l.length ≤ 9223372036854775807) (x : Int) : ∀ (rest : List Int) (i : Nat), l.drop i = rest → Ev (fun k => spec_l2In.l0 k l x (i : Int)) (decide (x ∈ rest)) := by
  intro rest
  induction rest with
  | nil =>
    intro i h
    have := drop_nil h
    refine Ev.step (f := fun _ => some false) (fun k => ?_) ?_
    · simp only [spec_l2In.l0]
      rw [if_neg (by omega)]
    · rw [decide_eq_false (by simp)]; exact Ev.now _
  | cons y rest ih =>
    intro i h
    obtain ⟨hi, hx, hd⟩ := drop_cons (d := 0) h
    by_cases e : y = x
    · refine Ev.step (f := fun _ => some true) (fun k => ?_) ?_
      · simp only [spec_l2In.l0]
        rw [if_pos (by omega), if_pos (by omega), rd_nat, hx, if_pos e]
      · rw [decide_eq_true (by rw [e]; simp)]; exact Ev.now _
    · refine Ev.step (f := fun k => spec_l2In.l0 k l x ((i + 1 : Nat) : Int)) (fun k => ?_) ?_
      · simp only [spec_l2In.l0]
        rw [if_pos (by omega), if_pos (by omega), rd_nat, hx, if_neg e, wrap_succ hi hl]
      · rw [show decide (x ∈ y :: rest) = decide (x ∈ rest) from decide_eq_decide.2 (by rw [List.mem_cons]; exact ⟨fun h => h.resolve_left fun h => e h.symm, Or.inr⟩)]
        exact ih (i + 1) hd
theorem l2In_val (l : List Int) (hl : l.length ≤ 9223372036854775807) (x : Int) : Ev (fun k => spec_l2In.f k l x) (decide (x ∈ l)) := l2In_loop l hl x l 0 rfl
end Go.Proofs.YtbflblmkdnhboaaGreatDoor.Pu
namespace Go.Proofs.YtbflblmkdnhboaaGreatDoor.Pu
def full (n : Nat) : Nat := 2 ^ n - 1
theorem testBit_full (n i : Nat) : (full n).testBit i = decide (i < n) := Nat.testBit_two_pow_sub_one ..
theorem full_lt (n : Nat) : full n < 2 ^ n := by unfold full; have := Nat.two_pow_pos n; omega
def row (rows : List Nat) (g : Nat) : Nat := rows.getD g 0
def col (rows : List Nat) (m : Nat) : Nat := ofBits (fun g => (row rows g).testBit m) rows.length
def ext (rows : List Nat) (a : Nat) : Nat := ofBits (fun g => sub a (row rows g)) rows.length
def int (n : Nat) (rows : List Nat) (o : Nat) : Nat := ofBits (fun m => (List.range rows.length).all fun g => !o.testBit g || (row rows g).testBit m) n
def cl (n : Nat) (rows : List Nat) (a : Nat) : Nat := int n rows (ext rows a)
theorem testBit_ext {rows : List Nat} {a g : Nat} : (ext rows a).testBit g = (decide (g < rows.length) && sub a (row rows g)) := testBit_ofBits ..
theorem testBit_int {n : Nat} {rows : List Nat} {o m : Nat} : (int n rows o).testBit m = true ↔ m < n ∧ ∀ g, g < rows.length → o.testBit g = true → (row rows g).testBit m = true := by
  unfold int
  rw [testBit_ofBits, Bool.and_eq_true, decide_eq_true_iff, List.all_eq_true]
  constructor
  · rintro ⟨h1, h2⟩
    refine ⟨h1, fun g hg ho => ?_⟩
    have := h2 g (List.mem_range.2 hg)
    rw [ho] at this
    simpa using this
  · rintro ⟨h1, h2⟩
    refine ⟨h1, fun g hg => ?_⟩
    cases ho : o.testBit g with
    | false => rfl
    | true => simp [h2 g (List.mem_range.1 hg) ho]
theorem cl_lt (n : Nat) (rows : List Nat) (a : Nat) : cl n rows a < 2 ^ n := ofBits_lt ..
end Go.Proofs.YtbflblmkdnhboaaGreatDoor.Pu
namespace Go.Proofs.YtbflblmkdnhboaaGreatDoor.Pu
open Go.RowKit Go.Proofs.YtbflblmkdnhboaaGreatDoorW.PrintWords Go.Proofs.YtbflblmkdnhboaaGreatDoorW.PrintLast Go.Proofs.YtbflblmkdnhboaaGreatDoorW.PrintMore Go.Proofs.YtbflblmkdnhboaaGreatDoor.Pr
theorem befVN {s t : Nat} (hs : s < 256) (ht : t < 256) : befV (s : Int) (t : Int) = bef s t := by
  unfold befV isAny
  rw [decide_eq_true (show 0 ≤ (s : Int) ∧ (s : Int) < 256 by omega), decide_eq_true (show 0 ≤ (t : Int) ∧ (t : Int) < 256 by omega), Int.toNat_natCast, Int.toNat_natCast]
  rfl
theorem memCast {R : List Nat} {x : Nat} : ((x : Int) ∈ cast R) ↔ x ∈ R := by
  unfold cast
  rw [List.mem_map]
  constructor
  · rintro ⟨y, hy, e⟩
    obtain rfl : y = x := by omega
    exact hy
  · exact fun h => ⟨x, h, rfl⟩
theorem castApp (a b : List Nat) : cast a ++ cast b = cast (a ++ b) := by unfold cast; rw [List.map_append]
theorem castOne (a : List Nat) (x : Nat) : cast a ++ [(x : Int)] = cast (a ++ [x]) := by unfold cast; rw [List.map_append]; rfl
theorem castTake (a : List Nat) (i : Nat) : (cast a).take i = cast (a.take i) := by unfold cast; rw [List.map_take]
theorem castDrop (a : List Nat) (i : Nat) : (cast a).drop i = cast (a.drop i) := by unfold cast; rw [List.map_drop]
theorem rdCast (R : List Nat) (i : Nat) : rd (cast R) (i : Int) = ((R.getD i 0 : Nat) : Int) := rd_cast R i
theorem tw (p : Nat → Bool) : ∀ o : List Nat, (o.takeWhile p).length ≤ o.length ∧ (∀ i, i < (o.takeWhile p).length → p (o.getD i 0) = true) ∧ ((o.takeWhile p).length < o.length → p (o.getD (o.takeWhile p).length 0) = false) ∧ o.takeWhile p = o.take (o.takeWhile p).length ∧ o.dropWhile p = o.drop (o.takeWhile p).length
  | [] => by simp
  | x :: o => by
    obtain ⟨h1, h2, h3, h4, h5⟩ := tw p o
    cases hx : p x with
    | true =>
      have e1 : (x :: o).takeWhile p = x :: o.takeWhile p := by rw [List.takeWhile_cons, hx]; rfl
      have e2 : (x :: o).dropWhile p = o.dropWhile p := by rw [List.dropWhile_cons, hx]; rfl
      rw [e1, e2, List.length_cons, List.length_cons]
      refine ⟨by omega, fun i hi => ?_, fun h => ?_, ?_, ?_⟩
      · cases i with
        | zero => exact hx
        | succ i => exact h2 i (by omega)
      · exact h3 (by omega)
      · rw [List.take_succ_cons, ← h4]
      · rw [List.drop_succ_cons, ← h5]
    | false =>
      have e1 : (x :: o).takeWhile p = [] := by rw [List.takeWhile_cons, hx]; rfl
      have e2 : (x :: o).dropWhile p = x :: o := by rw [List.dropWhile_cons, hx]; rfl
      rw [e1, e2]
      refine ⟨by simp, fun i hi => by simp at hi, fun _ => hx, by simp, by simp⟩
theorem insL_at (o : List Nat) (x : Nat) (h : x ∉ o) : insL o x = o.take (o.takeWhile fun y => bef y x).length ++ x :: o.drop (o.takeWhile fun y => bef y x).length := by
  obtain ⟨_, _, _, h4, h5⟩ := tw (fun y => bef y x) o
  unfold insL
  rw [if_neg h]
  exact (congrArg (fun a => a ++ x :: o.dropWhile fun y => bef y x) h4).trans (congrArg (fun b => o.take (o.takeWhile fun y => bef y x).length ++ x :: b) h5)
theorem insL_len (o : List Nat) (x : Nat) : (insL o x).length ≤ o.length + 1 := by
  by_cases h : x ∈ o
  · unfold insL; rw [if_pos h]; omega
  · rw [insL_at o x h]
    have := (tw (fun y => bef y x) o).1
    rw [List.length_append, List.length_cons, List.length_take, List.length_drop]
    omega
theorem sortS_inner {R : List Nat} {o : List Nat} (hR : ∀ x ∈ R, x < 256) (ho : ∀ x ∈ o, x < 256) (hol : o.length ≤ 1048576) (hRl : R.length ≤ 1048576) {j : Nat} (hj : j < R.length) (hx : R.getD j 0 ∉ o) {res : List Int}
    (hres : Ev (fun k => spec_SortLectic.l0 k (cast R) (cast (insL o (R.getD j 0))) ((j + 1 : Nat) : Int)) res) :
    ∀ (d i : Nat), i + d = (o.takeWhile fun y => bef y (R.getD j 0)).length → Ev (fun k => spec_SortLectic.l1 k (cast R) (cast o) (j : Int) (i : Int)) res := by
  have hxR : R.getD j 0 < 256 := by
    rw [List.getD_eq_getElem?_getD, List.getElem?_eq_getElem hj]
    exact hR _ (List.getElem_mem _)
  have hoi : ∀ i, i < o.length → o.getD i 0 < 256 := fun i hi => by
    rw [List.getD_eq_getElem?_getD, List.getElem?_eq_getElem hi]
    exact ho _ (List.getElem_mem _)
  obtain ⟨t1, t2, t3, _, _⟩ := tw (fun y => bef y (R.getD j 0)) o
  intro d
  induction d with
  | zero =>
    intro i hi
    rw [Nat.add_zero] at hi
    rw [insL_at o _ hx, ← hi] at hres
    refine Ev.step (fun k => ?_) hres
    have e1 : wrap64 ((j : Int) + 1) = ((j + 1 : Nat) : Int) := by unfold wrap64; omega
    have hlen : (cast o).length = o.length := cast_length o
    have hlenR : (cast R).length = R.length := cast_length R
    have hins : cast (o.take i) ++ [((R.getD j 0 : Nat) : Int)] ++ cast (o.drop i) = cast (o.take i ++ R.getD j 0 :: o.drop i) := by
      rw [castOne, castApp, List.append_assoc]; rfl
    simp only [spec_SortLectic.l1]
    by_cases hlt : i < o.length
    · rw [if_pos (by rw [hlen]; omega), if_pos (by omega), if_pos (by omega), if_pos (by rw [hlenR]; omega), rdCast, rdCast, befS_val, befVN (hoi i hlt) hxR, Option.bind_some, if_neg (by rw [hi]; rw [hi] at hlt; rw [t3 hlt]; decide), Option.bind_some, if_pos (by rw [hlen]; omega), Option.bind_some, Int.toNat_natCast,
        if_pos (by rw [List.length_nil, List.length_drop, hlen]; omega), Option.bind_some, Option.bind_some, if_pos (by rw [List.length_take, hlen]; omega), Option.bind_some,
        if_pos (by rw [List.length_append, List.length_append, List.length_take, List.length_drop, List.length_nil, List.length_singleton, hlen]; omega), List.nil_append, castTake, castDrop, hins, e1]
    · rw [if_neg (by rw [hlen]; omega), Option.bind_some, if_pos (by omega), if_pos (by rw [hlen]; omega), Option.bind_some, Int.toNat_natCast,
        if_pos (by rw [List.length_nil, List.length_drop, hlen]; omega), Option.bind_some, Option.bind_some, if_pos (by omega), if_pos (by rw [hlenR]; omega), if_pos (by rw [List.length_take, hlen]; omega), rdCast, Option.bind_some,
        if_pos (by rw [List.length_append, List.length_append, List.length_take, List.length_drop, List.length_nil, List.length_singleton, hlen]; omega), List.nil_append, castTake, castDrop, hins, e1]
  | succ d ih =>
    intro i hi
    refine Ev.step (fun k => ?_) (ih (i + 1) (by omega))
    have hlt : i < o.length := by omega
    simp only [spec_SortLectic.l1]
    rw [if_pos (by rw [cast_length]; omega), if_pos (by omega), if_pos (by omega), if_pos (by rw [cast_length]; omega), rdCast, rdCast, befS_val, befVN (hoi i hlt) hxR, Option.bind_some, if_pos (t2 i (by omega)), show wrap64 ((i : Int) + 1) = ((i + 1 : Nat) : Int) from by unfold wrap64; omega]
theorem insL_mem_lt {o : List Nat} {x : Nat} (ho : ∀ y ∈ o, y < 256) (hx : x < 256) : ∀ y ∈ insL o x, y < 256 := fun y hy => by
  rcases mem_insL.1 hy with rfl | h
  · exact hx
  · exact ho y h
theorem sortS_loop {R : List Nat} (hR : ∀ x ∈ R, x < 256) (hRl : R.length ≤ 1048576) : ∀ (rest : List Nat) (j : Nat) (o : List Nat), R.drop j = rest → (∀ x ∈ o, x < 256) → o.length ≤ j → Ev (fun k => spec_SortLectic.l0 k (cast R) (cast o) (j : Int)) (cast (rest.foldl insL o)) := by
  intro rest
  induction rest with
  | nil =>
    intro j o h ho hol
    have := drop_nil h
    refine Ev.step (f := fun _ => some (cast o)) (fun k => ?_) (Ev.now _)
    simp only [spec_SortLectic.l0]
    rw [if_neg (by rw [cast_length]; omega)]
  | cons x rest ih =>
    intro j o h ho hol
    obtain ⟨hj, hx, hd⟩ := drop_cons (d := 0) h
    have hx256 : x < 256 := by
      rw [← hx, List.getD_eq_getElem?_getD, List.getElem?_eq_getElem hj]
      exact hR _ (List.getElem_mem _)
    have hnext := ih (j + 1) (insL o x) hd (insL_mem_lt ho hx256) (by have := insL_len o x; omega)
    rw [List.foldl_cons]
    refine Ev.step (f := fun k => (spec_l2In.f k (cast o) (x : Int)).bind fun t255 => (if t255 = true then (spec_SortLectic.l0 k (cast R) (cast o) ((j + 1 : Nat) : Int)) else (spec_SortLectic.l1 k (cast R) (cast o) (j : Int) 0))) (fun k => ?_) ?_
    · simp only [spec_SortLectic.l0]
      rw [if_pos (by rw [cast_length]; omega), if_pos (by omega), rdCast, hx, show wrap64 ((j : Int) + 1) = ((j + 1 : Nat) : Int) from by unfold wrap64; omega]
    · refine Ev.bind (l2In_val (cast o) (by rw [cast_length]; omega) (x : Int)) ?_
      by_cases hm : x ∈ o
      · refine Ev.congr (fun k => by rw [if_pos (decide_eq_true (memCast.2 hm))]) ?_
        have e : insL o x = o := by unfold insL; rw [if_pos hm]
        rw [e] at hnext ⊢
        exact hnext
      · refine Ev.congr (fun k => by rw [if_neg (by rw [decide_eq_true_iff]; exact fun h => hm (memCast.1 h))]) ?_
        refine sortS_inner hR ho (by omega) hRl hj (by rw [hx]; exact hm) (by rw [hx]; exact hnext) _ 0 (by rw [Nat.zero_add])
theorem setsN_loop (l : List Int) (hl : l.length ≤ 1048576) : ∀ (rest : List Int) (i : Nat), l.drop i = rest → Ev (fun k => spec_l2Sets.l0 k l (i : Int)) (rest.all isAny) := by
  intro rest
  induction rest with
  | nil =>
    intro i h
    have := drop_nil h
    refine Ev.step (f := fun _ => some true) (fun k => ?_) (Ev.now _)
    simp only [spec_l2Sets.l0]
    rw [if_neg (by omega)]
  | cons x rest ih =>
    intro i h
    obtain ⟨hi, hx, hd⟩ := drop_cons (d := 0) h
    rw [List.all_cons]
    refine Ev.step (f := fun k => if isAny x = true then spec_l2Sets.l0 k l ((i + 1 : Nat) : Int) else some false) (fun k => ?_) ?_
    · simp only [spec_l2Sets.l0]
      rw [if_pos (by omega), if_pos (by omega), rd_nat, hx, specSet_val, Option.bind_some, isSetB_8, wrap_succ hi (by omega)]
    · cases isAny x with
      | false => rw [Bool.false_and]; exact Ev.congr (fun k => by rw [if_neg (by decide)]) (Ev.now _)
      | true => rw [Bool.true_and]; exact Ev.congr (fun k => by rw [if_pos rfl]) (ih (i + 1) hd)
theorem cast_any {R : List Nat} (hR : ∀ x ∈ R, x < 256) : (cast R).all isAny = true := by
  rw [List.all_eq_true]
  intro x hx
  unfold cast at hx
  obtain ⟨y, hy, rfl⟩ := List.mem_map.1 hx
  unfold isAny
  have := hR y hy
  rw [decide_eq_true_iff]
  omega
/-- the sets of a list in lectic order -/
def lecR (R : List Nat) : List Nat := lecF fun s => decide (s ∈ R)
theorem sortS_val {R : List Nat} (hR : ∀ x ∈ R, x < 256) (hRl : R.length ≤ 1048576) : Ev (fun k => spec_SortLectic.f k (cast R)) (cast (lecR R)) := by
  unfold spec_SortLectic.f
  simp only [Option.bind_some]
  refine Ev.bind (setsN_loop (cast R) (by rw [cast_length]; exact hRl) (cast R) 0 rfl) ?_
  refine Ev.congr (fun k => by rw [if_pos (cast_any hR)]) ?_
  have := sortS_loop hR hRl R 0 [] rfl (fun _ h => by cases h) (Nat.le_refl _)
  rw [foldl_insL hR] at this
  exact this
theorem lecR_len {R : List Nat} : (lecR R).length ≤ 256 := by
  unfold lecR lecF
  refine Nat.le_trans (List.length_filter_le _ _) ?_
  unfold all8
  rw [List.length_map, List.length_range]
  exact Nat.le_refl _
theorem mem_lecR {R : List Nat} (hR : ∀ x ∈ R, x < 256) {x : Nat} : x ∈ lecR R ↔ x ∈ R := by
  unfold lecR
  rw [mem_lecF, decide_eq_true_iff]
  exact ⟨fun h => h.2, fun h => ⟨hR x h, h⟩⟩
theorem lecR_nodup (R : List Nat) : (lecR R).Nodup := (lecF_sorted _).imp fun h e => by subst e; omega
theorem lecR_length {R : List Nat} (hR : ∀ x ∈ R, x < 256) (hn : R.Nodup) : (lecR R).length = R.length :=
  Nat.le_antisymm ((lecR_nodup R).length_le_of_subset fun _ hx => (mem_lecR hR).1 hx) (hn.length_le_of_subset fun _ hx => (mem_lecR hR).2 hx)
/-- a loop that keeps what passes -/
def keepStep (L : List Nat) (q : Nat → Bool) (i : Nat) (a : List Nat) : List Nat := if q (row L i) = true then a ++ [row L i] else a
theorem fold_keep (L : List Nat) (q : Nat → Bool) : ∀ (rest : List Nat) (i : Nat) (a : List Nat), L.drop i = rest → foldIdx (keepStep L q) i L.length a = a ++ rest.filter q := by
  intro rest
  induction rest with
  | nil =>
    intro i a h
    rw [foldIdx_end _ (drop_nil h)]
    simp
  | cons x rest ih =>
    intro i a h
    obtain ⟨hi, hx, hd⟩ := drop_cons (d := 0) h
    rw [foldIdx_step _ hi, ih (i + 1) _ hd, List.filter_cons]
    unfold keepStep row
    rw [hx]
    cases q x with
    | true => rw [if_pos rfl, if_pos rfl, List.append_assoc]; rfl
    | false => rw [if_neg (by decide), if_neg (by decide)]
theorem keep_all (L : List Nat) (q : Nat → Bool) : foldIdx (keepStep L q) 0 L.length [] = L.filter q := by rw [fold_keep L q L 0 [] rfl]; rfl
/-- .. over the numbers below N -/
def rangeStep (q : Nat → Bool) (i : Nat) (a : List Nat) : List Nat := if q i = true then a ++ [i] else a
theorem range_all (q : Nat → Bool) (N : Nat) : foldIdx (rangeStep q) 0 N [] = (List.range N).filter q := by
  have h := keep_all (List.range N) q
  rw [List.length_range] at h
  rw [← h]
  refine fold_congr N 0 [] (by omega) fun j a _ hj => ?_
  unfold rangeStep keepStep row
  rw [List.getD_eq_getElem?_getD, List.getElem?_range hj]
  rfl
theorem rangeStep_len (q : Nat → Bool) (i : Nat) (a : List Nat) (h : a.length ≤ i) : (rangeStep q i a).length ≤ i + 1 := by
  unfold rangeStep
  split
  · rw [List.length_append, List.length_singleton]; omega
  · omega
end Go.Proofs.YtbflblmkdnhboaaGreatDoor.Pu
namespace Go.Proofs.YtbflblmkdnhboaaGreatDoor.Pu
open Go.RowKit Go.Proofs.YtbflblmkdnhboaaGreatDoorW.PrintWords Go.Proofs.YtbflblmkdnhboaaGreatDoorW.PrintLast Go.Proofs.YtbflblmkdnhboaaGreatDoorW.PrintMore Go.Proofs.YtbflblmkdnhboaaGreatDoor.Pr
theorem bit01 (a e : Nat) (ha : a < 2 ^ 63) (he : e ≤ 64) : Go.bits .and .i64 (shr .i64 (a : Int) (e : Int)) 1 = if a.testBit e = true then 1 else 0 := by
  have h := bit_val a e ha he
  cases hb : a.testBit e with
  | true => rw [hb, beq_iff_eq] at h; rw [h]; rfl
  | false =>
    rw [shr_nat a e he]
    have h1 : a / 2 ^ e < 2 ^ 63 := Nat.lt_of_le_of_lt (Nat.div_le_self _ _) ha
    have h2 := and_nat h1 (show 1 < 2 ^ 63 by decide)
    rw [show ((1 : Nat) : Int) = 1 from rfl] at h2
    rw [Nat.testBit_eq_decide_div_mod_eq, decide_eq_false_iff_not] at hb
    rw [h2, Nat.and_one_is_mod, show a / 2 ^ e % 2 = 0 from by omega]
    rfl
theorem or_shl {a e : Nat} {b : Bool} (ha : a < 256) (he : e ≤ 7) : Go.bits .or .i64 (a : Int) (shl .i64 (if b = true then 1 else 0) (e : Int)) = ((if b = true then a ||| 2 ^ e else a : Nat) : Int) := by
  cases b with
  | true => rw [if_pos rfl, if_pos rfl]; exact or_bit ha he
  | false =>
    rw [if_neg (by decide), if_neg (by decide), shl_zero e (by omega)]
    have := or_nat (a := a) (b := 0) (by omega) (by decide)
    rw [Nat.or_zero] at this
    exact this
end Go.Proofs.YtbflblmkdnhboaaGreatDoor.Pu
namespace Go.Proofs.YtbflblmkdnhboaaGreatDoor.Pu
open Go.RowKit Go.Proofs.YtbflblmkdnhboaaGreatDoorW.PrintWords Go.Proofs.YtbflblmkdnhboaaGreatDoorW.PrintLast Go.Proofs.YtbflblmkdnhboaaGreatDoorW.PrintMore Go.Proofs.YtbflblmkdnhboaaGreatDoor.Pr
def fullV (n : Int) : Int := if 0 ≤ n ∧ n ≤ 8 then 2 ^ n.toNat - 1 else 0
theorem fullS_val (n : Int) : spec_FullSet.f n = some (fullV n) := by
  unfold spec_FullSet.f fullV
  rw [l1In_val, Option.bind_some]
  by_cases h : 0 ≤ n ∧ n ≤ 8
  · rw [if_pos h]
    first
      | rw [if_pos (decide_eq_true h), wrapU_val n h.1 h.2, if_pos h.1, upper_val n h.1 h.2]
      | rw [if_neg (by simpa using h), wrapU_val n h.1 h.2, if_pos h.1, upper_val n h.1 h.2]
  · rw [if_neg h]
    first
      | rw [if_neg (by simpa using h)]
      | rw [if_pos (by simpa using h)]
theorem fullV_nat {m : Nat} (h : m ≤ 8) : fullV (m : Int) = ((2 ^ m - 1 : Nat) : Int) := by
  unfold fullV
  rw [if_pos (by omega), Int.toNat_natCast]
  have hp := Nat.two_pow_pos m
  rw [show ((2 ^ m - 1 : Nat) : Int) = ((2 ^ m : Nat) : Int) - 1 from by omega, Int.natCast_pow]
  rfl
end Go.Proofs.YtbflblmkdnhboaaGreatDoor.Pu
namespace Go.Proofs.YtbflblmkdnhboaaGreatDoor.Pu
open Go.RowKit Go.Proofs.YtbflblmkdnhboaaGreatDoorW.PrintWords Go.Proofs.YtbflblmkdnhboaaGreatDoorW.PrintLast Go.Proofs.YtbflblmkdnhboaaGreatDoorW.PrintMore Go.Proofs.YtbflblmkdnhboaaGreatDoor.Pr
theorem row_lt {R : List Nat} {q : Nat} (h : ∀ r ∈ R, r < 2 ^ q) (i : Nat) : row R i < 2 ^ q := by
  unfold row
  rw [List.getD_eq_getElem?_getD]
  cases h' : R[i]? with
  | none => exact Nat.two_pow_pos q
  | some x => exact h x (List.mem_of_getElem? h')
theorem rd_row (R : List Nat) (i : Nat) : rd (cast R) (i : Int) = ((row R i : Nat) : Int) := rd_cast R i
theorem inS_val {a b : Nat} (ha : a < 256) (hb : b < 256) : impl_inSet.f (a : Int) (b : Int) = some (sub a b) := by
  unfold impl_inSet.f
  refine congrArg some ?_
  rw [Bool.eq_iff_iff, beq_iff_eq]
  exact andNot_is ha hb
theorem fullI_val (n : Int) : impl_FullSet.f n = some (fullV n) := by
  unfold impl_FullSet.f fullV
  rw [within_val, Option.bind_some]
  by_cases h : 0 ≤ n ∧ n ≤ 8
  · rw [if_pos h, if_pos (decide_eq_true h), if_pos h.1, upper_val n h.1 h.2]
  · rw [if_neg h, if_neg (by simpa using h)]
theorem fullN {m : Nat} (h : m ≤ 8) : fullV (m : Int) = ((full m : Nat) : Int) := fullV_nat h
theorem uncast (R : List Nat) : (cast R).map Int.toNat = R := by
  unfold cast
  rw [List.map_map]
  conv => rhs; rw [← List.map_id R]
  exact List.map_congr_left fun x _ => by simp
theorem full_256 {m : Nat} (h : m ≤ 8) : full m < 256 := lt_256 h (full_lt m)
end Go.Proofs.YtbflblmkdnhboaaGreatDoor.Pu
namespace Go.Proofs.YtbflblmkdnhboaaGreatDoor.Pu
open Go.RowKit Go.Proofs.YtbflblmkdnhboaaGreatDoorW.PrintWords Go.Proofs.YtbflblmkdnhboaaGreatDoorW.PrintLast Go.Proofs.YtbflblmkdnhboaaGreatDoorW.PrintMore Go.Proofs.YtbflblmkdnhboaaGreatDoor.Pr
abbrev IR := S41
theorem rdR (l : List IR) (i : Nat) : rd_T41 l (i : Int) = l.getD i z41 := by unfold rd_T41; rw [Int.toNat_natCast]
def anyR (r : IR) : Bool := isAny r.f0 && isAny r.f1
/-- a rule as two sets -/
def toP (r : IR) : Nat × Nat := (r.f0.toNat, r.f1.toNat)
def toR (l : List IR) : Rules := l.map toP
end Go.Proofs.YtbflblmkdnhboaaGreatDoor.Pu
namespace Go.Proofs.YtbflblmkdnhboaaGreatDoor.Pu
open Go.RowKit Go.Proofs.YtbflblmkdnhboaaGreatDoorW.PrintWords Go.Proofs.YtbflblmkdnhboaaGreatDoorW.PrintLast Go.Proofs.YtbflblmkdnhboaaGreatDoorW.PrintMore Go.Proofs.YtbflblmkdnhboaaGreatDoor.Pr
theorem anyR_nat {r : IR} (h : anyR r = true) : r.f0 = ((toP r).1 : Int) ∧ r.f1 = ((toP r).2 : Int) ∧ (toP r).1 < 256 ∧ (toP r).2 < 256 := by
  unfold anyR at h
  rw [Bool.and_eq_true] at h
  obtain ⟨a, ha, e⟩ := isAny_nat h.1
  obtain ⟨b, hb, e'⟩ := isAny_nat h.2
  unfold toP
  simp only [e, e', Int.toNat_natCast]
  exact ⟨trivial, trivial, ha, hb⟩
theorem toR_small {l : List IR} (h : l.all anyR = true) : small (toR l) := by
  intro r hr
  obtain ⟨x, hx, rfl⟩ := List.mem_map.1 hr
  have := anyR_nat (List.all_eq_true.1 h x hx)
  exact this.2.2
theorem inSet_val {a b : Nat} (ha : a < 256) (hb : b < 256) : impl_inSet.f (a : Int) (b : Int) = some (sub a b) := by
  unfold impl_inSet.f
  rw [andNot_nat (by omega) (by omega)]
  congr 1
  rw [Bool.eq_iff_iff, beq_iff_eq]
  rw [← diff_eq_zero]
  exact_mod_cast Iff.rfl
theorem and_eq_sub {a b : Nat} (ha : a < 256) (hb : b < 256) : (Go.bits .and .i64 (a : Int) (b : Int) = (a : Int)) ↔ sub a b = true := by
  rw [and_nat (by omega) (by omega)]
  unfold sub
  rw [beq_iff_eq]
  exact_mod_cast Iff.rfl
theorem or256 {a b : Nat} (ha : a < 256) (hb : b < 256) : a ||| b < 256 := Nat.or_lt_two_pow (n := 8) ha hb
end Go.Proofs.YtbflblmkdnhboaaGreatDoor.Pu
namespace Go.Proofs.YtbflblmkdnhboaaGreatDoor.Pu
open Go.RowKit Go.Proofs.YtbflblmkdnhboaaGreatDoorW.PrintWords Go.Proofs.YtbflblmkdnhboaaGreatDoorW.PrintLast Go.Proofs.YtbflblmkdnhboaaGreatDoorW.PrintMore Go.Proofs.YtbflblmkdnhboaaGreatDoor.Pr
theorem set_mid {α : Type} (a b : List α) (x y : α) (n : Nat) (h : a.length = n) : (a ++ x :: b).set n y = a ++ y :: b := by
  subst h
  rw [List.set_append]
  simp
theorem eqRule_loop (l : List IR) (hl : l.length ≤ 9223372036854775807) : ∀ (rest : List IR) (i : Nat), l.drop i = rest → Ev (fun k => laws_eqRuleS.l0 k l l (i : Int)) true := by
  intro rest
  induction rest with
  | nil =>
    intro i h
    have := drop_nil h
    refine Ev.step (f := fun _ => some true) (fun k => ?_) (Ev.now _)
    simp only [laws_eqRuleS.l0]
    rw [if_neg (by omega)]
  | cons x rest ih =>
    intro i h
    obtain ⟨hi, hx, hr⟩ := drop_cons (d := z41) h
    refine Ev.step (f := fun k => laws_eqRuleS.l0 k l l ((i + 1 : Nat) : Int)) (fun k => ?_) (ih (i + 1) hr)
    simp only [laws_eqRuleS.l0, laws_eqRule.f]
    rw [if_pos (by omega), if_pos (by omega), if_pos (by omega), wrap_succ hi hl]
    simp
theorem eqRule_self (l : List IR) (hl : l.length ≤ 9223372036854775807) : Ev (fun k => laws_eqRuleS.f k l l) true := by
  unfold laws_eqRuleS.f
  refine Ev.congr (fun k => ?_) (eqRule_loop l hl l 0 rfl)
  rw [if_pos rfl]
  rfl
end Go.Proofs.YtbflblmkdnhboaaGreatDoor.Pu
namespace Go.Proofs.YtbflblmkdnhboaaGreatDoor.Pu
open Go.RowKit Go.Proofs.YtbflblmkdnhboaaGreatDoorW.PrintWords Go.Proofs.YtbflblmkdnhboaaGreatDoorW.PrintLast Go.Proofs.YtbflblmkdnhboaaGreatDoorW.PrintMore Go.Proofs.YtbflblmkdnhboaaGreatDoor.Pr
abbrev LR := S45
def conv (x : LR) : IR := ⟨x.f0, x.f1⟩
theorem rdL (l : List LR) (i : Nat) : rd_T45 l (i : Int) = l.getD i z45 := by unfold rd_T45; rw [Int.toNat_natCast]
theorem sz_more (l : List LR) (hl : l.length ≤ 9223372036854775807) (a : Int) (h0 : 0 ≤ a) (ha : a ≤ 1048576) : ∃ m : Int, laws_szRuleS.f l a = some m ∧ (0 ≤ m → l.length ≤ 1048576) := by
  unfold laws_szRuleS.f
  have hw : wrap64 (a - (l.length : Int)) = a - (l.length : Int) := by unfold wrap64; omega
  rw [hw]
  by_cases h : (a - (l.length : Int)) < 0
  · exact ⟨-1, by rw [if_pos h], fun h => absurd h (by decide)⟩
  · exact ⟨_, by rw [if_neg h], fun _ => by omega⟩
theorem toRule_loop (l : List LR) (hl : l.length ≤ 1048576) : ∀ (rest : List LR) (i : Nat), l.drop i = rest →
    Ev (fun k => laws_toRuleS.l0 k l (((l.take i).map conv) ++ List.replicate rest.length z41) (i : Int)) (l.map conv) := by
  intro rest
  induction rest with
  | nil =>
    intro i h
    have := drop_nil h
    refine Ev.step (f := fun _ => some (l.map conv)) (fun k => ?_) (Ev.now _)
    simp only [laws_toRuleS.l0]
    rw [if_neg (by omega), List.take_of_length_le this]
    simp
  | cons x rest ih =>
    intro i h
    obtain ⟨hi, hx, hr⟩ := drop_cons (d := z45) h
    have hlen : l.length = i + (rest.length + 1) := by
      have := congrArg List.length h
      simp at this; omega
    have hti : ((l.take i).map conv).length = i := by simp; omega
    refine Ev.step (f := fun k => laws_toRuleS.l0 k l (((l.take (i + 1)).map conv) ++ List.replicate rest.length z41) ((i + 1 : Nat) : Int)) (fun k => ?_) (ih (i + 1) hr)
    simp only [laws_toRuleS.l0, laws_toRule.f, Option.bind_some]
    rw [if_pos (by omega), if_pos (by omega), if_pos (by rw [List.length_append, hti, List.length_replicate, List.length_cons]; omega), rdL, hx, wrap_succ hi (by omega), Int.toNat_natCast]
    congr 1
    rw [List.length_cons, List.replicate_succ, set_mid _ _ _ _ i hti]
    have ht : l.take (i + 1) = l.take i ++ [x] := by
      rw [List.take_succ_eq_append_getElem hi]
      congr 2
      rw [List.getD_eq_getElem?_getD, List.getElem?_eq_getElem hi] at hx
      exact hx
    rw [ht, List.map_append, List.append_assoc]
    rfl
theorem toRule_val (l : List LR) (hl : l.length ≤ 1048576) : Ev (fun k => laws_toRuleS.f k l) (l.map conv) := by
  unfold laws_toRuleS.f
  refine Ev.congr (fun k => ?_) (toRule_loop l hl l 0 rfl)
  rw [if_pos (by omega), if_pos (by omega)]
  simp
end Go.Proofs.YtbflblmkdnhboaaGreatDoor.Pu
namespace Go.Proofs.YtbflblmkdnhboaaGreatDoor.Pu
open Go.RowKit Go.Proofs.YtbflblmkdnhboaaGreatDoorW.PrintWords Go.Proofs.YtbflblmkdnhboaaGreatDoorW.PrintLast Go.Proofs.YtbflblmkdnhboaaGreatDoorW.PrintMore Go.Proofs.YtbflblmkdnhboaaGreatDoor.Pr
theorem set_midC {α : Type} (a b : List α) (x y : α) (n : Nat) (h : a.length = n) : (a ++ x :: b).set n y = a ++ y :: b := by
  subst h
  rw [List.set_append]
  simp
theorem szInt_more (l : List Int) (hl : l.length ≤ 9223372036854775807) (a : Int) (h0 : 0 ≤ a) (ha : a ≤ 1048576) : ∃ m : Int, laws_szIntS.f l a = some m ∧ (0 ≤ m → l.length ≤ 1048576) := by
  unfold laws_szIntS.f
  have hw : wrap64 (a - (l.length : Int)) = a - (l.length : Int) := by unfold wrap64; omega
  rw [hw]
  by_cases h : (a - (l.length : Int)) < 0
  · exact ⟨-1, by rw [if_pos h], fun h => absurd h (by decide)⟩
  · exact ⟨_, by rw [if_neg h], fun _ => by omega⟩
theorem szC_val (n : Int) (l : List Int) (hl : l.length ≤ 9223372036854775807) : ∃ m : Int, laws_szContext.f n l 1048576 = some m ∧ (0 ≤ m → l.length ≤ 1048576) := by
  obtain ⟨m, hm, hm2⟩ := szInt_more l hl 1048576 (by decide) (by decide)
  unfold laws_szContext.f
  rw [hm, Option.bind_some]
  by_cases h : m < 0
  · exact ⟨-1, by rw [if_pos h], fun h => absurd h (by decide)⟩
  · exact ⟨m, by rw [if_neg h], hm2⟩
theorem toInt_loop (l : List Int) (hl : l.length ≤ 1048576) : ∀ (rest : List Int) (i : Nat), l.drop i = rest →
    Ev (fun k => laws_toIntS.l0 k l (l.take i ++ List.replicate rest.length 0) (i : Int)) l := by
  intro rest
  induction rest with
  | nil =>
    intro i h
    have := drop_nil h
    refine Ev.step (f := fun _ => some l) (fun k => ?_) (Ev.now _)
    simp only [laws_toIntS.l0]
    rw [if_neg (by omega), List.take_of_length_le this]
    simp
  | cons x rest ih =>
    intro i h
    obtain ⟨hi, hx, hd⟩ := drop_cons (d := 0) h
    have hr : rest.length + (i + 1) = l.length := by
      have := congrArg List.length h
      simp at this
      omega
    refine Ev.step (fun k => ?_) (ih (i + 1) hd)
    simp only [laws_toIntS.l0]
    rw [if_pos (by omega), if_pos (by omega), if_pos (by simp; omega), rd_nat, hx, wrap_succ hi (by omega), Int.toNat_natCast, List.length_cons, List.replicate_succ, set_midC _ _ _ _ _ (by rw [List.length_take]; omega)]
    rw [show l.take (i + 1) = l.take i ++ [x] from by rw [List.take_succ_eq_append_getElem hi]; congr 2; rw [← hx, List.getD_eq_getElem?_getD, List.getElem?_eq_getElem hi]; rfl]
    simp
theorem toC_val (n : Int) (l : List Int) (hl : l.length ≤ 1048576) : Ev (fun k => laws_toContext.f k n l) (n, l) := by
  unfold laws_toContext.f laws_toIntS.f
  have h1 : Ev (fun k => if 0 ≤ (l.length : Int) then (if ((l.length : Int) : Int).toNat ≤ 35184372088832 then (laws_toIntS.l0 k l (List.replicate ((l.length : Int) : Int).toNat 0) 0) else (none)) else (none)) l := by
    refine Ev.congr (fun k => by rw [if_pos (by omega), if_pos (by omega), Int.toNat_natCast]) ?_
    exact toInt_loop l hl l 0 rfl
  exact Ev.bind h1 (Ev.now _)
theorem eqInt_loop (l : List Int) (hl : l.length ≤ 9223372036854775807) : ∀ (rest : List Int) (i : Nat), l.drop i = rest → Ev (fun k => laws_eqIntS.l0 k l l (i : Int)) true := by
  intro rest
  induction rest with
  | nil =>
    intro i h
    have := drop_nil h
    refine Ev.step (f := fun _ => some true) (fun k => ?_) (Ev.now _)
    simp only [laws_eqIntS.l0]
    rw [if_neg (by omega)]
  | cons x rest ih =>
    intro i h
    obtain ⟨hi, hx, hd⟩ := drop_cons (d := 0) h
    refine Ev.step (fun k => ?_) (ih (i + 1) hd)
    simp only [laws_eqIntS.l0]
    rw [if_pos (by omega), if_pos (by omega), if_pos (by omega), if_true, wrap_succ hi hl]
theorem eqInt_self (l : List Int) (hl : l.length ≤ 9223372036854775807) : Ev (fun k => laws_eqIntS.f k l l) true := by
  unfold laws_eqIntS.f
  refine Ev.congr (fun k => by rw [if_pos rfl]) ?_
  exact eqInt_loop l hl l 0 rfl
theorem eqC_self (n : Int) (l : List Int) (hl : l.length ≤ 9223372036854775807) : Ev (fun k => laws_eqContext.f k n l n l) true := by
  unfold laws_eqContext.f
  refine Ev.congr (fun k => by rw [if_pos rfl]) ?_
  refine Ev.bind (eqInt_self l hl) ?_
  exact Ev.congr (fun k => by rw [if_pos rfl]) (Ev.now true)
end Go.Proofs.YtbflblmkdnhboaaGreatDoor.Pu
namespace Go.Proofs.YtbflblmkdnhboaaGreatDoor.Op
open Go.RowKit Go.Proofs.YtbflblmkdnhboaaGreatDoorW.PrintWords
open Go.Deep
def Opens {α : Type} (P : Program) (t : TypeId) (d : Kd α) (wf : α → Prop) : Prop :=
  ∀ {H : Type} {enc : TypeId × Value → H} {w : World} {base : Nat} {spare : Nat → Bool} {held : Bool} {fuel : Nat} {cs : List Value} {x : DataW H × List MemPlace},
    DataW.trod enc P w base spare held fuel t cs = some x → ∃ v : α, d.K w v cs ∧ wf v
theorem Opens.int {P : Program} {t : TypeId} {k : IntKind} (ht : P.underlying t = some (.int k)) : Opens P t (Kd.int k) (fun n => (Lit.int k n).wf = true) := by
  intro H enc w base spare held fuel cs x h
  obtain ⟨n, rfl, _, hw⟩ := DataW.trod_int ht h
  exact ⟨n, rfl, hw⟩
theorem Opens.iso {α β : Type} {P : Program} {t : TypeId} {d : Kd α} {wf : α → Prop} (h : Opens P t d wf) (f : β → α) (g : α → β) (hfg : ∀ a, f (g a) = a) : Opens P t (Kd.iso d f) (fun b => wf (f b)) := by
  intro H enc w base spare held fuel cs x ht
  obtain ⟨v, hK, hw⟩ := h ht
  refine ⟨g v, ?_, ?_⟩
  · show d.K w (f (g v)) cs
    rw [hfg]; exact hK
  · show wf (f (g v))
    rw [hfg]; exact hw
theorem Opens.struct2 {α β : Type} {P : Program} {t : TypeId} {f0 f1 : Field} {d0 : Kd α} {d1 : Kd β} {w0 : α → Prop} {w1 : β → Prop} (ht : P.underlying t = some (.struct #[f0, f1]))
    (o0 : f0.offset = 0) (c0 : P.cellsOf f0.type = d0.sz) (o1 : f1.offset = d0.sz) (c1 : P.cellsOf f1.type = d1.sz) (ct : P.cellsOf t = d0.sz + d1.sz)
    (h0 : Opens P f0.type d0 w0) (h1 : Opens P f1.type d1 w1) : Opens P t (Kd.pair d0 d1) (fun x => w0 x.1 ∧ w1 x.2) := by
  intro H enc w base spare held fuel cs x h
  obtain ⟨xs, n, _, _, hl, hn, hf⟩ := DataW.trod_struct ht h
  have hn2 : xs.length = 2 := hn
  have a0 := hf 0 f0 rfl
  have a1 := hf 1 f1 rfl
  rw [List.getElem?_eq_getElem (by omega)] at a0 a1
  obtain ⟨v0, k0, q0⟩ := h0 a0
  obtain ⟨v1, k1, q1⟩ := h1 a1
  refine ⟨(v0, v1), ⟨_, _, ?_, k0, k1⟩, q0, q1⟩
  rw [o0, c0, o1, c1, List.drop_zero]
  rw [ct] at hl
  have e : (cs.drop d0.sz).take d1.sz = cs.drop d0.sz := List.take_of_length_le (by rw [List.length_drop]; omega)
  rw [e, List.take_append_drop]
theorem Opens.slice {α : Type} [Inhabited α] {P : Program} {t e : TypeId} {d : Kd α} {wf : α → Prop} (ht : P.underlying t = some (.slice e)) (hc : P.cellsOf e = d.sz) (h : Opens P e d wf) : Opens P t (Kd.slice e d) (fun xs => ∀ x ∈ xs, wf x) := by
  intro H enc w base spare held fuel cs x hx
  rcases open_slice ht hx with ⟨rfl, _⟩ | ⟨a, len, cap, m, n, D, Pl, rfl, hb, hl, hm, hmm, rfl, hel⟩
  · exact ⟨[], ⟨none, 0, rfl, Nat.le_refl _, Kd.C_nil d w⟩, by simp⟩
  · have hlm : len ≤ m := by rw [hmm]; split <;> omega
    obtain ⟨f, hf⟩ := choose_lt (α := α) (n := len) (p := fun i v => ∃ cs', w.cells? base (a.add (i * P.cellsOf e)) (P.cellsOf e) = some cs' ∧ d.K w v cs' ∧ wf v) (fun i hi => by
      obtain ⟨cs', h1, h2⟩ := hel i (by omega)
      obtain ⟨v, hk, hw⟩ := h h2
      exact ⟨v, cs', h1, hk, hw⟩)
    refine ⟨(List.range len).map f, ⟨some a, cap, by simp, by simpa using hl, by simp, by simp only [maxLen] at hm; simp; omega, fun _ => ⟨a, rfl, fun j p hj => ?_⟩⟩, ?_⟩
    · have hjl : j < len := by
        have := (List.getElem?_eq_some_iff.1 hj).1
        simpa using this
      have hp : p = f j := by simpa [hjl] using hj.symm
      subst hp
      obtain ⟨cs', h1, hk, _⟩ := hf j hjl
      obtain ⟨_, hlen, hcell⟩ := World.cells?_some h1
      refine ⟨cs', by rw [hlen, hc], hk, fun i u hu => ?_⟩
      have hi : i < cs'.length := (List.getElem?_eq_some_iff.1 hu).1
      have h2 := hcell i (by omega)
      rw [Go.Deep.add_add] at h2
      rw [← hc, h2, hu]
    · intro y hy
      obtain ⟨j, hj, rfl⟩ := List.mem_map.1 hy
      obtain ⟨_, _, _, hw⟩ := hf j (List.mem_range.1 hj)
      exact hw
end Go.Proofs.YtbflblmkdnhboaaGreatDoor.Op
