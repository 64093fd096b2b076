/- What the law needs of the program's functions as plain functions, of the proofs that their calls answer so, and of plain laws: gathered by a program of this place (pack.py) out of its printed texts. No condition beyond what each statement says. -/
import Derived.Test.YtbflblmkdnhboaaDoorZXShortRules14
import Derived.Test.YtbflblmkdnhboaaDoorZXShortRules16
import Derived.Test.YtbflblmkdnhboaaDoorZXShortRules8
import Derived.Test.YtbflblmkdnhboaaDoorZXShortRules15
import Derived.Test.YtbflblmkdnhboaaDoorZXShortRules13
namespace Go.Proofs.YtbflblmkdnhboaaDoor.Pu
theorem small_any {l : List IR} (h : l.all anyR = true) : small (toR l) := fun r hr => by
  unfold toR at hr
  obtain ⟨x, hx, rfl⟩ := List.mem_map.1 hr
  have := List.all_eq_true.1 h x hx
  unfold anyR isAny at this
  rw [Bool.and_eq_true, decide_eq_true_iff, decide_eq_true_iff] at this
  unfold toP
  exact ⟨by show x.f0.toNat < 256; omega, by show x.f1.toNat < 256; omega⟩
end Go.Proofs.YtbflblmkdnhboaaDoor.Pu
namespace Go.Proofs.YtbflblmkdnhboaaDoor.Pr
open Go.RowKit Go.Proofs.YtbflblmkdnhboaaDoorW.PrintWords Go.Proofs.YtbflblmkdnhboaaDoorW.PrintLast Go.Proofs.YtbflblmkdnhboaaDoorW.PrintMore
set_option linter.unusedVariables false
theorem sr_closure (l : List S58) (hl : l.length ≤ 9223372036854775807) (hany : l.all Pu.anyR = true) (A1 : Option Addr) (c1 : Nat) (w : World) (hr1 : Kd.C k58 w A1 l.length l) (hc1 : l.length ≤ c1)
    {g : Nat} (hg : w.heap[g]? = some (.cells #[.slice A1 l.length c1] 35 (0, 0))) (W : World) (x : Nat) (hx : x < 256) (hb : Below w.heap.size w W) :
    Calls Tryd.prog 67 (#[.int .i64 (x : Int)] ++ #[.pointer (some ⟨g, 0, none⟩)]) W fun e w' => e = .returned (.int .i64 ((Pu.clo (Pu.toR l) x : Nat) : Int)) ∧ Below W.heap.size W w' := by
  rw [show (#[.int .i64 (x : Int)] ++ #[.pointer (some ⟨g, 0, none⟩)] : Array Value) = #[.int .i64 (x : Int), .pointer (some ⟨g, 0, none⟩)] from rfl]
  obtain ⟨k, hk⟩ := Ev.rounds (Pu.closedI_val l hl (x : Int))
  rw [Pu.cloV_nat hany hx] at hk
  have hc0' : W.cell? ⟨g, 0, none⟩ = some (.slice A1 l.length c1) := (blk_cell (blk_below hg hb) 0).trans rfl
  have HR := Aside0.mk (Kd.C_below hr1 hb)
  have HC := Aside0.mk hc1
  have HK := Aside0.mk hk
  clear hr1 hc1 hk hg hx hany hl
  generalize Pu.clo (Pu.toR l) x = q at *
  go_enter Tryd.func67, Tryd.ntmps67
  go_wp2_with (go_at_call 56; refine (impl_ClosedBy.calls k A1 c1 l (x : Int) (q : Int) _ (by first | exact HR.out | exact Kd.C_drewN HR.out _) HC.out HK.out).mono ?_; rintro e w' ⟨rfl, hb2⟩; have HB := Aside0.mk hb2; clear hb2)
  go_ret
  exact ⟨rfl, below_step (by repeat (first | exact Below.refl _ _ | apply below_alloc | apply pw_below_drewN | apply below_drew1)) HB.out⟩
end Go.Proofs.YtbflblmkdnhboaaDoor.Pr
namespace Go.Proofs.YtbflblmkdnhboaaDoor.Pr
open Go.RowKit Go.Proofs.YtbflblmkdnhboaaDoorW.PrintWords Go.Proofs.YtbflblmkdnhboaaDoorW.PrintLast Go.Proofs.YtbflblmkdnhboaaDoorW.PrintMore
set_option linter.unusedVariables false
def fvC (l : List S58) (s : Int) : Int := ((Pu.clo (Pu.toR l) s.toNat : Nat) : Int)
def okC (l0 : List Int) (l : List S58) : Prop := l0.length ≤ 1048576 ∧ l.length ≤ 40 ∧ l0.all Pu.isAny = true ∧ l.all Pu.anyR = true
instance (l0 : List Int) (l : List S58) : Decidable (okC l0 l) := by unfold okC; infer_instance
def impl_ShortRules_rulesTo0.f (l0 : List Int) (l1 : List S58) : Option (List S58) := if okC l0 l1 then some (ruleMap (fvC l1) l0) else none
theorem impl_ShortRules_rulesTo0.calls (A0 : Option Addr) (c0 : Nat) (l0 : List Int) (A1 : Option Addr) (c1 : Nat) (l1 : List S58) (r : List S58) (w : World) (hr0 : Kd.C (Kd.int .i64) w A0 l0.length l0) (hc0 : l0.length ≤ c0) (hr1 : Kd.C k58 w A1 l1.length l1) (hc1 : l1.length ≤ c1) (h : impl_ShortRules_rulesTo0.f l0 l1 = some r)
    {g : Nat} (hg : w.heap[g]? = some (.cells #[.slice A1 l1.length c1] 35 (0, 0))) :
    Calls Tryd.prog 64 #[.slice A0 l0.length c0, .func (.func 67) #[] #[.pointer (some ⟨g, 0, none⟩)]] w fun e w' => ∃ v0_ : Value, e = .returned (v0_) ∧ Kd.R k58 58 w' w.heap.size (fun _ => True) v0_ r ∧ Below w.heap.size w w' := by
  unfold impl_ShortRules_rulesTo0.f at h
  by_cases hn : okC l0 l1
  · rw [if_pos hn] at h
    obtain rfl := Option.some.inj h
    have eg : ∀ args w, (callFunc 67 args).run Tryd.prog w = .ok (.enter 67 args) w := enters_of Tryd.func67 (by kernel_rfl) rfl
    refine rulesTo_at 67 #[.pointer (some ⟨g, 0, none⟩)] eg (fvC l1) A0 c0 l0 w hr0 hn.1 ?_
    intro W x hx hb
    have hxa := List.all_eq_true.1 hn.2.2.1 x hx
    unfold Pu.isAny at hxa
    rw [decide_eq_true_iff] at hxa
    have e : x = ((x.toNat : Nat) : Int) := by omega
    have hlen := hn.2.1
    have := sr_closure l1 (by omega) hn.2.2.2 A1 c1 w hr1 hc1 hg W x.toNat (by omega) hb
    rw [← e] at this
    exact this
  · rw [if_neg hn] at h
    cases h
end Go.Proofs.YtbflblmkdnhboaaDoor.Pr
namespace Go.Proofs.YtbflblmkdnhboaaDoor.Pr
open Go.RowKit Go.Proofs.YtbflblmkdnhboaaDoorW.PrintWords Go.Proofs.YtbflblmkdnhboaaDoorW.PrintLast Go.Proofs.YtbflblmkdnhboaaDoorW.PrintMore
open Go.Sort Go.Shelf
set_option linter.unusedVariables false
/-- how many elements a set has, reckoned quickly -/
def pc (x : Nat) : Nat := x % 2 + x / 2 % 2 + x / 4 % 2 + x / 8 % 2 + x / 16 % 2 + x / 32 % 2 + x / 64 % 2 + x / 128 % 2
theorem pc_all : ∀ x : Fin 256, pc x.val = (Pu.elN x.val).length := by decide +kernel
def cfC (x y : Fin 256) : Int := (((Pu.elN x.val).length : Nat) : Int) - (((Pu.elN y.val).length : Nat) : Int)
def ltC (x y : Fin 256) : Bool := Nat.blt (pc x.val) (pc y.val)
theorem lt_cfC : ltOf cfC = ltC := by
  funext x y
  unfold ltOf cfC ltC
  rw [← pc_all x, ← pc_all y, Bool.eq_iff_iff, decide_eq_true_iff, Nat.blt_eq]
  omega
def stOut (m : Nat) : List Nat := (stab ltC (arrF (Pu.allN m))).toList.map fun x => x.val
def upTo (f : Nat → Nat) : List Nat → Bool
  | [] => true
  | [_] => true
  | x :: y :: l => Nat.ble (f x) (f y) && upTo f (y :: l)
def stGood (m : Nat) : Bool := (stOut m).length == 2 ^ m && ((List.range (2 ^ m)).all fun x => (stOut m).contains x) && upTo pc (stOut m)
theorem stGood_all : ∀ m : Fin 7, stGood m.val = true := by decide +kernel
end Go.Proofs.YtbflblmkdnhboaaDoor.Pr
