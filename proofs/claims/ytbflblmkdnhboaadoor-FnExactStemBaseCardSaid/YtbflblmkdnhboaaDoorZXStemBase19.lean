/- What the law needs of the program's functions as plain functions, of the proofs that their calls answer so, and of plain laws: gathered by a program of this place (pack.py) out of its printed texts. No condition beyond what each statement says. -/
import Derived.Test.YtbflblmkdnhboaaDoorZXStemBase17
import Derived.Test.YtbflblmkdnhboaaDoorZXStemBase18
import Derived.Test.YtbflblmkdnhboaaDoorZXStemBase16
import Derived.Test.YtbflblmkdnhboaaDoorZXStemBase12
import Derived.Test.YtbflblmkdnhboaaDoorZXStemBase13
namespace Go.Proofs.YtbflblmkdnhboaaDoor.Pr
open Go.RowKit Go.Proofs.YtbflblmkdnhboaaDoorW.PrintWords Go.Proofs.YtbflblmkdnhboaaDoorW.PrintLast Go.Proofs.YtbflblmkdnhboaaDoorW.PrintMore
open Go.Sort Go.Shelf
set_option linter.unusedVariables false
/-- how many elements a set has, reckoned quickly -/
def pc (x : Nat) : Nat := x % 2 + x / 2 % 2 + x / 4 % 2 + x / 8 % 2 + x / 16 % 2 + x / 32 % 2 + x / 64 % 2 + x / 128 % 2
theorem pc_all : ∀ x : Fin 256, pc x.val = (Pu.elN x.val).length := by decide +kernel
def cfC (x y : Fin 256) : Int := (((Pu.elN x.val).length : Nat) : Int) - (((Pu.elN y.val).length : Nat) : Int)
def ltC (x y : Fin 256) : Bool := Nat.blt (pc x.val) (pc y.val)
theorem lt_cfC : ltOf cfC = ltC := by
  funext x y
  unfold ltOf cfC ltC
  rw [← pc_all x, ← pc_all y, Bool.eq_iff_iff, decide_eq_true_iff, Nat.blt_eq]
  omega
def stOut (m : Nat) : List Nat := (stab ltC (arrF (Pu.allN m))).toList.map fun x => x.val
def upTo (f : Nat → Nat) : List Nat → Bool
  | [] => true
  | [_] => true
  | x :: y :: l => Nat.ble (f x) (f y) && upTo f (y :: l)
def stGood (m : Nat) : Bool := (stOut m).length == 2 ^ m && ((List.range (2 ^ m)).all fun x => (stOut m).contains x) && upTo pc (stOut m)
theorem stGood_all : ∀ m : Fin 7, stGood m.val = true := by decide +kernel
end Go.Proofs.YtbflblmkdnhboaaDoor.Pr
namespace Go.Proofs.YtbflblmkdnhboaaDoor.Pr
open Go.RowKit Go.Proofs.YtbflblmkdnhboaaDoorW.PrintWords Go.Proofs.YtbflblmkdnhboaaDoorW.PrintLast Go.Proofs.YtbflblmkdnhboaaDoorW.PrintMore
set_option linter.unusedVariables false
theorem box_cellsD {w w1 : World} {g : Nat} {cs : Array Value} {t : TypeId} (h : w.heap[g]? = some (.cells cs t (0, 0))) (hb : Below w.heap.size w w1) (i : Nat) : w1.cell? ⟨g, i, none⟩ = cs[i]? := blk_cell (blk_below h hb) i
def fvS (n : Int) (l : List Int) (s : Int) : Int := ((Pu.cl n.toNat (l.map Int.toNat) s.toNat : Nat) : Int)
def okD (l0 : List Int) (n : Int) (l : List Int) : Prop := l0.length ≤ 1048576 ∧ l0.all (Pu.isSetB n) = true ∧ (l0 = [] ∨ Pu.ctxB n l = true)
instance (l0 : List Int) (n : Int) (l : List Int) : Decidable (okD l0 n l) := by unfold okD; infer_instance
theorem okD_nat {l0 : List Int} {n : Int} {l : List Int} (h : okD l0 n l) {x : Int} (hx : x ∈ l0) : ∃ (m : Nat) (R : List Nat) (s : Nat), n = (m : Int) ∧ m ≤ 6 ∧ l = Pu.cast R ∧ R.length ≤ 8 ∧ (∀ r ∈ R, r < 2 ^ m) ∧ x = (s : Int) ∧ s < 2 ^ m ∧ Pu.ctxB (m : Int) (Pu.cast R) = true := by
  obtain ⟨_, hs, hc⟩ := h
  have hc : Pu.ctxB n l = true := hc.resolve_left (fun e => by rw [e] at hx; cases hx)
  have hxs := List.all_eq_true.1 hs x hx
  have hc2 := hc
  obtain ⟨m, R, rfl, hm, rfl, hR, hb⟩ := Pu.ctxB_nat hc2
  obtain ⟨m', s, _, e1, hs', e2⟩ := Pu.isSetB_nat hxs
  obtain rfl : m = m' := by omega
  exact ⟨m, R, s, rfl, hm, rfl, hR, hb, e2, hs', hc⟩
def impl_StemBase_rulesTo0.f (l0 : List Int) (a1_0 : Int) (l1_1 : List Int) : Option (List S58) := if okD l0 a1_0 l1_1 then some (ruleMap (fvS a1_0 l1_1) l0) else none
set_option maxHeartbeats 4000000 in
set_option maxRecDepth 100000 in
theorem impl_StemBase_rulesTo0.calls (A0 : Option Addr) (c0 : Nat) (l0 : List Int) (a1_0 : Int) (A1_1 : Option Addr) (c1_1 : Nat) (l1_1 : List Int) (r : List S58) (w : World) (hr0 : Kd.C (Kd.int .i64) w A0 l0.length l0) (hc0 : l0.length ≤ c0) (hr1_1 : Kd.C (Kd.int .i64) w A1_1 l1_1.length l1_1) (hc1_1 : l1_1.length ≤ c1_1) (h : impl_StemBase_rulesTo0.f l0 a1_0 l1_1 = some r)
    {g : Nat} (hg : w.heap[g]? = some (.cells #[.int .i64 a1_0, .slice A1_1 l1_1.length c1_1] 27 (0, 0))) :
    Calls Tryd.prog 64 #[.slice A0 l0.length c0, .func (.func 73) #[] #[.pointer (some ⟨g, 0, none⟩)]] w fun e w' => ∃ v0_ : Value, e = .returned (v0_) ∧ Kd.R k58 58 w' w.heap.size (fun _ => True) v0_ r ∧ Below w.heap.size w w' := by
  unfold impl_StemBase_rulesTo0.f at h
  by_cases hn : okD l0 a1_0 l1_1
  · rw [if_pos hn] at h
    obtain rfl := Option.some.inj h
    have eg : ∀ args w, (callFunc 73 args).run Tryd.prog w = .ok (.enter 73 args) w := enters_of Tryd.func73 (by kernel_rfl) rfl
    refine rulesTo_at 73 #[.pointer (some ⟨g, 0, none⟩)] eg (fvS a1_0 l1_1) A0 c0 l0 w hr0 hn.1 ?_
    intro W x hx hb
    rw [show (#[.int .i64 x] ++ #[.pointer (some ⟨g, 0, none⟩)] : Array Value) = #[.int .i64 x, .pointer (some ⟨g, 0, none⟩)] from rfl]
    have hk : ∃ k, impl_ClosureOf.f k a1_0 l1_1 x = some (fvS a1_0 l1_1 x) := by
      obtain ⟨m, R, s, rfl, hm, rfl, hR, hbd, rfl, hs, hc⟩ := okD_nat hn hx
      unfold fvS
      rw [Int.toNat_natCast, Int.toNat_natCast, Pu.uncast]
      exact Ev.rounds (Pu.clI4_val hm hR hbd hs hc)
    obtain ⟨k, hk⟩ := hk
    have hu := Tryd.underlying27
    have hc0' : W.cell? ⟨g, 0, none⟩ = some (.int .i64 a1_0) := (box_cellsD hg hb 0).trans rfl
    have hc1' : W.cell? ⟨g, 1, none⟩ = some (.slice A1_1 l1_1.length c1_1) := (box_cellsD hg hb 1).trans rfl
    have HR := Aside0.mk (Kd.C_below hr1_1 hb)
    have HC := Aside0.mk hc1_1
    have HK := Aside0.mk hk
    clear hr1_1 hc1_1 hk hn hg h hr0 hc0 hx
    generalize fvS a1_0 l1_1 x = q at *
    go_enter Tryd.func73, Tryd.ntmps73
    go_wp2_with (go_at_call 71; refine (impl_ClosureOf.calls k a1_0 A1_1 c1_1 l1_1 x q _ (by first | exact HR.out | exact Kd.C_drewN HR.out _) HC.out HK.out).mono ?_; rintro e w' ⟨rfl, hb2⟩; have HB := Aside0.mk hb2; clear hb2)
    go_ret
    exact ⟨rfl, below_step (by repeat (first | exact Below.refl _ _ | apply below_alloc | apply pw_below_drewN | apply below_drew1)) HB.out⟩
  · rw [if_neg hn] at h
    cases h
end Go.Proofs.YtbflblmkdnhboaaDoor.Pr
