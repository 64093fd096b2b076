/- Functions of the program as plain functions, proofs that their calls answer so, and plain laws: what the law needs. No condition beyond what each statement says. -/
import Derived.Test.YtafnamchckehmaaGreatDoorZFnStem13
namespace Go.Proofs.YtafnamchckehmaaGreatDoor.Pr
open Go.RowKit Go.Proofs.YtafnamchckehmaaGreatDoorW.PrintWords Go.Proofs.YtafnamchckehmaaGreatDoorW.PrintLast Go.Proofs.YtafnamchckehmaaGreatDoorW.PrintMore
open Go.Sort Go.Shelf
set_option linter.unusedVariables false
def pc (x : Nat) : Nat := x % 2 + x / 2 % 2 + x / 4 % 2 + x / 8 % 2 + x / 16 % 2 + x / 32 % 2 + x / 64 % 2 + x / 128 % 2
theorem pc_all : ∀ x : Fin 256, pc x.val = (Pu.elN x.val).length := by decide +kernel
def cfC (x y : Fin 256) : Int := (((Pu.elN x.val).length : Nat) : Int) - (((Pu.elN y.val).length : Nat) : Int)
def ltC (x y : Fin 256) : Bool := Nat.blt (pc x.val) (pc y.val)
theorem lt_cfC : ltOf cfC = ltC := by
  funext x y
  unfold ltOf cfC ltC
  rw [← pc_all x, ← pc_all y, Bool.eq_iff_iff, decide_eq_true_iff, Nat.blt_eq]
  omega
def stOut (m : Nat) : List Nat := (stab ltC (arrF (Pu.allN m))).toList.map fun x => x.val
def upTo (f : Nat → Nat) : List Nat → Bool
  | [] => true
  | [_] => true
  | x :: y :: l => Nat.ble (f x) (f y) && upTo f (y :: l)
def stGood (m : Nat) : Bool := (stOut m).length == 2 ^ m && ((List.range (2 ^ m)).all fun x => (stOut m).contains x) && upTo pc (stOut m)
theorem stGood_all : ∀ m : Fin 7, stGood m.val = true := by decide +kernel
end Go.Proofs.YtafnamchckehmaaGreatDoor.Pr
namespace Go.Proofs.YtafnamchckehmaaGreatDoor.Pr
open Go.RowKit Go.Proofs.YtafnamchckehmaaGreatDoorW.PrintWords Go.Proofs.YtafnamchckehmaaGreatDoorW.PrintLast Go.Proofs.YtafnamchckehmaaGreatDoorW.PrintMore
set_option linter.unusedVariables false
theorem box_cellsD {w w1 : World} {g : Nat} {cs : Array Value} {t : TypeId} (h : w.heap[g]? = some (.cells cs t (0, 0))) (hb : Below w.heap.size w w1) (i : Nat) : w1.cell? ⟨g, i, none⟩ = cs[i]? := blk_cell (blk_below h hb) i
def fvS (n : Int) (l : List Int) (s : Int) : Int := ((Pu.cl n.toNat (l.map Int.toNat) s.toNat : Nat) : Int)
def okD (l0 : List Int) (n : Int) (l : List Int) : Prop := l0.length ≤ 1048576 ∧ l0.all (Pu.isSetB n) = true ∧ (l0 = [] ∨ Pu.ctxB n l = true)
instance (l0 : List Int) (n : Int) (l : List Int) : Decidable (okD l0 n l) := by unfold okD; infer_instance
theorem okD_nat {l0 : List Int} {n : Int} {l : List Int} (h : okD l0 n l) {x : Int} (hx : x ∈ l0) : ∃ (m : Nat) (R : List Nat) (s : Nat), n = (m : Int) ∧ m ≤ 6 ∧ l = Pu.cast R ∧ R.length ≤ 8 ∧ (∀ r ∈ R, r < 2 ^ m) ∧ x = (s : Int) ∧ s < 2 ^ m ∧ Pu.ctxB (m : Int) (Pu.cast R) = true := by
  obtain ⟨_, hs, hc⟩ := h
  have hc : Pu.ctxB n l = true := hc.resolve_left (fun e => by rw [e] at hx; cases hx)
  have hxs := List.all_eq_true.1 hs x hx
  have hc2 := hc
  obtain ⟨m, R, rfl, hm, rfl, hR, hb⟩ := Pu.ctxB_nat hc2
  obtain ⟨m', s, _, e1, hs', e2⟩ := Pu.isSetB_nat hxs
  obtain rfl : m = m' := by omega
  exact ⟨m, R, s, rfl, hm, rfl, hR, hb, e2, hs', hc⟩
def impl_StemBase_rulesTo0.f (l0 : List Int) (a1_0 : Int) (l1_1 : List Int) : Option (List S48) := if okD l0 a1_0 l1_1 then some (ruleMap (fvS a1_0 l1_1) l0) else none
set_option maxHeartbeats 4000000 in
set_option maxRecDepth 100000 in
theorem impl_StemBase_rulesTo0.calls (A0 : Option Addr) (c0 : Nat) (l0 : List Int) (a1_0 : Int) (A1_1 : Option Addr) (c1_1 : Nat) (l1_1 : List Int) (r : List S48) (w : World) (hr0 : Kd.C (Kd.int .i64) w A0 l0.length l0) (hc0 : l0.length ≤ c0) (hr1_1 : Kd.C (Kd.int .i64) w A1_1 l1_1.length l1_1) (hc1_1 : l1_1.length ≤ c1_1) (h : impl_StemBase_rulesTo0.f l0 a1_0 l1_1 = some r)
    {g : Nat} (hg : w.heap[g]? = some (.cells #[.int .i64 a1_0, .slice A1_1 l1_1.length c1_1] 29 (0, 0))) :
    Calls Tryz.prog 153 #[.slice A0 l0.length c0, .func (.func 162) #[] #[.pointer (some ⟨g, 0, none⟩)]] w fun e w' => ∃ v0_ : Value, e = .returned (v0_) ∧ Kd.R k48 48 w' w.heap.size (fun _ => True) v0_ r ∧ Below w.heap.size w w' := by
  unfold impl_StemBase_rulesTo0.f at h
  by_cases hn : okD l0 a1_0 l1_1
  · rw [if_pos hn] at h
    obtain rfl := Option.some.inj h
    have eg : ∀ args w, (callFunc 162 args).run Tryz.prog w = .ok (.enter 162 args) w := enters_of Tryz.func162 (by kernel_rfl) rfl
    refine rulesTo_at 162 #[.pointer (some ⟨g, 0, none⟩)] eg (fvS a1_0 l1_1) A0 c0 l0 w hr0 hn.1 ?_
    intro W x hx hb
    rw [show (#[.int .i64 x] ++ #[.pointer (some ⟨g, 0, none⟩)] : Array Value) = #[.int .i64 x, .pointer (some ⟨g, 0, none⟩)] from rfl]
    have hk : ∃ k, impl_ClosureOf.f k a1_0 l1_1 x = some (fvS a1_0 l1_1 x) := by
      obtain ⟨m, R, s, rfl, hm, rfl, hR, hbd, rfl, hs, hc⟩ := okD_nat hn hx
      unfold fvS
      rw [Int.toNat_natCast, Int.toNat_natCast, Pu.uncast]
      exact Ev.rounds (Pu.clI4_val hm hR hbd hs hc)
    obtain ⟨k, hk⟩ := hk
    have hu := Tryz.underlying29
    have hc0' : W.cell? ⟨g, 0, none⟩ = some (.int .i64 a1_0) := (box_cellsD hg hb 0).trans rfl
    have hc1' : W.cell? ⟨g, 1, none⟩ = some (.slice A1_1 l1_1.length c1_1) := (box_cellsD hg hb 1).trans rfl
    have HR := Aside0.mk (Kd.C_below hr1_1 hb)
    have HC := Aside0.mk hc1_1
    have HK := Aside0.mk hk
    clear hr1_1 hc1_1 hk hn hg h hr0 hc0 hx
    generalize fvS a1_0 l1_1 x = q at *
    go_enter Tryz.func162, Tryz.ntmps162
    go_wp2_with (go_at_call 163; refine (impl_ClosureOf.calls k a1_0 A1_1 c1_1 l1_1 x q _ (by first | exact HR.out | exact Kd.C_drewN HR.out _) HC.out HK.out).mono ?_; rintro e w' ⟨rfl, hb2⟩; have HB := Aside0.mk hb2; clear hb2)
    go_ret
    exact ⟨rfl, below_step (by repeat (first | exact Below.refl _ _ | apply below_alloc | apply pw_below_drewN | apply below_drew1)) HB.out⟩
  · rw [if_neg hn] at h
    cases h
set_option maxHeartbeats 4000000
set_option maxRecDepth 100000
def impl_allFollow.f (l0 l1 : List S48) : Option Bool := some (l1.all (Pu.folV l0))
theorem box_at {w w1 : World} {a : Value} {t : TypeId} (h : Below (w.alloc (.cells #[a] t)).heap.size (w.alloc (.cells #[a] t)) w1) : w1.cell? ⟨w.heap.size, 0, none⟩ = some a := by
  have h0 : (w.alloc (.cells #[a] t)).cell? ⟨w.heap.size, 0, none⟩ = some a := blk_cell (heap_alloc_new w (.cells #[a] t)) 0
  exact (h.cell (p := ⟨w.heap.size, 0, none⟩) (by simp)).trans h0
theorem AllFollow1_calls (l : List S48) (A : Option Addr) (c b : Nat) (x : S48) (W : World) (hc : W.cell? ⟨b, 0, none⟩ = some (.slice A l.length c)) (hr : Kd.C k48 W A l.length l) (hl : l.length ≤ c) :
    Calls Tryz.prog 225 #[.agg #[.int .i64 x.f0, .int .i64 x.f1], .pointer (some ⟨b, 0, none⟩)] W fun e w' => e = .returned (.bool (!Pu.folV l x)) ∧ Below W.heap.size W w' := by
  have hb : b < W.heap.size := World.block_lt_of_cell? W _ hc
  have hu := Tryz.underlying48
  obtain ⟨K, hK⟩ := Pu.folI_val l hr.2.1 x.f0 x.f1
  have H := Aside0.mk (hK K (Nat.le_refl _))
  have HR := Aside0.mk hr
  have HL := Aside0.mk hl
  clear hK hr hl
  go_enter Tryz.func225, Tryz.ntmps225
  go_wp2_with (go_at_call 68; refine (impl_Follows.calls K A c l x.f0 x.f1 _ _ (Kd.C_alloc HR.out _) HL.out H.out).mono ?_; rintro e w' ⟨rfl, hd⟩)
  go_ret
  exact ⟨rfl, below_step (by repeat (first | apply below_alloc | apply pw_below_drewN | apply below_drew1 | exact Below.refl _ _)) hd⟩
theorem AllFollow1_fn (l : List S48) (A : Option Addr) (c b : Nat) (w : World) (hc : w.cell? ⟨b, 0, none⟩ = some (.slice A l.length c)) (hr : Kd.C k48 w A l.length l) (hl : l.length ≤ c) : FnRb 225 #[.pointer (some ⟨b, 0, none⟩)] (fun x => !Pu.folV l x) w := by
  intro W x hb
  rw [show (#[.agg #[.int .i64 x.f0, .int .i64 x.f1]] ++ #[.pointer (some ⟨b, 0, none⟩)] : Array Value) = #[.agg #[.int .i64 x.f0, .int .i64 x.f1], .pointer (some ⟨b, 0, none⟩)] from rfl]
  exact AllFollow1_calls l A c b x W ((hb.cell (p := ⟨b, 0, none⟩) (World.block_lt_of_cell? w _ hc)).trans hc) (Kd.C_below hr hb) hl
theorem impl_allFollow.calls (A0 : Option Addr) (c0 : Nat) (l0 : List S48) (A1 : Option Addr) (c1 : Nat) (l1 : List S48) (r : Bool) (w : World) (hr0 : Kd.C k48 w A0 l0.length l0) (hc0 : l0.length ≤ c0) (hr1 : Kd.C k48 w A1 l1.length l1) (hc1 : l1.length ≤ c1) (h : impl_allFollow.f l0 l1 = some r) :
    Calls Tryz.prog 159 #[.slice A0 l0.length c0, .slice A1 l1.length c1] w fun e w' => e = .returned (.bool r) ∧ Below w.heap.size w w' := by
  obtain rfl := Option.some.inj h
  clear h
  have HR0 := Aside0.mk hr0
  have HR1 := Aside0.mk hr1
  have HC0 := Aside0.mk hc0
  have eg : ∀ args w, (callFunc 225 args).run Tryz.prog w = .ok (.enter 225 args) w := enters_of Tryz.func225 (by kernel_rfl) rfl
  have h1 : Aside0 ((!(l1.any fun r => !Pu.folV l0 r)) = l1.all (Pu.folV l0)) := ⟨by rw [List.all_eq_not_any_not]⟩
  have HA := Aside0.mk (below_alloc (Below.refl w.heap.size w) (.cells #[.slice A0 l0.length c0] 24))
  have HX := Aside0.mk (ContainsFunc_rule 225 #[.pointer (some ⟨w.heap.size, 0, none⟩)] eg A1 c1 l1 (fun x => !Pu.folV l0 x) (w.alloc (.cells #[.slice A0 l0.length c0] 24)) (Kd.C_below HR1.out HA.out)
    (AllFollow1_fn l0 A0 c0 w.heap.size _ (box_at (Below.refl _ _)) (Kd.C_below HR0.out HA.out) HC0.out))
  clear hr0 hr1 hc0 hc1
  go_enter Tryz.func159, Tryz.ntmps159
  go_wp2_with (go_at_call 167; refine HX.out.mono ?_; rintro e w' ⟨rfl, hb⟩)
  go_ret
  exact ⟨by rw [← h1.out]; rfl, below_step HA.out hb⟩
def impl_IsBase_ContainsFunc0.f (l0 : List S48) (a1_0 : Int) (l1_1 : List Int) : Option Bool := if l1_1.length ≤ 1048576 then some (l0.any fun r => !Pu.holdV a1_0 l1_1 r.f0 r.f1) else none
set_option maxHeartbeats 4000000 in
set_option maxRecDepth 100000 in
theorem IsBase1_calls (n : Int) (A : Option Addr) (c b : Nat) (l : List Int) (x : S48) (W : World) (hlen : l.length ≤ 1048576) (hg : W.heap[b]? = some (.cells #[.int .i64 n, .slice A l.length c] 29 (0, 0))) (hr : Kd.C (Kd.int .i64) W A l.length l) (hl : l.length ≤ c) :
    Calls Tryz.prog 168 #[.agg #[.int .i64 x.f0, .int .i64 x.f1], .pointer (some ⟨b, 0, none⟩)] W fun e w' => e = .returned (.bool (!Pu.holdV n l x.f0 x.f1)) ∧ Below W.heap.size W w' := by
  have hb : b < W.heap.size := blk_lt hg
  have hu := Tryz.underlying48
  have hu2 := Tryz.underlying29
  have hc0 : W.cell? ⟨b, 0, none⟩ = some (.int .i64 n) := (blk_cell hg 0).trans rfl
  have hc1 : W.cell? ⟨b, 1, none⟩ = some (.slice A l.length c) := (blk_cell hg 1).trans rfl
  obtain ⟨K, hK⟩ := Ev.rounds (Pu.holdI_val n l hlen x.f0 x.f1)
  have H := Aside0.mk hK
  have HR := Aside0.mk hr
  have HL := Aside0.mk hl
  clear hK hr hl hg hlen
  go_enter Tryz.func168, Tryz.ntmps168
  go_wp2_with (go_at_call 66; refine (impl_HoldsIn.calls K n A c l x.f0 x.f1 _ _ (by first | exact HR.out | exact Kd.C_alloc HR.out _ | exact Kd.C_drewN HR.out _ | exact Kd.C_alloc (Kd.C_drewN HR.out _) _ | exact Kd.C_drewN (Kd.C_alloc HR.out _) _) HL.out H.out).mono ?_; rintro e w' ⟨rfl, hd⟩)
  go_ret
  exact ⟨rfl, below_step (by repeat (first | apply below_alloc | apply pw_below_drewN | apply below_drew1 | exact Below.refl _ _)) hd⟩
theorem impl_IsBase_ContainsFunc0.calls (A0 : Option Addr) (c0 : Nat) (l0 : List S48) (a1_0 : Int) (A1_1 : Option Addr) (c1_1 : Nat) (l1_1 : List Int) (r : Bool) (w : World) (hr0 : Kd.C k48 w A0 l0.length l0) (hc0 : l0.length ≤ c0) (hr1_1 : Kd.C (Kd.int .i64) w A1_1 l1_1.length l1_1) (hc1_1 : l1_1.length ≤ c1_1) (h : impl_IsBase_ContainsFunc0.f l0 a1_0 l1_1 = some r)
    {g : Nat} (hg : w.heap[g]? = some (.cells #[.int .i64 a1_0, .slice A1_1 l1_1.length c1_1] 29 (0, 0))) :
    Calls Tryz.prog 167 #[.slice A0 l0.length c0, .func (.func 168) #[] #[.pointer (some ⟨g, 0, none⟩)]] w fun e w' => e = .returned (.bool r) ∧ Below w.heap.size w w' := by
  unfold impl_IsBase_ContainsFunc0.f at h
  by_cases hlen : l1_1.length ≤ 1048576
  · rw [if_pos hlen] at h
    obtain rfl := Option.some.inj h
    have eg : ∀ args w, (callFunc 168 args).run Tryz.prog w = .ok (.enter 168 args) w := enters_of Tryz.func168 (by kernel_rfl) rfl
    refine ContainsFunc_rule 168 #[.pointer (some ⟨g, 0, none⟩)] eg A0 c0 l0 (fun r => !Pu.holdV a1_0 l1_1 r.f0 r.f1) w hr0 (fun W x hb => ?_)
    rw [show (#[.agg #[.int .i64 x.f0, .int .i64 x.f1]] ++ #[.pointer (some ⟨g, 0, none⟩)] : Array Value) = #[.agg #[.int .i64 x.f0, .int .i64 x.f1], .pointer (some ⟨g, 0, none⟩)] from rfl]
    exact IsBase1_calls a1_0 A1_1 c1_1 g l1_1 x W hlen (blk_below hg hb) (Kd.C_below hr1_1 hb) hc1_1
  · rw [if_neg hlen] at h
    cases h
end Go.Proofs.YtafnamchckehmaaGreatDoor.Pr
